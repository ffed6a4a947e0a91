/- Functions of the given program, walked (no condition beyond what each theorem says). -/
import Derived.Test.YtfhodefiknfccaaDoorC4
import Derived.Test.YtfhodefiknfccaaDoorC6
import Derived.Test.YtfhodefiknfccaaDoorB3
import Derived.Test.YtfhodefiknfccaaDoorB6
import Derived.Test.YtfhodefiknfccaaDoorB7
import Derived.Test.YtfhodefiknfccaaDoorB9
import Derived.Test.YtfhodefiknfccaaDoorE4
import Derived.Test.YtfhodefiknfccaaDoorE3
import Derived.Test.YtfhodefiknfccaaDoorC1
import Derived.Test.YtfhodefiknfccaaDoorA6
set_option linter.unusedVariables false
set_option linter.unusedSimpArgs false
namespace Go.M
open Go.Proofs
set_option maxRecDepth 8000
set_option maxHeartbeats 1000000
/-- The needle that a failure has for a sensor's reading. -/
def zOf (y : Sen) (x : Int × Bool) : Int := bif x.2 then y.hi + 1 else x.1
def zAt (l : List Sen) (bs : List (Int × Bool)) (j : Nat) : Int := match l[j]?, bs[j]? with
  | some y, some x => zOf y x
  | _, _ => 0
def zsN (l : List Sen) (bs : List (Int × Bool)) (i : Nat) : List Int := (List.range i).map (zAt l bs)
theorem zsN_succ {l : List Sen} {bs : List (Int × Bool)} {i : Nat} : zsN l bs (i + 1) = zsN l bs i ++ [zAt l bs i] := by
  unfold zsN; rw [List.range_succ, List.map_append]; rfl
theorem zsN_len {l : List Sen} {bs : List (Int × Bool)} {i : Nat} : (zsN l bs i).length = i := by simp [zsN]
theorem zsN_at {l : List Sen} {bs : List (Int × Bool)} {i n : Nat} (h : i < n) : (zsN l bs n)[i]? = some (zAt l bs i) := by
  unfold zsN
  rw [List.getElem?_map, List.getElem?_range h]; rfl
theorem zAt_at {l : List Sen} {bs : List (Int × Bool)} {i : Nat} {y : Sen} {x : Int × Bool} (h1 : l[i]? = some y) (h2 : bs[i]? = some x) : zAt l bs i = zOf y x := by unfold zAt; rw [h1, h2]
theorem within_good {l : List Sen} {bs : List (Int × Bool)} {i : Nat} {y : Sen} {x : Int × Bool} (h1 : l[i]? = some y) (h2 : bs[i]? = some x) : within l (zsN l bs l.length) i = goodB y x := by
  have hi := (List.getElem?_eq_some_iff.1 h1).1
  unfold within
  rw [h1, zsN_at hi, zAt_at h1 h2]
  obtain ⟨n, m⟩ := x
  cases m with
  | true =>
    show decide (y.lo ≤ y.hi + 1 ∧ y.hi + 1 ≤ y.hi) = _
    rw [decide_eq_false (by omega)]; rfl
  | false => rfl
/-- The counts after as many seconds with bad readings. -/
def cB (l : List Sen) (bs : List (Int × Bool)) (k j : Nat) : Int := match l[j]?, bs[j]? with
  | some y, some x => bif goodB y x then 0 else min y.d k
  | _, _ => 0
theorem cB_zero {l : List Sen} {bs : List (Int × Bool)} (hd : ∀ (i : Nat) (y : Sen), l[i]? = some y → 1 ≤ y.d ∧ y.d ≤ 60) : cB l bs 0 = fun _ => 0 := by
  funext j
  unfold cB
  cases h1 : l[j]? with
  | none => rfl
  | some y =>
    cases h2 : bs[j]? with
    | none => rfl
    | some x =>
      have := hd j y h1
      show (bif goodB y x then 0 else min y.d (0 : Nat)) = 0
      cases goodB y x with
      | true => rfl
      | false => show min y.d ((0 : Nat) : Int) = 0; omega
theorem cB_le {l : List Sen} {bs : List (Int × Bool)} (hd : ∀ (i : Nat) (y : Sen), l[i]? = some y → 1 ≤ y.d ∧ y.d ≤ 60) (k j : Nat) : 0 ≤ cB l bs k j ∧ cB l bs k j ≤ 60 := by
  unfold cB
  split
  · rename_i y x h1 h2
    have := hd j y h1
    cases goodB y x with
    | true => simp
    | false => simp only [cond_false]; omega
  · omega
theorem midC_cB {l : List Sen} {bs : List (Int × Bool)} (k : Nat) : midC l bs (cB l bs k) l.length = cB l bs (k + 1) := by
  funext j
  unfold midC newC cB
  by_cases hj : j < l.length
  · rw [if_pos hj]
    obtain ⟨y, h1⟩ : ∃ y, l[j]? = some y := ⟨_, List.getElem?_eq_getElem hj⟩
    rw [h1]
    cases h2 : bs[j]? with
    | none => rfl
    | some x =>
      simp only [cntI]
      cases goodB y x with
      | true => rfl
      | false => simp only [cond_false]; omega
  · rw [if_neg hj, List.getElem?_eq_none (by omega)]
theorem al_key (gb : Bool) (d : Int) (k : Nat) : (!gb && decide (min d ((bif gb then 0 else min d k) + 1) = d)) = (!decide (((k + 1 : Nat) : Int) < d) && !gb) := by
  cases gb with
  | true => simp
  | false =>
    simp only [cond_false, Bool.not_false, Bool.true_and, Bool.and_true]
    by_cases q : d ≤ ((k + 1 : Nat) : Int)
    · rw [decide_eq_true (by omega), decide_eq_false (by omega)]; rfl
    · rw [decide_eq_false (by omega), decide_eq_true (by omega)]; rfl
theorem als_cB {l : List Sen} {bs : List (Int × Bool)} (hb : bs.length = l.length) (k : Nat) : als l bs (cB l bs k) l.length = seenL l (zsN l bs l.length) (k + 1) := by
  unfold als seenL badL
  rw [List.filter_filter]
  refine List.filter_congr fun i hi => ?_
  have hi := List.mem_range.1 hi
  obtain ⟨y, h1⟩ : ∃ y, l[i]? = some y := ⟨_, List.getElem?_eq_getElem hi⟩
  obtain ⟨x, h2⟩ : ∃ x, bs[i]? = some x := ⟨_, List.getElem?_eq_getElem (by omega)⟩
  rw [within_good h1 h2]
  unfold alB dOf cB
  rw [h1, h2]
  exact al_key (goodB y x) y.d k
theorem vote_cB {l : List Sen} {bs : List (Int × Bool)} {need : Int} (hb : bs.length = l.length) (k : Nat) : voteOf l need (als l bs (cB l bs k) l.length) = vt l (zsN l bs l.length) need (k + 1) := by
  rw [als_cB hb]; rfl
theorem vt_late {l : List Sen} {zs : List Int} {need : Int} (hd : ∀ (i : Nat) (y : Sen), l[i]? = some y → 1 ≤ y.d ∧ y.d ≤ 60) (h : ∀ s, 1 ≤ s → s ≤ 60 → vt l zs need s = false) (s : Nat) (hs : 1 ≤ s) : vt l zs need s = false := by
  by_cases q : s ≤ 60
  · exact h s hs q
  · rw [← h 60 (by decide) (by decide)]
    unfold vt
    congr 1
    unfold seenL
    refine List.filter_congr fun i hi => ?_
    have hi := badL_lt hi
    obtain ⟨y, h1⟩ : ∃ y, l[i]? = some y := ⟨_, List.getElem?_eq_getElem hi⟩
    have := hd i y h1
    unfold dOf
    rw [h1]
    simp only
    rw [decide_eq_false (by omega), decide_eq_false (by omega)]
/-- All readings are good. -/
def GoodL (l : List Sen) (gs : List (Int × Bool)) : Prop := ∀ (i : Nat) (y : Sen) (x : Int × Bool), l[i]? = some y → gs[i]? = some x → goodB y x = true
theorem als_good {l : List Sen} {gs : List (Int × Bool)} {c : Nat → Int} {n : Nat} (hg : GoodL l gs) : als l gs c n = [] := by
  unfold als
  rw [List.filter_eq_nil_iff]
  intro i _
  unfold alB
  cases h1 : l[i]? with
  | none => simp
  | some y =>
    cases h2 : gs[i]? with
    | none => simp
    | some x => simp [hg i y x h1 h2]
theorem midC_good {l : List Sen} {gs : List (Int × Bool)} {n : Nat} (hg : GoodL l gs) : midC l gs (fun _ => 0) n = fun _ => 0 := by
  funext j
  unfold midC newC
  split
  · cases h1 : l[j]? with
    | none => rfl
    | some y =>
      cases h2 : gs[j]? with
      | none => rfl
      | some x => simp [cntI, hg j y x h1 h2]
  · rfl
structure Lens (l : List Sen) (need : Int) : Prop where
  len : 0 < l.length ∧ l.length ≤ 8
  ds : ∀ (i : Nat) (y : Sen), l[i]? = some y → 1 ≤ y.d ∧ y.d ≤ 60
  need : 1 ≤ need
theorem step_good {l : List Sen} {gs : List (Int × Bool)} {need sil md : Int} {k : Nat} (h : Lens l need) (hmd : md = 0 ∨ md = 2) (hgl : gs.length = l.length) (hg : GoodL l gs) :
    Step (senC l) (rdC gs) l.length k need sil md 0 (fun _ => 0) md 0 (fun _ => 0) := by
  have s := d_step_count (k := k) (sil := sil) (lf := 0) (c := fun _ => 0) hmd h.len hgl h.ds (fun _ => ⟨Int.le_refl 0, by decide⟩) h.need
  have hv : voteOf l need (als l gs (fun _ => 0) l.length) = false := by rw [als_good hg]; exact vote_nil h.need
  have e1 : cntMd l gs need sil md (fun _ => 0) = md := by unfold cntMd; rw [hv]; rfl
  have e2 : cntLf l gs need sil md 0 (fun _ => 0) = 0 := by unfold cntLf; rw [hv]; rfl
  have e3 : cntC l gs need (fun _ => 0) = fun _ => 0 := by
    funext j
    unfold cntC; rw [hv, midC_good hg]; rfl
  rw [e1, e2, e3] at s
  exact s
theorem step_bad {l : List Sen} {bs : List (Int × Bool)} {need sil : Int} {k u : Nat} (h : Lens l need) (hbl : bs.length = l.length) (hv : vt l (zsN l bs l.length) need (u + 1) = false) :
    Step (senC l) (rdC bs) l.length k need sil 0 0 (cB l bs u) 0 0 (cB l bs (u + 1)) := by
  have s := d_step_count (k := k) (sil := sil) (lf := 0) (c := cB l bs u) (.inl rfl) h.len hbl h.ds (cB_le h.ds u) h.need
  rw [← vote_cB hbl] at hv
  have e1 : cntMd l bs need sil 0 (cB l bs u) = 0 := by unfold cntMd; rw [hv]; rfl
  have e2 : cntLf l bs need sil 0 0 (cB l bs u) = 0 := by unfold cntLf; rw [hv]; rfl
  have e3 : cntC l bs need (cB l bs u) = cB l bs (u + 1) := by
    funext j
    unfold cntC; rw [hv, midC_cB]; rfl
  rw [e1, e2, e3] at s
  exact s
theorem step_off {l : List Sen} {bs : List (Int × Bool)} {need sil : Int} {k u : Nat} (h : Lens l need) (hbl : bs.length = l.length) (hv : vt l (zsN l bs l.length) need (u + 1) = true) :
    Step (senC l) (rdC bs) l.length k need sil 0 0 (cB l bs u) (if sil = 0 then 2 else 1) sil (fun _ => 0) := by
  have s := d_step_count (k := k) (sil := sil) (lf := 0) (c := cB l bs u) (.inl rfl) h.len hbl h.ds (cB_le h.ds u) h.need
  rw [← vote_cB hbl] at hv
  have e1 : cntMd l bs need sil 0 (cB l bs u) = if sil = 0 then 2 else 1 := by unfold cntMd; rw [hv]; rfl
  have e2 : cntLf l bs need sil 0 0 (cB l bs u) = sil := by unfold cntLf; rw [hv]; rfl
  have e3 : cntC l bs need (cB l bs u) = fun _ => 0 := by
    funext j
    unfold cntC; rw [hv]; rfl
  rw [e1, e2, e3] at s
  exact s
/-- The readings of the seconds: bad ones for 't' seconds from 'r' on. -/
def rsF (gs bs : List (Int × Bool)) (r t i : Nat) : List (Int × Bool) := if r ≤ i ∧ i < r + t then bs else gs
/-- The states, if the failure is seen. -/
def mdF (r t q : Nat) (i : Nat) : Int := if i < r + t then 0 else if i < r + t + q then 1 else 2
def lfF (r t q : Nat) (i : Nat) : Int := if i < r + t then 0 else ((r + t + q - i : Nat) : Int)
def cF (l : List Sen) (bs : List (Int × Bool)) (r t i : Nat) : Nat → Int := if r ≤ i ∧ i < r + t then cB l bs (i - r) else fun _ => 0
theorem step_law {l : List Sen} {gs bs : List (Int × Bool)} {need : Int} {q r t k : Nat} (h : Lens l need) (hq : q ≤ 60) (hgl : gs.length = l.length) (hbl : bs.length = l.length) (hg : GoodL l gs)
    (ht : 1 ≤ t) (hv : vt l (zsN l bs l.length) need t = true) (hn : ∀ s, 1 ≤ s → s < t → vt l (zsN l bs l.length) need s = false) (i : Nat) :
    Step (senC l) (rdC (rsF gs bs r t i)) l.length k need (q : Int) (mdF r t q i) (lfF r t q i) (cF l bs r t i) (mdF r t q (i + 1)) (lfF r t q (i + 1)) (cF l bs r t (i + 1)) := by
  by_cases h1 : i < r
  · have hc : cF l bs r t (i + 1) = fun _ => 0 := by
      unfold cF
      split
      · rw [show i + 1 - r = 0 by omega, cB_zero h.ds]
      · rfl
    rw [hc]
    unfold rsF mdF lfF cF
    rw [if_neg (by omega), if_pos (by omega), if_pos (by omega), if_neg (by omega), if_pos (by omega), if_pos (by omega)]
    exact step_good h (.inl rfl) hgl hg
  by_cases h2 : i + 1 < r + t
  · unfold rsF mdF lfF cF
    rw [if_pos (by omega), if_pos (by omega), if_pos (by omega), if_pos (by omega), if_pos (by omega), if_pos (by omega), if_pos (by omega), show i + 1 - r = i - r + 1 by omega]
    exact step_bad h hbl (hn _ (by omega) (by omega))
  by_cases h3 : i + 1 = r + t
  · have s := step_off (sil := (q : Int)) (k := k) (u := i - r) h hbl (by rw [show i - r + 1 = t by omega]; exact hv)
    have e1 : mdF r t q (i + 1) = if (q : Int) = 0 then 2 else 1 := by
      unfold mdF
      rw [if_neg (by omega)]
      by_cases hq : q = 0
      · rw [if_neg (by omega), if_pos (by omega)]
      · rw [if_pos (by omega), if_neg (by omega)]
    have e2 : lfF r t q (i + 1) = q := by
      unfold lfF
      rw [if_neg (by omega)]; omega
    have e3 : cF l bs r t (i + 1) = fun _ => 0 := by unfold cF; rw [if_neg (by omega)]
    have e4 : cF l bs r t i = cB l bs (i - r) := by unfold cF; rw [if_pos (by omega)]
    have e5 : mdF r t q i = 0 := by unfold mdF; rw [if_pos (by omega)]
    have e6 : lfF r t q i = 0 := by unfold lfF; rw [if_pos (by omega)]
    have e7 : rsF gs bs r t i = bs := by unfold rsF; rw [if_pos (by omega)]
    rw [e1, e2, e3, e4, e5, e6, e7]
    exact s
  · have e3 : cF l bs r t (i + 1) = fun _ => 0 := by unfold cF; rw [if_neg (by omega)]
    have e4 : cF l bs r t i = fun _ => 0 := by unfold cF; rw [if_neg (by omega)]
    have e7 : rsF gs bs r t i = gs := by unfold rsF; rw [if_neg (by omega)]
    rw [e3, e4, e7]
    by_cases h5 : i < r + t + q
    · have e5 : mdF r t q i = 1 := by unfold mdF; rw [if_neg (by omega), if_pos (by omega)]
      have e1 : mdF r t q (i + 1) = if lfF r t q i = 1 then 2 else 1 := by
        have e6 : lfF r t q i = ((r + t + q - i : Nat) : Int) := by unfold lfF; rw [if_neg (by omega)]
        rw [e6]
        unfold mdF
        rw [if_neg (show ¬ i + 1 < r + t by omega)]
        by_cases hl : i + 1 < r + t + q
        · rw [if_pos hl, if_neg (by omega)]
        · rw [if_neg hl, if_pos (by omega)]
      have e2 : lfF r t q (i + 1) = lfF r t q i - 1 := by
        unfold lfF
        rw [if_neg (by omega), if_neg (by omega)]; omega
      have hlf : 1 ≤ lfF r t q i ∧ lfF r t q i ≤ 1000 := by
        unfold lfF
        rw [if_neg (by omega)]; omega
      rw [e5, e1, e2]
      exact .inl (d_next90T hlf (senC_flat l) (rdC_flat gs))
    · have e5 : mdF r t q i = 2 := by unfold mdF; rw [if_neg (by omega), if_neg (by omega)]
      have e1 : mdF r t q (i + 1) = 2 := by unfold mdF; rw [if_neg (by omega), if_neg (by omega)]
      have e6 : lfF r t q i = 0 := by unfold lfF; rw [if_neg (by omega)]; omega
      have e2 : lfF r t q (i + 1) = 0 := by unfold lfF; rw [if_neg (by omega)]; omega
      rw [e5, e1, e6, e2]
      exact step_good h (.inr rfl) hgl hg
/-- The counts, if the failure is not seen. -/
def cN (l : List Sen) (bs : List (Int × Bool)) (r i : Nat) : Nat → Int := cB l bs (i - r)
theorem step_blind {l : List Sen} {gs bs : List (Int × Bool)} {need sil : Int} {r t i k : Nat} (h : Lens l need) (hgl : gs.length = l.length) (hbl : bs.length = l.length) (hg : GoodL l gs)
    (hn : ∀ s, 1 ≤ s → vt l (zsN l bs l.length) need s = false) (hi : i < r + t) :
    Step (senC l) (rdC (rsF gs bs r t i)) l.length k need sil 0 0 (cN l bs r i) 0 0 (cN l bs r (i + 1)) := by
  unfold cN rsF
  by_cases h1 : i < r
  · rw [if_neg (by omega), show i - r = 0 by omega, show i + 1 - r = 0 by omega, cB_zero h.ds]
    exact step_good h (.inl rfl) hgl hg
  · rw [if_pos (by omega), show i + 1 - r = i - r + 1 by omega]
    exact step_bad h hbl (hn _ (by omega))
/-- What the law expects of each second. -/
def exF (r t : Nat) (i : Nat) : Int := if r ≤ i ∧ i < r + t then 1 else 0
def exL (r t m : Nat) : List Int := (List.range m).map (exF r t)
theorem exL_len {r t m : Nat} : (exL r t m).length = m := by simp [exL]
theorem exL_succ {r t m : Nat} : exL r t (m + 1) = exL r t m ++ [exF r t m] := by unfold exL; rw [List.range_succ, List.map_append]; rfl
theorem exL_get {r t m i : Nat} (h : i < m) : (exL r t m).getD i 0 = exF r t i := by
  unfold exL
  rw [List.getD_eq_getElem?_getD, List.getElem?_map, List.getElem?_range h]; rfl
theorem exL_le {r t m : Nat} : ∀ z ∈ exL r t m, -10000 ≤ z ∧ z ≤ 10000 := by
  intro z hz
  obtain ⟨i, _, rfl⟩ := List.mem_map.1 hz
  unfold exF
  split <;> decide
/-- How long the run is after each second. -/
theorem run_law {r t q m : Nat} (ht : 1 ≤ t) : ∀ i : Nat, i ≤ m → runF (mdF r t q) (exL r t m) i = if r < i ∧ i < r + t then ((i - r : Nat) : Int) else if i = r + t ∧ q = 0 then (t : Int) else 0
  | 0, _ => by
    unfold runF
    rw [if_neg (by omega), if_neg (by omega)]
  | i + 1, hi => by
    have ih := run_law (r := r) (t := t) (q := q) (m := m) ht i (by omega)
    have hu : runF (mdF r t q) (exL r t m) (i + 1) = bif useB (mdF r t q (i + 1)) && !decide (0 ≤ exF r t i ∧ exF r t i ≤ 0) then runF (mdF r t q) (exL r t m) i + 1 else 0 := by
      rw [← exL_get (m := m) (show i < m by omega)]; rfl
    by_cases h1 : r ≤ i ∧ i < r + t
    · have hx : exF r t i = 1 := by unfold exF; rw [if_pos h1]
      have hi' : runF (mdF r t q) (exL r t m) i = ((i - r : Nat) : Int) := by
        rw [ih]
        by_cases h3 : r < i
        · rw [if_pos ⟨h3, h1.2⟩]
        · rw [if_neg (fun h => h3 h.1), if_neg (by omega)]; omega
      rw [hx, hi'] at hu
      by_cases h2 : i + 1 < r + t
      · have hm : mdF r t q (i + 1) = 0 := by unfold mdF; rw [if_pos h2]
        have hb : (useB 0 && !decide ((0 : Int) ≤ 1 ∧ (1 : Int) ≤ 0)) = true := rfl
        rw [hm, hb, cond_true] at hu
        rw [hu, if_pos (show r < i + 1 ∧ i + 1 < r + t by omega)]; omega
      · rw [if_neg (show ¬(r < i + 1 ∧ i + 1 < r + t) by omega)]
        by_cases hq : q = 0
        · have hm : mdF r t q (i + 1) = 2 := by unfold mdF; rw [if_neg h2, if_neg (by omega)]
          have hb : (useB 2 && !decide ((0 : Int) ≤ 1 ∧ (1 : Int) ≤ 0)) = true := rfl
          rw [hm, hb, cond_true] at hu
          rw [hu, if_pos (show i + 1 = r + t ∧ q = 0 by omega)]; omega
        · have hm : mdF r t q (i + 1) = 1 := by unfold mdF; rw [if_neg h2, if_pos (by omega)]
          have hb : (useB 1 && !decide ((0 : Int) ≤ 1 ∧ (1 : Int) ≤ 0)) = false := rfl
          rw [hm, hb, cond_false] at hu
          rw [hu, if_neg (show ¬(i + 1 = r + t ∧ q = 0) by omega)]
    · have hx : exF r t i = 0 := by unfold exF; rw [if_neg h1]
      have hb : ∀ b : Bool, (b && !decide ((0 : Int) ≤ 0 ∧ (0 : Int) ≤ 0)) = false := fun b => by cases b <;> rfl
      rw [hx, hb, cond_false] at hu
      rw [hu, if_neg (show ¬(r < i + 1 ∧ i + 1 < r + t) by omega), if_neg (show ¬(i + 1 = r + t ∧ q = 0) by omega)]
theorem best_law {r t q m : Nat} (ht : 1 ≤ t) : ∀ i : Nat, i ≤ m → bestF (mdF r t q) (exL r t m) i = if i ≤ r then 0 else if i < r + t then ((i - r : Nat) : Int) else if q = 0 then (t : Int) else t - 1
  | 0, _ => by
    unfold bestF
    rw [if_pos (by omega)]
  | i + 1, hi => by
    have ih := best_law (r := r) (t := t) (q := q) (m := m) ht i (by omega)
    unfold bestF
    rw [ih, run_law ht (i + 1) hi]
    by_cases h1 : i + 1 ≤ r
    · rw [if_pos (by omega), if_neg (by omega), if_neg (by omega), if_pos h1]; rfl
    · rw [if_neg h1]
      by_cases h2 : i + 1 < r + t
      · rw [if_pos (show r < i + 1 ∧ i + 1 < r + t by omega), if_pos h2]
        split
        · omega
        · rw [if_pos (by omega)]; omega
      · rw [if_neg (show ¬(r < i + 1 ∧ i + 1 < r + t) by omega), if_neg h2]
        by_cases h3 : i + 1 = r + t
        · by_cases hq : q = 0
          · rw [if_pos (show i + 1 = r + t ∧ q = 0 from ⟨h3, hq⟩), if_pos hq]
            split
            · omega
            · rw [if_pos (by omega)]; omega
          · rw [if_neg (show ¬(i + 1 = r + t ∧ q = 0) by omega), if_neg hq]
            split
            · omega
            · rw [if_pos (by omega)]; omega
        · rw [if_neg (show ¬(i + 1 = r + t ∧ q = 0) by omega), if_neg (by omega), if_neg (by omega)]
          split <;> omega
end Go.M
namespace Go.M
open Go.Proofs Go.RowKit
set_option maxRecDepth 8000
set_option maxHeartbeats 4000000
/-- What the sensors read of a signal. -/
def rds5 (x : Fault) (a b c d e f : Int) : List (Int × Bool) := [(rdN x.s0 x.g0 x.l0 x.lo0 x.hi0 a b c d e f, rdM x.l0 x.lo0 x.hi0 a b c d e f), (rdN x.s1 x.g1 x.l1 x.lo1 x.hi1 a b c d e f, rdM x.l1 x.lo1 x.hi1 a b c d e f), (rdN x.s2 x.g2 x.l2 x.lo2 x.hi2 a b c d e f, rdM x.l2 x.lo2 x.hi2 a b c d e f), (rdN x.s3 x.g3 x.l3 x.lo3 x.hi3 a b c d e f, rdM x.l3 x.lo3 x.hi3 a b c d e f), (rdN x.s4 x.g4 x.l4 x.lo4 x.hi4 a b c d e f, rdM x.l4 x.lo4 x.hi4 a b c d e f)]
def rdsOf (x : Fault) (n : Nat) (a b c d e f : Int) : List (Int × Bool) := (rds5 x a b c d e f).take n
theorem rdsOf_len {x : Fault} {n : Nat} {a b c d e f : Int} (h : n ≤ 5) : (rdsOf x n a b c d e f).length = n := by
  unfold rdsOf
  rw [List.length_take]
  show min n 5 = n
  omega
def InR (x : Int × Bool) : Prop := (-10000 ≤ x.1 ∧ x.1 ≤ 10000) ∧ (x.2 = true → x.1 = 0)
theorem rd_in {s g l lo hi a b c d e f : Int} (hr : ReceiverOk s g l lo hi) : InR (rdN s g l lo hi a b c d e f, rdM l lo hi a b c d e f) := by
  have h := shownI_le (s := s) (g := g) (a := a) (b := b) (c := c) (d := d) (e := e) (f := f) (by have := hr.2.1; omega)
  have hg := hr.2.1
  refine ⟨?_, fun h => ?_⟩
  · show -10000 ≤ rdN s g l lo hi a b c d e f ∧ rdN s g l lo hi a b c d e f ≤ 10000
    unfold rdN
    split <;> omega
  · show rdN s g l lo hi a b c d e f = 0
    unfold rdN; rw [if_pos (of_decide_eq_true h)]
theorem rdsOf_in {l : List Sen} {need sil : Int} {x : Fault} (h : Ready l need sil x) {n : Nat} {a b c d e f : Int} : ∀ y ∈ rdsOf x n a b c d e f, InR y := by
  intro y hy
  have hy : y ∈ rds5 x a b c d e f := List.mem_of_mem_take hy
  simp only [rds5, List.mem_cons, List.not_mem_nil, or_false] at hy
  rcases hy with rfl | rfl | rfl | rfl | rfl
  · exact rd_in h.r0
  · exact rd_in h.r1
  · exact rd_in h.r2
  · exact rd_in h.r3
  · exact rd_in h.r4
theorem len5 {n : Nat} (h : 0 < n ∧ n ≤ 5) : n = 1 ∨ n = 2 ∨ n = 3 ∨ n = 4 ∨ n = 5 := by omega
theorem d_readings8G {A : AW} {p o k n : Nat} {l : List Sen} {need sil : Int} {x : Fault} (hn : 0 < n ∧ n ≤ 5) (h : Ready l need sil x) {a b c d e f : Int} (hs : SignalOk a b c d e f) (hG : GOk A) (hp : A.rd p o 0 = some []) :
    AC Tryd.prog 8 [.agg #[.slice (some ⟨p, o, none⟩) n k, .int .i64 need, .int .i64 sil], .agg #[.int .i64 x.s0, .int .i64 x.g0, .int .i64 x.l0, .int .i64 x.lo0, .int .i64 x.hi0, .int .i64 x.s1, .int .i64 x.g1, .int .i64 x.l1, .int .i64 x.lo1, .int .i64 x.hi1, .int .i64 x.s2, .int .i64 x.g2, .int .i64 x.l2, .int .i64 x.lo2, .int .i64 x.hi2, .int .i64 x.s3, .int .i64 x.g3, .int .i64 x.l3, .int .i64 x.lo3, .int .i64 x.hi3, .int .i64 x.s4, .int .i64 x.g4, .int .i64 x.l4, .int .i64 x.lo4, .int .i64 x.hi4], .agg #[.int .i64 a, .int .i64 b, .int .i64 c, .int .i64 d, .int .i64 e, .int .i64 f]] A
      (isR (.tuple #[.slice (some ⟨A.next, 0, none⟩) n n, .bool true]) (A.push (.cells (rdC (rdsOf x n a b c d e f)) 46))) := by
  rcases len5 hn with rfl | rfl | rfl | rfl | rfl
  · exact d_readings8_1 hG need sil x.s0 x.g0 x.l0 x.lo0 x.hi0 x.s1 x.g1 x.l1 x.lo1 x.hi1 x.s2 x.g2 x.l2 x.lo2 x.hi2 x.s3 x.g3 x.l3 x.lo3 x.hi3 x.s4 x.g4 x.l4 x.lo4 x.hi4 a b c d e f h.r0 hs hp
  · exact d_readings8_2 hG need sil x.s0 x.g0 x.l0 x.lo0 x.hi0 x.s1 x.g1 x.l1 x.lo1 x.hi1 x.s2 x.g2 x.l2 x.lo2 x.hi2 x.s3 x.g3 x.l3 x.lo3 x.hi3 x.s4 x.g4 x.l4 x.lo4 x.hi4 a b c d e f h.r0 h.r1 hs hp
  · exact d_readings8_3 hG need sil x.s0 x.g0 x.l0 x.lo0 x.hi0 x.s1 x.g1 x.l1 x.lo1 x.hi1 x.s2 x.g2 x.l2 x.lo2 x.hi2 x.s3 x.g3 x.l3 x.lo3 x.hi3 x.s4 x.g4 x.l4 x.lo4 x.hi4 a b c d e f h.r0 h.r1 h.r2 hs hp
  · exact d_readings8_4 hG need sil x.s0 x.g0 x.l0 x.lo0 x.hi0 x.s1 x.g1 x.l1 x.lo1 x.hi1 x.s2 x.g2 x.l2 x.lo2 x.hi2 x.s3 x.g3 x.l3 x.lo3 x.hi3 x.s4 x.g4 x.l4 x.lo4 x.hi4 a b c d e f h.r0 h.r1 h.r2 h.r3 hs hp
  · exact d_readings8_5 hG need sil x.s0 x.g0 x.l0 x.lo0 x.hi0 x.s1 x.g1 x.l1 x.lo1 x.hi1 x.s2 x.g2 x.l2 x.lo2 x.hi2 x.s3 x.g3 x.l3 x.lo3 x.hi3 x.s4 x.g4 x.l4 x.lo4 x.hi4 a b c d e f h.r0 h.r1 h.r2 h.r3 h.r4 hs hp
theorem d_plant11G {A : AW} {p k : Nat} (l : List Sen) (need sil : Int) (hn : 0 < l.length ∧ l.length ≤ 5) (hp : A.rd p 0 (senC l).length = some (senC l)) :
    AC Tryd.prog 11 [.agg #[.slice (some ⟨p, 0, none⟩) l.length k, .int .i64 need, .int .i64 sil]] A (isR (.agg #[.slice (some ⟨A.next, 0, none⟩) l.length l.length, .int .i64 need, .int .i64 sil]) (A.push (.cells (senC l) 128))) := by
  match l, hn, hp with
  | [⟨s0, k0, lo0, hi0, d0⟩], _, hp => exact d_plant11_1 s0 k0 lo0 hi0 d0 need sil hp
  | [⟨s0, k0, lo0, hi0, d0⟩, ⟨s1, k1, lo1, hi1, d1⟩], _, hp => exact d_plant11_2 s0 k0 s1 k1 lo0 hi0 d0 lo1 hi1 d1 need sil hp
  | [⟨s0, k0, lo0, hi0, d0⟩, ⟨s1, k1, lo1, hi1, d1⟩, ⟨s2, k2, lo2, hi2, d2⟩], _, hp => exact d_plant11_3 s0 k0 s1 k1 s2 k2 lo0 hi0 d0 lo1 hi1 d1 lo2 hi2 d2 need sil hp
  | [⟨s0, k0, lo0, hi0, d0⟩, ⟨s1, k1, lo1, hi1, d1⟩, ⟨s2, k2, lo2, hi2, d2⟩, ⟨s3, k3, lo3, hi3, d3⟩], _, hp => exact d_plant11_4 s0 k0 s1 k1 s2 k2 s3 k3 lo0 hi0 d0 lo1 hi1 d1 lo2 hi2 d2 lo3 hi3 d3 need sil hp
  | [⟨s0, k0, lo0, hi0, d0⟩, ⟨s1, k1, lo1, hi1, d1⟩, ⟨s2, k2, lo2, hi2, d2⟩, ⟨s3, k3, lo3, hi3, d3⟩, ⟨s4, k4, lo4, hi4, d4⟩], _, hp => exact d_plant11_5 s0 k0 s1 k1 s2 k2 s3 k3 s4 k4 lo0 hi0 d0 lo1 hi1 d1 lo2 hi2 d2 lo3 hi3 d3 lo4 hi4 d4 need sil hp
theorem d_plant84G {A : AW} {p k : Nat} {l : List Sen} {need sil : Int} (h : PlantOk l need sil) (h5 : l.length ≤ 5) (hp : A.rd p 0 (senC l).length = some (senC l)) :
    AC Tryd.prog 84 [.agg #[.slice (some ⟨p, 0, none⟩) l.length k, .int .i64 need, .int .i64 sil]] A (isR (.int .i64 0) A) := by
  obtain ⟨h0, _, hs, hne, hneed, hsil⟩ := h
  match l, h0, h5, hs, hne, hneed, hp with
  | [⟨s0, k0, lo0, hi0, d0⟩], _, _, hs, hne, hneed, hp => exact d_plant84_1 s0 k0 lo0 hi0 d0 need sil (hs 0 _ rfl) hneed hsil hp
  | [⟨s0, k0, lo0, hi0, d0⟩, ⟨s1, k1, lo1, hi1, d1⟩], _, _, hs, hne, hneed, hp => exact d_plant84_2 s0 k0 s1 k1 lo0 hi0 d0 lo1 hi1 d1 need sil (hs 0 _ rfl) (hs 1 _ rfl) (hne 1 0 _ _ (by decide) rfl rfl) hneed hsil hp
  | [⟨s0, k0, lo0, hi0, d0⟩, ⟨s1, k1, lo1, hi1, d1⟩, ⟨s2, k2, lo2, hi2, d2⟩], _, _, hs, hne, hneed, hp => exact d_plant84_3 s0 k0 s1 k1 s2 k2 lo0 hi0 d0 lo1 hi1 d1 lo2 hi2 d2 need sil (hs 0 _ rfl) (hs 1 _ rfl) (hs 2 _ rfl) (hne 1 0 _ _ (by decide) rfl rfl) (hne 2 0 _ _ (by decide) rfl rfl) (hne 2 1 _ _ (by decide) rfl rfl) hneed hsil hp
  | [⟨s0, k0, lo0, hi0, d0⟩, ⟨s1, k1, lo1, hi1, d1⟩, ⟨s2, k2, lo2, hi2, d2⟩, ⟨s3, k3, lo3, hi3, d3⟩], _, _, hs, hne, hneed, hp => exact d_plant84_4 s0 k0 s1 k1 s2 k2 s3 k3 lo0 hi0 d0 lo1 hi1 d1 lo2 hi2 d2 lo3 hi3 d3 need sil (hs 0 _ rfl) (hs 1 _ rfl) (hs 2 _ rfl) (hs 3 _ rfl) (hne 1 0 _ _ (by decide) rfl rfl) (hne 2 0 _ _ (by decide) rfl rfl) (hne 2 1 _ _ (by decide) rfl rfl) (hne 3 0 _ _ (by decide) rfl rfl) (hne 3 1 _ _ (by decide) rfl rfl) (hne 3 2 _ _ (by decide) rfl rfl) hneed hsil hp
  | [⟨s0, k0, lo0, hi0, d0⟩, ⟨s1, k1, lo1, hi1, d1⟩, ⟨s2, k2, lo2, hi2, d2⟩, ⟨s3, k3, lo3, hi3, d3⟩, ⟨s4, k4, lo4, hi4, d4⟩], _, _, hs, hne, hneed, hp => exact d_plant84_5 s0 k0 s1 k1 s2 k2 s3 k3 s4 k4 lo0 hi0 d0 lo1 hi1 d1 lo2 hi2 d2 lo3 hi3 d3 lo4 hi4 d4 need sil (hs 0 _ rfl) (hs 1 _ rfl) (hs 2 _ rfl) (hs 3 _ rfl) (hs 4 _ rfl) (hne 1 0 _ _ (by decide) rfl rfl) (hne 2 0 _ _ (by decide) rfl rfl) (hne 2 1 _ _ (by decide) rfl rfl) (hne 3 0 _ _ (by decide) rfl rfl) (hne 3 1 _ _ (by decide) rfl rfl) (hne 3 2 _ _ (by decide) rfl rfl) (hne 4 0 _ _ (by decide) rfl rfl) (hne 4 1 _ _ (by decide) rfl rfl) (hne 4 2 _ _ (by decide) rfl rfl) (hne 4 3 _ _ (by decide) rfl rfl) hneed hsil hp
theorem d_closure86G {A : AW} {r b p k : Nat} (rs : List (Int × Bool)) (need sil : Int) (hn : 0 < rs.length ∧ rs.length ≤ 5) (hin : ∀ y ∈ rs, InR y) (h : A.rd r 0 (rdC rs).length = some (rdC rs)) (hb : A.rd b 0 3 = some [.slice (some ⟨p, 0, none⟩) rs.length k, .int .i64 need, .int .i64 sil]) (hp : A.rd p 0 0 = some []) :
    AC Tryd.prog 86 [.agg #[.slice (some ⟨r, 0, none⟩) rs.length rs.length, .int .i64 0], .pointer (some ⟨b, 0, none⟩)] A (isR (.int .i64 0) A) := by
  match rs, hn, hin, h, hb with
  | [(r0, m0)], _, hin, h, hb =>
    have q0 := hin (r0, m0) (by simp)
    exact d_closure86_1 r0 m0 need sil q0.1 q0.2 h hb hp
  | [(r0, m0), (r1, m1)], _, hin, h, hb =>
    have q0 := hin (r0, m0) (by simp)
    have q1 := hin (r1, m1) (by simp)
    exact d_closure86_2 r0 r1 m0 m1 need sil q0.1 q0.2 q1.1 q1.2 h hb hp
  | [(r0, m0), (r1, m1), (r2, m2)], _, hin, h, hb =>
    have q0 := hin (r0, m0) (by simp)
    have q1 := hin (r1, m1) (by simp)
    have q2 := hin (r2, m2) (by simp)
    exact d_closure86_3 r0 r1 r2 m0 m1 m2 need sil q0.1 q0.2 q1.1 q1.2 q2.1 q2.2 h hb hp
  | [(r0, m0), (r1, m1), (r2, m2), (r3, m3)], _, hin, h, hb =>
    have q0 := hin (r0, m0) (by simp)
    have q1 := hin (r1, m1) (by simp)
    have q2 := hin (r2, m2) (by simp)
    have q3 := hin (r3, m3) (by simp)
    exact d_closure86_4 r0 r1 r2 r3 m0 m1 m2 m3 need sil q0.1 q0.2 q1.1 q1.2 q2.1 q2.2 q3.1 q3.2 h hb hp
  | [(r0, m0), (r1, m1), (r2, m2), (r3, m3), (r4, m4)], _, hin, h, hb =>
    have q0 := hin (r0, m0) (by simp)
    have q1 := hin (r1, m1) (by simp)
    have q2 := hin (r2, m2) (by simp)
    have q3 := hin (r3, m3) (by simp)
    have q4 := hin (r4, m4) (by simp)
    exact d_closure86_5 r0 r1 r2 r3 r4 m0 m1 m2 m3 m4 need sil q0.1 q0.2 q1.1 q1.2 q2.1 q2.2 q3.1 q3.2 q4.1 q4.2 h hb hp
end Go.M
namespace Go.M
open Go.Proofs Go.RowKit
set_option maxRecDepth 8000
set_option maxHeartbeats 4000000
/-- A slice of so many seconds. -/
def slS (o m : Nat) : Value := if m = 0 then .slice none 0 0 else .slice (some ⟨o, 0, none⟩) m m
def sX (X : LM) (nx : Nat) (rds : List Value) (n m : Nat) : LM := if m = 0 then X else famB (secF nx rds n m) nx (m + 1) ++ X
def sN (nx m : Nat) : Nat := if m = 0 then nx else nx + (m + 1)
theorem slS_pos {o m : Nat} (h : 0 < m) : slS o m = .slice (some ⟨o, 0, none⟩) m m := by unfold slS; rw [if_neg (by omega)]
theorem sN_le {nx m : Nat} : nx ≤ sN nx m := by unfold sN; split <;> omega
/-- A slice of seconds with its objects, all of them with names from 'k' on. -/
structure Secs (X : LM) (k nx n m o : Nat) (ν : Nat → Nat) (rd : Nat → List Value) : Prop where
  hob : 0 < m → alook X o = some (.cells (secV ν n m) 130) ∧ k ≤ o ∧ o < nx
  hrd : ∀ i, i < m → alook X (ν i) = some (.cells (rd i) 46) ∧ k ≤ ν i ∧ ν i < nx
theorem Secs.keep {X X' : LM} {k nx nx' n m o : Nat} {ν : Nat → Nat} {rd : Nat → List Value} (h : Secs X k nx n m o ν rd) (hn : nx ≤ nx') (hX : ∀ j, j < nx → alook X' j = alook X j) : Secs X' k nx' n m o ν rd :=
  ⟨fun q => ⟨(hX _ (h.hob q).2.2).trans (h.hob q).1, (h.hob q).2.1, Nat.lt_of_lt_of_le (h.hob q).2.2 hn⟩, fun i hi => ⟨(hX _ (h.hrd i hi).2.2).trans (h.hrd i hi).1, (h.hrd i hi).2.1, Nat.lt_of_lt_of_le (h.hrd i hi).2.2 hn⟩⟩
theorem sX_old {X : LM} {nx n m j : Nat} {rds : List Value} (h : j < nx) : alook (sX X nx rds n m) j = alook X j := by
  unfold sX
  split
  · rfl
  · rw [famB_look, if_neg (by omega)]
theorem cons_old {X : LM} {nx j : Nat} {x : AObj} (h : j < nx) : alook ((nx, x) :: X) j = alook X j := by
  simp only [alook]; rw [if_neg (by omega)]
theorem Secs.made {X : LM} {k nx n m : Nat} {rds : List Value} (hk : k ≤ nx) : Secs (sX X nx rds n m) k (sN nx m) n m (nx + m) (fun i => nx + i) (fun _ => rds) := by
  refine ⟨fun hm => ?_, fun i hi => ?_⟩
  · have e : alook (sX X nx rds n m) (nx + m) = some (.cells (secV (fun i => nx + i) n m) 130) := by
      unfold sX
      rw [if_neg (by omega), famB_look, if_pos (by omega), show nx + m - nx = m by omega, secF, if_neg (by omega)]
    refine ⟨e, by omega, ?_⟩
    unfold sN; rw [if_neg (by omega)]; omega
  · have e : alook (sX X nx rds n m) (nx + i) = some (.cells rds 46) := by
      unfold sX
      rw [if_neg (by omega), famB_look, if_pos (by omega), show nx + i - nx = i by omega, secF, if_pos hi]
    refine ⟨e, Nat.le_trans hk (Nat.le_add_right _ _), ?_⟩
    show nx + i < sN nx m
    unfold sN; rw [if_neg (by omega)]; omega
theorem d_seconds12z {A : AW} {x : Nat} (n c : Nat) (hx : A.rd x 0 0 = some []) : AC Tryd.prog 12 [.slice (some ⟨x, 0, none⟩) n c, .int .i64 0] A (isR (.slice none 0 0) A) := by
  refine AC.isX (SmallX.nil.cons (k := 0) (b := x) (f := 0) (o := .cells [] 46) (.flat (k := 1) hx rfl)) (args := [.slice (some ⟨0, 0, none⟩) n c, .int .i64 0]) ?_ ⟨8, rfl⟩ (.sl rfl rfl (.flat (k := 8) rfl .nil))
  refine AC.go Tryd.func12 rfl rfl ?_
  clear hx
  repeat' (first
  | refine GT.unroll 1 ?_
  | refine GL.sf rfl rfl rfl rfl ?_
  | refine GL.done ?_
  | refine GP.thenN ?_
  | refine GT.seq ?_
  | refine GT.region ?_
  | refine GT.block ?_
  | refine GT.ret ?_
  | refine GT.exit ?_
  | refine GP.thenE ?_
  | refine GP.hit ?_
  | refine GP.againE ?_
  | refine GU.step ?_
  | refine GT.condF rfl ?_
  | refine GP.endR1 rfl ?_)
  rfl
theorem d_secs12 {B X : LM} {k nx ro gl x : Nat} {e : TypeId} (rds : List Value) (n c m : Nat) (hB : below k B = true) (hk : k ≤ nx) (hn : 0 < n ∧ n ≤ 1000) (hm : m ≤ 800) (hlen : rds.length = n * 2) (hflat : ∃ k, noAddrs k rds = true) (hone : rds.all (·.oneCell') = true) (hx : alook B x = some (.cells rds e)) :
    AC Tryd.prog 12 [.slice (some ⟨x, 0, none⟩) n c, .int .i64 (m : Int)] (AW.of (B ++ X) nx ro gl) (isR (slS (nx + m) m) (AW.of (B ++ sX X nx rds n m) (sN nx m) ro gl)) := by
  have hx' : alook (B ++ X) x = some (.cells rds e) := app_old hx
  unfold slS sX sN
  by_cases q : m = 0
  · subst q
    rw [if_pos rfl, if_pos rfl, if_pos rfl]
    exact d_seconds12z n c (by
      have ho : (AW.of (B ++ X) nx ro gl).objs x = some (.cells rds e) := hx'
      unfold AW.rd
      rw [ho]; simp)
  · rw [if_neg q, if_neg q, if_neg q, ← of_pushFB hB hk]
    exact d_seconds12 rds n c m hn (by omega) hlen hflat hone (rd_self hx')
/-- The memory after two slices of seconds were put together. -/
def apX (X : LM) (nx n o1 m1 m2 : Nat) (ν1 ν2 : Nat → Nat) : LM := (nx, .cells (secV ν1 n m1 ++ secV ν2 n m2) 130) :: (if m1 = 0 then X else aerase X o1)
def twoN (m1 : Nat) (ν1 ν2 : Nat → Nat) (i : Nat) : Nat := if i < m1 then ν1 i else ν2 (i - m1)
def twoR (m1 : Nat) (r1 r2 : Nat → List Value) (i : Nat) : List Value := if i < m1 then r1 i else r2 (i - m1)
theorem secV_add {ν1 ν2 : Nat → Nat} {n m1 : Nat} : ∀ m2, secV (twoN m1 ν1 ν2) n (m1 + m2) = secV ν1 n m1 ++ secV ν2 n m2
  | 0 => by
    rw [show secV ν2 n 0 = [] from rfl, List.append_nil]
    exact secV_congr fun i hi => by unfold twoN; rw [if_pos (by omega)]
  | m2 + 1 => by
    rw [← Nat.add_assoc, secV_succ, secV_add m2, secV_succ, List.append_assoc]
    unfold twoN
    rw [if_neg (by omega), show m1 + m2 - m1 = m2 by omega]
theorem Secs.two {X : LM} {k nx n m1 o1 m2 o2 : Nat} {ν1 ν2 : Nat → Nat} {r1 r2 : Nat → List Value} (h1 : Secs X k nx n m1 o1 ν1 r1) (h2 : Secs X k nx n m2 o2 ν2 r2) (hk : k ≤ nx) :
    Secs (apX X nx n o1 m1 m2 ν1 ν2) k (nx + 1) n (m1 + m2) nx (twoN m1 ν1 ν2) (twoR m1 r1 r2) := by
  refine ⟨fun _ => ⟨?_, hk, by omega⟩, fun i hi => ?_⟩
  · unfold apX
    rw [secV_add]
    simp [alook]
  · have key : ∀ j v, alook X j = some (.cells v 46) → j < nx → alook (apX X nx n o1 m1 m2 ν1 ν2) j = some (.cells v 46) := fun j v hj hlt => by
      unfold apX
      rw [cons_old hlt]
      split
      · exact hj
      · rw [alook_aerase]
        have hne : j ≠ o1 := fun e => by
          subst e
          have := (h1.hob (by omega)).1
          rw [hj] at this
          injection this with this
          injection this with _ this
          exact absurd this (by decide)
        rw [if_neg hne]; exact hj
    unfold twoN twoR
    by_cases q : i < m1
    · rw [if_pos q, if_pos q]
      have := h1.hrd i q
      exact ⟨key _ _ this.1 this.2.2, this.2.1, by omega⟩
    · rw [if_neg q, if_neg q]
      have := h2.hrd (i - m1) (by omega)
      exact ⟨key _ _ this.1 this.2.2, this.2.1, by omega⟩
theorem secV_one (ν : Nat → Nat) (n : Nat) : ∀ m, (secV ν n m).all (·.oneCell') = true
  | 0 => rfl
  | m + 1 => by rw [secV_succ, List.all_append, secV_one ν n m]; rfl
theorem GO.appendS {n0 : Nat} {a : AEnv} {o : Oper} {B X : LM} {k nx ro gl n m1 o1 m2 o2 : Nat} {ν1 ν2 : Nat → Nat} {r1 r2 : Nat → List Value} {c : Call} {t : TypeId} {U Y : Operand} {inf : TypeInfo} {z u1 u2 : Value}
    (ho : o.op = .call c) (hc : c.callee = .builtin .append) (ha : c.args.toList = [U, Y]) (ht : c.argTypes.toList = [t, t]) (hx : aev gl a U = some u1) (hy : aev gl a Y = some u2) (hu : Tryd.prog.underlying t = some (.slice 130)) (hi : Tryd.prog.info? 130 = some inf)
    (hz : inf.zero = some z) (hzc : z.cells.size = inf.size) (h2 : inf.size = 2) (hsz : szOf Tryd.prog 130 = some 2) (hbytes : inf.bytes ≤ 1000) (hB : below k B = true) (hk : k ≤ nx) (hro : ro ≤ k) (e1 : u1 = slS o1 m1) (e2 : u2 = slS o2 m2) (h1 : Secs X k nx n m1 o1 ν1 r1) (hs2 : Secs X k nx n m2 o2 ν2 r2) (hm2 : 0 < m2) (hm : m1 + m2 ≤ 1000) :
    GO Tryd.prog n0 o a (B ++ X) nx ro gl (isR (.slice (some ⟨nx, 0, none⟩) (m1 + m2) (m1 + m2)) (AW.of (B ++ apX X nx n o1 m1 m2 ν1 ν2) (nx + 1) ro gl)) := by
  subst e1; subst e2
  have hpos : Nat.blt 0 inf.size = true := by rw [h2]; rfl
  obtain ⟨e2, hk2, hlt2⟩ := hs2.hob hm2
  have hsrc : asrc (AW.of (B ++ X) nx ro gl) inf.size (.slice (some ⟨o2, 0, none⟩) m2 m2) = some (m2, secV ν2 n m2) := by
    rw [h2]
    exact asrc_all hm2 (secV_len _ _ _) ((app_new hB hk2).trans e2)
  have hy' : aev gl a Y = some (.slice (some ⟨o2, 0, none⟩) m2 m2) := by rw [hy]; unfold slS; rw [if_neg (by omega)]
  unfold apX
  by_cases q : m1 = 0
  · subst q
    have hx' : aev gl a U = some (.slice none 0 0) := by rw [hx]; rfl
    rw [if_pos rfl, ← cons_B hB hk, Nat.zero_add, show secV ν1 n 0 = [] from rfl, List.nil_append]
    exact GO.appendNil ho hc ha ht hx' hy' hu hi hz hzc hpos hsrc (secV_one _ _ _) hbytes hm2 (by omega)
  · obtain ⟨e1, hk1, hlt1⟩ := h1.hob (by omega)
    have hx' : aev gl a U = some (.slice (some ⟨o1, 0, none⟩) m1 m1) := by rw [hx]; unfold slS; rw [if_neg q]
    rw [if_neg q, ← cons_eraseB hB hk1 hk]
    exact GO.appendN ho hc ha ht hx' hy' hu hi hz hzc hpos hsrc (secV_one _ _ _) ((app_new hB hk1).trans e1) (by rw [h2]; exact secV_len _ _ _) (Nat.le_trans hro hk1) (by rw [h2]; exact hsz) hbytes hm2 (by omega)
theorem Secs.congr {X : LM} {k nx n m o : Nat} {ν : Nat → Nat} {rd rd' : Nat → List Value} (h : Secs X k nx n m o ν rd) (e : ∀ i, i < m → rd i = rd' i) : Secs X k nx n m o ν rd' :=
  ⟨h.hob, fun i hi => by rw [← e i hi]; exact h.hrd i hi⟩
/-- Seconds are made. -/
theorem secs_step {B X : LM} {k nx ro gl x : Nat} {e : TypeId} (rds : List Value) (n c m : Nat) (hB : below k B = true) (hk : k ≤ nx) (hn : 0 < n ∧ n ≤ 1000) (hm : m ≤ 800) (hlen : rds.length = n * 2) (hflat : ∃ k, noAddrs k rds = true) (hone : rds.all (·.oneCell') = true) (hx : alook B x = some (.cells rds e)) :
    ∃ X' nx' o ν, AC Tryd.prog 12 [.slice (some ⟨x, 0, none⟩) n c, .int .i64 (m : Int)] (AW.of (B ++ X) nx ro gl) (isR (slS o m) (AW.of (B ++ X') nx' ro gl)) ∧ nx ≤ nx' ∧ (∀ j, j < nx → alook X' j = alook X j) ∧ Secs X' k nx' n m o ν (fun _ => rds) :=
  ⟨_, _, _, _, d_secs12 rds n c m hB hk hn hm hlen hflat hone hx, sN_le, fun j hj => sX_old hj, Secs.made hk⟩
/-- Seconds are appended. -/
theorem app_step {B X : LM} {k nx ro gl n m1 o1 m2 o2 : Nat} {ν1 ν2 : Nat → Nat} {r1 r2 : Nat → List Value} (hB : below k B = true) (hk : k ≤ nx) (hro : ro ≤ k) (h1 : Secs X k nx n m1 o1 ν1 r1) (h2 : Secs X k nx n m2 o2 ν2 r2) (hm2 : 0 < m2) (hm : m1 + m2 ≤ 1000) :
    ∃ X' nx' o' ν, (∀ {n0 : Nat} {a : AEnv} {o : Oper} {c : Call} {t : TypeId} {U Y : Operand} {inf : TypeInfo} {z u1 u2 : Value}, o.op = .call c → c.callee = .builtin .append → c.args.toList = [U, Y] → c.argTypes.toList = [t, t] → aev gl a U = some u1 → aev gl a Y = some u2 → Tryd.prog.underlying t = some (.slice 130) → Tryd.prog.info? 130 = some inf →
      inf.zero = some z → z.cells.size = inf.size → inf.size = 2 → szOf Tryd.prog 130 = some 2 → inf.bytes ≤ 1000 → u1 = slS o1 m1 → u2 = slS o2 m2 →
      GO Tryd.prog n0 o a (B ++ X) nx ro gl (isR (.slice (some ⟨o', 0, none⟩) (m1 + m2) (m1 + m2)) (AW.of (B ++ X') nx' ro gl))) ∧ k ≤ nx' ∧ (∀ j, j < nx → j ≠ o1 → alook X' j = alook X j) ∧ Secs X' k nx' n (m1 + m2) o' ν (twoR m1 r1 r2) := by
  refine ⟨_, _, _, _, fun q1 q2 q3 q4 q5 q6 q7 q8 q9 q10 q11 q12 q13 q14 q15 => GO.appendS q1 q2 q3 q4 q5 q6 q7 q8 q9 q10 q11 q12 q13 hB hk hro q14 q15 h1 h2 hm2 hm, by omega, fun j hj hne => ?_, h1.two h2 hk⟩
  unfold apX
  rw [cons_old hj]
  split
  · rfl
  · rw [alook_aerase, if_neg hne]
end Go.M
