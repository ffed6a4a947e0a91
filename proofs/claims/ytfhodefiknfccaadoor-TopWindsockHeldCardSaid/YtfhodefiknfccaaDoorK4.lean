/- Functions of the given program, walked (no condition beyond what each theorem says). -/
import Derived.Test.YtfhodefiknfccaaDoorJ9
import Derived.Test.YtfhodefiknfccaaDoorJ7
import Derived.Test.YtfhodefiknfccaaDoorK2
import Derived.Test.YtfhodefiknfccaaDoorK3
set_option linter.unusedVariables false
set_option linter.unusedSimpArgs false
namespace Go.M
open Go.Proofs Go.RowKit
set_option maxRecDepth 8000
set_option maxHeartbeats 8000000
/-- The moves that are not permitted. -/
def sel (l : List Ar) (d : List Ld) (m : List Mv) : List Mv := m.filter fun y => anyHit agB d [y] l
theorem sel_app {l : List Ar} {d : List Ld} {m : List Mv} {y : Mv} : sel l d (m ++ [y]) = sel l d m ++ (cond (anyHit agB d [y] l) [y] []) := by
  unfold sel
  rw [List.filter_append]
  cases h : anyHit agB d [y] l <;> simp [h]
theorem sel_sub {l : List Ar} {d : List Ld} {m : List Mv} {y : Mv} (h : y ∈ sel l d m) : y ∈ m := (List.mem_filter.1 h).1
theorem anyHit_iff {g : Ld → Mv → Ar → Bool} {d : List Ld} {m : List Mv} {l : List Ar} : anyHit g d m l = true ↔ ∃ x ∈ d, ∃ y ∈ m, ∃ z ∈ l, g x y z = true := by
  unfold anyHit
  simp only [List.any_eq_true]
theorem clear_sel {l : List Ar} {d : List Ld} {m : List Mv} {t : Int} : clearB l d (sel l d m) t = clearB l d m t := by
  unfold clearB
  congr 1
  rw [Bool.eq_iff_iff, anyHit_iff, anyHit_iff]
  constructor
  · rintro ⟨x, hx, y, hy, z, hz, h⟩
    exact ⟨x, hx, y, sel_sub hy, z, hz, h⟩
  · rintro ⟨x, hx, y, hy, z, hz, h⟩
    refine ⟨x, hx, y, ?_, z, hz, h⟩
    refine List.mem_filter.2 ⟨hy, ?_⟩
    refine anyHit_iff.2 ⟨x, hx, y, by simp, z, hz, ?_⟩
    unfold hitT at h
    rw [Bool.and_eq_true] at h
    exact h.1
theorem sel_ok {l : List Ar} {d : List Ld} {m : List Mv} (h : ScOk l d m) : ScOk l d (sel l d m) := by
  refine ⟨h.ar, h.al, h.ld, h.dl, ⟨fun i x hx => ?_, ?_⟩, Nat.le_trans (List.length_filter_le _ _) h.ml⟩
  · obtain ⟨j, hj⟩ := List.getElem?_of_mem (sel_sub (List.mem_of_getElem? hx))
    exact h.mv.ok j x hj
  · have hp : m.Pairwise fun a b => (b.s == a.s) = false := by
      rw [List.pairwise_iff_getElem]
      intro i j hi hj hij
      exact h.mv.ne j i _ _ hij (List.getElem?_eq_getElem hj) (List.getElem?_eq_getElem hi)
    have hs : (sel l d m).Pairwise fun a b => (b.s == a.s) = false := hp.sublist List.filter_sublist
    rw [List.pairwise_iff_getElem] at hs
    intro i j x y hij hx hy
    obtain ⟨hi, rfl⟩ := List.getElem?_eq_some_iff.1 hx
    obtain ⟨hj, rfl⟩ := List.getElem?_eq_some_iff.1 hy
    exact hs j i hj hi hij
theorem one_ok {l : List Ar} {d : List Ld} {m : List Mv} {i : Nat} {y : Mv} (h : ScOk l d m) (hy : m[i]? = some y) : ScOk l d [y] := by
  refine ⟨h.ar, h.al, h.ld, h.dl, ⟨fun j x hx => ?_, fun j k x z hjk hx hz => ?_⟩, Nat.le_of_ble_eq_true rfl⟩
  · match j, hx with
    | 0, hx => cases hx; exact h.mv.ok i _ hy
    | j + 1, hx => simp at hx
  · have := (List.getElem?_eq_some_iff.1 hx).1
    simp at this; omega
theorem free_clear {l : List Ar} {d : List Ld} {t : Int} : clearB l d [] t = true := by
  unfold clearB
  rw [anyHit_no (fun x _ y hy => by cases hy)]; rfl
/-- Without moves no step is lower. -/
theorem night_le {r : Rl} {l : List Ar} {d : List Ld} {m : List Mv} {vw : Nat → Int} {s t : Int} (hr : r.Ok) (i : Nat) : stS r (niF l d m vw s t) i ≤ stS r (niF l d [] vw s t) i :=
  stS_le (μ := niF l d m vw s t) (μ' := niF l d [] vw s t) hr (fun _ => rfl) (fun j h => by
    have e : (niF l d [] vw s t j).all = ((niF l d m vw s t j).s && (niF l d m vw s t j).t) := by
      show (clearB l d [] j && _ && _) = _
      rw [free_clear]; rfl
    rw [e]
    unfold Mo.all at h
    simp only [Bool.and_eq_true] at h ⊢
    exact ⟨h.1.2, h.2⟩) i
theorem night_sel {l : List Ar} {d : List Ld} {m : List Mv} {vw : Nat → Int} {s t : Int} : niF l d (sel l d m) vw s t = niF l d m vw s t := by
  funext i
  unfold niF
  rw [clear_sel]
theorem hasS_clear {x : Mo} : hasS (wdL x) clearW = !x.c := by
  obtain ⟨v, c, s, t⟩ := x
  cases c <;> cases s <;> cases t <;> rfl
theorem GO.pushOT {P : Program} {n nx ro gl m : Nat} {o : Oper} {a : AEnv} {L : LM} {F : Nat → Option AObj} {v : Value} (hL : Bel nx L) (h : GO P n o a L nx ro gl (isR v ((AW.of L nx ro gl).pushO m F))) : GO P n o a L nx ro gl (isR v (AW.of (L ++ (famO F nx m ++ [])) (nx + m) ro gl)) := by
  rw [of_pushO hL] at h; exact h
theorem mos_one (l : List Mo) : (mosC l).all (·.oneCell') = true := by
  induction l with
  | nil => rfl
  | cons x l ih => rw [mosC_cons, List.all_append, ih]; rfl
theorem mv_one (l : List Mv) : (mvC l).all (·.oneCell') = true := by
  induction l with
  | nil => rfl
  | cons x l ih => rw [mvC_cons, List.all_append, ih]; rfl
theorem rbC_true {φ : Nat → Bool} {ν κ : Nat → Nat} : ∀ (l : List Ar) (o : Nat), (∀ i, i < l.length → φ (o + i) = true) → rbC φ ν κ o l = raC ν κ o l
  | [], _, _ => rfl
  | a :: l, o, h => by
    unfold rbC raC
    rw [show φ o = true from h 0 (by simp), rbC_true l (o + 1) fun i hi => by have := h (i + 1) (by simpa using hi); rwa [show o + (i + 1) = o + 1 + i by omega] at this]
    rfl
theorem ps_ok {l : List Ar} (h : ArOk l) : PsOk l := fun x hx => by
  obtain ⟨i, hi⟩ := List.getElem?_of_mem hx
  have := (h.ok i x hi).2.2.2.len
  omega
/-- What the law needs of a memory. -/
structure NjAt (A : AW) (ea ed e0 : Bool) (p q r0 : Nat) (φ : Nat → Bool) (ν κ : Nat → Nat) (l : List Ar) (d : List Ld) (m0 : List Mv) : Prop where
  gw : GW A
  ar : LiAt A ea p (ne l) (rbC φ ν κ 0 l)
  ps : ∀ i a, l[i]? = some a → (a.ps = [] ∧ (φ i = true → A.objs (ν i) = none)) ∨ (a.ps ≠ [] ∧ φ i = true ∧ A.rd (ν i) 0 (ptC a.ps).length = some (ptC a.ps))
  ld : LiAt A ed q (ne d) (ldC d)
  m0 : LiAt A e0 r0 (ne m0) (mvC m0)
theorem NjAt.ni {A : AW} {ea ed e0 em : Bool} {p q r0 r : Nat} {φ : Nat → Bool} {ν κ : Nat → Nat} {l : List Ar} {d : List Ld} {m0 m : List Mv} (h : NjAt A ea ed e0 p q r0 φ ν κ l d m0) (hok : ArOk l) (hm : LiAt A em r (ne m) (mvC m)) : NiAt A ea ed e0 em p q r0 r ν κ l d m0 m := by
  have hne : ∀ (i : Nat) (a : Ar), l[i]? = some a → a.ps ≠ [] := fun i a ha e => by
    have := (hok.ok i a ha).2.2.2.len
    rw [e] at this; simp at this
  have hφ : ∀ i, i < l.length → φ (0 + i) = true := fun i hi => by
    rw [Nat.zero_add]
    rcases h.ps i _ (List.getElem?_eq_getElem hi) with ⟨q, _⟩ | ⟨_, q, _⟩
    · exact absurd q (hne i _ (List.getElem?_eq_getElem hi))
    · exact q
  refine ⟨h.gw, by rw [← rbC_true l 0 hφ]; exact h.ar, fun i a ha => ?_, h.ld, h.m0, hm⟩
  rcases h.ps i a ha with ⟨q, _⟩ | ⟨_, _, q⟩
  · exact absurd q (hne i a ha)
  · exact q
theorem NjAt.short {A : AW} {ea ed e0 : Bool} {p q r0 c : Nat} {φ : Nat → Bool} {ν κ : Nat → Nat} {l : List Ar} {d : List Ld} {m0 : List Mv} (h : NjAt A ea ed e0 p q r0 φ ν κ l d m0) (hl : l.length ≤ 4) :
    AC Tryd.prog 15 [.slice (slA ea p) l.length c] A (fun v A1 => (∃ x, v = .bool x ∧ (x = true → ∀ (i : Nat) (a : Ar), l[i]? = some a → a.ps.length ≤ 9)) ∧ A1 = A) := by
  cases l with
  | nil => exact AC.mono w_short15e fun v A1 hv => ⟨⟨true, hv.1, fun _ i a h => by simp at h⟩, hv.2⟩
  | cons a l =>
    obtain ⟨rfl, hr⟩ := h.ar.yes rfl
    exact w_short15 (a :: l) hl ⟨hr, h.ps⟩
theorem NjAt.list {A : AW} {ea ed e0 : Bool} {p q r0 c : Nat} {φ : Nat → Bool} {ν κ : Nat → Nat} {l : List Ar} {d : List Ld} {m0 : List Mv} (h : NjAt A ea ed e0 p q r0 φ ν κ l d m0) (hl : l.length ≤ 4) (h9 : ∀ (i : Nat) (a : Ar), l[i]? = some a → a.ps.length ≤ 9) :
    AC Tryd.prog 16 [.slice (slA ea p) l.length c] A (fun v A1 => (∃ e, v = .int .i64 e ∧ (e = 0 → ArOk l)) ∧ A1 = A) := by
  cases l with
  | nil => exact AC.mono w_list16e fun v A1 hv => ⟨⟨0, hv.1, fun _ => ⟨fun i x h => by simp at h, fun i j x y _ h => by simp at h⟩⟩, hv.2⟩
  | cons a l =>
    obtain ⟨rfl, hr⟩ := h.ar.yes rfl
    exact w_list16 (a :: l) hl h9 ⟨hr, h.ps⟩
end Go.M
namespace Go.M
open Go.Proofs Go.RowKit
set_option maxRecDepth 8000
set_option maxHeartbeats 8000000
abbrev NjX (d : List Ld) (m0 : List Mv) : LM := opt (ne m0) [(4, .cells (mvC m0) 112)] ++ (opt (ne d) [(3, .cells (ldC d) 159)] ++ WG)
def NjM (φ : Nat → Bool) (κ : Nat → Nat) (l : List Ar) (d : List Ld) (m0 : List Mv) : LM := opt (ne l) [(6, .cells (rbC φ (fun j => 7 + j) κ 0 l) 151)] ++ (famO (rbF l) 7 l.length ++ NjX d m0)
theorem njX_no {d : List Ld} {m0 : List Mv} (j : Nat) (hj : 7 ≤ j) : alook (NjX d m0) j = none := by
  rw [opt_look, opt_look, if_neg (by omega), if_neg (by omega)]
  simp only [alook]
  rw [if_neg (by omega), if_neg (by omega), if_neg (by omega)]
theorem nj_look {φ : Nat → Bool} {κ : Nat → Nat} {l : List Ar} {d : List Ld} {m0 : List Mv} (j : Nat) : alook (NjM φ κ l d m0) j = if ne l = true ∧ 6 = j then some (.cells (rbC φ (fun j => 7 + j) κ 0 l) 151) else if 7 ≤ j ∧ j < 7 + l.length then rbF l (j - 7) else if ne m0 = true ∧ 4 = j then some (.cells (mvC m0) 112) else if ne d = true ∧ 3 = j then some (.cells (ldC d) 159) else alook WG j := by
  unfold NjM
  rw [opt_look, famO_look _ _ _ _ _ njX_no, opt_look, opt_look]
def NjRho (p : Nat) (φ : Nat → Bool) (ν : Nat → Nat) (n : Nat) (ρ : Nat → Option (Nat × Nat)) (j : Nat) : Option (Nat × Nat) := if j = 6 then some (p, 0) else if 7 ≤ j ∧ j < 7 + n then (if φ (j - 7) = true then some (ν (j - 7), 0) else none) else ρ j
theorem NjAt.small {A : AW} {ea ed e0 : Bool} {p q r0 : Nat} {φ : Nat → Bool} {ν κ : Nat → Nat} {l : List Ar} {d : List Ld} {m0 : List Mv} (h : NjAt A ea ed e0 p q r0 φ ν κ l d m0) (hl : l.length ≤ 16) :
    ∃ ρ, SmallD A (NjM φ κ l d m0) 30 3 ρ ∧ (ea = true → ρ 6 = some (p, 0)) ∧ (ed = true → ρ 3 = some (q, 0)) ∧ (e0 = true → ρ 4 = some (r0, 0)) := by
  obtain ⟨ρ1, s1, -, k1⟩ := opt_step (e := 159) h.gw.smallD (ldC_flat d) h.ld
  obtain ⟨ρ2, s2, g2, k2⟩ := opt_step (e := 112) s1 (mvC_flat m0) h.m0
  cases l with
  | nil =>
    have e : NjM φ κ [] d m0 = NjX d m0 := rfl
    rw [e]
    cases ea with
    | true =>
      have s4 := (s2.skip (K := 6) (by decide)).dead (h.ar.no rfl rfl)
      exact ⟨_, s4.skip (by decide), fun _ => by unfold onto; rw [if_pos rfl], fun e => onto_old (fun j x hx => Nat.lt_of_lt_of_le (s2.hk j x hx) (by decide)) (g2 _ _ (k1 e)), fun e => onto_old (fun j x hx => Nat.lt_of_lt_of_le (s2.hk j x hx) (by decide)) (k2 e)⟩
    | false =>
      exact ⟨_, s2.skip (by decide), fun e => (by cases e), fun e => g2 _ _ (k1 e), fun e => k2 e⟩
  | cons a l =>
    obtain ⟨rfl, hr⟩ := h.ar.yes rfl
    have h5 : ∀ j x, ρ2 j = some x → j < 5 := s2.hk
    have old : ∀ j x, ρ2 j = some x → NjRho p φ ν (a :: l).length ρ2 j = some x := fun j x hj => by
      have := h5 j x hj
      unfold NjRho
      rw [if_neg (by omega), if_neg (by omega)]; exact hj
    refine ⟨NjRho p φ ν (a :: l).length ρ2, ⟨fun j x hx => ?_, fun j hj => ?_, fun j y hy => ?_, s2.hgl, fun g hg => old g _ (s2.hG g hg), by decide⟩, fun _ => rfl, fun e => old _ _ (g2 _ _ (k1 e)), fun e => old _ _ (k2 e)⟩
    · unfold NjRho at hx
      split at hx
      · omega
      split at hx
      · omega
      · have := h5 j x hx; omega
    · have lk := nj_look (φ := φ) (κ := κ) (l := a :: l) (d := d) (m0 := m0) j
      rw [lk] at hj
      split at hj
      · cases hj
      rename_i q6
      have n6 : ¬ j = 6 := fun e => q6 ⟨rfl, e.symm⟩
      unfold NjRho
      rw [if_neg n6]
      split at hj
      · rename_i q7
        rw [if_pos q7]
        obtain ⟨x, hx⟩ : ∃ x, (a :: l)[j - 7]? = some x := ⟨_, List.getElem?_eq_getElem (show j - 7 < (a :: l).length by omega)⟩
        cases hφ : φ (j - 7) with
        | false => left; rw [if_neg (by simp)]
        | true =>
          right
          refine ⟨(ν (j - 7), 0), by rw [if_pos rfl], ?_⟩
          rcases h.ps _ x hx with ⟨_, h2⟩ | ⟨h2, _, _⟩
          · exact h2 hφ
          · rw [← arP_at hx] at h2
            rw [rbF_yes h2] at hj; cases hj
      · rename_i q7
        rw [if_neg q7]
        have : alook (NjX d m0) j = none := by rw [opt_look, opt_look]; exact hj
        rcases s2.hd j this with e | ⟨x, e, hx⟩
        · exact .inl e
        · exact .inr ⟨x, e, hx⟩
    · have lk := nj_look (φ := φ) (κ := κ) (l := a :: l) (d := d) (m0 := m0) j
      rw [lk] at hy
      split at hy
      · rename_i q6
        cases hy
        obtain rfl : j = 6 := q6.2.symm
        refine ⟨by omega, (p, 0), rfl, rbC φ ν κ 0 (a :: l), ?_, rbC_AR (a :: l) 0 fun i hi hφ => ?_⟩
        · rw [rbC_len, ← rbC_len (φ := φ) (ν := ν) (κ := κ) (a :: l) 0]; exact hr
        · unfold NjRho
          rw [Nat.zero_add] at hφ ⊢
          rw [if_neg (by omega), if_pos (by omega), show 7 + i - 7 = i by omega, if_pos hφ]
      rename_i q6
      have n6 : ¬ j = 6 := fun e => q6 ⟨rfl, e.symm⟩
      split at hy
      · rename_i q7
        obtain ⟨x, hx⟩ : ∃ x, (a :: l)[j - 7]? = some x := ⟨_, List.getElem?_eq_getElem (show j - 7 < (a :: l).length by omega)⟩
        have hne : arP (a :: l) (j - 7) ≠ [] := fun e => by rw [rbF_no e] at hy; cases hy
        rw [rbF_yes hne] at hy; cases hy
        rw [arP_at hx] at hne ⊢
        rcases h.ps _ x hx with ⟨h1, _⟩ | ⟨_, h2, h3⟩
        · exact absurd h1 hne
        · obtain ⟨f, hf⟩ := ptC_flat x.ps
          exact ⟨by omega, (ν (j - 7), 0), by unfold NjRho; rw [if_neg n6, if_pos q7, if_pos h2], .flat h3 hf⟩
      · rename_i q7
        have : alook (NjX d m0) j = some y := by rw [opt_look, opt_look]; exact hy
        obtain ⟨h1, x, h2, h3⟩ := s2.hL j y this
        exact ⟨by omega, x, old j x h2, h3.mono old⟩
theorem nj_low {φ : Nat → Bool} {κ : Nat → Nat} {l : List Ar} {d : List Ld} {m0 : List Mv} {L : LM} {nx ro : Nat} {ea ed e0 : Bool} (hl : l.length ≤ 16) (h : ∀ j, j < 30 → alook L j = alook (NjM φ κ l d m0) j)
    (ha : ne l = true → ea = true) (hd : ne d = true → ed = true) (h0 : ne m0 = true → e0 = true) (hφ : ∀ (i : Nat) (a : Ar), l[i]? = some a → a.ps ≠ [] → φ i = true) : NjAt (AW.of L nx ro 3) ea ed e0 6 3 4 φ (fun j => 7 + j) κ l d m0 := by
  have g : ∀ {j : Nat} {o : Option AObj}, j < 30 → alook (NjM φ κ l d m0) j = o → (AW.of L nx ro 3).objs j = o := fun hj e => (h _ hj).trans e
  have rd : ∀ {j : Nat} {cs : List Value} {e : TypeId}, j < 30 → alook (NjM φ κ l d m0) j = some (.cells cs e) → (AW.of L nx ro 3).rd j 0 cs.length = some cs := fun hj e => rd_self ((h _ hj).trans e)
  have w0 : ∀ j, j < 3 → alook (NjM φ κ l d m0) j = alook WG j := fun j hj => by
    rw [nj_look, if_neg (by omega), if_neg (by omega), if_neg (by omega), if_neg (by omega)]
  refine ⟨⟨rfl, rd_zero2 ((h 0 (by decide)).trans (w0 0 (by decide))), rd_zero2 ((h 1 (by decide)).trans (w0 1 (by decide))), rd_self ((h 2 (by decide)).trans (w0 2 (by decide)))⟩, ⟨fun z _ => g (by decide) ?_, fun z => ⟨ha z, rd (e := 151) (by decide) ?_⟩⟩, fun i a hi => ?_,
    ⟨fun z _ => g (by decide) ?_, fun z => ⟨hd z, rd (e := 159) (by decide) ?_⟩⟩, ⟨fun z _ => g (by decide) ?_, fun z => ⟨h0 z, rd (e := 112) (by decide) ?_⟩⟩⟩
  · rw [nj_look, if_neg (by rw [z]; simp), if_neg (by omega), if_neg (by omega), if_neg (by omega)]; rfl
  · rw [nj_look, if_pos ⟨z, rfl⟩]
  · have hil := (List.getElem?_eq_some_iff.1 hi).1
    have e : alook (NjM φ κ l d m0) (7 + i) = rbF l i := by
      rw [nj_look, if_neg (by omega), if_pos (by omega), show 7 + i - 7 = i by omega]
    by_cases q : a.ps = []
    · exact .inl ⟨q, fun _ => g (by omega) (e.trans (rbF_no (by rw [arP_at hi]; exact q)))⟩
    · refine .inr ⟨q, hφ i a hi q, rd (e := 97) (by omega) (e.trans ?_)⟩
      rw [rbF_yes (by rw [arP_at hi]; exact q), arP_at hi]
  · rw [nj_look, if_neg (by omega), if_neg (by omega), if_neg (by omega), if_neg (by rw [z]; simp)]; rfl
  · rw [nj_look, if_neg (by omega), if_neg (by omega), if_neg (by omega), if_pos ⟨z, rfl⟩]
  · rw [nj_look, if_neg (by omega), if_neg (by omega), if_neg (by rw [z]; simp), if_neg (by omega)]; rfl
  · rw [nj_look, if_neg (by omega), if_neg (by omega), if_pos ⟨z, rfl⟩]
theorem nj_und {φ : Nat → Bool} {κ : Nat → Nat} {l : List Ar} {d : List Ld} {m0 : List Mv} (hl : l.length ≤ 16) (k : Nat) (hk : 30 ≤ k) : Und k (NjM φ κ l d m0) := fun j y hy => by
  rw [nj_look] at hy
  obtain ⟨f1, e1⟩ := ldC_flat d
  obtain ⟨f2, e2⟩ := mvC_flat m0
  split at hy
  · rename_i z; cases hy; exact ⟨by omega, rbC_Lt l 0 fun i hi => by omega⟩
  split at hy
  · have hne : arP l (j - 7) ≠ [] := fun e => by rw [rbF_no e] at hy; cases hy
    rw [rbF_yes hne] at hy; cases hy
    exact ⟨by omega, Lt.flat (ptC_flat _).choose_spec⟩
  split at hy
  · rename_i z; cases hy; exact ⟨by omega, Lt.flat e2⟩
  split at hy
  · rename_i z; cases hy; exact ⟨by omega, Lt.flat e1⟩
  · simp only [alook] at hy
    split at hy
    · cases hy; exact ⟨by omega, Lt.flat (j := 16) rfl⟩
    split at hy
    · cases hy; exact ⟨by omega, Lt.flat (j := 8) rfl⟩
    split at hy
    · cases hy; exact ⟨by omega, Lt.flat (j := 8) rfl⟩
    · cases hy
theorem nj_g {φ : Nat → Bool} {κ : Nat → Nat} {l : List Ar} {d : List Ld} {m0 : List Mv} {j : Nat} (hj : j < 3) : alook (NjM φ κ l d m0) j = alook WG j := by
  rw [nj_look, if_neg (by omega), if_neg (by omega), if_neg (by omega), if_neg (by omega)]
theorem NjAt.phi {A : AW} {ea ed e0 : Bool} {p q r0 : Nat} {φ : Nat → Bool} {ν κ : Nat → Nat} {l : List Ar} {d : List Ld} {m0 : List Mv} (h : NjAt A ea ed e0 p q r0 φ ν κ l d m0) : ∀ (i : Nat) (a : Ar), l[i]? = some a → a.ps ≠ [] → φ i = true := fun i a ha hne => by
  rcases h.ps i a ha with ⟨q, _⟩ | ⟨_, q, _⟩
  · exact absurd q hne
  · exact q
end Go.M
namespace Go.M
open Go.Proofs Go.RowKit
set_option maxRecDepth 16000
set_option maxHeartbeats 64000000
theorem famO_rng {F : Nat → Option AObj} {nx m j : Nat} {y : AObj} (h : alook (famO F nx m ++ []) j = some y) : nx ≤ j ∧ j < nx + m := by
  rw [famO_look F nx [] m j (fun _ _ => rfl)] at h
  split at h
  · assumption
  · cases h
theorem Lt.app2 {k : Nat} : ∀ {vs us : List Value}, Lt k vs → Lt k us → Lt k (vs ++ us) := fun {vs us} h1 h2 β S v' hv => by
  have e : v' = v'.take vs.length ++ v'.drop vs.length := (List.take_append_drop _ _).symm
  have g1 : VRs β S vs (v'.take vs.length) := by
    have := hv.take vs.length
    rwa [List.take_left] at this
  have g2 : VRs β S us (v'.drop vs.length) := by
    have := hv.drop vs.length
    rwa [List.drop_left] at this
  rw [e]
  exact (h1 β S _ g1).append (h2 β S _ g2)
theorem app_bel {k j : Nat} {B X : LM} (h : Bel k B) (hj : k ≤ j) : alook (B ++ X) j = alook X j := by
  rw [alook_app, h j hj]; rfl
theorem subm_or {X F L : LM} (h1 : ∀ j y, alook X j = some y → alook L j = some y) (h2 : ∀ j y, alook F j = some y → alook L j = some y) : subm (X ++ F) L := fun j y hy => by
  rw [alook_app] at hy
  cases e : alook X j with
  | some z => rw [e] at hy; cases hy; exact h1 j _ e
  | none => rw [e] at hy; exact h2 j y hy
theorem blC_Lt {k : Nat} {r : Rl} {μ : Nat → Mo} {ν : Nat → Nat} : ∀ (i : Nat), (∀ j, j < i → ν j < k) → Lt k (blC r μ ν i)
  | 0, _ => .nil
  | i + 1, h => by
    rw [blC]
    refine Lt.app2 (blC_Lt i fun j hj => h j (by omega)) ?_
    exact Lt.slV (Nat.ble_eq_true_of_le (h i (by omega)))
/-- The bodies of all loops of a code, in their order. -/
def lps : Code → List Code
  | .seq x y => lps x ++ lps y
  | .block _ c => lps c
  | .loop c => c :: lps c
  | .cond _ x y => lps x ++ lps y
  | .scope c => lps c
  | _ => []
abbrev FamL (r : Rl) (F1 : Nat → Mo) : LM := famO (bkF 39 r F1 24) 39 25 ++ []
abbrev M1L (X : LM) (NC : List Value) (r : Rl) (F1 F2 : Nat → Mo) : LM := (64, .cells (intC (stN r F2) 24) 3) :: (36, .cells (intC (stN r F1) 24) 3) :: (32, .cells (moC F1 24) 91) :: (31, .cells NC 72) :: (30, .cells r.vs 65) :: (X ++ FamL r F1)
abbrev E1L (ea : Bool) (n cl i : Nat) : AEnv := [(0, .slice (slA ea 6) n cl), (4, .pointer (some ⟨30, 0, none⟩)), (5, .pointer (some ⟨31, 0, none⟩)), (7, .slice (some ⟨32, 0, none⟩) 24 24), (11, .slice (some ⟨36, 0, none⟩) 24 24), (13, .slice (some ⟨39, 0, none⟩) 24 24), (15, .slice (some ⟨64, 0, none⟩) 24 24), (162, .slice (some ⟨32, 0, none⟩) 24 24), (163, .int .i64 (24 : Nat)), (164, .int .i64 i)]
abbrev I1L (X : LM) (NC : List Value) (r : Rl) (F1 F2 : Nat → Mo) (ea : Bool) (n cl : Nat) : Nat → AEnv → LM → Nat → Prop := fun q a L nx => ∃ i : Nat, i ≤ 24 ∧ q = 24 - i ∧ 65 ≤ nx ∧ asub (E1L ea n cl i) a ∧ subm (M1L X NC r F1 F2) L
theorem famL_und {r : Rl} {F1 : Nat → Mo} : ∀ j y, alook (FamL r F1) j = some y → j < 65 ∧ ObjLt 65 y := fun j y h => by
  have hj := famO_rng h
  rw [famO_look _ 39 [] 25 j (fun _ _ => rfl), if_pos hj] at h
  refine ⟨by omega, ?_⟩
  generalize j - 39 = k at h
  cases k with
  | zero => cases h; exact blC_Lt 24 fun k hk => by omega
  | succ k =>
    have h : wdF r F1 k = some y := h
    cases hb : bkB r F1 k with
    | false => rw [wdF_f hb] at h; cases h
    | true => rw [wdF_t hb] at h; cases h; exact Lt.flat (strC_flat _).choose_spec
theorem xfam_rng {X : LM} {r : Rl} {F1 : Nat → Mo} (hX : ∀ k, 30 ≤ k → Und k X) {j : Nat} {y : AObj} (h : alook (X ++ FamL r F1) j = some y) : j < 30 ∨ (39 ≤ j ∧ j < 64) := by
  rw [alook_app] at h
  cases e : alook X j with
  | some z => exact .inl (hX 30 (Nat.le_refl _) j z e).1
  | none => rw [e] at h; have := famO_rng (by simpa using h); omega
theorem m1_und {X : LM} {NC : List Value} {r : Rl} {F1 F2 : Nat → Mo} (hX : ∀ k, 30 ≤ k → Und k X) (hNC : Lt 65 NC) : Und 65 (M1L X NC r F1 F2) :=
  und_cons rfl (Lt.flat intC_flat.choose_spec) (und_cons rfl (Lt.flat intC_flat.choose_spec) (und_cons rfl (Lt.flat (mosC_flat _).choose_spec) (und_cons rfl hNC (und_cons rfl (.flat (j := 16) rfl) (fun j y h => by
    rw [alook_app] at h
    cases e : alook X j with
    | some z => rw [e] at h; cases h; exact hX 65 (by decide) j _ e
    | none => rw [e] at h; exact famL_und j y (by simpa using h))))))
theorem m1_39 {X : LM} {r : Rl} {F1 : Nat → Mo} (hX : ∀ k, 30 ≤ k → Und k X) : alook (X ++ FamL r F1) 39 = some (.cells (blC r F1 (fun j => 39 + 1 + j) 24) 93) := by
  rw [app_bel (ltU (hX 39 (by decide))) (Nat.le_refl _), famO_look _ 39 [] 25 39 (fun _ _ => rfl)]; rfl
theorem m1_40 {X : LM} {r : Rl} {F1 : Nat → Mo} (hX : ∀ k, 30 ≤ k → Und k X) : ∀ j, j < 24 → bkB r F1 j = true → alook (X ++ FamL r F1) (39 + 1 + j) = some (wdO (F1 j)) := fun j hj hb => by
  rw [app_bel (ltU (hX 39 (by decide))) (by omega), famO_look _ 39 [] 25 _ (fun _ _ => rfl), if_pos ⟨by omega, by omega⟩, show 39 + 1 + j - 39 = j + 1 by omega]
  exact wdF_t hb
end Go.M
