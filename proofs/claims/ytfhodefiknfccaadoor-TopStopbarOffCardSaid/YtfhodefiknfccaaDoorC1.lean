/- Functions of the given program, walked (no condition beyond what each theorem says). -/
import Derived.Test.YtfhodefiknfccaaDoorE3
import Derived.Test.YtfhodefiknfccaaDoorA6
set_option linter.unusedVariables false
set_option linter.unusedSimpArgs false
namespace Go.M
/-- The cells of readings. -/
def rdC (rs : List (Int × Bool)) : List Value := rs.flatMap fun x => [.int .i64 x.1, .bool x.2]
theorem rdC_cons (x : Int × Bool) (rs : List (Int × Bool)) : rdC (x :: rs) = .int .i64 x.1 :: .bool x.2 :: rdC rs := by simp [rdC]
theorem rdC_len : ∀ rs : List (Int × Bool), (rdC rs).length = rs.length * 2
  | [] => rfl
  | x :: rs => by rw [rdC_cons]; simp [rdC_len rs]; omega
theorem rdC_at : ∀ (rs : List (Int × Bool)) (i : Nat) (x : Int × Bool), rs[i]? = some x → (rdC rs)[i * 2]? = some (.int .i64 x.1) ∧ (rdC rs)[i * 2 + 1]? = some (.bool x.2)
  | [], i, x, h => by simp at h
  | y :: rs, 0, x, h => by
    simp at h; subst h
    rw [rdC_cons]
    exact ⟨rfl, rfl⟩
  | y :: rs, i + 1, x, h => by
    have := rdC_at rs i x (by simpa using h)
    rw [rdC_cons, show (i + 1) * 2 = i * 2 + 1 + 1 by omega]
    simpa using this
theorem rdC_flat : ∀ rs : List (Int × Bool), ∃ j, noAddrs j (rdC rs) = true
  | [] => ⟨1, rfl⟩
  | x :: rs => by
    obtain ⟨j, h⟩ := rdC_flat rs
    rw [rdC_cons]
    exact ⟨j + 2, by simpa [noAddrs] using h⟩
theorem rdC_one : ∀ rs : List (Int × Bool), (rdC rs).all (·.oneCell') = true
  | [] => rfl
  | x :: rs => by rw [rdC_cons, List.all_cons, List.all_cons, rdC_one rs]; rfl
/-- Eight counts. -/
abbrev ctV (c : Nat → Int) : List Value := [.int .i64 (c 0), .int .i64 (c 1), .int .i64 (c 2), .int .i64 (c 3), .int .i64 (c 4), .int .i64 (c 5), .int .i64 (c 6), .int .i64 (c 7)]
def goodB (y : Sen) (x : Int × Bool) : Bool := !x.2 && decide (y.lo ≤ x.1 ∧ x.1 ≤ y.hi)
def cntI (y : Sen) (x : Int × Bool) (c : Int) : Int := bif goodB y x then 0 else min y.d (c + 1)
def newC (l : List Sen) (rs : List (Int × Bool)) (c : Nat → Int) (j : Nat) : Int := match l[j]?, rs[j]? with
  | some y, some x => cntI y x (c j)
  | _, _ => c j
def alB (l : List Sen) (rs : List (Int × Bool)) (c : Nat → Int) (j : Nat) : Bool := match l[j]?, rs[j]? with
  | some y, some x => !goodB y x && decide (min y.d (c j + 1) = y.d)
  | _, _ => false
/-- The sensors in alarm among the first 'i'. -/
def als (l : List Sen) (rs : List (Int × Bool)) (c : Nat → Int) (i : Nat) : List Nat := (List.range i).filter (alB l rs c)
/-- The counts of which the first 'i' are new. -/
def midC (l : List Sen) (rs : List (Int × Bool)) (c : Nat → Int) (i j : Nat) : Int := if j < i then newC l rs c j else c j
theorem als_succ {l : List Sen} {rs : List (Int × Bool)} {c : Nat → Int} {i : Nat} : als l rs c (i + 1) = if alB l rs c i = true then als l rs c i ++ [i] else als l rs c i := by
  unfold als
  rw [List.range_succ, List.filter_append]
  by_cases h : alB l rs c i = true <;> simp [h]
theorem als_len {l : List Sen} {rs : List (Int × Bool)} {c : Nat → Int} {i : Nat} : (als l rs c i).length ≤ i := by
  unfold als
  have := List.length_filter_le (alB l rs c) (List.range i)
  simpa using this
theorem midC_succ {l : List Sen} {rs : List (Int × Bool)} {c : Nat → Int} {i j : Nat} : midC l rs c (i + 1) j = if j = i then newC l rs c i else midC l rs c i j := by
  unfold midC
  by_cases h : j = i
  · subst h; rw [if_pos (by omega), if_pos rfl]
  · rw [if_neg h]
    by_cases q : j < i
    · rw [if_pos (by omega), if_pos q]
    · rw [if_neg (by omega), if_neg q]
/-- The cells of a state that is being counted, with the slice of alarms behind it. -/
abbrev outC (md lf : Int) (c : Nat → Int) (al : Value) : List Value := .int .i64 md :: .int .i64 lf :: (ctV c ++ [al])
theorem outC_set {md lf x : Int} {c c' : Nat → Int} {al : Value} {i : Nat} (hi : i < 8) (h1 : c' i = x) (h2 : ∀ j, j ≠ i → c' j = c j) : splice (outC md lf c al) (2 + i) [.int .i64 x] = outC md lf c' al := by
  have e : ∀ j, j ≠ i → c j = c' j := fun j hj => (h2 j hj).symm
  match i, hi with
  | 0, _ => simp [splice, outC, ctV, h1, e]
  | 1, _ => simp [splice, outC, ctV, h1, e]
  | 2, _ => simp [splice, outC, ctV, h1, e]
  | 3, _ => simp [splice, outC, ctV, h1, e]
  | 4, _ => simp [splice, outC, ctV, h1, e]
  | 5, _ => simp [splice, outC, ctV, h1, e]
  | 6, _ => simp [splice, outC, ctV, h1, e]
  | 7, _ => simp [splice, outC, ctV, h1, e]
theorem outC_at {md lf : Int} {c : Nat → Int} {al : Value} {i : Nat} (hi : i < 8) : (outC md lf c al)[2 + i]? = some (.int .i64 (c i)) := by
  match i, hi with
  | 0, _ => rfl
  | 1, _ => rfl
  | 2, _ => rfl
  | 3, _ => rfl
  | 4, _ => rfl
  | 5, _ => rfl
  | 6, _ => rfl
  | 7, _ => rfl
/-- The cells of a state. -/
abbrev stV (md lf : Int) (c : Nat → Int) : List Value := .int .i64 md :: .int .i64 lf :: ctV c
theorem stV_at {md lf : Int} {c : Nat → Int} {i : Nat} (hi : i < 8) : (stV md lf c)[2 + i]? = some (.int .i64 (c i)) := by
  match i, hi with
  | 0, _ => rfl
  | 1, _ => rfl
  | 2, _ => rfl
  | 3, _ => rfl
  | 4, _ => rfl
  | 5, _ => rfl
  | 6, _ => rfl
  | 7, _ => rfl
def farB (k : ByteArray) : Bool := k.data.toList == kFar.data.toList
/-- Do the sensors with these indices vote? -/
def voteB (l : List Sen) (need : Int) (al : List Nat) : Bool := decide (need ≤ (al.length : Int)) && al.any fun i => match l[i]? with
  | some y => !farB y.k
  | none => false
theorem vote_nil {l : List Sen} {need : Int} (h : 1 ≤ need) : voteB l need [] = false := by
  unfold voteB; simp
end Go.M
namespace Go.M
open Go.Proofs Go.RowKit
set_option maxRecDepth 8000
set_option maxHeartbeats 4000000
def nearB (l : List Sen) (i : Nat) : Bool := match l[i]? with
  | some y => !farB y.k
  | none => false
theorem nearB_at {l : List Sen} {i : Nat} {y : Sen} (h : l[i]? = some y) : nearB l i = !farB y.k := by unfold nearB; rw [h]
abbrev natC (al : List Nat) : List Value := al.map fun k : Nat => Value.int .i64 (k : Int)
theorem natC_flat : ∀ al : List Nat, ∃ j, noAddrs j (natC al) = true
  | [] => ⟨1, rfl⟩
  | x :: al => by obtain ⟨j, h⟩ := natC_flat al; exact ⟨j + 1, by simpa [noAddrs] using h⟩
theorem d_voteC149 {A : AW} {b p k : Nat} (l : List Sen) (need sil : Int) (i : Nat) (y : Sen) (hi : l[i]? = some y) (hl : l.length ≤ 1000) (hb : A.rd b 0 3 = some [.slice (some ⟨p, 0, none⟩) l.length k, .int .i64 need, .int .i64 sil]) (hp : A.rd p 0 (senC l).length = some (senC l)) :
    AC Tryd.prog 149 [.int .i64 (i : Int), .pointer (some ⟨b, 0, none⟩)] A (isR (.bool (nearB l i)) A) := by
  obtain ⟨fj, hflat⟩ := senC_flat l
  have hlen := senC_len l
  have hil := (List.getElem?_eq_some_iff.1 hi).1
  rw [nearB_at hi]
  refine AC.isX ((SmallX.nil.cons (k := 0) (b := p) (f := 0) (o := .cells (senC l) 128) (.flat hp hflat)).cons (b := b) (f := 0) (o := .cells [.slice (some ⟨0, 0, none⟩) l.length k, .int .i64 need, .int .i64 sil] 53) ⟨_, hb, .sl rfl rfl (.flat (k := 8) rfl (.flat (k := 8) rfl .nil))⟩)
    (args := [.int .i64 (i : Int), .pointer (some ⟨1, 0, none⟩)]) ?_ ⟨8, rfl⟩ (.flat (k := 8) rfl (.ptr rfl rfl .nil))
  refine AC.go Tryd.func149 rfl rfl ?_
  clear hb hp
  obtain ⟨_, h1, _⟩ := senC_at l i y hi
  have g1 : (senC l)[0 + (i : Int).toNat * 5 + 1]? = some (.string y.k) := by simpa using h1
  repeat' (first
  | refine GL.sf rfl rfl rfl rfl ?_
  | refine GL.sv rfl rfl rfl rfl ?_
  | refine GL.done ?_
  | refine GP.thenN ?_
  | refine GT.seq ?_
  | refine GT.region ?_
  | refine GL.v rfl rfl rfl (by first | exact GO.indexS (s := 5) rfl rfl rfl rfl rfl (by omega) | exact GO.loadC rfl rfl rfl rfl rfl g1) ?_
  | refine GT.ret ?_
  | refine GP.endR1 rfl ?_)
  rfl
theorem d_indexG147 {A : AW} {b p k x c : Nat} (l : List Sen) (need sil : Int) (al : List Nat) (hal : ∀ i ∈ al, ∃ y, l[i]? = some y) (hl : l.length ≤ 1000) (hll : al.length ≤ 1000) (hb : A.rd b 0 3 = some [.slice (some ⟨p, 0, none⟩) l.length k, .int .i64 need, .int .i64 sil]) (hp : A.rd p 0 (senC l).length = some (senC l)) (hx : A.rd x 0 (natC al).length = some (natC al)) :
    AC Tryd.prog 147 [.slice (some ⟨x, 0, none⟩) al.length c, .func (.func 149) #[] #[.pointer (some ⟨b, 0, none⟩)]] A (fun v A1 => (∃ k : Int, v = .int .i64 k ∧ decide (0 ≤ k) = al.any (nearB l)) ∧ A1 = A) := by
  obtain ⟨fj, hflat⟩ := senC_flat l
  obtain ⟨fa, hfa⟩ := natC_flat al
  refine AC.pureX (R := fun v => ∃ k : Int, v = .int .i64 k ∧ decide (0 ≤ k) = al.any (nearB l)) (((SmallX.nil.cons (k := 0) (b := p) (f := 0) (o := .cells (senC l) 128) (.flat hp hflat)).cons (b := b) (f := 0) (o := .cells [.slice (some ⟨0, 0, none⟩) l.length k, .int .i64 need, .int .i64 sil] 53) ⟨_, hb, .sl rfl rfl (.flat (k := 8) rfl (.flat (k := 8) rfl .nil))⟩).cons (b := x) (f := 0) (o := .cells (natC al) 3) (.flat hx hfa))
    (args := [.slice (some ⟨2, 0, none⟩) al.length c, .func (.func 149) #[] #[.pointer (some ⟨1, 0, none⟩)]]) (AC.mono (R := fun v _ => ∃ k : Int, v = .int .i64 k ∧ decide (0 ≤ k) = al.any (nearB l)) ?_ (fun v _ ⟨k, e, h⟩ => ⟨⟨k, e, h⟩, by subst e; exact ⟨8, rfl⟩⟩)) (.sl rfl rfl (.func (by intro l h; cases h) .nil (.ptr (f := 0) (g := 0) rfl rfl .nil) .nil))
  refine AC.go Tryd.func147 rfl rfl ?_
  clear hb hp hx
  repeat' (first
  | refine GL.sf rfl rfl rfl rfl ?_
  | refine GL.sv rfl rfl rfl rfl ?_
  | refine GL.done ?_
  | refine GP.thenN ?_
  | refine GT.seq ?_
  | refine GT.region ?_
  | refine GT.block ?_)
  refine GT.loop (fun q a L nx => ∃ i : Nat, i ≤ al.length ∧ q = al.length - i ∧ (∀ j k, j < i → al[j]? = some k → nearB l k = false) ∧ asub [(0, .slice (some ⟨2, 0, none⟩) al.length c), (1, .func (.func 149) #[] #[.pointer (some ⟨1, 0, none⟩)]), (7, .int .i64 al.length), (8, .int .i64 i)] a ∧
      L = [(2, .cells (natC al) 3), (1, .cells [.slice (some ⟨0, 0, none⟩) l.length k, .int .i64 need, .int .i64 sil] 53), (0, .cells (senC l) 128)] ∧ nx = 3) al.length
    ⟨0, by omega, by omega, by intro j k h; omega, asub_cons rfl (asub_cons rfl (asub_cons rfl (asub_cons rfl asub_nil))), rfl, rfl⟩ ?_
  rintro q a L nx ⟨i, hi, rfl, hz, hs, rfl, rfl⟩
  refine GT.keep hs ?_
  clear hs
  rcases Nat.lt_or_ge i al.length with hlt | hge
  · obtain ⟨w, hw⟩ : ∃ w, al[i]? = some w := ⟨_, List.getElem?_eq_getElem hlt⟩
    obtain ⟨y, hy⟩ := hal w (List.mem_of_getElem? hw)
    have hx' : (natC al)[0 + (i : Int).toNat * 1]? = some (.int .i64 (w : Int)) := by simp [hw]
    cases hn : nearB l w with
    | true =>
      have k149 := fun {A : AW} {b p : Nat} hb hp => d_voteC149 (A := A) (b := b) (p := p) (k := k) l need sil w y hy hl hb hp
      rw [hn] at k149
      repeat' (first
      | refine GL.sf rfl rfl rfl rfl ?_
      | refine GL.done ?_
      | refine GP.thenN ?_
      | refine GT.seq ?_
      | refine GT.region ?_
      | refine GL.v rfl rfl rfl (by first | exact GO.indexS (s := 1) rfl rfl rfl rfl rfl (by omega) | exact GO.loadC rfl rfl rfl rfl rfl hx' | exact GO.callV rfl rfl rfl Tryd.func149 rfl rfl rfl (k149 rfl (rd_self rfl))) ?_
      | refine GT.skip ?_
      | refine GT.block ?_
      | refine GT.ret ?_
      | refine GP.thenR ?_
      | refine GP.inR ?_
      | refine GP.invR ?_
      | refine GT.condT rfl ?_
      | (refine GT.condD rfl (fun h => ?_) (fun h => ?_) <;> try (exfalso; omega))
      | refine GP.endR1 rfl ?_)
      refine ⟨_, rfl, ?_⟩
      rw [List.any_eq_true.2 ⟨w, List.mem_of_getElem? hw, hn⟩, decide_eq_true (by omega)]
    | false =>
      have k149 := fun {A : AW} {b p : Nat} hb hp => d_voteC149 (A := A) (b := b) (p := p) (k := k) l need sil w y hy hl hb hp
      rw [hn] at k149
      repeat' (first
      | refine GL.sf rfl rfl rfl rfl ?_
      | refine GL.done ?_
      | refine GP.thenN ?_
      | refine GT.seq ?_
      | refine GT.region ?_
      | refine GL.v rfl rfl rfl (by first | exact GO.indexS (s := 1) rfl rfl rfl rfl rfl (by omega) | exact GO.loadC rfl rfl rfl rfl rfl hx' | exact GO.callV rfl rfl rfl Tryd.func149 rfl rfl rfl (k149 rfl (rd_self rfl)) | exact GO.add rfl rfl rfl (by omega)) ?_
      | refine GT.skip ?_
      | refine GT.block ?_
      | refine GP.inN ?_
      | refine GT.condF rfl ?_
      | (refine GT.condD rfl (fun h => ?_) (fun h => ?_) <;> try (exfalso; omega)))
      exact GP.invN (al.length - (i + 1)) (by omega) ⟨i + 1, by omega, rfl, (fun j k' hj hk => by
        rcases Nat.lt_or_ge j i with q | q
        · exact hz j k' q hk
        · obtain rfl : j = i := by omega
          rw [hw] at hk; cases hk; exact hn), asub_cons rfl (asub_cons rfl (asub_cons rfl (asub_cons rfl asub_nil))), rfl, rfl⟩
  ·
    repeat' (first
    | refine GL.sf rfl rfl rfl rfl ?_
    | refine GL.done ?_
    | refine GP.thenN ?_
    | refine GT.seq ?_
    | refine GT.region ?_
    | refine GT.ret ?_
    | refine GT.exit ?_
    | refine GP.thenE ?_
    | refine GP.hit ?_
    | refine GP.invE ?_
    | (refine GT.condD rfl (fun h => ?_) (fun h => ?_) <;> try (exfalso; omega))
    | refine GP.endR1 rfl ?_)
    refine ⟨-1, rfl, ?_⟩
    have : al.any (nearB l) = false := by
      rw [List.any_eq_false]
      intro z hz'
      obtain ⟨j, hj⟩ := List.getElem?_of_mem hz'
      rw [hz j z (by have := (List.getElem?_eq_some_iff.1 hj).1; omega) hj]
      decide
    rw [this]; rfl
theorem d_contains148 {A : AW} {b p k x c : Nat} (l : List Sen) (need sil : Int) (al : List Nat) (hal : ∀ i ∈ al, ∃ y, l[i]? = some y) (hl : l.length ≤ 1000) (hll : al.length ≤ 1000) (hb : A.rd b 0 3 = some [.slice (some ⟨p, 0, none⟩) l.length k, .int .i64 need, .int .i64 sil]) (hp : A.rd p 0 (senC l).length = some (senC l)) (hx : A.rd x 0 (natC al).length = some (natC al)) :
    AC Tryd.prog 148 [.slice (some ⟨x, 0, none⟩) al.length c, .func (.func 149) #[] #[.pointer (some ⟨b, 0, none⟩)]] A (isR (.bool (al.any (nearB l))) A) := by
  obtain ⟨fj, hflat⟩ := senC_flat l
  obtain ⟨fa, hfa⟩ := natC_flat al
  refine AC.isX (((SmallX.nil.cons (k := 0) (b := p) (f := 0) (o := .cells (senC l) 128) (.flat hp hflat)).cons (b := b) (f := 0) (o := .cells [.slice (some ⟨0, 0, none⟩) l.length k, .int .i64 need, .int .i64 sil] 53) ⟨_, hb, .sl rfl rfl (.flat (k := 8) rfl (.flat (k := 8) rfl .nil))⟩).cons (b := x) (f := 0) (o := .cells (natC al) 3) (.flat hx hfa))
    (args := [.slice (some ⟨2, 0, none⟩) al.length c, .func (.func 149) #[] #[.pointer (some ⟨1, 0, none⟩)]]) ?_ ⟨8, rfl⟩ (.sl rfl rfl (.func (by intro l h; cases h) .nil (.ptr (f := 0) (g := 0) rfl rfl .nil) .nil))
  refine AC.go Tryd.func148 rfl rfl ?_
  clear hb hp hx
  repeat' (first
  | (refine GL.any rfl rfl rfl (GO.call rfl rfl Tryd.func147 rfl rfl rfl (d_indexG147 l need sil al hal hl hll rfl (rd_self rfl) (rd_self rfl))) ?_; rintro v A1 ⟨⟨e, rfl, he⟩, rfl⟩; refine ⟨_, _, rfl, ?_⟩)
  | refine GL.sf rfl rfl rfl rfl ?_
  | refine GL.done ?_
  | refine GP.thenN ?_
  | refine GT.seq ?_
  | refine GT.region ?_
  | refine GT.ret ?_
  | refine GP.endR1 rfl ?_)
  rw [he]
theorem d_voteG121 {A : AW} {p x k c : Nat} (l : List Sen) (need sil : Int) (al : List Nat) (hal : ∀ i ∈ al, ∃ y, l[i]? = some y) (hl : l.length ≤ 1000) (hll : al.length ≤ 1000) (hp : A.rd p 0 (senC l).length = some (senC l)) (hx : A.rd x 0 (natC al).length = some (natC al)) :
    AC Tryd.prog 121 [.agg #[.slice (some ⟨p, 0, none⟩) l.length k, .int .i64 need, .int .i64 sil], .slice (some ⟨x, 0, none⟩) al.length c] A (isR (.bool (decide (need ≤ (al.length : Int)) && al.any (nearB l))) A) := by
  obtain ⟨fj, hflat⟩ := senC_flat l
  obtain ⟨fa, hfa⟩ := natC_flat al
  refine AC.isX ((SmallX.nil.cons (k := 0) (b := p) (f := 0) (o := .cells (senC l) 128) (.flat hp hflat)).cons (b := x) (f := 0) (o := .cells (natC al) 3) (.flat hx hfa)) (args := [.agg #[.slice (some ⟨0, 0, none⟩) l.length k, .int .i64 need, .int .i64 sil], .slice (some ⟨1, 0, none⟩) al.length c]) ?_ ⟨8, rfl⟩ (.agg (.sl rfl rfl (.flat (k := 8) rfl (.flat (k := 8) rfl .nil))) (.sl rfl rfl .nil))
  refine AC.go Tryd.func121 rfl rfl ?_
  clear hp hx
  repeat' (first
  | refine GL.sf rfl rfl rfl rfl ?_
  | refine GL.sv rfl rfl rfl rfl ?_
  | refine GL.done ?_
  | refine GP.thenN ?_
  | refine GT.seq ?_
  | refine GT.region ?_
  | refine GL.unguardG rfl rfl rfl ?_
  | refine GL.skipG rfl rfl rfl rfl rfl ?_
  | refine GL.v rfl rfl rfl (by first | exact GO.call rfl rfl Tryd.func148 rfl rfl rfl (d_contains148 l need sil al hal hl hll rfl (rd_self rfl) (rd_self rfl)) | exact GO.mkfn rfl (fun _ h => by cases h) rfl rfl) ?_
  | refine GT.ret ?_
  | (refine GL.forkDG rfl rfl rfl (fun h => ?_) (fun h => ?_) <;> try (exfalso; omega))
  | refine GP.endR1 rfl ?_)
  · rw [decide_eq_true h]; rfl
  · rw [decide_eq_false h]; rfl
end Go.M
