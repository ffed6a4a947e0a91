/- Functions of the given program, walked (no condition beyond what each theorem says). -/
import Derived.Test.YtfhodefiknfccaaDoorC1
import Derived.Test.YtfhodefiknfccaaDoorA6
import Derived.Test.YtfhodefiknfccaaDoorC3
set_option linter.unusedVariables false
set_option linter.unusedSimpArgs false
namespace Go.M
open Go.Proofs Go.RowKit
set_option maxRecDepth 8000
set_option maxHeartbeats 4000000
abbrev prF (fn b1 b2 : Nat) : Value := .func (.func fn) #[] #[.pointer (some ⟨b1, 0, none⟩), .pointer (some ⟨b2, 0, none⟩)]
/-- A predicate of indices, called in a memory. -/
def Prd (fn b1 b2 : Nat) (L : LM) (nx ro gl : Nat) (al : List Nat) (pr : Nat → Bool) : Prop := ∀ i ∈ al, AC Tryd.prog fn [.int .i64 (i : Int), .pointer (some ⟨b1, 0, none⟩), .pointer (some ⟨b2, 0, none⟩)] (AW.of L nx ro gl) (isR (.bool (pr i)) (AW.of L nx ro gl))
theorem d_indexP147 {L : LM} {nx ro gl x c fn b1 b2 : Nat} {F : Func} {bd : Code} (hF : Tryd.prog.funcs[fn]? = some F) (hb : F.body = some bd) (hn : (F.name == "runtime.NumGoroutine") = false) (al : List Nat) (pr : Nat → Bool) (hll : al.length ≤ 1000) (hx : alook L x = some (.cells (natC al) 3)) (hpr : Prd fn b1 b2 L nx ro gl al pr) :
    AC Tryd.prog 147 [.slice (some ⟨x, 0, none⟩) al.length c, prF fn b1 b2] (AW.of L nx ro gl)
      (fun v A1 => A1 = AW.of L nx ro gl ∧ ((v = .int .i64 (-1) ∧ ∀ k ∈ al, pr k = false) ∨ ∃ i k : Nat, al[i]? = some k ∧ pr k = true ∧ (∀ j k', j < i → al[j]? = some k' → pr k' = false) ∧ v = .int .i64 (i : Int))) := by
  refine AC.go Tryd.func147 rfl rfl ?_
  repeat' (first
  | refine GL.sf rfl rfl rfl rfl ?_
  | refine GL.sv rfl rfl rfl rfl ?_
  | refine GL.done ?_
  | refine GP.thenN ?_
  | refine GT.seq ?_
  | refine GT.region ?_
  | refine GT.block ?_)
  refine GT.loop (fun q a L1 nx1 => ∃ i : Nat, i ≤ al.length ∧ q = al.length - i ∧ (∀ j k', j < i → al[j]? = some k' → pr k' = false) ∧ asub [(0, .slice (some ⟨x, 0, none⟩) al.length c), (1, prF fn b1 b2), (7, .int .i64 al.length), (8, .int .i64 i)] a ∧ L1 = L ∧ nx1 = nx) al.length
    ⟨0, by omega, by omega, by intro j k h; omega, asub_cons rfl (asub_cons rfl (asub_cons rfl (asub_cons rfl asub_nil))), rfl, rfl⟩ ?_
  rintro q a L1 nx1 ⟨i, hi, rfl, hz, hs, rfl, rfl⟩
  refine GT.keep hs ?_
  clear hs
  rcases Nat.lt_or_ge i al.length with hlt | hge
  · obtain ⟨w, hw⟩ : ∃ w, al[i]? = some w := ⟨_, List.getElem?_eq_getElem hlt⟩
    have hx' : (natC al)[0 + (i : Int).toNat * 1]? = some (.int .i64 (w : Int)) := by simp [hw]
    have k149 := hpr w (List.mem_of_getElem? hw)
    cases hp : pr w with
    | true =>
      rw [hp] at k149
      repeat' (first
      | refine GL.sf rfl rfl rfl rfl ?_
      | refine GL.done ?_
      | refine GP.thenN ?_
      | refine GT.seq ?_
      | refine GT.region ?_
      | refine GL.v rfl rfl rfl (by first | exact GO.indexS (s := 1) rfl rfl rfl rfl rfl (by omega) | exact GO.loadC rfl rfl rfl rfl hx hx' | exact GO.callV rfl rfl rfl hF hb hn rfl k149) ?_
      | refine GT.skip ?_
      | refine GT.block ?_
      | refine GT.ret ?_
      | refine GP.thenR ?_
      | refine GP.inR ?_
      | refine GP.invR ?_
      | refine GT.condT rfl ?_
      | (refine GT.condD rfl (fun h => ?_) (fun h => ?_) <;> try (exfalso; omega))
      | refine GP.endR1 rfl ?_)
      exact ⟨rfl, .inr ⟨i, w, hw, hp, hz, rfl⟩⟩
    | false =>
      rw [hp] at k149
      repeat' (first
      | refine GL.sf rfl rfl rfl rfl ?_
      | refine GL.done ?_
      | refine GP.thenN ?_
      | refine GT.seq ?_
      | refine GT.region ?_
      | refine GL.v rfl rfl rfl (by first | exact GO.indexS (s := 1) rfl rfl rfl rfl rfl (by omega) | exact GO.loadC rfl rfl rfl rfl hx hx' | exact GO.callV rfl rfl rfl hF hb hn rfl k149 | exact GO.add rfl rfl rfl (by omega)) ?_
      | refine GT.skip ?_
      | refine GT.block ?_
      | refine GP.inN ?_
      | refine GT.condF rfl ?_
      | (refine GT.condD rfl (fun h => ?_) (fun h => ?_) <;> try (exfalso; omega)))
      exact GP.invN (al.length - (i + 1)) (by omega) ⟨i + 1, by omega, rfl, (fun j k' hj hk => by
        rcases Nat.lt_or_ge j i with q | q
        · exact hz j k' q hk
        · obtain rfl : j = i := by omega
          rw [hw] at hk; cases hk; exact hp), asub_cons rfl (asub_cons rfl (asub_cons rfl (asub_cons rfl asub_nil))), rfl, rfl⟩
  ·
    repeat' (first
    | refine GL.sf rfl rfl rfl rfl ?_
    | refine GL.done ?_
    | refine GP.thenN ?_
    | refine GT.seq ?_
    | refine GT.region ?_
    | refine GT.ret ?_
    | refine GT.exit ?_
    | refine GP.thenE ?_
    | refine GP.hit ?_
    | refine GP.invE ?_
    | (refine GT.condD rfl (fun h => ?_) (fun h => ?_) <;> try (exfalso; omega))
    | refine GP.endR1 rfl ?_)
    refine ⟨rfl, .inl ⟨rfl, fun k hk => ?_⟩⟩
    obtain ⟨j, hj⟩ := List.getElem?_of_mem hk
    exact hz j k (by have := (List.getElem?_eq_some_iff.1 hj).1; omega) hj
/-- The object 'x' has these cells; the others are as they were. -/
def XL (L0 : LM) (x : Nat) (cells : List Value) (L : LM) : Prop := alook L x = some (.cells cells 3) ∧ ∀ j, j ≠ x → alook L j = alook L0 j
theorem XL.set {L0 L : LM} {x : Nat} {c c' : List Value} (h : XL L0 x c L) : XL L0 x c' (aset L x (.cells c' 3)) := by
  refine ⟨by rw [alook_aset, if_pos rfl], fun j hj => ?_⟩
  rw [alook_aset, if_neg hj]; exact h.2 j hj
/-- What is kept of the first 'r' numbers. -/
def kept (pr : Nat → Bool) (al : List Nat) (r : Nat) : List Nat := (al.take r).filter fun i => !pr i
theorem kept_succ {pr : Nat → Bool} {al : List Nat} {r k : Nat} (h : al[r]? = some k) : kept pr al (r + 1) = if pr k = true then kept pr al r else kept pr al r ++ [k] := by
  have : al.take (r + 1) = al.take r ++ [k] := by rw [List.take_add_one, h]; rfl
  unfold kept
  rw [this, List.filter_append]
  cases hp : pr k <;> simp [hp]
/-- The cells while numbers are deleted: the first are those that are kept, from the 'r'th on they are as they were. -/
structure Del (pr : Nat → Bool) (al : List Nat) (r : Nat) (cells : List Value) : Prop where
  len : cells.length = al.length
  kp : ∀ j k : Nat, (kept pr al r)[j]? = some k → cells[j]? = some (.int .i64 (k : Int))
  rest : ∀ j k : Nat, r ≤ j → al[j]? = some k → cells[j]? = some (.int .i64 (k : Int))
  int : ∀ v ∈ cells, ∃ i : Int, v = Value.int IntKind.i64 i
theorem kept_len {pr : Nat → Bool} {al : List Nat} {r : Nat} (h : r ≤ al.length) : (kept pr al r).length ≤ r := by
  unfold kept
  have := List.length_filter_le (fun i => !pr i) (al.take r)
  rw [List.length_take] at this
  omega
theorem splice_one {c : List Value} {w : Nat} {v : Value} (h : w < c.length) : splice c w [v] = c.set w v := by
  unfold splice
  rw [List.set_eq_take_append_cons_drop, if_pos h]
  simp
theorem Del.skip {pr : Nat → Bool} {al : List Nat} {r k : Nat} {cells : List Value} (h : Del pr al r cells) (hk : al[r]? = some k) (hp : pr k = true) : Del pr al (r + 1) cells :=
  ⟨h.len, by rw [kept_succ hk, if_pos hp]; exact h.kp, fun j k' hj => h.rest j k' (by omega), h.int⟩
theorem Del.keep {pr : Nat → Bool} {al : List Nat} {r k : Nat} {cells : List Value} (h : Del pr al r cells) (hk : al[r]? = some k) (hp : pr k = false) (hw : (kept pr al r).length < r) : Del pr al (r + 1) (splice cells (kept pr al r).length [.int .i64 (k : Int)]) := by
  have hr := (List.getElem?_eq_some_iff.1 hk).1
  have hl := h.len
  rw [splice_one (by omega)]
  refine ⟨by rw [List.length_set]; exact hl, fun j k' hj => ?_, fun j k' hj hk' => ?_, fun v hv => ?_⟩
  · rw [kept_succ hk, if_neg (by rw [hp]; decide)] at hj
    rcases Nat.lt_or_ge j (kept pr al r).length with q | q
    · rw [List.getElem?_set_ne (by omega)]
      rw [List.getElem?_append_left q] at hj
      exact h.kp j k' hj
    · rw [List.getElem?_append_right q] at hj
      have : j = (kept pr al r).length := by
        have := (List.getElem?_eq_some_iff.1 hj).1
        simp at this; omega
      subst this
      rw [List.getElem?_set_self (by omega)]
      simp at hj; rw [hj]
  · rw [List.getElem?_set_ne (by omega)]
    exact h.rest j k' (by omega) hk'
  · rcases List.mem_or_eq_of_mem_set hv with q | q
    · exact h.int v q
    · exact ⟨_, q⟩
theorem alook_self {L : LM} {x : Nat} {o : AObj} : alook (aset L x o) x = some o := by rw [alook_aset, if_pos rfl]
theorem kept_first {pr : Nat → Bool} {al : List Nat} {i k : Nat} (hk : al[i]? = some k) (hp : pr k = true) (hz : ∀ j k', j < i → al[j]? = some k' → pr k' = false) : kept pr al (i + 1) = al.take i := by
  rw [kept_succ hk, if_pos hp]
  unfold kept
  refine List.filter_eq_self.2 fun v hv => ?_
  obtain ⟨j, hj⟩ := List.getElem?_of_mem hv
  have hlt := (List.getElem?_eq_some_iff.1 hj).1
  rw [List.length_take] at hlt
  rw [List.getElem?_take_of_lt (by omega)] at hj
  rw [hz j v (by omega) hj]; rfl
theorem Del.first {pr : Nat → Bool} {al : List Nat} {i k : Nat} (hk : al[i]? = some k) (hp : pr k = true) (hz : ∀ j k', j < i → al[j]? = some k' → pr k' = false) : Del pr al (i + 1) (natC al) := by
  refine ⟨by simp, fun j k' hj => ?_, fun j k' _ hj => by simp [hj], fun v hv => ?_⟩
  · rw [kept_first hk hp hz] at hj
    have hlt := (List.getElem?_eq_some_iff.1 hj).1
    rw [List.length_take] at hlt
    rw [List.getElem?_take_of_lt (by omega)] at hj
    simp [hj]
  · obtain ⟨z, _, rfl⟩ := List.mem_map.1 hv; exact ⟨_, rfl⟩
theorem fit1 {w n : Nat} (h : w < n) : 0 + (w : Int).toNat * 1 + 1 ≤ n := by omega
/-- Numbers that are kept, and zeros behind them. -/
abbrev keptC (al : List Nat) (n : Nat) : List Value := natC al ++ List.replicate (n - al.length) (.int .i64 0)
theorem keptC_len {al : List Nat} {n : Nat} (h : al.length ≤ n) : (keptC al n).length = n := by rw [List.length_append, List.length_map, List.length_replicate]; omega
theorem keptC_self {al : List Nat} : keptC al al.length = natC al := by unfold keptC; rw [Nat.sub_self]; simp
theorem keptC_int {al : List Nat} {n : Nat} : ∀ v ∈ keptC al n, ∃ i : Int, v = Value.int IntKind.i64 i := fun v hv => by
  rcases List.mem_append.1 hv with q | q
  · obtain ⟨z, _, rfl⟩ := List.mem_map.1 q; exact ⟨_, rfl⟩
  · exact ⟨0, (List.mem_replicate.1 q).2⟩
theorem Del.done {pr : Nat → Bool} {al : List Nat} {cells : List Value} (h : Del pr al al.length cells) (hw : (kept pr al al.length).length ≤ al.length) : splice cells (kept pr al al.length).length (List.replicate (al.length - (kept pr al al.length).length) (.int .i64 0)) = keptC (al.filter fun i => !pr i) al.length := by
  have hk : kept pr al al.length = al.filter fun i => !pr i := by unfold kept; rw [List.take_length]
  have hl := h.len
  have hkp := h.kp
  rw [hk] at hw hkp ⊢
  unfold splice keptC
  rw [List.length_replicate, show (al.filter fun i => !pr i).length + (al.length - (al.filter fun i => !pr i).length) = cells.length by omega, List.drop_length, List.append_nil]
  congr 1
  refine List.ext_getElem? fun j => ?_
  rcases Nat.lt_or_ge j (al.filter fun i => !pr i).length with q | q
  · rw [List.getElem?_take_of_lt q, hkp j _ (List.getElem?_eq_getElem q)]
    simp [q]
  · rw [List.getElem?_eq_none (by rw [List.length_take]; omega), List.getElem?_eq_none (by rw [List.length_map]; exact q)]
theorem XL.eq {L0 L : LM} {x nx ro gl : Nat} {cells : List Value} (h : XL L0 x cells L) : AW.of L nx ro gl = AW.of (aset L0 x (.cells cells 3)) nx ro gl := by
  simp only [AW.of, AW.mk.injEq, and_true]
  funext j
  rw [alook_aset]
  by_cases q : j = x
  · rw [if_pos q, q]; exact h.1
  · rw [if_neg q]; exact h.2 j q
theorem d_delete118 {L0 : LM} {nx ro gl x c fn b1 b2 : Nat} {F : Func} {bd : Code} (hF : Tryd.prog.funcs[fn]? = some F) (hb : F.body = some bd) (hn : (F.name == "runtime.NumGoroutine") = false) (al : List Nat) (pr : Nat → Bool) (hll : al.length ≤ 1000) (hc : al.length ≤ c) (hx : alook L0 x = some (.cells (natC al) 3)) (hro : ro ≤ x)
    (hpr : ∀ L, (∀ j, j ≠ x → alook L j = alook L0 j) → Prd fn b1 b2 L nx ro gl al pr) :
    AC Tryd.prog 118 [.slice (some ⟨x, 0, none⟩) al.length c, prF fn b1 b2] (AW.of L0 nx ro gl)
      (isR (.slice (some ⟨x, 0, none⟩) (al.filter fun i => !pr i).length c) (AW.of (aset L0 x (.cells (keptC (al.filter fun i => !pr i) al.length) 3)) nx ro gl)) := by
  refine AC.go Tryd.func118 rfl rfl ?_
  repeat' (first
  | (refine GL.any rfl rfl rfl (GO.call rfl rfl Tryd.func147 rfl rfl rfl (d_indexP147 hF hb hn al pr hll hx (hpr L0 fun _ _ => rfl))) ?_; rintro v A1 ⟨rfl, hv⟩; refine ⟨_, _, rfl, ?_⟩)
  | refine GL.sf rfl rfl rfl rfl ?_
  | refine GL.sv rfl rfl rfl rfl ?_
  | refine GL.done ?_
  | refine GP.thenN ?_
  | refine GT.seq ?_
  | refine GT.region ?_)
  rcases hv with ⟨rfl, hz⟩ | ⟨i, k, hk, hp, hz, rfl⟩
  ·
    repeat' (first
    | refine GL.sf rfl rfl rfl rfl ?_
    | refine GL.done ?_
    | refine GP.thenN ?_
    | refine GT.seq ?_
    | refine GT.region ?_
    | refine GT.ret ?_
    | refine GP.thenR ?_
    | refine GT.condT rfl ?_
    | refine GP.endR1 rfl ?_)
    have hkp : (al.filter fun i => !pr i) = al := List.filter_eq_self.2 fun v hv => by rw [hz v hv]; rfl
    rw [hkp, keptC_self]
    exact ⟨rfl, (XL.eq (cells := natC al) ⟨hx, fun _ _ => rfl⟩)⟩
  · have hil := (List.getElem?_eq_some_iff.1 hk).1
    have h0 : 0 < c := by omega
    repeat' (first
    | refine GL.sf rfl rfl rfl rfl ?_
    | refine GL.done ?_
    | refine GP.thenN ?_
    | refine GT.seq ?_
    | refine GT.region ?_
    | refine GL.v rfl rfl rfl (by exact GO.add rfl rfl rfl (by omega)) ?_
    | refine GT.skip ?_
    | refine GT.block ?_
    | refine GT.condF rfl ?_)
    refine GT.loop (fun q a L nx1 => ∃ (r : Nat) (cells : List Value), r ≤ al.length ∧ q = al.length - r ∧ Del pr al r cells ∧ (kept pr al r).length < r ∧ asub [(0, .slice (some ⟨x, 0, none⟩) al.length c), (1, prF fn b1 b2), (5, .int .i64 (kept pr al r).length), (6, .int .i64 r)] a ∧ XL L0 x cells L ∧ nx1 = nx) (al.length - (i + 1))
      ⟨i + 1, natC al, by omega, rfl, Del.first hk hp hz, by rw [kept_first hk hp hz, List.length_take]; omega, asub_cons rfl (asub_cons rfl (asub_cons (by rw [kept_first hk hp hz, List.length_take, Nat.min_eq_left (by omega)]; rfl) (asub_cons rfl asub_nil))), ⟨hx, fun _ _ => rfl⟩, rfl⟩ ?_
    rintro q a L nx1 ⟨r, cells, hr, rfl, hD, hw, hs, hXL, rfl⟩
    refine GT.keep hs ?_
    clear hs
    rcases Nat.lt_or_ge r al.length with hlt | hge
    · obtain ⟨y, hy⟩ : ∃ y, al[r]? = some y := ⟨_, List.getElem?_eq_getElem hlt⟩
      have hcell : cells[0 + (r : Int).toNat * 1]? = some (.int .i64 (y : Int)) := by
        have := hD.rest r y (Nat.le_refl r) hy
        simpa using this
      have kf := hpr L hXL.2 y (List.mem_of_getElem? hy)
      cases hq : pr y with
      | true =>
        rw [hq] at kf
        repeat' (first
        | refine GL.sf rfl rfl rfl rfl ?_
        | refine GL.sv rfl rfl rfl rfl ?_
        | refine GL.done ?_
        | refine GP.thenN ?_
        | refine GT.seq ?_
        | refine GT.region ?_
        | refine GL.v rfl rfl rfl (by first | exact GO.indexS (s := 1) rfl rfl rfl rfl rfl (by omega) | exact GO.loadC rfl rfl rfl rfl hXL.1 hcell | exact GO.callV rfl rfl rfl hF hb hn rfl kf | exact GO.add rfl rfl rfl (by omega)) ?_
        | refine GT.skip ?_
        | refine GT.block ?_
        | refine GP.inN ?_
        | refine GT.condF rfl ?_
        | (refine GT.condD rfl (fun h => ?_) (fun h => ?_) <;> try (exfalso; omega)))
        have hks := kept_succ (pr := pr) hy
        rw [if_pos hq] at hks
        exact GP.invN (al.length - (r + 1)) (by omega) ⟨r + 1, cells, by omega, rfl, hD.skip hy hq, by rw [hks]; omega, asub_cons rfl (asub_cons rfl (asub_cons (by rw [hks]; rfl) (asub_cons rfl asub_nil))), hXL, rfl⟩
      | false =>
        rw [hq] at kf
        have hlen := hD.len
        repeat' (first
        | refine GL.sf rfl rfl rfl rfl ?_
        | refine GL.sv rfl rfl rfl rfl ?_
        | refine GL.done ?_
        | refine GP.thenN ?_
        | refine GT.seq ?_
        | refine GT.region ?_
        | refine GL.vN rfl rfl (by exact GO.storeC (vs := [.int .i64 _]) rfl rfl rfl rfl rfl rfl hXL.1 hro (fit1 (by omega)) rfl) ?_
        | refine GL.v rfl rfl rfl (by first | exact GO.indexS (s := 1) rfl rfl rfl rfl rfl (by omega) | exact GO.loadC rfl rfl rfl rfl hXL.1 hcell | exact GO.callV rfl rfl rfl hF hb hn rfl kf | exact GO.add rfl rfl rfl (by omega)) ?_
        | refine GT.skip ?_
        | refine GT.block ?_
        | refine GP.inN ?_
        | refine GT.condT rfl ?_
        | (refine GT.condD rfl (fun h => ?_) (fun h => ?_) <;> try (exfalso; omega)))
        have hks := kept_succ (pr := pr) hy
        rw [if_neg (by rw [hq]; decide)] at hks
        have hlk : (kept pr al (r + 1)).length = (kept pr al r).length + 1 := by rw [hks, List.length_append]; rfl
        have hD' := hD.keep hy hq hw
        exact GP.invN (al.length - (r + 1)) (by omega) ⟨r + 1, _, by omega, rfl, hD', by omega, asub_cons rfl (asub_cons rfl (asub_cons (by rw [hlk]; rfl) (asub_cons rfl asub_nil))), by simpa using hXL.set, rfl⟩
    · obtain rfl : r = al.length := by omega
      have hlen := hD.len
      repeat' (first
      | refine GL.clearI rfl rfl rfl rfl rfl rfl rfl (by omega) rfl rfl hXL.1 hro (by omega) ?_
      | refine GL.sf rfl rfl rfl rfl ?_
      | refine GL.sv rfl rfl rfl rfl ?_
      | refine GL.done ?_
      | refine GP.thenN ?_
      | refine GT.seq ?_
      | refine GT.region ?_
      | refine GL.v rfl rfl rfl (by first | exact GO.sliceLo (s := 1) rfl rfl rfl rfl rfl (by omega) hc hXL.1 rfl | exact GO.sliceHi (s := 1) rfl rfl rfl rfl rfl (by omega) hc h0 alook_self rfl) ?_
      | refine GT.ret ?_
      | refine GT.exit ?_
      | refine GP.thenE ?_
      | refine GP.hit ?_
      | refine GP.invE ?_
      | (refine GT.condD rfl (fun h => ?_) (fun h => ?_) <;> try (exfalso; omega))
      | refine GP.endR1 rfl ?_)
      have hdn := hD.done (by omega)
      have hk : kept pr al al.length = al.filter fun i => !pr i := by unfold kept; rw [List.take_length]
      simp only [Nat.zero_add, Nat.mul_one, Int.toNat_natCast]
      rw [hdn, ← hk]
      exact ⟨rfl, XL.eq hXL.set⟩
end Go.M
namespace Go.M
open Go.Proofs Go.RowKit
set_option maxRecDepth 8000
set_option maxHeartbeats 4000000
theorem asrc_one {nx ro gl nxx b cap : Nat} {L : LM} {v : Value} {e : TypeId} (hb : alook L b = some (.cells [v] e)) : asrc (AW.of L nx ro gl) 1 (.slice (some ⟨b, 0, none⟩) 1 cap) = some (1, [v]) := asrc_all (by decide) rfl hb
theorem d_all117 {A : AW} {p k : Nat} (n : Nat) (need sil : Int) (hn : 0 < n ∧ n ≤ 8) (hp : A.rd p 0 0 = some []) :
    AC Tryd.prog 117 [.agg #[.slice (some ⟨p, 0, none⟩) n k, .int .i64 need, .int .i64 sil]] A (isR (.slice (some ⟨A.next, 0, none⟩) n n) (A.push (.cells (natC (List.range n)) 3))) := by
  refine AC.mono (AC.givesX (Φ := fun cs => cs = natC (List.range n)) (e := 3) (SmallX.nil.cons (k := 0) (b := p) (f := 0) (o := .cells [] 128) (.flat (k := 64) hp rfl)) (args := [.agg #[.slice (some ⟨0, 0, none⟩) n k, .int .i64 need, .int .i64 sil]]) (v2 := .slice (some ⟨A.next, 0, none⟩) n n) ?_
    (.agg (.sl rfl rfl (.flat (k := 8) rfl (.flat (k := 8) rfl .nil))) .nil)) (fun v A1 hv => by obtain ⟨cs, rfl, rfl, rfl⟩ := hv; exact ⟨rfl, rfl⟩)
  clear hp
  refine AC.go Tryd.func117 rfl rfl ?_
  repeat' (first
  | refine GL.sf rfl rfl rfl rfl ?_
  | refine GL.sv rfl rfl rfl rfl ?_
  | refine GL.done ?_
  | refine GP.thenN ?_
  | refine GT.seq ?_
  | refine GT.region ?_
  | refine GT.block ?_)
  refine GT.loop (fun q a L nx => ∃ i : Nat, i ≤ n ∧ q = n - i ∧ 2 ≤ nx ∧ asub [(7, .int .i64 n), (8, .int .i64 i)] a ∧ subm [(1, .cells [.slice (some ⟨0, 0, none⟩) n k, .int .i64 need, .int .i64 sil] 53), (0, .cells [] 128)] L ∧
      ((i = 0 ∧ aget a 3 = some (.slice none 0 0)) ∨ ∃ o, 0 < i ∧ 2 ≤ o ∧ alook L o = some (.cells (natC (List.range i)) 3) ∧ aget a 3 = some (.slice (some ⟨o, 0, none⟩) i i))) n
    ⟨0, by omega, by omega, Nat.le_of_ble_eq_true rfl, asub_cons rfl (asub_cons rfl asub_nil), subm_cons rfl (subm_cons rfl subm_nil), .inl ⟨rfl, rfl⟩⟩ ?_
  rintro q a L nx ⟨i, hi, rfl, hnx, hs, hsub, hcase⟩
  have hU : ∀ j y, alook [(1, .cells [.slice (some ⟨0, 0, none⟩) n k, .int .i64 need, .int .i64 sil] 53), (0, .cells [] 128)] j = some y → j < 2 ∧ ObjLt 2 y := Under.look (.cons rfl (.cons (.sl rfl) (.flat (j := 8) rfl)) (.cons rfl (Lt.flat (j := 8) rfl) .nil))
  rcases hcase with ⟨rfl, h3⟩ | ⟨o, hpos, ho, hob, h3⟩
  · refine GT.resetL (a1 := [(3, .slice none 0 0), (7, .int .i64 n), (8, .int .i64 (0 : Nat))]) 2 (asub_cons h3 hs) hsub hnx rfl rfl hU (.cons (.flat (j := 8) rfl) (.cons (.flat (j := 8) rfl) (.cons (.flat (j := 8) rfl) .nil))) (fun g hg => absurd hg (Nat.not_lt_zero g)) ?_
    clear hs hsub hnx h3
    repeat' (first
    | refine GL.sf rfl rfl rfl rfl ?_
    | refine GL.done ?_
    | refine GP.thenN ?_
    | refine GT.seq ?_
    | refine GT.region ?_
    | refine GL.v rfl rfl rfl (by exact GO.add rfl rfl rfl (by omega)) ?_
    | refine GT.skip ?_
    | refine GT.block ?_
    | refine GP.inN ?_
    | (refine GT.condD rfl (fun h => ?_) (fun h => ?_) <;> try (exfalso; omega)))
    exact GP.invN (n - (0 + 1)) (by omega) ⟨0 + 1, by omega, rfl, Nat.le_of_ble_eq_true rfl, asub_cons rfl (asub_cons rfl asub_nil), subm_cons rfl (subm_cons rfl subm_nil), .inr ⟨3, by omega, Nat.le_of_ble_eq_true rfl, rfl, rfl⟩⟩
  · refine GT.resetE (L' := [(1, .cells [.slice (some ⟨0, 0, none⟩) n k, .int .i64 need, .int .i64 sil] 53), (0, .cells [] 128)]) 2 o (u' := .slice (some ⟨2, 0, none⟩) i i) hs hsub rfl rfl rfl hU (.cons (.flat (j := 8) rfl) (.cons (.flat (j := 8) rfl) .nil)) ho trivial hob (natC_flat _) h3 (fun ρ h1 h2 => .sl h2) rfl ?_
    clear hs hsub hnx h3 ho hob
    rcases Nat.lt_or_ge i n with hlt | hge
    · have hnl : (natC (List.range i)).length = i * 1 := by simp
      repeat' (first
      | refine GL.sf rfl rfl rfl rfl ?_
      | refine GL.done ?_
      | refine GP.thenN ?_
      | refine GT.seq ?_
      | refine GT.region ?_
      | refine GL.v rfl rfl rfl (by first | exact GO.appendN (olds := natC (List.range i)) rfl rfl rfl rfl rfl rfl rfl rfl rfl rfl rfl rfl rfl rfl hnl (Nat.le_of_ble_eq_true rfl) rfl (Nat.le_of_ble_eq_true rfl) (Nat.le_of_ble_eq_true rfl) (Nat.le_trans (m := 8 + 8) (Nat.add_le_add (by omega) (Nat.le_of_ble_eq_true rfl)) (Nat.le_of_ble_eq_true rfl)) | exact GO.add rfl rfl rfl (by omega)) ?_
      | refine GT.skip ?_
      | refine GT.block ?_
      | refine GP.inN ?_
      | (refine GT.condD rfl (fun h => ?_) (fun h => ?_) <;> try (exfalso; omega)))
      exact GP.invN (n - (i + 1)) (by omega) ⟨i + 1, by omega, rfl, Nat.le_of_ble_eq_true rfl, asub_cons rfl (asub_cons rfl asub_nil), subm_cons rfl (subm_cons rfl subm_nil), .inr ⟨4, by omega, Nat.le_of_ble_eq_true rfl, by rw [List.range_succ, natC_snoc]; rfl, rfl⟩⟩
    · obtain rfl : i = n := by omega
      repeat' (first
      | refine GL.sf rfl rfl rfl rfl ?_
      | refine GL.done ?_
      | refine GP.thenN ?_
      | refine GT.seq ?_
      | refine GT.region ?_
      | refine GT.ret ?_
      | refine GT.exit ?_
      | refine GP.thenE ?_
      | refine GP.hit ?_
      | refine GP.invE ?_
      | (refine GT.condD rfl (fun h => ?_) (fun h => ?_) <;> try (exfalso; omega))
      | refine GP.endR1 rfl ?_)
      exact ⟨2, _, rfl, Nat.le_of_ble_eq_true rfl, natC_flat _, rfl, .sl (f := 0) (g := 0) (if_pos rfl) rfl .nil⟩
theorem d_clone119 {A : AW} {x c : Nat} (al : List Nat) (hll : al.length ≤ 1000) (hc : al.length ≤ c) (hx : A.rd x 0 (natC al).length = some (natC al)) :
    AC Tryd.prog 119 [.slice (some ⟨x, 0, none⟩) al.length c] A (isR (.slice (some ⟨A.next, 0, none⟩) al.length al.length) (A.push (.cells (natC al) 3))) := by
  obtain ⟨fa, hfa⟩ := natC_flat al
  refine AC.mono (AC.givesX (Φ := fun cs => cs = natC al) (e := 3) (SmallX.nil.cons (k := 0) (b := x) (f := 0) (o := .cells (natC al) 3) (.flat hx hfa)) (args := [.slice (some ⟨0, 0, none⟩) al.length c]) (v2 := .slice (some ⟨A.next, 0, none⟩) al.length al.length) ?_
    (.sl rfl rfl .nil)) (fun v A1 hv => by obtain ⟨cs, rfl, rfl, rfl⟩ := hv; exact ⟨rfl, rfl⟩)
  clear hx
  have hnl : (natC al).length = al.length * 1 := by simp
  refine AC.go Tryd.func119 rfl rfl ?_
  cases al with
  | nil =>
    repeat' (first
    | refine GL.sf rfl rfl rfl rfl ?_
    | refine GL.done ?_
    | refine GP.thenN ?_
    | refine GT.seq ?_
    | refine GT.region ?_
    | refine GT.skip ?_
    | refine GT.ret ?_
    | refine GT.condF rfl ?_
    | refine GP.endR1 rfl ?_)
    exact ⟨_, _, rfl, Nat.le_of_ble_eq_true rfl, ⟨8, rfl⟩, rfl, .sl (f := 0) (g := 0) (if_pos rfl) rfl .nil⟩
  | cons y t =>
    repeat' (first
    | refine GL.sf rfl rfl rfl rfl ?_
    | refine GL.done ?_
    | refine GP.thenN ?_
    | refine GT.seq ?_
    | refine GT.region ?_
    | refine GL.v rfl rfl rfl (by exact GO.appendE (k := (y :: t).length) rfl rfl rfl rfl rfl rfl rfl rfl rfl rfl rfl (asrc_all (Nat.zero_lt_succ _) hnl rfl) (by simp [Value.oneCell']) rfl (Nat.le_of_ble_eq_true rfl) rfl (Nat.le_of_ble_eq_true rfl) (Nat.zero_lt_succ _) (by omega)) ?_
    | refine GT.skip ?_
    | refine GT.ret ?_
    | refine GT.condF rfl ?_
    | refine GP.endR1 rfl ?_)
    exact ⟨_, _, rfl, Nat.le_of_ble_eq_true rfl, natC_flat _, rfl, .sl (f := 0) (g := 0) (if_pos rfl) rfl .nil⟩
end Go.M
namespace Go.M
open Go.Proofs Go.RowKit
set_option maxRecDepth 8000
set_option maxHeartbeats 4000000
abbrev intC (zs : List Int) : List Value := zs.map fun z : Int => Value.int .i64 z
theorem intC_flat : ∀ zs : List Int, ∃ j, noAddrs j (intC zs) = true
  | [] => ⟨1, rfl⟩
  | z :: zs => by obtain ⟨j, h⟩ := intC_flat zs; exact ⟨j + 1, by simpa [noAddrs] using h⟩
/-- Is this sensor's needle within its limits? -/
def within (l : List Sen) (zs : List Int) (i : Nat) : Bool := match l[i]?, zs[i]? with
  | some y, some z => decide (y.lo ≤ z ∧ z ≤ y.hi)
  | _, _ => false
theorem d_seeing146 {A : AW} {b1 b2 p x k c : Nat} (l : List Sen) (zs : List Int) (nm : ByteArray) (need sil w0 w1 : Int) (i : Nat) (hi : i < l.length) (hz : zs.length = l.length) (hl : l.length ≤ 1000)
    (hb1 : A.rd b1 0 3 = some [.slice (some ⟨p, 0, none⟩) l.length k, .int .i64 need, .int .i64 sil]) (hp : A.rd p 0 (senC l).length = some (senC l)) (hb2 : A.rd b2 0 4 = some [.string nm, .int .i64 w0, .slice (some ⟨x, 0, none⟩) l.length c, .int .i64 w1]) (hx : A.rd x 0 (intC zs).length = some (intC zs)) :
    AC Tryd.prog 146 [.int .i64 (i : Int), .pointer (some ⟨b1, 0, none⟩), .pointer (some ⟨b2, 0, none⟩)] A (isR (.bool (within l zs i)) A) := by
  obtain ⟨fj, hflat⟩ := senC_flat l
  obtain ⟨fz, hfz⟩ := intC_flat zs
  have hlen := senC_len l
  obtain ⟨y, hy⟩ : ∃ y, l[i]? = some y := ⟨_, List.getElem?_eq_getElem hi⟩
  obtain ⟨z, hzz⟩ : ∃ z, zs[i]? = some z := ⟨_, List.getElem?_eq_getElem (by omega)⟩
  have hw : within l zs i = decide (y.lo ≤ z ∧ z ≤ y.hi) := by unfold within; rw [hy, hzz]
  rw [hw]
  refine AC.isX ((((SmallX.nil.cons (k := 0) (b := p) (f := 0) (o := .cells (senC l) 128) (.flat hp hflat)).cons (b := x) (f := 0) (o := .cells (intC zs) 3) (.flat hx hfz)).cons (b := b1) (f := 0) (o := .cells [.slice (some ⟨0, 0, none⟩) l.length k, .int .i64 need, .int .i64 sil] 53) ⟨_, hb1, .sl rfl rfl (.flat (k := 8) rfl (.flat (k := 8) rfl .nil))⟩).cons (b := b2) (f := 0) (o := .cells [.string nm, .int .i64 w0, .slice (some ⟨1, 0, none⟩) l.length c, .int .i64 w1] 116) ⟨_, hb2, .flat (k := 8) rfl (.flat (k := 8) rfl (.sl rfl rfl (.flat (k := 8) rfl .nil)))⟩)
    (args := [.int .i64 (i : Int), .pointer (some ⟨2, 0, none⟩), .pointer (some ⟨3, 0, none⟩)]) ?_ ⟨8, rfl⟩ (.flat (k := 8) rfl (.ptr rfl rfl (.ptr rfl rfl .nil)))
  refine AC.go Tryd.func146 rfl rfl ?_
  clear hb1 hp hb2 hx
  have g5 := senC_five l i y hy
  have g2 : ((senC l).drop (0 + (i : Int).toNat * 5 + 2)).take 2 = [.int .i64 y.lo, .int .i64 y.hi] := by
    have h1 : ((senC l).drop (0 + (i : Int).toNat * 5)).take 5 = [.string y.s, .string y.k, .int .i64 y.lo, .int .i64 y.hi, .int .i64 y.d] := by simpa using g5
    have h2 : (((senC l).drop (0 + (i : Int).toNat * 5)).take 5).drop 2 = [.int .i64 y.lo, .int .i64 y.hi, .int .i64 y.d] := by rw [h1]; rfl
    rw [List.drop_take, List.drop_drop] at h2
    have h3 : ((((senC l).drop (0 + (i : Int).toNat * 5 + 2)).take 3)).take 2 = [.int .i64 y.lo, .int .i64 y.hi] := by
      rw [show (5 - 2 : Nat) = 3 from rfl] at h2
      rw [h2]; rfl
    rwa [List.take_take] at h3
  have gz : (intC zs)[0 + (i : Int).toNat * 1]? = some (.int .i64 z) := by simp [hzz]
  have hf2 : 0 + (i : Int).toNat * 5 + 2 + 2 ≤ (senC l).length := by omega
  repeat' (first
  | refine GT.draws (id := 1) [[], [0], [], [0, 1, 2], [0, 1, 2, 3], [0, 1, 2, 3, 4], [], [6], [], [6, 7, 8], [6, 7, 8, 9], [0, 1, 2, 3, 4, 5, 6, 7, 8, 9, 10], [0, 1, 2, 3, 4, 5, 6, 7, 8, 9, 10, 11]] [] (by kernel_rfl) ?_
  | refine GL.sf rfl rfl rfl rfl ?_
  | refine GL.done ?_
  | refine GP.thenN ?_
  | refine GT.seq ?_
  | refine GT.region ?_
  | refine GD.li rfl rfl (by exact onAt.none rfl) rfl (by repeat first | exact AllG.nil rfl | refine AllG.cons rfl (by first | exact GO.sf rfl rfl | exact GO.sv rfl rfl | exact GO.call rfl rfl Tryd.func77 rfl rfl rfl (d_has77 _ _ _) | exact GO.indexS (s := 5) rfl rfl rfl rfl rfl (by omega) | exact GO.indexS (s := 1) rfl rfl rfl rfl rfl (by omega) | exact GO.loadC rfl rfl rfl rfl rfl gz | exact GO.loadG (s := 2) rfl rfl rfl rfl rfl rfl hf2 g2) ?_) ?_
  | refine GD.done rfl rfl rfl ?_
  | refine GT.ret ?_
  | refine GP.endR1 rfl ?_)
  rfl
theorem rd3 {L L0 : LM} {nx ro gl b f n : Nat} {cs c : List Value} {e : TypeId} (h : alook L b = alook L0 b) (hb : alook L0 b = some (.cells c e)) (hn : (c.drop f).take n = cs) (hl : f + n ≤ c.length) : (AW.of L nx ro gl).rd b f n = some cs := by
  have ho : (AW.of L nx ro gl).objs b = some (.cells c e) := h.trans hb
  unfold AW.rd
  rw [ho]
  simp only
  rw [if_pos hl, hn]
theorem rdS3 {L L0 : LM} {nx ro gl b : Nat} {c : List Value} {e : TypeId} (h : alook L b = alook L0 b) (hb : alook L0 b = some (.cells c e)) : (AW.of L nx ro gl).rd b 0 c.length = some c := rd3 h hb (by simp) (by omega)
theorem d_seeing116 {A : AW} {p x k c y c2 : Nat} (l : List Sen) (zs : List Int) (nm : ByteArray) (need sil w0 w1 : Int) (al : List Nat) (hal : ∀ i ∈ al, i < l.length) (h0 : al ≠ []) (hll : al.length ≤ 1000) (hz : zs.length = l.length) (hl : l.length ≤ 1000)
    (hp : A.rd p 0 (senC l).length = some (senC l)) (hx : A.rd x 0 (intC zs).length = some (intC zs)) (hy : A.rd y 0 (natC al).length = some (natC al)) :
    AC Tryd.prog 116 [.agg #[.slice (some ⟨p, 0, none⟩) l.length k, .int .i64 need, .int .i64 sil], .agg #[.string nm, .int .i64 w0, .slice (some ⟨x, 0, none⟩) l.length c, .int .i64 w1], .slice (some ⟨y, 0, none⟩) al.length c2] A
      (isR (.slice (some ⟨A.next, 0, none⟩) (al.filter fun i => !within l zs i).length al.length) (A.push (.cells (keptC (al.filter fun i => !within l zs i) al.length) 3))) := by
  obtain ⟨fj, hflat⟩ := senC_flat l
  obtain ⟨fz, hfz⟩ := intC_flat zs
  obtain ⟨fa, hfa⟩ := natC_flat al
  have hpos : 0 < al.length := List.length_pos_iff.2 h0
  refine AC.mono (AC.givesX (Φ := fun cells => cells = keptC (al.filter fun i => !within l zs i) al.length) (e := 3) (((SmallX.nil.cons (k := 0) (b := p) (f := 0) (o := .cells (senC l) 128) (.flat hp hflat)).cons (b := x) (f := 0) (o := .cells (intC zs) 3) (.flat hx hfz)).cons (b := y) (f := 0) (o := .cells (natC al) 3) (.flat hy hfa))
    (args := [.agg #[.slice (some ⟨0, 0, none⟩) l.length k, .int .i64 need, .int .i64 sil], .agg #[.string nm, .int .i64 w0, .slice (some ⟨1, 0, none⟩) l.length c, .int .i64 w1], .slice (some ⟨2, 0, none⟩) al.length c2])
    (v2 := .slice (some ⟨A.next, 0, none⟩) (al.filter fun i => !within l zs i).length al.length) ?_
    (.agg (.sl rfl rfl (.flat (k := 8) rfl (.flat (k := 8) rfl .nil))) (.agg (.flat (k := 8) rfl (.flat (k := 8) rfl (.sl rfl rfl (.flat (k := 8) rfl .nil)))) (.sl rfl rfl .nil)))) (fun v A1 hv => by obtain ⟨cs, rfl, rfl, rfl⟩ := hv; exact ⟨rfl, rfl⟩)
  clear hp hx hy
  refine AC.go Tryd.func116 rfl rfl ?_
  have hnl : (natC al).length = al.length := by simp
  repeat' (first
  | refine GL.sf rfl rfl rfl rfl ?_
  | refine GL.sv rfl rfl rfl rfl ?_
  | refine GL.done ?_
  | refine GP.thenN ?_
  | refine GT.seq ?_
  | refine GT.region ?_
  | refine GL.v rfl rfl rfl (by first | exact GO.makeSliceI rfl rfl rfl rfl rfl rfl rfl rfl rfl (by omega) | exact GO.copyI rfl rfl rfl rfl rfl rfl rfl rfl hnl rfl ⟨fa, hfa⟩ (by simp [Value.oneCell']) rfl (by simp) (Nat.le_of_ble_eq_true rfl) | exact GO.call rfl rfl Tryd.func118 rfl rfl rfl (d_delete118 (fn := 146) Tryd.func146 rfl rfl al (within l zs) hll (Nat.le_refl _) rfl (Nat.le_of_ble_eq_true rfl) (fun L hL i hi => d_seeing146 l zs nm need sil w0 w1 i (hal i hi) hz hl (rd3 (hL _ (Nat.ne_of_beq_eq_false rfl)) rfl rfl (Nat.le_of_ble_eq_true rfl)) (rdS3 (hL _ (Nat.ne_of_beq_eq_false rfl)) rfl) (rd3 (hL _ (Nat.ne_of_beq_eq_false rfl)) rfl rfl (Nat.le_of_ble_eq_true rfl)) (rdS3 (hL _ (Nat.ne_of_beq_eq_false rfl)) rfl))) | exact GO.mkfn rfl (fun _ h => by cases h) rfl rfl) ?_
  | refine GT.ret ?_
  | refine GP.endR1 rfl ?_)
  exact ⟨5, _, rfl, Nat.le_of_ble_eq_true rfl, AllI.flat keptC_int, rfl, .sl (f := 0) (g := 0) (if_pos rfl) rfl .nil⟩
end Go.M
namespace Go.M
open Go.Proofs Go.RowKit
set_option maxRecDepth 8000
set_option maxHeartbeats 4000000
def dOf (l : List Sen) (i : Nat) : Int := match l[i]? with
  | some y => y.d
  | none => 0
theorem d_time120 {A : AW} {b1 b2 p k : Nat} (l : List Sen) (need sil s : Int) (i : Nat) (hi : i < l.length) (hl : l.length ≤ 1000)
    (hb1 : A.rd b1 0 3 = some [.slice (some ⟨p, 0, none⟩) l.length k, .int .i64 need, .int .i64 sil]) (hp : A.rd p 0 (senC l).length = some (senC l)) (hb2 : A.rd b2 0 1 = some [.int .i64 s]) :
    AC Tryd.prog 120 [.int .i64 (i : Int), .pointer (some ⟨b1, 0, none⟩), .pointer (some ⟨b2, 0, none⟩)] A (isR (.bool (decide (s < dOf l i))) A) := by
  obtain ⟨fj, hflat⟩ := senC_flat l
  have hlen := senC_len l
  obtain ⟨y, hy⟩ : ∃ y, l[i]? = some y := ⟨_, List.getElem?_eq_getElem hi⟩
  have hw : dOf l i = y.d := by unfold dOf; rw [hy]
  rw [hw]
  refine AC.isX (((SmallX.nil.cons (k := 0) (b := p) (f := 0) (o := .cells (senC l) 128) (.flat hp hflat)).cons (b := b1) (f := 0) (o := .cells [.slice (some ⟨0, 0, none⟩) l.length k, .int .i64 need, .int .i64 sil] 53) ⟨_, hb1, .sl rfl rfl (.flat (k := 8) rfl (.flat (k := 8) rfl .nil))⟩).cons (b := b2) (f := 0) (o := .cells [.int .i64 s] 3) (.flat (k := 8) hb2 rfl))
    (args := [.int .i64 (i : Int), .pointer (some ⟨1, 0, none⟩), .pointer (some ⟨2, 0, none⟩)]) ?_ ⟨8, rfl⟩ (.flat (k := 8) rfl (.ptr rfl rfl (.ptr rfl rfl .nil)))
  refine AC.go Tryd.func120 rfl rfl ?_
  clear hb1 hp hb2
  have g5 := senC_five l i y hy
  have g4 : (senC l)[0 + (i : Int).toNat * 5 + 4]? = some (.int .i64 y.d) := by
    have h1 : ((senC l).drop (0 + (i : Int).toNat * 5)).take 5 = [.string y.s, .string y.k, .int .i64 y.lo, .int .i64 y.hi, .int .i64 y.d] := by simpa using g5
    have h2 := congrArg (fun c : List Value => c[4]?) h1
    simpa [List.getElem?_take_of_lt, List.getElem?_drop] using h2
  repeat' (first
  | refine GT.draws (id := 1) [[], [0], [], [0, 1, 2], [0, 1, 2, 3], [0, 1, 2, 3, 4], [], [0, 1, 2, 3, 4, 5, 6], [0, 1, 2, 3, 4, 5, 6, 7]] [] (by kernel_rfl) ?_
  | refine GL.sf rfl rfl rfl rfl ?_
  | refine GL.done ?_
  | refine GP.thenN ?_
  | refine GT.seq ?_
  | refine GT.region ?_
  | refine GD.li rfl rfl (by exact onAt.none rfl) rfl (by repeat first | exact AllG.nil rfl | refine AllG.cons rfl (by first | exact GO.sf rfl rfl | exact GO.sv rfl rfl | exact GO.indexS (s := 5) rfl rfl rfl rfl rfl (by omega) | exact GO.loadC rfl rfl rfl rfl rfl g4) ?_) ?_
  | refine GD.done rfl rfl rfl ?_
  | refine GT.ret ?_
  | refine GP.endR1 rfl ?_)
  rfl
theorem rd_kept {L : LM} {nx ro gl b n : Nat} {al : List Nat} {e : TypeId} (hn : al.length ≤ n) (hb : alook L b = some (.cells (keptC al n) e)) : (AW.of L nx ro gl).rd b 0 (natC al).length = some (natC al) := by
  have hl := keptC_len hn
  refine rd3 rfl hb ?_ (by rw [hl, List.length_map]; omega)
  rw [List.drop_zero]
  exact List.take_left
def badL (l : List Sen) (zs : List Int) : List Nat := (List.range l.length).filter fun i => !within l zs i
def seenL (l : List Sen) (zs : List Int) (s : Nat) : List Nat := (badL l zs).filter fun i => !decide ((s : Int) < dOf l i)
/-- Do the sensors that are in alarm after 's' seconds vote? -/
def vt (l : List Sen) (zs : List Int) (need : Int) (s : Nat) : Bool := voteOf l need (seenL l zs s)
def IsTime (l : List Sen) (zs : List Int) (need : Int) (t : Nat) : Prop := (t = 0 ∧ ∀ s, 1 ≤ s → s ≤ 60 → vt l zs need s = false) ∨ (1 ≤ t ∧ t ≤ 60 ∧ vt l zs need t = true ∧ ∀ s, 1 ≤ s → s < t → vt l zs need s = false)
theorem badL_lt {l : List Sen} {zs : List Int} {i : Nat} (h : i ∈ badL l zs) : i < l.length := List.mem_range.1 (List.mem_filter.1 h).1
theorem badL_len {l : List Sen} {zs : List Int} : (badL l zs).length ≤ l.length := by
  unfold badL
  have := List.length_filter_le (fun i => !within l zs i) (List.range l.length)
  simpa using this
abbrev TM (l : List Sen) (zs : List Int) (nm : ByteArray) (need sil w0 w1 : Int) (k c : Nat) : LM :=
  [(5, .cells (keptC (badL l zs) l.length) 3), (4, .cells (natC (List.range l.length)) 3), (3, .cells [.string nm, .int .i64 w0, .slice (some ⟨1, 0, none⟩) l.length c, .int .i64 w1] 116), (2, .cells [.slice (some ⟨0, 0, none⟩) l.length k, .int .i64 need, .int .i64 sil] 53), (1, .cells (intC zs) 3), (0, .cells (senC l) 128)]
abbrev TE (l : List Sen) (zs : List Int) : AEnv := [(2, .pointer (some ⟨2, 0, none⟩)), (5, .int .i64 0), (6, .slice (some ⟨5, 0, none⟩) (badL l zs).length l.length)]
theorem d_time70 {A : AW} {p x k c : Nat} (l : List Sen) (zs : List Int) (nm : ByteArray) (need sil w0 w1 : Int) (hl : 0 < l.length ∧ l.length ≤ 8) (hz : zs.length = l.length)
    (hp : A.rd p 0 (senC l).length = some (senC l)) (hx : A.rd x 0 (intC zs).length = some (intC zs)) :
    AC Tryd.prog 70 [.agg #[.slice (some ⟨p, 0, none⟩) l.length k, .int .i64 need, .int .i64 sil], .agg #[.string nm, .int .i64 w0, .slice (some ⟨x, 0, none⟩) l.length c, .int .i64 w1]] A
      (fun v A1 => (∃ t : Nat, v = .int .i64 (t : Int) ∧ IsTime l zs need t) ∧ A1 = A) := by
  obtain ⟨fj, hflat⟩ := senC_flat l
  obtain ⟨fz, hfz⟩ := intC_flat zs
  refine AC.pureX (R := fun v => ∃ t : Nat, v = .int .i64 (t : Int) ∧ IsTime l zs need t) ((SmallX.nil.cons (k := 0) (b := p) (f := 0) (o := .cells (senC l) 128) (.flat hp hflat)).cons (b := x) (f := 0) (o := .cells (intC zs) 3) (.flat hx hfz))
    (args := [.agg #[.slice (some ⟨0, 0, none⟩) l.length k, .int .i64 need, .int .i64 sil], .agg #[.string nm, .int .i64 w0, .slice (some ⟨1, 0, none⟩) l.length c, .int .i64 w1]]) (AC.mono (R := fun v _ => ∃ t : Nat, v = .int .i64 (t : Int) ∧ IsTime l zs need t) ?_ (fun v _ ⟨t, e, h⟩ => ⟨⟨t, e, h⟩, by subst e; exact ⟨8, rfl⟩⟩))
    (.agg (.sl rfl rfl (.flat (k := 8) rfl (.flat (k := 8) rfl .nil))) (.agg (.flat (k := 8) rfl (.flat (k := 8) rfl (.sl rfl rfl (.flat (k := 8) rfl .nil)))) .nil))
  clear hp hx
  refine AC.go Tryd.func70 rfl rfl ?_
  have hrl : (List.range l.length).length = l.length := List.length_range
  have k116 := fun {A : AW} {p x y : Nat} hp hx hy => d_seeing116 (A := A) (p := p) (x := x) (y := y) (k := k) (c := c) (c2 := l.length) l zs nm need sil w0 w1 (List.range l.length) (fun i hi => List.mem_range.1 hi) (by intro h; have h2 := congrArg List.length h; rw [List.length_range] at h2; exact absurd h2 (by show ¬ l.length = 0; omega)) (by rw [List.length_range]; omega) hz (by omega) hp hx hy
  rw [hrl] at k116
  repeat' (first
  | refine GT.scope ?_
  | refine GT.label ?_
  | refine GT.draws (id := 2) [[], [], [], [2], [0, 1, 2, 3], [0, 1, 2, 3, 4]] [3, 4] (by kernel_rfl) ?_
  | refine GL.sf rfl rfl rfl rfl ?_
  | refine GL.sn rfl rfl rfl ?_
  | refine GL.done ?_
  | refine GP.thenN ?_
  | refine GT.seq ?_
  | refine GT.region ?_
  | refine GD.li rfl rfl (by exact onAt.none rfl) rfl (by repeat first | exact AllG.nil rfl | refine AllG.cons rfl (by exact GO.sf rfl rfl) ?_) ?_
  | refine GD.he rfl rfl rfl (by exact onAt.none rfl) rfl (by first | exact GO.push (GO.call rfl rfl Tryd.func117 rfl rfl rfl (d_all117 l.length need sil hl (rd_zero rfl))) | exact GO.push (GO.call rfl rfl Tryd.func116 rfl rfl rfl (k116 (rd_self rfl) (rd_self rfl) (rd_self rfl)))) ?_ ?_
  | refine GD.done rfl rfl rfl ?_
  | exact AllJs.nil rfl
  | refine AllJs.cons rfl ?_ ?_
  | exact again.go rfl rfl rfl (by exact GO.sf rfl rfl)
  | refine GT.block ?_)
  have hbn : (badL l zs).length ≤ l.length := badL_len
  refine GT.loop (fun q a L nx => ∃ s o : Nat, 1 ≤ s ∧ s ≤ 61 ∧ q = 61 - s ∧ 6 ≤ o ∧ (∀ s', 1 ≤ s' → s' < s → vt l zs need s' = false) ∧ asub (TE l zs) a ∧ aget a 7 = some (.pointer (some ⟨o, 0, none⟩)) ∧ subm (TM l zs nm need sil w0 w1 k c) L ∧ alook L o = some (.cells [.int .i64 (s : Int)] 3)) 60
    ⟨1, 6, by omega, by omega, rfl, by omega, fun s' h1 h2 => by omega, asub_cons rfl (asub_cons rfl (asub_cons rfl asub_nil)), rfl, subm_cons rfl (subm_cons rfl (subm_cons rfl (subm_cons rfl (subm_cons rfl (subm_cons rfl subm_nil))))), rfl⟩ ?_
  rintro q a L nx ⟨s, o, hs1, hs61, rfl, ho, hpr, hs, h7, hsub, hob⟩
  refine GT.resetE (L' := TM l zs nm need sil w0 w1 k c) 6 o (u' := .pointer (some ⟨6, 0, none⟩)) hs hsub rfl rfl rfl (Under.look (.cons rfl (Lt.flat (AllI.flat keptC_int).choose_spec) (.cons rfl (Lt.flat (natC_flat _).choose_spec) (.cons rfl (.cons (.flat (j := 8) rfl) (.cons (.flat (j := 8) rfl) (.cons (.sl rfl) (.flat (j := 8) rfl)))) (.cons rfl (.cons (.sl rfl) (.flat (j := 8) rfl)) (.cons rfl (Lt.flat hfz) (.cons rfl (Lt.flat hflat) .nil)))))))
    (.cons (.ptr rfl) (.cons (.flat (j := 8) rfl) (.cons (.sl rfl) .nil))) ho trivial hob ⟨8, rfl⟩ h7 (fun ρ h1 h2 => .ptr h2) rfl ?_
  clear hs hsub h7 hob ho
  rcases Nat.lt_or_ge s 61 with h60 | h60
  · have hsn : (seenL l zs s).length ≤ (badL l zs).length := List.length_filter_le _ _
    have kv := fun {A : AW} {p x : Nat} hp hx => d_voteG121 (A := A) (p := p) (x := x) (k := k) (c := (badL l zs).length) l need sil (seenL l zs s) (fun i hi => ⟨_, List.getElem?_eq_getElem (badL_lt (List.mem_filter.1 hi).1)⟩) (by omega) (by omega) hp hx
    cases hv : vt l zs need s with
    | true =>
      rw [show (decide (need ≤ ((seenL l zs s).length : Int)) && (seenL l zs s).any (nearB l)) = true from hv] at kv
      repeat' (first
      | refine GP.scopeR ?_
      | refine GL.sf rfl rfl rfl rfl ?_
      | refine GL.done ?_
      | refine GP.thenN ?_
      | refine GT.seq ?_
      | refine GT.region ?_
      | refine GL.v rfl rfl rfl (by first | exact GO.push (GO.call rfl rfl Tryd.func119 rfl rfl rfl (d_clone119 (badL l zs) (by omega) hbn (rd_kept hbn rfl))) | exact GO.call rfl rfl Tryd.func118 rfl rfl rfl (d_delete118 (fn := 120) Tryd.func120 rfl rfl (badL l zs) (fun i => decide ((s : Int) < dOf l i)) (by omega) (Nat.le_refl _) rfl (Nat.le_of_ble_eq_true rfl) (fun L hL i hi => d_time120 l need sil s i (badL_lt hi) (by omega) (rd3 (hL _ (Nat.ne_of_beq_eq_false rfl)) rfl rfl (Nat.le_of_ble_eq_true rfl)) (rdS3 (hL _ (Nat.ne_of_beq_eq_false rfl)) rfl) (rd3 (hL _ (Nat.ne_of_beq_eq_false rfl)) rfl rfl (Nat.le_of_ble_eq_true rfl)))) | exact GO.call rfl rfl Tryd.func121 rfl rfl rfl (kv (rd_self rfl) (rd_kept hsn rfl)) | exact GO.mkfn rfl (fun _ h => by cases h) rfl rfl) ?_
      | refine GT.skip ?_
      | refine GT.block ?_
      | refine GT.ret ?_
      | refine GT.exit ?_
      | refine GP.thenE ?_
      | refine GP.hit ?_
      | refine GP.miss rfl ?_
      | refine GP.invE ?_
      | refine GT.condT rfl ?_
      | (refine GT.condD rfl (fun h => ?_) (fun h => ?_) <;> try (exfalso; omega))
      | refine GP.endR1 rfl ?_)
      exact ⟨s, rfl, .inr ⟨hs1, by omega, hv, hpr⟩⟩
    | false =>
      rw [show (decide (need ≤ ((seenL l zs s).length : Int)) && (seenL l zs s).any (nearB l)) = false from hv] at kv
      repeat' (first
      | refine GL.sf rfl rfl rfl rfl ?_
      | refine GL.sn rfl rfl rfl ?_
      | refine GL.done ?_
      | refine GP.thenN ?_
      | refine GT.seq ?_
      | refine GT.region ?_
      | refine GL.v rfl rfl rfl (by first | exact GO.push (GO.call rfl rfl Tryd.func119 rfl rfl rfl (d_clone119 (badL l zs) (by omega) hbn (rd_kept hbn rfl))) | exact GO.call rfl rfl Tryd.func118 rfl rfl rfl (d_delete118 (fn := 120) Tryd.func120 rfl rfl (badL l zs) (fun i => decide ((s : Int) < dOf l i)) (by omega) (Nat.le_refl _) rfl (Nat.le_of_ble_eq_true rfl) (fun L hL i hi => d_time120 l need sil s i (badL_lt hi) (by omega) (rd3 (hL _ (Nat.ne_of_beq_eq_false rfl)) rfl rfl (Nat.le_of_ble_eq_true rfl)) (rdS3 (hL _ (Nat.ne_of_beq_eq_false rfl)) rfl) (rd3 (hL _ (Nat.ne_of_beq_eq_false rfl)) rfl rfl (Nat.le_of_ble_eq_true rfl)))) | exact GO.call rfl rfl Tryd.func121 rfl rfl rfl (kv (rd_self rfl) (rd_kept hsn rfl)) | exact GO.add rfl rfl rfl (by omega) | exact GO.mkfn rfl (fun _ h => by cases h) rfl rfl) ?_
      | refine GT.skip ?_
      | refine GT.block ?_
      | refine GP.inN ?_
      | refine GT.condF rfl ?_
      | (refine GT.condD rfl (fun h => ?_) (fun h => ?_) <;> try (exfalso; omega)))
      exact GP.invN (61 - (s + 1)) (by omega) ⟨s + 1, 8, by omega, by omega, rfl, by omega, fun s' h1 h2 => by
        rcases Nat.lt_or_ge s' s with q | q
        · exact hpr s' h1 q
        · obtain rfl : s' = s := by omega
          exact hv, asub_cons rfl (asub_cons rfl (asub_cons rfl asub_nil)), rfl, subm_cons rfl (subm_cons rfl (subm_cons rfl (subm_cons rfl (subm_cons rfl (subm_cons rfl subm_nil))))), rfl⟩
  · obtain rfl : s = 61 := by omega
    repeat' (first
    | refine GP.scopeR ?_
    | refine GL.sf rfl rfl rfl rfl ?_
    | refine GL.done ?_
    | refine GP.thenN ?_
    | refine GT.seq ?_
    | refine GT.region ?_
    | refine GT.ret ?_
    | refine GT.exit ?_
    | refine GP.thenE ?_
    | refine GP.hit ?_
    | refine GP.invE ?_
    | refine GT.condF rfl ?_
    | refine GP.endR1 rfl ?_)
    exact ⟨0, rfl, .inl ⟨rfl, fun s' h1 h2 => hpr s' h1 (by omega)⟩⟩
end Go.M
