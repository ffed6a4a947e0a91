/- Functions of the given program, walked (no condition beyond what each theorem says). -/
import Derived.Test.YtfhodefiknfccaaDoorRows
import Derived.WalkKit
import Derived.ProofKit
import Derived.OpenShut
import Derived.LaidMore
import Derived.Stop.Joined
import Derived.Handed
import Derived.Test.YtfhodefiknfccaaDoorE3
set_option linter.unusedVariables false
set_option linter.unusedSimpArgs false
namespace Go.M
set_option maxRecDepth 100000
open Go.RowKit Go.Proofs Go.ChangeShapes Go.WideShapes Go.ChangeAt
variable {H : Type} {enc : TypeId × Value → H} {W : World} {sp : Nat → Bool} {held : Bool}
theorem flat_int {P : Program} {w : World} {r : Reach} {b : Nat} {t : TypeId} {k : IntKind} {v : Value} (hu : P.underlying t = some (.int k)) (h : Cell.okWide P w r b t v) : ∃ n, v = .int k n ∧ k.has n := by
  unfold Cell.okWide at h
  rw [hu] at h
  cases v <;> simp only [Cell.ok, hu] at h
  obtain ⟨rfl, h⟩ := h
  exact ⟨_, rfl, h⟩
theorem row_cells {P : Program} {w : World} {r : Reach} {b : Nat} {t : TypeId} {cs : Array Value} {ts : List TypeId} (h : Row.okWide P w r b t cs) (ht : P.cellTypes P.depth t = some ts) (hn : cs.size = ts.length) :
    ∀ (i : Nat) v u, cs[i]? = some v → ts[i]? = some u → Cell.okWide P w r b u v := by
  obtain ⟨ts', e, _, h⟩ := h
  rw [ht] at e; cases e
  intro i v u hi hu
  obtain ⟨u', hu', h'⟩ := h i v hi
  have : i < ts.length := (List.getElem?_eq_some_iff.1 hu).1
  rw [Nat.mod_eq_of_lt this, hu] at hu'
  cases hu'
  exact h'
theorem c9 : Tryd.prog.cellsOf 9 = 1 := by kernel_rfl
theorem c3 : Tryd.prog.cellsOf 3 = 1 := by kernel_rfl
theorem c26 : Tryd.prog.cellsOf 26 = 2 := by kernel_rfl
theorem c43 : Tryd.prog.cellsOf 43 = 5 := by kernel_rfl
theorem c22 : Tryd.prog.cellsOf 22 = 1 := by kernel_rfl
theorem c24 : Tryd.prog.cellsOf 24 = 3 := by kernel_rfl
theorem c241 : Tryd.prog.cellsOf 241 = 1 := by kernel_rfl
theorem c239 : Tryd.prog.cellsOf 239 = 1 := by kernel_rfl
theorem open26 {fuel : Nat} {cs : List Value} {x : DataW H × List MemPlace} (h : DataW.trod enc Tryd.prog W 0 sp held fuel 26 cs = some x) : ∃ lo hi : Int, cs = [.int .i64 lo, .int .i64 hi] := by
  obtain ⟨xs, n, rfl, rfl, hl, hxs, hf⟩ := DataW.trod_struct Tryd.underlying26 h
  have hxs : xs.length = 2 := hxs
  rw [c26] at hl
  have h0 : DataW.trod enc Tryd.prog W 0 sp held n 3 ((cs.drop 0).take (Tryd.prog.cellsOf 3)) = xs[0]? := hf 0 _ rfl
  have h1 : DataW.trod enc Tryd.prog W 0 sp held n 3 ((cs.drop 1).take (Tryd.prog.cellsOf 3)) = xs[1]? := hf 1 _ rfl
  rw [c3] at h0 h1
  match cs, hl with
  | [a, b], _ =>
    match xs, hxs with
    | [x0, x1], _ =>
      obtain ⟨lo, e0, _⟩ := DataW.trod_int Tryd.underlying3 (show DataW.trod enc Tryd.prog W 0 sp held n 3 [a] = some x0 from h0)
      obtain ⟨hi, e1, _⟩ := DataW.trod_int Tryd.underlying3 (show DataW.trod enc Tryd.prog W 0 sp held n 3 [b] = some x1 from h1)
      simp at e0 e1
      exact ⟨lo, hi, by rw [e0, e1]⟩
theorem open43 {fuel : Nat} {cs : List Value} {x : DataW H × List MemPlace} (h : DataW.trod enc Tryd.prog W 0 sp held fuel 43 cs = some x) : ∃ y : Sen, cs = [.string y.s, .string y.k, .int .i64 y.lo, .int .i64 y.hi, .int .i64 y.d] := by
  obtain ⟨xs, n, rfl, rfl, hl, hxs, hf⟩ := DataW.trod_struct Tryd.underlying43 h
  have hxs : xs.length = 4 := hxs
  rw [c43] at hl
  have h0 : DataW.trod enc Tryd.prog W 0 sp held n 9 ((cs.drop 0).take (Tryd.prog.cellsOf 9)) = xs[0]? := hf 0 _ rfl
  have h1 : DataW.trod enc Tryd.prog W 0 sp held n 9 ((cs.drop 1).take (Tryd.prog.cellsOf 9)) = xs[1]? := hf 1 _ rfl
  have h2 : DataW.trod enc Tryd.prog W 0 sp held n 26 ((cs.drop 2).take (Tryd.prog.cellsOf 26)) = xs[2]? := hf 2 _ rfl
  have h3 : DataW.trod enc Tryd.prog W 0 sp held n 3 ((cs.drop 4).take (Tryd.prog.cellsOf 3)) = xs[3]? := hf 3 _ rfl
  rw [c9] at h0 h1
  rw [c26] at h2
  rw [c3] at h3
  match cs, hl with
  | [a, b, c, d, e], _ =>
    match xs, hxs with
    | [x0, x1, x2, x3], _ =>

      obtain ⟨s, e0, _⟩ := DataW.trod_string Tryd.underlying9 (show DataW.trod enc Tryd.prog W 0 sp held n 9 [a] = some x0 from h0)
      obtain ⟨k, e1, _⟩ := DataW.trod_string Tryd.underlying9 (show DataW.trod enc Tryd.prog W 0 sp held n 9 [b] = some x1 from h1)
      obtain ⟨lo, hi, e2⟩ := open26 (show DataW.trod enc Tryd.prog W 0 sp held n 26 [c, d] = some x2 from h2)
      obtain ⟨dd, e3, _⟩ := DataW.trod_int Tryd.underlying3 (show DataW.trod enc Tryd.prog W 0 sp held n 3 [e] = some x3 from h3)
      simp at e0 e1 e2 e3
      exact ⟨⟨s, k, lo, hi, dd⟩, by rw [e0, e1, e2.1, e2.2, e3]⟩
theorem cells5 {a : Addr} {cs : List Value} (h : W.cells? 0 a 5 = some cs) (hl : cs.length = 5) : ∀ i, i < 5 → W.cell? (a.add i) = cs[i]? := by
  unfold World.cells? at h
  rw [if_pos (Nat.zero_le _)] at h
  simp only [List.range_succ, List.range_zero, List.nil_append, List.mapM_cons, List.mapM_nil, List.cons_append] at h
  cases h0 : W.cell? (a.add 0) with
  | none => simp [h0] at h
  | some c0 =>
  cases h1 : W.cell? (a.add 1) with
  | none => simp [h0, h1] at h
  | some c1 =>
  cases h2 : W.cell? (a.add 2) with
  | none => simp [h0, h1, h2] at h
  | some c2 =>
  cases h3 : W.cell? (a.add 3) with
  | none => simp [h0, h1, h2, h3] at h
  | some c3 =>
  cases h4 : W.cell? (a.add 4) with
  | none => simp [h0, h1, h2, h3, h4] at h
  | some c4 =>
  simp [h0, h1, h2, h3, h4] at h
  subst h
  intro i hi
  match i, hi with
  | 0, _ => exact h0
  | 1, _ => exact h1
  | 2, _ => exact h2
  | 3, _ => exact h3
  | 4, _ => exact h4
/-- A slice of sensors: what its cells are. -/
theorem open22 {fuel : Nat} {cs : List Value} {x : DataW H × List MemPlace} (h : DataW.trod enc Tryd.prog W 0 sp held fuel 22 cs = some x) :
    (∃ b c, cs = [.slice b 0 c] ∧ ∀ a, b = some a → a.spot = none ∨ True) ∨ ∃ (a b : Nat) (c : Nat) (l : List Sen), cs = [.slice (some ⟨a, b, none⟩) l.length c] ∧ 0 < l.length ∧ l.length ≤ maxLen ∧ ∃ (row : Array Value) (e : TypeId) (fz : Nat × Nat), W.heap[a]? = some (.cells row e fz) ∧ b + (senC l).length ≤ row.size ∧ (row.toList.drop b).take (senC l).length = senC l := by
  rcases DataW.trod_slice Tryd.underlying22 h with ⟨rfl, _⟩ | ⟨a, len, cap, elems, rest, n, _, rfl, _, _, h1, h2, hlen, hel, _⟩
  · exact .inl ⟨none, 0, rfl, fun a h => .inr trivial⟩
  · rcases Nat.eq_zero_or_pos len with q | q
    · subst q
      exact .inl ⟨_, _, rfl, fun a h => .inr trivial⟩
    · right
      have get : ∀ i, i < len → ∃ (c5 : List Value) (y : Sen), W.cells? 0 (a.add (i * 5)) 5 = some c5 ∧ c5 = [.string y.s, .string y.k, .int .i64 y.lo, .int .i64 y.hi, .int .i64 y.d] := fun i hi => by
        have he := hel i hi
        rw [c43] at he
        cases hc : W.cells? 0 (a.add (i * 5)) 5 with
        | none => rw [hc] at he; simp at he; omega
        | some c5 =>
          rw [hc] at he
          simp only [Option.bind_some] at he
          have hex : ∃ x, elems[i]? = some x := ⟨_, List.getElem?_eq_getElem (by omega)⟩
          obtain ⟨x, hx⟩ := hex
          rw [hx] at he
          obtain ⟨y, hy⟩ := open43 he
          exact ⟨c5, y, rfl, hy⟩
      have hspot : a.spot = none := by
        obtain ⟨c5, y, hc, rfl⟩ := get 0 q
        have h0 := cells5 hc rfl 0 (by decide)
        have := World.cell?_spot (v := .string y.s) h0
        simpa [Addr.add] using this
      obtain ⟨ab, ao, asp⟩ := a
      have hspot : asp = none := hspot
      subst hspot
      have addE : ∀ k, (({ block := ab, off := ao, spot := none } : Addr).add k) = { block := ab, off := ao + k, spot := none } := fun k => by
        simp only [Addr.add]; split
        · rename_i e; subst e; rfl
        · rfl
      have each : ∀ i, i < len → ∃ y : Sen, ∀ r, r < 5 → W.cell? ⟨ab, ao + (i * 5 + r), none⟩ = ([.string y.s, .string y.k, .int .i64 y.lo, .int .i64 y.hi, .int .i64 y.d] : List Value)[r]? := fun i hi => by
        obtain ⟨c5, y, hc, rfl⟩ := get i hi
        refine ⟨y, fun r hr => ?_⟩
        rw [← cells5 hc rfl r hr, addE]
        congr 1
        simp only [Addr.add]; split
        · rename_i e; subst e; simp
        · simp [Nat.add_assoc]
      obtain ⟨y0, hy0⟩ := each 0 q
      have hc0 : W.cell? ⟨ab, ao, none⟩ = some (.string y0.s) := by simpa using hy0 0 (by decide)
      have hrow : ∃ row e fz, W.heap[ab]? = some (.cells row e fz) := by
        simp only [World.cell?] at hc0
        split at hc0
        · exact ⟨_, _, _, by assumption⟩
        · cases hc0
      obtain ⟨row, e, fz, hrow⟩ := hrow
      have hcell : ∀ k, W.cell? ⟨ab, ao + k, none⟩ = row[ao + k]? := fun k => by
        simp [World.cell?, hrow]
      have hl : ∃ l : List Sen, l.length = len ∧ ∀ i y, l[i]? = some y → ∀ r, r < 5 → row[ao + (i * 5 + r)]? = ([.string y.s, .string y.k, .int .i64 y.lo, .int .i64 y.hi, .int .i64 y.d] : List Value)[r]? := by
        clear hel hlen
        have gen : ∀ m, m ≤ len → ∃ l : List Sen, l.length = m ∧ ∀ i y, l[i]? = some y → ∀ r, r < 5 → row[ao + (i * 5 + r)]? = ([.string y.s, .string y.k, .int .i64 y.lo, .int .i64 y.hi, .int .i64 y.d] : List Value)[r]? := by
          intro m
          induction m with
          | zero => exact fun _ => ⟨[], rfl, fun i y h => by simp at h⟩
          | succ m ih =>
            intro hm
            obtain ⟨l, hl, hall⟩ := ih (by omega)
            obtain ⟨y, hy⟩ := each m (by omega)
            refine ⟨l ++ [y], by simp [hl], fun i z hz r hr => ?_⟩
            rcases Nat.lt_or_ge i m with q | q
            · rw [List.getElem?_append_left (by omega)] at hz
              exact hall i z hz r hr
            · have hi : i = m := by
                have := (List.getElem?_eq_some_iff.1 hz).1
                simp at this; omega
              subst hi
              rw [List.getElem?_append_right (by omega)] at hz
              simp [hl] at hz
              subst hz
              rw [← hcell]; exact hy r hr
        exact gen len (Nat.le_refl _)
      obtain ⟨l, rfl, hl⟩ := hl
      have hat : ∀ k, k < (senC l).length → row[ao + k]? = (senC l)[k]? := fun k hk => by
        rw [senC_len] at hk
        obtain ⟨y, hy⟩ : ∃ y, l[k / 5]? = some y := ⟨_, List.getElem?_eq_getElem (by omega)⟩
        have hr := hl (k / 5) y hy (k % 5) (Nat.mod_lt _ (by decide))
        obtain ⟨s0, s1, s2, s3, s4⟩ := senC_at l (k / 5) y hy
        have ek : k / 5 * 5 + k % 5 = k := by omega
        rw [ek] at hr
        rw [hr]
        have h5 : k % 5 < 5 := Nat.mod_lt _ (by decide)
        generalize hm : k % 5 = m at h5 ek
        match m, h5 with
        | 0, _ => rw [← ek]; exact s0.symm
        | 1, _ => rw [← ek]; exact s1.symm
        | 2, _ => rw [← ek]; exact s2.symm
        | 3, _ => rw [← ek]; exact s3.symm
        | 4, _ => rw [← ek]; exact s4.symm
      have hsz : ao + (senC l).length ≤ row.size := by
        have hp : 0 < (senC l).length := by rw [senC_len]; omega
        have := hat ((senC l).length - 1) (by omega)
        rw [List.getElem?_eq_getElem (by omega)] at this
        have := (Array.getElem?_eq_some_iff.1 this).1
        omega
      refine ⟨ab, ao, cap, l, rfl, q, Nat.le_trans h1 h2, row, e, fz, hrow, hsz, ?_⟩
      apply List.ext_getElem?
      intro k
      rcases Nat.lt_or_ge k (senC l).length with hk | hk
      · rw [List.getElem?_take, if_pos hk, List.getElem?_drop, Array.getElem?_toList]
        exact hat k hk
      · rw [List.getElem?_eq_none (by rw [List.length_take]; omega), List.getElem?_eq_none hk]
end Go.M
namespace Go.M
set_option maxRecDepth 100000
open Go.RowKit Go.Proofs Go.ChangeShapes Go.WideShapes Go.ChangeAt
variable {H : Type} {enc : TypeId × Value → H} {W : World} {sp : Nat → Bool} {held : Bool}
theorem var_heap {P : Program} {w : World} {n : String} {g : Nat} {cs : Array Value} (hg : P.globalNamed n = some g) (h : w.var? P n = some cs) : ∃ e fz, w.heap[g]? = some (.cells cs e fz) := by
  unfold World.var? at h
  rw [hg] at h
  simp only [Option.bind_some] at h
  split at h
  · cases h; exact ⟨_, _, by assumption⟩
  · cases h
theorem gSteps : Tryd.prog.globalNamed "glideslope/monitor.steps" = some 1 := by kernel_rfl
theorem gSilent : Tryd.prog.globalNamed "glideslope/tone.silent" = some 0 := by kernel_rfl
theorem tSteps : (Tryd.prog.globals[1]?).map (·.type) = some 242 := by kernel_rfl
theorem tSilent : (Tryd.prog.globals[0]?).map (·.type) = some 31 := by kernel_rfl
theorem c31 : Tryd.prog.cellsOf 31 = 2 := by kernel_rfl
theorem c242 : Tryd.prog.cellsOf 242 = 5 := by kernel_rfl
abbrev laid2 : List (String × DataW Unit) := [("glideslope/monitor.steps", YtfhodefiknfccaaDoor.Rows.laid_glideslope_monitor_steps), ("glideslope/tone.silent", YtfhodefiknfccaaDoor.Rows.laid_glideslope_tone_silent)]
theorem silent_heap (h : laidMetH Tryd.prog laid2 W) : ∃ cs e fz, W.heap[0]? = some (.cells cs e fz) ∧ cs.toList = [.int .i64 0, .int .i64 0] := by
  have h2 : laidMet Tryd.prog [("glideslope/tone.silent", YtfhodefiknfccaaDoor.Rows.laid_glideslope_tone_silent)] W := by
    unfold laidMetH at h
    exact h.1
  obtain ⟨ps, ⟨g0, t0, cs0, f0, p0, q0, hg0, ht0, hv0, hd0, _⟩, _, _⟩ := h2
  obtain rfl := Option.some.inj (gSilent.symm.trans hg0)
  obtain rfl := Option.some.inj (tSilent.symm.trans ht0)
  obtain ⟨e, fz, hh⟩ := var_heap hg0 hv0
  refine ⟨cs0, e, fz, hh, ?_⟩
  generalize hcs : cs0.toList = cs at hd0
  obtain ⟨xs, n, rfl, hx, hl, hxs, hf⟩ := DataW.trod_struct Tryd.underlying31 hd0
  rw [c31] at hl
  have h0 := hf 0 ⟨ "Re", 3, 0, false, "", "", 0⟩ rfl
  have h1 := hf 1 ⟨ "Im", 3, 1, false, "", "", 8⟩ rfl
  have hxs : xs.length = 2 := hxs
  dsimp only at h0 h1
  rw [c3] at h0 h1
  match cs, hl with
  | [a, b], _ =>
    match xs, hxs with
    | [x0, x1], _ =>
      obtain ⟨lo, e0, k0, _⟩ := DataW.trod_int Tryd.underlying3 (show DataW.trod _ Tryd.prog W 0 _ _ n 3 [a] = some x0 from h0)
      obtain ⟨hi, e1, k1, _⟩ := DataW.trod_int Tryd.underlying3 (show DataW.trod _ Tryd.prog W 0 _ _ n 3 [b] = some x1 from h1)
      have hx := (Prod.mk.inj hx).1
      rw [k0, k1] at hx
      simp [YtfhodefiknfccaaDoor.Rows.laid_glideslope_tone_silent] at hx
      simp at e0 e1
      rw [e0, e1, ← hx.1, ← hx.2]
theorem open241 {fuel : Nat} {v : Value} {b : UInt8} {r : List UInt8} {q : List MemPlace} {f0 : FuncId} (hone : ((List.range Tryd.prog.funcs.size).filter fun f => (Tryd.prog.funcs[f]?).any (·.name.toUTF8.data.toList == b :: r)) = [f0])
    (h : DataW.trod (funcToken Tryd.prog) Tryd.prog W 0 sp true fuel 241 [v] = some (.agg [.held (b :: r)], q)) : v = .func (.func f0) #[] #[] := by
  obtain ⟨xs, n, rfl, hx, hl, hxs, hf⟩ := DataW.trod_struct Tryd.underlying241 h
  have h0 := hf 0 ⟨ "of", 239, 0, false, "", "glideslope/monitor", 0⟩ rfl
  have hxs : xs.length = 1 := hxs
  dsimp only at h0
  rw [c239] at h0
  match xs, hxs with
  | [x0], _ =>
    have hx := (Prod.mk.inj hx).1
    simp only [List.map_cons, List.map_nil, DataW.agg.injEq, List.cons.injEq, and_true] at hx
    obtain ⟨y, qq⟩ := x0
    simp only at hx
    subst hx
    exact func_of_trod Tryd.underlying239 hone (show DataW.trod _ Tryd.prog W 0 _ _ n 239 [v] = some (.held (b :: r), qq) from h0)
theorem steps_heap (h : laidMetH Tryd.prog laid2 W) : ∃ cs e fz, W.heap[1]? = some (.cells cs e fz) ∧ cs.toList = stepsV := by
  obtain ⟨g, t, cs, fuel, p, hg, ht, hv, hd⟩ := h.funcs (List.mem_cons_self)
  obtain rfl := Option.some.inj (gSteps.symm.trans hg)
  obtain rfl := Option.some.inj (tSteps.symm.trans ht)
  obtain ⟨e, fz, hh⟩ := var_heap hg hv
  refine ⟨cs, e, fz, hh, ?_⟩
  generalize hcs : cs.toList = l at hd
  obtain ⟨xs, m, rfl, hx, hl, hn, hel⟩ := DataW.trod_array Tryd.underlying242 hd
  rw [c242] at hl
  rw [c241] at hel
  match l, hl with
  | [a0, a1, a2, a3, a4], _ =>
    match xs, hn with
    | [⟨x0, q0⟩, ⟨x1, q1⟩, ⟨x2, q2⟩, ⟨x3, q3⟩, ⟨x4, q4⟩], _ =>
      have hx := (Prod.mk.inj hx).1
      have hx : DataW.agg [.agg [.held [103, 108, 105, 100, 101, 115, 108, 111, 112, 101, 47, 109, 111, 110, 105, 116, 111, 114, 46, 99, 111, 117, 110, 116, 101, 100]], .agg [.held [103, 108, 105, 100, 101, 115, 108, 111, 112, 101, 47, 109, 111, 110, 105, 116, 111, 114, 46, 116, 114, 97, 110, 115, 102, 101, 114, 114, 101, 100]], .agg [.held [103, 108, 105, 100, 101, 115, 108, 111, 112, 101, 47, 109, 111, 110, 105, 116, 111, 114, 46, 99, 111, 117, 110, 116, 101, 100]], .agg [.held [103, 108, 105, 100, 101, 115, 108, 111, 112, 101, 47, 109, 111, 110, 105, 116, 111, 114, 46, 115, 116, 105, 108, 108]], .agg [.held [103, 108, 105, 100, 101, 115, 108, 111, 112, 101, 47, 109, 111, 110, 105, 116, 111, 114, 46, 115, 116, 105, 108, 108]]] = DataW.agg [x0, x1, x2, x3, x4] := hx
      simp only [DataW.agg.injEq, List.cons.injEq, and_true] at hx
      obtain ⟨rfl, rfl, rfl, rfl, rfl⟩ := hx
      have r0 := open241 (v := a0) (f0 := 194) (by kernel_rfl) (hel 0 (by decide))
      have r1 := open241 (v := a1) (f0 := 195) (by kernel_rfl) (hel 1 (by decide))
      have r2 := open241 (v := a2) (f0 := 194) (by kernel_rfl) (hel 2 (by decide))
      have r3 := open241 (v := a3) (f0 := 196) (by kernel_rfl) (hel 3 (by decide))
      have r4 := open241 (v := a4) (f0 := 196) (by kernel_rfl) (hel 4 (by decide))
      rw [r0, r1, r2, r3, r4]
      rfl
end Go.M
namespace Go.M
set_option maxRecDepth 100000
open Go.RowKit Go.Proofs Go.ChangeShapes Go.WideShapes Go.ChangeAt
variable {H : Type} {enc : TypeId × Value → H} {W : World} {sp : Nat → Bool} {held : Bool}
/-- The memory that the law sees. -/
abbrev LL (l : List Sen) : LM := [(3, .cells (senC l) 43), (2, .cells [] 0), (1, .cells stepsV 242), (0, .cells [.int .i64 0, .int .i64 0] 31)]
abbrev LZ : LM := [(2, .cells [] 0), (1, .cells stepsV 242), (0, .cells [.int .i64 0, .int .i64 0] 31)]
def startB (n0 n1 n2 : Nat) (b3 : Option Loc) : Bet := fun j => if j = 0 then some ⟨0, 0, 0, n0⟩ else if j = 1 then some ⟨1, 0, 0, n1⟩ else if j = 2 then some ⟨2, 0, 0, n2⟩ else if j = 3 then b3 else none
theorem ORel.same {S : Nat → Prop} {β : Bet} {P : Program} {a b : Nat} {c : List Value} {row : Array Value} {e e' : TypeId} {fz : Nat × Nat} {L : Loc} {k : Nat} (hh : W.heap[a]? = some (.cells row e' fz)) (hL : L = ⟨a, b, 0, row.size⟩) (hl : b + c.length ≤ row.size) (hc : (row.toList.drop b).take c.length = c) (hf : noAddrs k c = true) : ORel P β S W false L (.cells c e) := by
  subst hL
  exact ⟨row, e', fz, hh, rfl, hl, by rw [hc]; exact VRs.refl_of_noAddrs k c hf, fun h => by cases h⟩
theorem start_sim {r0 r1 r2 : Array Value} {e0 e1 e2 : TypeId} {f0 f1 f2 : Nat × Nat} (h0 : W.heap[0]? = some (.cells r0 e0 f0)) (q0 : r0.toList = [.int .i64 0, .int .i64 0]) (h1 : W.heap[1]? = some (.cells r1 e1 f1)) (q1 : r1.toList = stepsV) (h2 : W.heap[2]? = some (.cells r2 e2 f2)) :
    (∀ {a b : Nat} {l : List Sen} {row : Array Value} {e : TypeId} {fz : Nat × Nat}, W.heap[a]? = some (.cells row e fz) → b + (senC l).length ≤ row.size → (row.toList.drop b).take (senC l).length = senC l →
      Sim Tryd.prog W W.heap.size (startB r0.size r1.size r2.size (some ⟨a, b, 0, row.size⟩)) (fun j => j < 4) (AW.of (LL l) 4 4 3) W) ∧
    Sim Tryd.prog W W.heap.size (startB r0.size r1.size r2.size none) (fun j => j < 4) (AW.of LZ 4 4 3) W := by
  have s0 : r0.size = 2 := by rw [← Array.length_toList, q0]; rfl
  have s1 : r1.size = 5 := by rw [← Array.length_toList, q1]; rfl
  have glob : ∀ b3, ∀ g, g < 3 → g < 4 ∧ ∃ L, startB r0.size r1.size r2.size b3 g = some L ∧ L.blk = g ∧ L.off = 0 := fun b3 g hg => by
    refine ⟨by omega, ?_⟩
    match g, hg with
    | 0, _ => exact ⟨_, rfl, rfl, rfl⟩
    | 1, _ => exact ⟨_, rfl, rfl, rfl⟩
    | 2, _ => exact ⟨_, rfl, rfl, rfl⟩
  have none4 : ∀ b3 i L, 4 ≤ i → startB r0.size r1.size r2.size b3 i = some L → False := fun b3 i L hi hb => by
    unfold startB at hb
    rw [if_neg (by omega), if_neg (by omega), if_neg (by omega), if_neg (by omega)] at hb
    cases hb
  have esz : ∀ b3, (∀ L, b3 = some L → L.esz = 0) → ∀ i L, startB r0.size r1.size r2.size b3 i = some L → L.esz = 0 := fun b3 h3 i L hb => by
    unfold startB at hb
    split at hb
    · cases hb; rfl
    split at hb
    · cases hb; rfl
    split at hb
    · cases hb; rfl
    split at hb
    · exact h3 L hb
    · cases hb
  have o0 : ∀ b3, ORel Tryd.prog (startB r0.size r1.size r2.size b3) (fun j => j < 4) W false ⟨0, 0, 0, r0.size⟩ (.cells [.int .i64 0, .int .i64 0] 31) := fun b3 => ORel.same (k := 8) h0 rfl (by rw [s0]; decide) (by rw [q0]; rfl) rfl
  have o1 : ∀ b3, ORel Tryd.prog (startB r0.size r1.size r2.size b3) (fun j => j < 4) W false ⟨1, 0, 0, r1.size⟩ (.cells stepsV 242) := fun b3 => ORel.same (k := 8) h1 rfl (by rw [s1]; decide) (by rw [q1]; rfl) rfl
  have o2 : ∀ b3, ORel Tryd.prog (startB r0.size r1.size r2.size b3) (fun j => j < 4) W false ⟨2, 0, 0, r2.size⟩ (.cells [] 0) := fun b3 => ORel.same (k := 8) h2 rfl (by simp) (by simp) rfl
  constructor
  · intro a b l row e fz hh hsz hrow
    obtain ⟨fj, hflat⟩ := senC_flat l
    refine ⟨.refl _ _, Nat.le_refl _, fun i o ho => ?_, fun i hi => ?_, fun i o ho => ?_, fun i j L L' hi _ h _ => (none4 _ i L hi h).elim, fun i L hi h => (none4 _ i L hi h).elim, fun i hi => hi, Nat.le_refl _, glob _, show 3 ≤ 4 by decide, fun i L _ hb => esz _ (fun L h => by cases h; rfl) i L hb⟩
    · have hd : ∀ j, j < 4 → decide ((AW.of (LL l) 4 4 3).ro ≤ j) = false := fun j hj => decide_eq_false (show ¬ 4 ≤ j by omega)
      have ho : alook (LL l) i = some o := ho
      simp only [alook] at ho
      split at ho
      · rename_i q; subst q; cases ho; exact ⟨_, rfl, by rw [hd 3 (by decide)]; exact ORel.same hh rfl hsz hrow hflat⟩
      split at ho
      · rename_i q; subst q; cases ho; exact ⟨_, rfl, by rw [hd 2 (by decide)]; exact o2 _⟩
      split at ho
      · rename_i q; subst q; cases ho; exact ⟨_, rfl, by rw [hd 1 (by decide)]; exact o1 _⟩
      split at ho
      · rename_i q; subst q; cases ho; exact ⟨_, rfl, by rw [hd 0 (by decide)]; exact o0 _⟩
      · cases ho
    · have hi : alook (LL l) i = none := hi
      simp only [alook] at hi
      split at hi
      · cases hi
      split at hi
      · cases hi
      split at hi
      · cases hi
      split at hi
      · cases hi
      · unfold startB
        rw [if_neg (by omega), if_neg (by omega), if_neg (by omega), if_neg (by omega)]
    · have ho : alook (LL l) i = some o := ho
      simp only [alook] at ho
      show i < 4
      split at ho
      · omega
      split at ho
      · omega
      split at ho
      · omega
      split at ho
      · omega
      · cases ho
  · refine ⟨.refl _ _, Nat.le_refl _, fun i o ho => ?_, fun i hi => ?_, fun i o ho => ?_, fun i j L L' hi _ h _ => (none4 _ i L hi h).elim, fun i L hi h => (none4 _ i L hi h).elim, fun i hi => hi, Nat.le_refl _, glob _, show 3 ≤ 4 by decide, fun i L _ hb => esz _ (fun L h => by cases h) i L hb⟩
    · have hd : ∀ j, j < 4 → decide ((AW.of LZ 4 4 3).ro ≤ j) = false := fun j hj => decide_eq_false (show ¬ 4 ≤ j by omega)
      have ho : alook LZ i = some o := ho
      simp only [alook] at ho
      split at ho
      · rename_i q; subst q; cases ho; exact ⟨_, rfl, by rw [hd 2 (by decide)]; exact o2 _⟩
      split at ho
      · rename_i q; subst q; cases ho; exact ⟨_, rfl, by rw [hd 1 (by decide)]; exact o1 _⟩
      split at ho
      · rename_i q; subst q; cases ho; exact ⟨_, rfl, by rw [hd 0 (by decide)]; exact o0 _⟩
      · cases ho
    · have hi : alook LZ i = none := hi
      simp only [alook] at hi
      split at hi
      · cases hi
      split at hi
      · cases hi
      split at hi
      · cases hi
      · unfold startB
        rw [if_neg (by omega), if_neg (by omega), if_neg (by omega)]
        split <;> rfl
    · have ho : alook LZ i = some o := ho
      simp only [alook] at ho
      show i < 4
      split at ho
      · omega
      split at ho
      · omega
      split at ho
      · omega
      · cases ho
/-- A fault's cells. -/
theorem types35 : Tryd.prog.cellTypes Tryd.prog.depth 35 = some (List.replicate 37 3 ++ [5, 5, 3, 3]) := by kernel_rfl
theorem c35 : Tryd.prog.cellsOf 35 = 41 := by kernel_rfl
theorem open35 {w : World} {b : Nat} {v : Value} (h : Value.okWide Tryd.prog w .any b 35 v) : ∃ x : Fault, v = x.val ∧ (0 ≤ x.before ∧ x.before ≤ 255) ∧ (0 ≤ x.which ∧ x.which ≤ 255) := by
  simp only [Value.okWide, Tryd.underlying35] at h
  obtain ⟨cs, rfl, hn, hr⟩ := h
  rw [c35] at hn
  have hc := row_cells hr types35 hn
  have e3 : ∀ i, i < 41 → (List.replicate 37 3 ++ [5, 5, 3, 3])[i]? = some 3 → ∃ n, cs[i]? = some (.int .i64 n) := fun i hi ht => by
    obtain ⟨n, hn', _⟩ := flat_int Tryd.underlying3 (hc i cs[i] 3 (by simp) ht)
    exact ⟨n, by rw [← hn']; simp⟩
  have e5 : ∀ i, i < 41 → (List.replicate 37 3 ++ [5, 5, 3, 3])[i]? = some 5 → ∃ n, cs[i]? = some (.int .u8 n) ∧ 0 ≤ n ∧ n ≤ 255 := fun i hi ht => by
    obtain ⟨n, hn', hh⟩ := flat_int Tryd.underlying5 (hc i cs[i] 5 (by simp) ht)
    exact ⟨n, by rw [← hn']; simp, by simpa [IntKind.has, IntKind.min, IntKind.max, IntKind.signed, IntKind.bits] using hh⟩
  have hf : ∃ f : Nat → Int, ∀ i, i < 41 → i ≠ 37 → i ≠ 38 → cs[i]? = some (.int .i64 (f i)) := by
    have : ∀ i : Nat, ∃ n : Int, i < 41 → i ≠ 37 → i ≠ 38 → cs[i]? = some (.int .i64 n) := fun i => by
      by_cases q : i < 41 ∧ i ≠ 37 ∧ i ≠ 38
      · obtain ⟨n, hn⟩ := e3 i q.1 (by
          rcases Nat.lt_or_ge i 37 with h | h
          · rw [List.getElem?_append_left (by simpa using h), List.getElem?_replicate, if_pos h]
          · obtain rfl | rfl : i = 39 ∨ i = 40 := by omega
            · rfl
            · rfl)
        exact ⟨n, fun _ _ _ => hn⟩
      · exact ⟨0, fun a b c => absurd ⟨a, b, c⟩ q⟩
    exact ⟨fun i => (this i).choose, fun i => (this i).choose_spec⟩
  obtain ⟨f, hf⟩ := hf
  obtain ⟨b1, hb1, hb2⟩ := e5 37 (by decide) rfl
  obtain ⟨w1, hw1, hw2⟩ := e5 38 (by decide) rfl
  refine ⟨⟨f 0, f 1, f 2, f 3, f 4, f 5, f 6, f 7, f 8, f 9, f 10, f 11, f 12, f 13, f 14, f 15, f 16, f 17, f 18, f 19, f 20, f 21, f 22, f 23, f 24, f 25, f 26, f 27, f 28, f 29, f 30, f 31, f 32, f 33, f 34, f 35, f 36, b1, w1, f 39, f 40⟩, ?_, hb2, hw2⟩
  congr 1
  apply Array.ext_getElem?
  intro i
  rcases Nat.lt_or_ge i 41 with h | h
  · have key : ∀ i, i < 41 → (#[.int .i64 (f 0), .int .i64 (f 1), .int .i64 (f 2), .int .i64 (f 3), .int .i64 (f 4), .int .i64 (f 5), .int .i64 (f 6), .int .i64 (f 7), .int .i64 (f 8), .int .i64 (f 9), .int .i64 (f 10), .int .i64 (f 11), .int .i64 (f 12), .int .i64 (f 13), .int .i64 (f 14), .int .i64 (f 15), .int .i64 (f 16), .int .i64 (f 17), .int .i64 (f 18), .int .i64 (f 19), .int .i64 (f 20), .int .i64 (f 21), .int .i64 (f 22), .int .i64 (f 23), .int .i64 (f 24), .int .i64 (f 25), .int .i64 (f 26), .int .i64 (f 27), .int .i64 (f 28), .int .i64 (f 29), .int .i64 (f 30), .int .i64 (f 31), .int .i64 (f 32), .int .i64 (f 33), .int .i64 (f 34), .int .i64 (f 35), .int .i64 (f 36), .int .u8 b1, .int .u8 w1, .int .i64 (f 39), .int .i64 (f 40)] : Array Value)[i]? = if i = 37 then some (.int .u8 b1) else if i = 38 then some (.int .u8 w1) else some (.int .i64 (f i)) := by
      intro i hi
      match i, hi with
      | 0, _ => rfl
      | 1, _ => rfl
      | 2, _ => rfl
      | 3, _ => rfl
      | 4, _ => rfl
      | 5, _ => rfl
      | 6, _ => rfl
      | 7, _ => rfl
      | 8, _ => rfl
      | 9, _ => rfl
      | 10, _ => rfl
      | 11, _ => rfl
      | 12, _ => rfl
      | 13, _ => rfl
      | 14, _ => rfl
      | 15, _ => rfl
      | 16, _ => rfl
      | 17, _ => rfl
      | 18, _ => rfl
      | 19, _ => rfl
      | 20, _ => rfl
      | 21, _ => rfl
      | 22, _ => rfl
      | 23, _ => rfl
      | 24, _ => rfl
      | 25, _ => rfl
      | 26, _ => rfl
      | 27, _ => rfl
      | 28, _ => rfl
      | 29, _ => rfl
      | 30, _ => rfl
      | 31, _ => rfl
      | 32, _ => rfl
      | 33, _ => rfl
      | 34, _ => rfl
      | 35, _ => rfl
      | 36, _ => rfl
      | 37, _ => rfl
      | 38, _ => rfl
      | 39, _ => rfl
      | 40, _ => rfl
      | n + 41, h => exact absurd h (by omega)
    refine Eq.trans ?_ (key i h).symm
    by_cases q : i = 37
    · subst q; rw [if_pos rfl]; exact hb1
    by_cases q2 : i = 38
    · subst q2; rw [if_neg q, if_pos rfl]; exact hw1
    rw [if_neg q, if_neg q2]
    exact hf i h q q2
  · rw [Array.getElem?_eq_none (by omega), Array.getElem?_eq_none (by simpa using h)]
end Go.M
namespace Go.M
set_option maxRecDepth 100000
open Go.RowKit Go.Proofs Go.ChangeShapes Go.WideShapes Go.ChangeAt
section
variable {H : Type} {enc : TypeId × Value → H}
theorem returnsInHanded_shaped {a : Assume} {C : Checked} {os : Os} {f : FuncId} {fn : Func} {s : ChangeSpec} {conds : List PathCond} {apart fresh handsOn again : Bool} {X : World → Array Value → Prop}
    (hX : ∀ (w w' : World) (args : Array Value), w.heap = w'.heap → X w args → X w' args)
    (own : ownKnob C.prog.godebug = none) (started : os.Started) (noInit : C.prog.inits.idxOf? f = none) (hfn : C.prog.funcs[f]? = some fn)
    (witness : ∃ (w : World) (tape : Tape) (i : Input), w.os = os ∧ (w.forCall tape i).Shaped C.prog ∧ i.vars = [] ∧ Input.okWide C.prog (w.forCall tape i) .any w.heap.size f i ∧
      ((s.pre enc C.prog fn conds apart (w.forCall tape i).memory i.args ∧ X (w.forCall tape i).memory i.args) ∧ sizedMet enc C.prog fn (OpenSpec.ofChange s) apart (w.forCall tape i).memory i.args) ∧ a.holds C.prog (lone (Frame.enter C.prog f i.args .normal) [] (w.forCall tape i)))
    (contract : ∀ (W : World) (base : Nat) (args : Array Value) (ds gs : List (DataW H)) (before : List MemPlace), W.ShapedOpen C.prog →
      (∀ (j : Nat) t v, fn.params[j]? = some t → args[j]? = some v → Value.okWide C.prog W .any base t v) →
      DataW.Whole enc C.prog fn.params.toList s.vars apart W args.toList ds gs before → X W args →
      Calls C.prog f args W fun e W' => ∃ v, e = .returned v ∧ s.post enc C.prog fn apart fresh handsOn again W args v W') :
    ReturnsInHanded a C os f .any (fun w args => (s.pre enc C.prog fn conds apart w args ∧ X w args) ∧ sizedMet enc C.prog fn (OpenSpec.ofChange s) apart w args) (s.post enc C.prog fn apart fresh handsOn again) := by
  refine returnsInHanded_of_calls own started noInit witness ?_
  intro w tape i _ hsh _ hok hpre hholds
  obtain ⟨_, _, _, fn', hfn', _, _, _, _, hval⟩ := hok
  have e : fn' = fn := Option.some.inj (hfn'.symm.trans hfn)
  subst e
  obtain ⟨⟨⟨ds, gs, before, hw, hc⟩, hx⟩, hz⟩ := hpre
  have hw' := DataW.Whole.of_heap (w' := w.forCall tape i) (by rfl) hw
  refine (contract (w.forCall tape i) w.heap.size i.args ds gs before hsh hval hw' (hX _ _ _ (by rfl) hx)).mono fun e W' ⟨v, he, hp⟩ => ?_
  subst he
  exact ChangeSpec.post_blind hp
end
variable {H : Type} {enc : TypeId × Value → H} {W : World} {P : Program}
theorem trodAll_stays {W W' : World} {sp' : Nat → Bool} (hl : laidOutB P = true) : ∀ {ts : List TypeId} {vs : List Value} {ds : List (DataW H)} {ps : List MemPlace}, (ts.all fun t => P.readableRec t && decide (t < P.types.size)) = true →
    DataW.TrodAll enc P W 0 (fun _ => true) true ts vs ds ps → (∀ p ∈ ps, W.sameAt W' p) → (∀ p ∈ ps, sp' p.block = true) → DataW.TrodAll enc P W' 0 sp' true ts vs ds ps
  | [], vs, ds, ps, _, h, _, _ => by
    obtain ⟨rfl, rfl, rfl⟩ := Go.ChangeShapes.trodAll_nil h
    exact rfl
  | t :: ts, vs, ds, ps, hr, h, hs, hp => by
    obtain ⟨v, vs', d, ds', p, q, rfl, rfl, rfl, h1, h2⟩ := Go.ChangeShapes.trodAll_cons h
    simp only [List.all_cons, Bool.and_eq_true, decide_eq_true_eq] at hr
    exact ⟨p, q, WideElems.Trod_stays hl hr.1.1 hr.1.2 h1 (fun x hx => hs x (List.mem_append_left _ hx)) (fun x hx => hp x (List.mem_append_left _ hx)),
      trodAll_stays hl hr.2 h2 (fun x hx => hs x (List.mem_append_right _ hx)) (fun x hx => hp x (List.mem_append_right _ hx)), rfl⟩
theorem heap2 (h : W.ShapedOpen Tryd.prog) : ∃ cs e fz, W.heap[2]? = some (.cells cs e fz) := by
  have hr : ∃ z t, (((begin Tryd.prog (fun _ _ => 0) default).world.heap)[2]?).bind Obj.row? = some (z, t) := by
    have : ((((begin Tryd.prog (fun _ _ => 0) default).world.heap)[2]?).bind Obj.row?).isSome = true := by kernel_rfl
    obtain ⟨x, hx⟩ := Option.isSome_iff_exists.1 this
    exact ⟨x.1, x.2, hx⟩
  obtain ⟨z, t, hz⟩ := hr
  obtain ⟨cs, hc, _⟩ := h.1 2 z t (of_decide_eq_true (by kernel_rfl)) hz
  exact ⟨cs, t, _, hc⟩
theorem open24 {fuel : Nat} {sp : Nat → Bool} {held : Bool} {cs : List Value} {x : DataW H × List MemPlace} (h : DataW.trod enc Tryd.prog W 0 sp held fuel 24 cs = some x) :
    ∃ (c0 : Value) (need sil : Int) (n : Nat) (y : DataW H × List MemPlace), cs = [c0, .int .i64 need, .int .i64 sil] ∧ DataW.trod enc Tryd.prog W 0 sp held n 22 [c0] = some y := by
  obtain ⟨xs, n, rfl, rfl, hl, hxs, hf⟩ := DataW.trod_struct Tryd.underlying24 h
  have hxs : xs.length = 3 := hxs
  rw [c24] at hl
  have h0 : DataW.trod enc Tryd.prog W 0 sp held n 22 ((cs.drop 0).take (Tryd.prog.cellsOf 22)) = xs[0]? := hf 0 _ rfl
  have h1 : DataW.trod enc Tryd.prog W 0 sp held n 3 ((cs.drop 1).take (Tryd.prog.cellsOf 3)) = xs[1]? := hf 1 _ rfl
  have h2 : DataW.trod enc Tryd.prog W 0 sp held n 3 ((cs.drop 2).take (Tryd.prog.cellsOf 3)) = xs[2]? := hf 2 _ rfl
  rw [c22] at h0
  rw [c3] at h1 h2
  match cs, hl with
  | [a, b, c], _ =>
    match xs, hxs with
    | [x0, x1, x2], _ =>
      obtain ⟨need, e1, _⟩ := DataW.trod_int Tryd.underlying3 (show DataW.trod enc Tryd.prog W 0 sp held n 3 [b] = some x1 from h1)
      obtain ⟨sil, e2, _⟩ := DataW.trod_int Tryd.underlying3 (show DataW.trod enc Tryd.prog W 0 sp held n 3 [c] = some x2 from h2)
      simp at e1 e2
      exact ⟨a, need, sil, n, x0, by rw [e1, e2], h0⟩
theorem laidOutD : laidOutB Tryd.prog = true := by kernel_rfl
theorem ownD : ownKnob Tryd.prog.godebug = none := by kernel_rfl
/-- A law over a plant and a fault that the walk shows to be true. -/
theorem calls_law {f : FuncId} {c0 : Value} {v1 : Value} {need sil : Int} {base n : Nat} {y : DataW H × List MemPlace} {enc : TypeId × Value → H}
    (law : ∀ (c : Nat) (l : List Sen) (need sil : Int) (x : Fault), l.length ≤ 9223372036854775807 → (0 ≤ x.which ∧ x.which ≤ 255) → (0 ≤ x.before ∧ x.before ≤ 255) → AC Tryd.prog f [.agg #[.slice (some ⟨3, 0, none⟩) l.length c, .int .i64 need, .int .i64 sil], x.val] (AW.of (LL l) 4 4 3) (fun v _ => v = .bool true))
    (zero : ∀ (b : Option Addr) (c : Nat) (need sil : Int) (x : Fault), AC Tryd.prog f [.agg #[.slice b 0 c, .int .i64 need, .int .i64 sil], x.val] (AW.of LZ 4 4 3) (fun v _ => v = .bool true))
    (hsh : W.ShapedOpen Tryd.prog) (hL : laidMetH Tryd.prog laid2 W) (h0 : DataW.trod enc Tryd.prog W 0 (fun _ => true) true n 22 [c0] = some y) (h1 : Value.okWide Tryd.prog W .any base 35 v1) :
    Calls Tryd.prog f #[.agg #[c0, .int .i64 need, .int .i64 sil], v1] W fun e W' => e = .returned (.bool true) ∧ Below W.heap.size W W' := by
  obtain ⟨x, rfl, hb, hw⟩ := open35 h1
  obtain ⟨r0, e0, f0, g0, q0⟩ := silent_heap hL
  obtain ⟨r1, e1, f1, g1, q1⟩ := steps_heap hL
  obtain ⟨r2, e2, f2, g2⟩ := heap2 hsh
  obtain ⟨s1, s2⟩ := start_sim g0 q0 g1 q1 g2
  have flat : ∀ (β : Bet) (S : Nat → Prop), VRs β S [x.val] [x.val] := fun β S => VRs.refl_of_noAddrs 64 _ rfl
  have fin : ∀ {A : AW} {β : Bet} {S : Nat → Prop} {e : Ending} {W' : World}, (match e with
      | .returned v' => ∃ β1 S1 v A1, Aft Tryd.prog W W.heap.size A.next β S A β1 S1 A1 W' ∧ VR β1 S1 v v' ∧ v = .bool true
      | _ => False) → e = .returned (.bool true) ∧ Below W.heap.size W W' := fun he => by
    rename_i A β S e W'
    cases e with
    | panicked => exact he.elim
    | outgrown => exact he.elim
    | returned v' =>
      obtain ⟨β1, S1, v, A1, k1, k2, rfl⟩ := he
      obtain rfl : v' = .bool true := by cases k2; rfl
      exact ⟨rfl, k1.sim.below⟩
  rcases open22 h0 with ⟨b, c, hc, _⟩ | ⟨a, b, c, l, hc, hpos, hmax, row, e, fz, hh, hsz, hrow⟩
  · obtain rfl : c0 = .slice b 0 c := by simpa using hc
    cases b with
    | none => exact Calls.mono (zero none c need sil x W W.heap.size W _ _ _ s2 (VRs.cons (.agg (.sl0 (VRs.refl_of_noAddrs 8 _ rfl)) .nil) (flat _ _))) fun e W' he => fin he
    | some ad =>
      obtain ⟨ab, ao, asp⟩ := ad
      exact Calls.mono (zero (some ⟨3, 0, none⟩) c need sil x W W.heap.size W _ _ _ s2 (VRs.cons (.agg (.slD (by decide) rfl (Nat.le_refl _) (VRs.refl_of_noAddrs 8 _ rfl)) .nil) (flat _ _))) fun e W' he => fin he
  · obtain rfl : c0 = .slice (some ⟨a, b, none⟩) l.length c := by simpa using hc
    have hm : l.length ≤ 9223372036854775807 := by unfold maxLen at hmax; omega
    refine Calls.mono (law c l need sil x hm hw hb W W.heap.size W _ _ _ (s1 hh hsz hrow) (VRs.cons (.agg (.sl (L := ⟨a, b, 0, row.size⟩) (o := 0) (by decide) rfl (Nat.le_refl _) (.inl rfl) (VRs.refl_of_noAddrs 8 _ rfl)) .nil) (flat _ _))) fun e W' he => fin he
end Go.M
