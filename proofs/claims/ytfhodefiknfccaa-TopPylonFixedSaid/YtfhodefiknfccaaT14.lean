/- TopPylonFixed: for every input the law returns true, and its arguments read as before. No condition. -/
import Derived.Test.YtfhodefiknfccaaRows
import Derived.Test.YtfhodefiknfccaaT13
import Derived.WalkKit
import Derived.ProofKit
import Derived.OpenShut
set_option linter.unusedVariables false
set_option linter.unusedSimpArgs false
namespace Go.M
open Go.RowKit Go.Proofs
/-! From the world of the call to the abstract memory, where no argument holds an address. -/
theorem Sim.empty (P : Program) (W : World) : Sim P W W.heap.size (fun _ => none) (fun _ => False) (AW.of [] 0 0 0) W where
  below := .refl _ _
  Nle := Nat.le_refl _
  live := fun i o h => by cases h
  dead := fun _ _ => rfl
  lt := fun i o h => by cases h
  inj := fun i j L L' _ _ h => by cases h
  hi := fun i L _ h => by cases h
  sub := fun _ h => h.elim
  role := Nat.le_refl _
  glob := fun g h => absurd h (Nat.not_lt_zero g)
  gle := Nat.le_refl _
  roz := fun i L _ h => by cases h
theorem flat_int {P : Program} {w : World} {r : Reach} {b : Nat} {t : TypeId} {k : IntKind} {v : Value} (hu : P.underlying t = some (.int k)) (h : Cell.okWide P w r b t v) : ∃ n, v = .int k n ∧ k.has n := by
  unfold Cell.okWide at h
  rw [hu] at h
  cases v <;> simp only [Cell.ok, hu] at h
  obtain ⟨rfl, h⟩ := h
  exact ⟨_, rfl, h⟩
/-- The cells of a value of a type whose cells are known. -/
theorem row_cells {P : Program} {w : World} {r : Reach} {b : Nat} {t : TypeId} {cs : Array Value} {ts : List TypeId} (h : Row.okWide P w r b t cs) (ht : P.cellTypes P.depth t = some ts) (hn : cs.size = ts.length) :
    ∀ (i : Nat) v u, cs[i]? = some v → ts[i]? = some u → Cell.okWide P w r b u v := by
  obtain ⟨ts', e, _, h⟩ := h
  rw [ht] at e; cases e
  intro i v u hi hu
  obtain ⟨u', hu', h'⟩ := h i v hi
  have : i < ts.length := (List.getElem?_eq_some_iff.1 hu).1
  rw [Nat.mod_eq_of_lt this, hu] at hu'
  cases hu'
  exact h'
variable {H : Type} {enc : TypeId × Value → H} {P : Program}
theorem trodAll_stays {W W' : World} {sp' : Nat → Bool} (hl : laidOutB P = true) : ∀ {ts : List TypeId} {vs : List Value} {ds : List (DataW H)} {ps : List MemPlace}, (ts.all fun t => P.readableRec t && decide (t < P.types.size)) = true →
    DataW.TrodAll enc P W 0 (fun _ => true) true ts vs ds ps → (∀ p ∈ ps, W.sameAt W' p) → (∀ p ∈ ps, sp' p.block = true) → DataW.TrodAll enc P W' 0 sp' true ts vs ds ps
  | [], vs, ds, ps, _, h, _, _ => by
    obtain ⟨rfl, rfl, rfl⟩ := Go.ChangeShapes.trodAll_nil h
    exact rfl
  | t :: ts, vs, ds, ps, hr, h, hs, hp => by
    obtain ⟨v, vs', d, ds', p, q, rfl, rfl, rfl, h1, h2⟩ := Go.ChangeShapes.trodAll_cons h
    simp only [List.all_cons, Bool.and_eq_true, decide_eq_true_eq] at hr
    exact ⟨p, q, WideElems.Trod_stays hl hr.1.1 hr.1.2 h1 (fun x hx => hs x (List.mem_append_left _ hx)) (fun x hx => hp x (List.mem_append_left _ hx)),
      trodAll_stays hl hr.2 h2 (fun x hx => hs x (List.mem_append_right _ hx)) (fun x hx => hp x (List.mem_append_right _ hx)), rfl⟩
end Go.M
namespace Go.Proofs.Ytfhodefiknfccaa
open Go.ChangeShapes Go.WideShapes Go.ChangeAt Go.RowKit Go.M
theorem own : ownKnob Try.prog.godebug = none := by kernel_rfl
theorem laidOut : laidOutB Try.prog = true := by kernel_rfl
theorem types23 : Try.prog.cellTypes Try.prog.depth 23 = some [3, 3, 3, 3, 3, 3, 3, 3] := by kernel_rfl
theorem types25 : Try.prog.cellTypes Try.prog.depth 25 = some [24, 24, 24] := by kernel_rfl
theorem types27 : Try.prog.cellTypes Try.prog.depth 27 = some [26, 26, 26] := by kernel_rfl
theorem readable : (Try.f3.params.toList.all fun t => Try.prog.readableRec t && decide (t < Try.prog.types.size)) = true := by kernel_rfl
theorem open23 {w : World} {b : Nat} {v : Value} (h : Value.okWide Try.prog w .any b 23 v) : ∃ s1 s2 s3 s4 s5 s6 s7 s8, v = .agg #[.int .i64 s1, .int .i64 s2, .int .i64 s3, .int .i64 s4, .int .i64 s5, .int .i64 s6, .int .i64 s7, .int .i64 s8] := by
  simp only [Value.okWide, Try.underlying23] at h
  obtain ⟨cs, rfl, hn, hr⟩ := h
  have hn : cs.size = 8 := hn
  have hc := row_cells hr types23 hn
  have e (i : Nat) (hi : i < 8) (ht : [3, 3, 3, 3, 3, 3, 3, 3][i]? = some 3) : ∃ n, cs[i]? = some (.int .i64 n) := by
    obtain ⟨n, hn', _⟩ := flat_int Try.underlying3 (hc i cs[i] 3 (by simp) ht)
    exact ⟨n, by rw [← hn']; simp⟩
  obtain ⟨⟨s1, e1⟩, ⟨s2, e2⟩, ⟨s3, e3⟩, ⟨s4, e4⟩, ⟨s5, e5⟩, ⟨s6, e6⟩, ⟨s7, e7⟩, ⟨s8, e8⟩⟩ : _ ∧ _ ∧ _ ∧ _ ∧ _ ∧ _ ∧ _ ∧ _ :=
    ⟨e 0 (by decide) rfl, e 1 (by decide) rfl, e 2 (by decide) rfl, e 3 (by decide) rfl, e 4 (by decide) rfl, e 5 (by decide) rfl, e 6 (by decide) rfl, e 7 (by decide) rfl⟩
  refine ⟨s1, s2, s3, s4, s5, s6, s7, s8, ?_⟩
  congr 1
  apply Array.ext_getElem?
  intro i
  match i with
  | 0 => exact e1
  | 1 => exact e2
  | 2 => exact e3
  | 3 => exact e4
  | 4 => exact e5
  | 5 => exact e6
  | 6 => exact e7
  | 7 => exact e8
  | i + 8 => rw [Array.getElem?_eq_none (by omega), Array.getElem?_eq_none (by simp)]
theorem open3 {t u : TypeId} {k : IntKind} (ht : ∃ e n, Try.prog.underlying t = some (.array n e)) (hts : Try.prog.cellTypes Try.prog.depth t = some [u, u, u]) (hcells : Try.prog.cellsOf t = 3) (hu : Try.prog.underlying u = some (.int k)) {w : World} {b : Nat} {v : Value} (h : Value.okWide Try.prog w .any b t v) :
    ∃ x0 x1 x2, v = .agg #[.int k x0, .int k x1, .int k x2] ∧ k.has x0 ∧ k.has x1 ∧ k.has x2 := by
  obtain ⟨el, n, ht⟩ := ht
  simp only [Value.okWide, ht] at h
  obtain ⟨cs, rfl, hn, hr⟩ := h
  have hn : cs.size = 3 := hn.trans hcells
  have hc := row_cells hr hts hn
  have e (i : Nat) (hi : i < 3) (ht : [u, u, u][i]? = some u) : ∃ n, cs[i]? = some (.int k n) ∧ k.has n := by
    obtain ⟨n, hn', hh⟩ := flat_int hu (hc i cs[i] u (by simp) ht)
    exact ⟨n, by rw [← hn']; simp, hh⟩
  obtain ⟨⟨x0, e0, g0⟩, ⟨x1, e1, g1⟩, ⟨x2, e2, g2⟩⟩ : _ ∧ _ ∧ _ := ⟨e 0 (by decide) rfl, e 1 (by decide) rfl, e 2 (by decide) rfl⟩
  refine ⟨x0, x1, x2, ?_, g0, g1, g2⟩
  congr 1
  apply Array.ext_getElem?
  intro i
  match i with
  | 0 => exact e0
  | 1 => exact e1
  | 2 => exact e2
  | i + 3 => rw [Array.getElem?_eq_none (by omega), Array.getElem?_eq_none (by simp)]
theorem has_u16 {n : Int} (h : IntKind.u16.has n) : 0 ≤ n ∧ n ≤ 65535 := by
  simpa [IntKind.has, IntKind.min, IntKind.max, IntKind.signed, IntKind.bits] using h
theorem has_i8 {n : Int} (h : IntKind.i8.has n) : -128 ≤ n ∧ n ≤ 127 := by
  simpa [IntKind.has, IntKind.min, IntKind.max, IntKind.signed, IntKind.bits] using h

set_option maxRecDepth 100000 in
theorem lifted (os : Os) (started : os.Started) (H : Type) (enc : TypeId × Value → H) :
    ReturnsInHanded {} Try.checked os 3 .any (Rows.topPylonFixedSpec.pre6 enc Try.prog Try.f3 Rows.topPylonFixedRow.domain false) (Rows.topPylonFixedSpec.post enc Try.prog Try.f3 false true false false) := by
  refine returnsInHanded_of_change (C := Try.checked) own started (by kernel_rfl) Try.func3
    (ChangeSpec.witness6 (enc := enc) (C := Try.checked) false ⟨#[], #[.agg #[.int .i64 0, .int .i64 0, .int .i64 0, .int .i64 0, .int .i64 0, .int .i64 0, .int .i64 0, .int .i64 0], .agg #[.int .u16 0, .int .u16 0, .int .u16 0], .agg #[.int .i8 0, .int .i8 0, .int .i8 0]], []⟩ 8 (by kernel_rfl) (by kernel_rfl) (by kernel_rfl) (by kernel_rfl)) ?_
  intro W base args ds gs before hval hW _ _
  have hW' := hW
  obtain ⟨p, q, hA, hV, rfl, _, _⟩ := hW
  have hA' : DataW.TrodAll enc Try.prog W 0 (fun _ => true) true Try.f3.params.toList args.toList ds p := hA
  obtain ⟨v0, vs0, d0, ds0, p0, q0, hargs, rfl, rfl, _, r0⟩ := trodAll_cons hA'
  obtain ⟨v1, vs1, d1, ds1, p1, q1, rfl, rfl, rfl, _, r1⟩ := trodAll_cons r0
  obtain ⟨v2, vs2, d2, ds2, p2, q2, rfl, rfl, rfl, _, r2⟩ := trodAll_cons r1
  obtain ⟨rfl, rfl, rfl⟩ := trodAll_nil r2
  obtain rfl : args = #[v0, v1, v2] := by cases args; simp_all
  obtain ⟨rfl, rfl⟩ := trodVars_none hV
  obtain ⟨s1, s2, s3, s4, s5, s6, s7, s8, rfl⟩ := open23 (hval 0 23 v0 rfl rfl)
  obtain ⟨x0, x1, x2, rfl, g0, g1, _⟩ := open3 ⟨_, _, Try.underlying25⟩ types25 (by kernel_rfl) Try.underlying24 (hval 1 25 v1 rfl rfl)
  obtain ⟨n0, n1, n2, rfl, k0, k1, k2⟩ := open3 ⟨_, _, Try.underlying27⟩ types27 (by kernel_rfl) Try.underlying26 (hval 2 27 v2 rfl rfl)
  refine Calls.mono (law3 (A := AW.of [] 0 0 0) s1 s2 s3 s4 s5 s6 s7 s8 x0 x1 x2 n0 n1 n2 (has_u16 g0) (has_u16 g1) (has_i8 k0) (has_i8 k1) (has_i8 k2) W W.heap.size W (fun _ => none) (fun _ => False) _ (Sim.empty _ _) (VRs.refl_of_noAddrs 64 _ rfl)) fun e W' he => ?_
  cases e with
  | panicked => exact he.elim
  | outgrown => exact he.elim
  | returned v' =>
    obtain ⟨β1, S1, v, A1, h1, h2, rfl, rfl⟩ := he
    obtain rfl : v' = .bool true := by cases h2; rfl
    have hb : Below W.heap.size W W' := h1.sim.below
    have hlt : ∀ x ∈ p0 ++ (p1 ++ (p2 ++ [])), x.block < W.heap.size := fun x hx => by simpa using hW'.lt x (List.mem_append_left _ hx)
    refine ⟨_, rfl, _, _, _, [], _, [], hW', trodAll_mk1 (shut_bool Try.underlying4 _), trodAll_stays laidOut readable hA' (fun x hx => hb.same (hlt x hx)) (fun x hx => by simpa using hlt x hx), rfl, hb.frame _, fun h => by cases h⟩

theorem topPylonFixed_holds : Rows.TopPylonFixedSaid :=
  OpenClaim.holds_of_wide 3 Try.f3 rfl rfl rfl rfl rfl rfl rfl ⟨rfl, rfl, rfl, rfl, rfl⟩ rfl rfl rfl rfl rfl (by kernel_rfl) Try.func3 (by kernel_rfl)
    (of_decide_eq_true (by kernel_rfl)) (by unfold Func.isWrapper; first | (rw [if_pos (by decide +kernel)]; kernel_rfl) | (rw [if_neg (by decide +kernel)]; exact ⟨rfl, rfl⟩))
    (fun os started H enc _ => lifted os started H enc)
#print axioms topPylonFixed_holds
end Go.Proofs.Ytfhodefiknfccaa
