/- Functions of the given program, walked (no condition beyond what each theorem says). -/
import Derived.Test.YtfhodefiknfccaaDoorH7
import Derived.Test.YtfhodefiknfccaaDoorH4
import Derived.Test.YtfhodefiknfccaaDoorH5
set_option linter.unusedVariables false
set_option linter.unusedSimpArgs false
namespace Go.M
open Go.Proofs Go.RowKit
set_option maxRecDepth 8000
set_option maxHeartbeats 8000000
def cornersL (b : Bx) : Pts := if b.lx = b.hx ∧ b.ly = b.hy then [(b.lx, b.ly)] else [(b.lx, b.ly), (b.hx, b.ly), (b.hx, b.hy), (b.lx, b.hy)]
theorem cornersL_len {b : Bx} : (cornersL b).length ≤ 1000 := by unfold cornersL; split <;> simp
theorem cornersL_in {b : Bx} (h : BoxOk b.lx b.ly b.hx b.hy) : ∀ k, k < (cornersL b).length → In6 (pt (cornersL b) k).1 ∧ In6 (pt (cornersL b) k).2 := by
  obtain ⟨h1, h2, h3, h4, _⟩ := h
  unfold cornersL
  split
  · intro k hk
    match k, hk with
    | 0, _ => exact ⟨h1, h2⟩
  · intro k hk
    match k, hk with
    | 0, _ => exact ⟨h1, h2⟩
    | 1, _ => exact ⟨h3, h2⟩
    | 2, _ => exact ⟨h3, h4⟩
    | 3, _ => exact ⟨h1, h4⟩
theorem w_corners165 {A : AW} (b : Bx) : AC Tryd.prog 165 [.agg b.vs.toArray] A (isR (.slice (some ⟨A.next, 0, none⟩) (cornersL b).length (cornersL b).length) (A.push (.cells (ptC (cornersL b)) 97))) := by
  refine AC.mono (AC.givesX (Φ := fun cs => cs = ptC (cornersL b)) (e := 97) (SmallX.nil) (args := [.agg b.vs.toArray]) (v2 := .slice (some ⟨A.next, 0, none⟩) (cornersL b).length (cornersL b).length) ?_ (.flat (k := 32) rfl .nil)) (fun v A1 hv => by obtain ⟨cs, rfl, rfl, rfl⟩ := hv; exact ⟨rfl, rfl⟩)
  refine AC.go Tryd.func165 rfl rfl ?_
  by_cases hc : b.lx = b.hx ∧ b.ly = b.hy
  · have e : cornersL b = [(b.lx, b.ly)] := if_pos hc
    rw [e]
    repeat' (first
    | refine GL.sf rfl rfl rfl rfl ?_
    | refine GL.done ?_
    | refine GP.thenN ?_
    | refine GT.seq ?_
    | refine GT.region ?_
    | refine GL.v rfl rfl rfl (by exact GO.eq rfl rfl rfl rfl rfl Tryd.eqGuardType97 (w_aeq97 _ _ _ _) rfl) ?_
    | refine GT.ret ?_
    | refine GP.thenR ?_
    | (refine GT.condD rfl (fun h => ?_) (fun h => ?_) <;> try (exfalso; omega))
    | refine GP.endR1 rfl ?_)
    exact ⟨1, _, rfl, Nat.le_of_ble_eq_true rfl, ⟨8, rfl⟩, rfl, .sl (f := 0) (g := 0) (if_pos rfl) rfl .nil⟩
  · have e : cornersL b = [(b.lx, b.ly), (b.hx, b.ly), (b.hx, b.hy), (b.lx, b.hy)] := if_neg hc
    rw [e]
    repeat' (first
    | refine GL.sf rfl rfl rfl rfl ?_
    | refine GL.done ?_
    | refine GP.thenN ?_
    | refine GT.seq ?_
    | refine GT.region ?_
    | refine GL.v rfl rfl rfl (by exact GO.eq rfl rfl rfl rfl rfl Tryd.eqGuardType97 (w_aeq97 _ _ _ _) rfl) ?_
    | refine GT.skip ?_
    | refine GT.ret ?_
    | (refine GT.condD rfl (fun h => ?_) (fun h => ?_) <;> try (exfalso; omega))
    | refine GP.endR1 rfl ?_)
    exact ⟨1, _, rfl, Nat.le_of_ble_eq_true rfl, ⟨16, rfl⟩, rfl, .sl (f := 0) (g := 0) (if_pos rfl) rfl .nil⟩
def sepAny (ps : Pts) (b : Bx) (n : Nat) : Bool := (List.range n).any fun i => (cornersL b).all fun p => decide (crS ps i p < 0)
def meetsB (ps : Pts) (b : Bx) : Bool := !sepAny ps b ps.length && !((ps.all fun p => sdB b 0 p) || (ps.all fun p => sdB b 1 p) || (ps.all fun p => sdB b 2 p) || (ps.all fun p => sdB b 3 p))
theorem sepAny_succ {ps : Pts} {b : Bx} {n : Nat} : sepAny ps b (n + 1) = (sepAny ps b n || (cornersL b).all fun p => decide (crS ps n p < 0)) := by
  unfold sepAny; rw [List.range_succ, List.any_append]; simp
theorem sepAny_of {ps : Pts} {b : Bx} {n i : Nat} (hi : i < n) (h : ((cornersL b).all fun p => decide (crS ps i p < 0)) = true) : sepAny ps b n = true :=
  List.any_eq_true.2 ⟨i, List.mem_range.2 hi, h⟩
abbrev sidesC : List Value := [sdF 0, sdF 1, sdF 2, sdF 3]
/-- What every memory of the law holds. -/
structure GW (A : AW) : Prop where
  gl : A.gl = 3
  g0 : A.rd 0 0 0 = some []
  g1 : A.rd 1 0 0 = some []
  g2 : A.rd 2 0 4 = some sidesC
abbrev WG : LM := [(2, .cells sidesC 274), (1, .cells [] 0), (0, .cells [] 0)]
theorem GW.small {A : AW} (h : GW A) : SmallX A WG 3 3 (fun j => if j < 3 then some (j, 0) else none) := by
  refine ⟨fun j x hx => by split at hx <;> simp_all, fun j hj => ?_, fun j o hj => ?_, by rw [h.gl]; exact Nat.le_refl _, fun g hg => by simp [hg], by decide⟩
  · match j with
    | 0 => simp [alook] at hj
    | 1 => simp [alook] at hj
    | 2 => simp [alook] at hj
    | j + 3 => simp
  · match j with
    | 0 => simp only [alook] at hj; simp at hj; subst hj; exact ⟨by decide, (0, 0), by simp, .flat (k := 8) h.g0 rfl⟩
    | 1 => simp only [alook] at hj; simp at hj; subst hj; exact ⟨by decide, (1, 0), by simp, .flat (k := 8) h.g1 rfl⟩
    | 2 => simp only [alook] at hj; simp at hj; subst hj; exact ⟨by decide, (2, 0), by simp, .flat (k := 8) h.g2 rfl⟩
    | j + 3 => simp [alook] at hj
theorem w_meets156 {A : AW} {x c : Nat} (hG : GW A) (ps : Pts) (b : Bx) (hp : PolyOk ps) (hb : BoxOk b.lx b.ly b.hx b.hy) (hx : A.rd x 0 (ptC ps).length = some (ptC ps)) : AC Tryd.prog 156 [.slice (some ⟨x, 0, none⟩) ps.length c, .agg b.vs.toArray] A (isR (.bool (meetsB ps b)) A) := by
  obtain ⟨fz, hfz⟩ := ptC_flat ps
  have hn := hp.len
  refine AC.isX (hG.small.cons (b := x) (f := 0) (o := .cells (ptC ps) 97) (.flat hx hfz)) (args := [.slice (some ⟨3, 0, none⟩) ps.length c, .agg b.vs.toArray]) ?_ ⟨8, rfl⟩ (.sl rfl rfl (.flat (k := 32) rfl .nil))
  refine AC.go Tryd.func156 rfl rfl ?_
  clear hx
  repeat' (first
  | refine GT.scope ?_
  | refine GT.label ?_
  | refine GL.sf rfl rfl rfl rfl ?_
  | refine GL.sv rfl rfl rfl rfl ?_
  | refine GL.done ?_
  | refine GP.thenN ?_
  | refine GT.seq ?_
  | refine GT.region ?_
  | refine GT.block ?_)
  refine GT.loop (fun q a L nx => ∃ i : Nat, i ≤ ps.length ∧ q = ps.length - i ∧ 6 ≤ nx ∧ sepAny ps b i = false ∧ asub [(2, .pointer (some ⟨4, 0, none⟩)), (3, .pointer (some ⟨5, 0, none⟩)), (5, .bool false), (10, .int .i64 ps.length), (11, .int .i64 i)] a ∧ subm ((5, .cells b.vs 99) :: (4, .cells [.slice (some ⟨3, 0, none⟩) ps.length c] 149) :: (3, .cells (ptC ps) 97) :: WG) L) ps.length
    ⟨0, by omega, by omega, Nat.le_of_ble_eq_true rfl, rfl, asub_cons rfl (asub_cons rfl (asub_cons rfl (asub_cons rfl (asub_cons rfl asub_nil)))), subm_cons rfl (subm_cons rfl (subm_cons rfl (subm_cons rfl (subm_cons rfl (subm_cons rfl subm_nil)))))⟩ ?_
  rintro q a L nx ⟨i, hi, rfl, hnx, hz, hs, hsub⟩
  refine GT.resetL 6 hs hsub hnx rfl rfl (Under.look (.cons rfl (Lt.flat (j := 8) rfl) (.cons rfl (.cons (.sl rfl) .nil) (.cons rfl (Lt.flat hfz) (.cons rfl (Lt.flat (j := 16) rfl) (.cons rfl (Lt.flat (j := 8) rfl) (.cons rfl (Lt.flat (j := 8) rfl) .nil))))))) (.cons (.ptr rfl) (.cons (.ptr rfl) (.cons (.flat (j := 8) rfl) (.cons (.flat (j := 8) rfl) (.cons (.flat (j := 8) rfl) .nil))))) (fun g hg => by
      match g, hg with
      | 0, _ => rfl
      | 1, _ => rfl
      | 2, _ => rfl) ?_
  clear hs hsub hnx
  rcases Nat.lt_or_ge i ps.length with hlt | hge
  · have ka := fun {A : AW} {y b2 cc : Nat} hy hx e1 e2 => w_all164s (A := A) (y := y) (x := 3) (b1 := 4) (b2 := b2) (c := c) (cc := cc) (cornersL b) ps i hp hlt cornersL_len (cornersL_in hb) hy hx e1 e2
    cases hc : (cornersL b).all fun p => decide (crS ps i p < 0) with
    | true =>
      rw [hc] at ka
      repeat' (first
      | refine GP.scopeR ?_
      | refine GL.sf rfl rfl rfl rfl ?_
      | refine GL.sn rfl rfl rfl ?_
      | refine GL.done ?_
      | refine GP.thenN ?_
      | refine GT.seq ?_
      | refine GT.region ?_
      | refine GL.v rfl rfl rfl (by first | exact GO.push (GO.call rfl rfl Tryd.func165 rfl rfl rfl (w_corners165 b)) | exact GO.call rfl rfl Tryd.func164 rfl rfl rfl (ka (rd_self rfl) (rd_self rfl) rfl rfl) | exact GO.mkfn rfl (fun _ h => by cases h) rfl rfl) ?_
      | refine GT.skip ?_
      | refine GT.block ?_
      | refine GT.ret ?_
      | refine GT.exit ?_
      | refine GP.thenR ?_
      | refine GP.thenE ?_
      | refine GP.hit ?_
      | refine GP.miss rfl ?_
      | refine GP.invE ?_
      | refine GT.condT rfl ?_
      | (refine GT.condD rfl (fun h => ?_) (fun h => ?_) <;> try (exfalso; omega))
      | refine GP.endR1 rfl ?_)
      have : meetsB ps b = false := by unfold meetsB; rw [sepAny_of hlt hc]; rfl
      rw [this]
    | false =>
      rw [hc] at ka
      repeat' (first
      | refine GL.sf rfl rfl rfl rfl ?_
      | refine GL.sn rfl rfl rfl ?_
      | refine GL.done ?_
      | refine GP.thenN ?_
      | refine GT.seq ?_
      | refine GT.region ?_
      | refine GL.v rfl rfl rfl (by first | exact GO.push (GO.call rfl rfl Tryd.func165 rfl rfl rfl (w_corners165 b)) | exact GO.call rfl rfl Tryd.func164 rfl rfl rfl (ka (rd_self rfl) (rd_self rfl) rfl rfl) | exact GO.add rfl rfl rfl (by omega) | exact GO.mkfn rfl (fun _ h => by cases h) rfl rfl) ?_
      | refine GT.skip ?_
      | refine GT.block ?_
      | refine GP.inN ?_
      | refine GT.condF rfl ?_
      | (refine GT.condD rfl (fun h => ?_) (fun h => ?_) <;> try (exfalso; omega)))
      exact GP.invN (ps.length - (i + 1)) (by omega) ⟨i + 1, by omega, rfl, Nat.le_of_ble_eq_true rfl, by rw [sepAny_succ, hz, hc]; rfl, asub_cons rfl (asub_cons rfl (asub_cons rfl (asub_cons rfl (asub_cons rfl asub_nil)))), subm_cons rfl (subm_cons rfl (subm_cons rfl (subm_cons rfl (subm_cons rfl (subm_cons rfl subm_nil)))))⟩
  · obtain rfl : i = ps.length := by omega
    have kd := fun {A : AW} {b1 cc : Nat} k hk hy e1 e2 => w_all164d (A := A) (y := 3) (b1 := b1) (b2 := 5) (cc := cc) ps b k hk (by omega) hy e1 e2
    repeat' (first
    | refine GP.scopeR ?_
    | refine GT.unroll 5 ?_
    | refine GL.sf rfl rfl rfl rfl ?_
    | refine GL.sv rfl rfl rfl rfl ?_
    | refine GL.sn rfl rfl rfl ?_
    | refine GL.done ?_
    | refine GP.thenN ?_
    | refine GT.seq ?_
    | refine GT.region ?_
    | refine GL.v rfl rfl rfl (by first | exact GO.call rfl rfl Tryd.func164 rfl rfl rfl (kd 0 (by decide) (rd_self rfl) rfl rfl) | exact GO.call rfl rfl Tryd.func164 rfl rfl rfl (kd 1 (by decide) (rd_self rfl) rfl rfl) | exact GO.call rfl rfl Tryd.func164 rfl rfl rfl (kd 2 (by decide) (rd_self rfl) rfl rfl) | exact GO.call rfl rfl Tryd.func164 rfl rfl rfl (kd 3 (by decide) (rd_self rfl) rfl rfl) | exact GO.add rfl rfl rfl (by omega) | exact GO.mkfn rfl (fun _ h => by cases h) rfl rfl) ?_
    | refine GT.skip ?_
    | refine GT.block ?_
    | refine GT.ret ?_
    | refine GT.exit ?_
    | refine GP.thenR ?_
    | refine GP.thenE ?_
    | refine GP.inN ?_
    | refine GP.inR ?_
    | refine GP.hit ?_
    | refine GP.againN ?_
    | refine GP.againR ?_
    | refine GP.againE ?_
    | refine GP.invE ?_
    | refine GU.step ?_
    | refine GT.condT rfl ?_
    | refine GT.condF rfl ?_
    | (refine GT.condD rfl (fun h => ?_) (fun h => ?_) <;> try (exfalso; omega))
    | (refine GT.condB rfl (fun h => ?_) (fun h => ?_))
    | refine GP.endR1 rfl ?_)
    all_goals (unfold meetsB; rw [hz]; simp only [‹(ps.all fun p => sdB b 0 p) = _›, Bool.true_or, Bool.false_or, Bool.not_false, Bool.not_true, Bool.true_and])
    all_goals first | rfl | (simp only [‹(ps.all fun p => sdB b 1 p) = _›, Bool.true_or, Bool.false_or, Bool.not_false, Bool.not_true])
    all_goals first | rfl | (simp only [‹(ps.all fun p => sdB b 2 p) = _›, Bool.true_or, Bool.false_or, Bool.not_false, Bool.not_true])
    all_goals first | rfl | (simp only [‹(ps.all fun p => sdB b 3 p) = _›, Bool.not_false, Bool.not_true])
end Go.M
namespace Go.M
open Go.Proofs Go.RowKit
set_option maxRecDepth 8000
set_option maxHeartbeats 8000000
structure Ar where
  s : ByteArray
  sz : Int
  ct : Int
  ps : Pts
def Ar.Ok (a : Ar) : Prop := NameOk a.s ∧ (0 ≤ a.sz ∧ a.sz ≤ 3) ∧ (1 ≤ a.ct ∧ a.ct ≤ 3) ∧ PolyOk a.ps
/-- The cells of an area whose polygon has this name. -/
abbrev Ar.vs (a : Ar) (n : Nat) : List Value := [.string a.s, .int .i64 a.sz, .int .i64 a.ct, .slice (some ⟨n, 0, none⟩) a.ps.length a.ps.length]
def arC (ν : Nat → Nat) : Nat → List Ar → List Value
  | _, [] => []
  | o, a :: l => a.vs (ν o) ++ arC ν (o + 1) l
theorem arC_len {ν : Nat → Nat} : ∀ (l : List Ar) (o : Nat), (arC ν o l).length = l.length * 4
  | [], _ => rfl
  | a :: l, o => by unfold arC; simp [arC_len l]; omega
theorem arC_at {ν : Nat → Nat} : ∀ (l : List Ar) (o i : Nat) (a : Ar), l[i]? = some a → ((arC ν o l).drop (i * 4)).take 4 = a.vs (ν (o + i))
  | [], _, i, a, h => by simp at h
  | b :: l, o, 0, a, h => by
    simp at h; subst h
    unfold arC; rfl
  | b :: l, o, i + 1, a, h => by
    have := arC_at (ν := ν) l (o + 1) i a (by simpa using h)
    unfold arC
    rw [show (i + 1) * 4 = 4 + i * 4 by omega, ← List.drop_drop, show o + (i + 1) = o + 1 + i by omega]
    exact this
theorem arC_AR {ρ : Nat → Option (Nat × Nat)} {ν μ : Nat → Nat} : ∀ (l : List Ar) (o : Nat), (∀ i, i < l.length → ρ (ν (o + i)) = some (μ (o + i), 0)) → AR ρ (arC ν o l) (arC μ o l)
  | [], _, _ => .nil
  | a :: l, o, h => by
    unfold arC
    refine .flat (k := 8) rfl (.flat (k := 8) rfl (.flat (k := 8) rfl (.sl (h 0 (by simp)) rfl ?_)))
    exact arC_AR l (o + 1) fun i hi => by have := h (i + 1) (by simpa using hi); rwa [show o + (i + 1) = o + 1 + i by omega] at this
theorem arC_Lt {k : Nat} {ν : Nat → Nat} : ∀ (l : List Ar) (o : Nat), (∀ i, i < l.length → ν (o + i) < k) → Lt k (arC ν o l)
  | [], _, _ => .nil
  | a :: l, o, h => by
    unfold arC
    exact .cons (.flat (j := 8) rfl) (.cons (.flat (j := 8) rfl) (.cons (.flat (j := 8) rfl) (.cons (.sl (Nat.ble_eq_true_of_le (h 0 (by simp)))) (arC_Lt l (o + 1) fun i hi => by have := h (i + 1) (by simpa using hi); rwa [show o + (i + 1) = o + 1 + i by omega] at this))))
theorem rd_zero2 {b nx ro gl : Nat} {c : List Value} {e : TypeId} {L : LM} (hb : alook L b = some (.cells c e)) : (AW.of L nx ro gl).rd b 0 0 = some [] := by
  have ho : (AW.of L nx ro gl).objs b = some (.cells c e) := hb
  unfold AW.rd
  rw [ho]; simp
theorem w_label137 {A : AW} {x : Nat} (a : Ar) (hx : A.rd x 0 (ptC a.ps).length = some (ptC a.ps)) : AC Tryd.prog 137 [.agg (a.vs x).toArray] A (isR (.string a.s) A) := by
  obtain ⟨fz, hfz⟩ := ptC_flat a.ps
  refine AC.isX (SmallX.nil.cons (k := 0) (b := x) (f := 0) (o := .cells (ptC a.ps) 97) (.flat hx hfz)) (args := [.agg (a.vs 0).toArray]) ?_ ⟨8, rfl⟩ (.agg (.flat (k := 8) rfl (.flat (k := 8) rfl (.flat (k := 8) rfl (.sl rfl rfl .nil)))) .nil)
  refine AC.go Tryd.func137 rfl rfl ?_
  clear hx
  repeat' (first
  | refine GL.sf rfl rfl rfl rfl ?_
  | refine GL.done ?_
  | refine GP.thenN ?_
  | refine GT.seq ?_
  | refine GT.region ?_
  | refine GT.ret ?_
  | refine GP.endR1 rfl ?_)
  rfl
theorem w_check138 {A : AW} {x : Nat} (a : Ar) (h : a.Ok) (hx : A.rd x 0 (ptC a.ps).length = some (ptC a.ps)) : AC Tryd.prog 138 [.agg (a.vs x).toArray] A (isR (.int .i64 0) A) := by
  obtain ⟨fz, hfz⟩ := ptC_flat a.ps
  refine AC.isX (SmallX.nil.cons (k := 0) (b := x) (f := 0) (o := .cells (ptC a.ps) 97) (.flat hx hfz)) (args := [.agg (a.vs 0).toArray]) ?_ ⟨8, rfl⟩ (.agg (.flat (k := 8) rfl (.flat (k := 8) rfl (.flat (k := 8) rfl (.sl rfl rfl .nil)))) .nil)
  refine AC.go Tryd.func138 rfl rfl ?_
  clear hx
  repeat' (first
  | refine GT.draws (id := 1) [[], [0], [0, 1], [], [3], [0, 1, 2, 3, 4], [], [6], [0, 1, 2, 3, 4, 5, 6, 7], [0, 1, 2, 3, 4, 5, 6, 7, 8], [0, 1, 2, 3, 4, 5, 6, 7, 8, 9], [0, 1, 2, 3, 4, 5, 6, 7, 8, 9, 10]] [9] (by kernel_rfl) ?_
  | refine GL.sf rfl rfl rfl rfl ?_
  | refine GL.done ?_
  | refine GP.thenN ?_
  | refine GT.seq ?_
  | refine GT.region ?_
  | refine GD.li rfl rfl (by exact onAt.none rfl) rfl (by repeat first | exact AllG.nil rfl | refine AllG.cons rfl (by first | exact GO.sf rfl rfl | exact GO.sv rfl rfl | exact GO.call rfl rfl Tryd.func157 rfl rfl rfl (w_size157 _ h.2.1) | exact GO.call rfl rfl Tryd.func158 rfl rfl rfl (w_category158 _ h.2.2.1) | exact GO.call rfl rfl Tryd.func159 rfl rfl rfl (w_polygon159 a.ps h.2.2.2 (Nat.le_refl _) (rd_self rfl)) | exact GO.call rfl rfl Tryd.func98 rfl rfl rfl (w_first98 [0, 0, 0] rfl rfl rfl)) ?_) ?_
  | refine GD.he rfl rfl rfl (by exact onAt.none rfl) rfl (by exact GO.sf rfl rfl) ?_ ?_
  | refine GD.done rfl rfl rfl ?_
  | exact AllJs.nil rfl
  | refine GT.ret ?_
  | refine GP.endR1 rfl ?_)
  rfl
def appB (a : Ar) (n c : Int) : Bool := decide (a.sz ≤ n ∧ a.ct ≤ c)
theorem w_applies155 {A : AW} {x : Nat} (a : Ar) (n c : Int) (hx : A.rd x 0 (ptC a.ps).length = some (ptC a.ps)) : AC Tryd.prog 155 [.agg (a.vs x).toArray, .int .i64 n, .int .i64 c] A (isR (.bool (appB a n c)) A) := by
  obtain ⟨fz, hfz⟩ := ptC_flat a.ps
  refine AC.isX (SmallX.nil.cons (k := 0) (b := x) (f := 0) (o := .cells (ptC a.ps) 97) (.flat hx hfz)) (args := [.agg (a.vs 0).toArray, .int .i64 n, .int .i64 c]) ?_ ⟨8, rfl⟩ (.agg (.flat (k := 8) rfl (.flat (k := 8) rfl (.flat (k := 8) rfl (.sl rfl rfl .nil)))) (.flat (k := 8) rfl (.flat (k := 8) rfl .nil)))
  refine AC.go Tryd.func155 rfl rfl ?_
  clear hx
  repeat' (first
  | refine GL.sf rfl rfl rfl rfl ?_
  | refine GL.done ?_
  | refine GP.thenN ?_
  | refine GT.seq ?_
  | refine GT.region ?_
  | refine GL.unguardG rfl rfl rfl ?_
  | refine GL.skipG rfl rfl rfl rfl rfl ?_
  | refine GT.ret ?_
  | (refine GL.forkDG rfl rfl rfl (fun h => ?_) (fun h => ?_) <;> try (exfalso; omega))
  | refine GP.endR1 rfl ?_)
  all_goals simp [appB, h]
abbrev Mv.bx (m : Mv) : Bx := ⟨m.lx, m.ly, m.hx, m.hy⟩
/-- Are a landing and a move in conflict by an area? -/
def agB (d : Ld) (m : Mv) (a : Ar) : Bool := decide (d.a < m.b ∧ m.a < d.b) && appB a m.sz d.ct && meetsB a.ps m.bx
theorem w_against134 {A : AW} {x : Nat} (hG : GW A) (d : Ld) (m : Mv) (a : Ar) (hm : m.Ok) (h : a.Ok) (hx : A.rd x 0 (ptC a.ps).length = some (ptC a.ps)) : AC Tryd.prog 134 [.agg d.vs.toArray, .agg m.vs.toArray, .agg (a.vs x).toArray] A (isR (.bool (agB d m a)) A) := by
  obtain ⟨fz, hfz⟩ := ptC_flat a.ps
  refine AC.isX (hG.small.cons (b := x) (f := 0) (o := .cells (ptC a.ps) 97) (.flat hx hfz)) (args := [.agg d.vs.toArray, .agg m.vs.toArray, .agg (a.vs 3).toArray]) ?_ ⟨8, rfl⟩ (.flat (k := 32) rfl (.flat (k := 32) rfl (.agg (.flat (k := 8) rfl (.flat (k := 8) rfl (.flat (k := 8) rfl (.sl rfl rfl .nil)))) .nil)))
  refine AC.go Tryd.func134 rfl rfl ?_
  clear hx
  have kc := fun {A : AW} => w_common154 (A := A) d.a d.b m.a m.b
  have ka := fun {A : AW} {x : Nat} hx => w_applies155 (A := A) (x := x) a m.sz d.ct hx
  have km := fun {A : AW} {x c : Nat} hG hx => w_meets156 (A := A) (x := x) (c := c) hG a.ps m.bx h.2.2.2 hm.2.2.1 hx
  have e : agB d m a = (decide (d.a < m.b ∧ m.a < d.b) && appB a m.sz d.ct && meetsB a.ps m.bx) := rfl
  rw [e]
  cases h1 : decide (d.a < m.b ∧ m.a < d.b) <;> cases h2 : appB a m.sz d.ct <;> cases h3 : meetsB a.ps m.bx
  all_goals rw [h1] at kc
  all_goals rw [h2] at ka
  all_goals rw [h3] at km
  all_goals
    repeat' (first
    | refine GL.sf rfl rfl rfl rfl ?_
    | refine GL.sv rfl rfl rfl rfl ?_
    | refine GL.done ?_
    | refine GP.thenN ?_
    | refine GT.seq ?_
    | refine GT.region ?_
    | refine GL.unguardG rfl rfl rfl ?_
    | refine GL.skipG rfl rfl rfl rfl rfl ?_
    | refine GL.v rfl rfl rfl (by first | exact GO.call rfl rfl Tryd.func154 rfl rfl rfl (kc) | exact GO.call rfl rfl Tryd.func155 rfl rfl rfl (ka (rd_self rfl)) | exact GO.call rfl rfl Tryd.func156 rfl rfl rfl (km ⟨rfl, rd_zero2 rfl, rd_zero2 rfl, rfl⟩ (rd_self rfl))) ?_
    | refine GT.ret ?_
    | refine GP.endR1 rfl ?_)
  all_goals rfl
end Go.M
