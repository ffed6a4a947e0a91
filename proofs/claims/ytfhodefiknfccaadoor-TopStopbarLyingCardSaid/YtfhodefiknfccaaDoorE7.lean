/- Functions of the given program, walked (no condition beyond what each theorem says). -/
import Derived.Test.YtfhodefiknfccaaDoorE1
import Derived.Test.YtfhodefiknfccaaDoorE4
import Derived.Test.YtfhodefiknfccaaDoorE3
import Derived.Test.YtfhodefiknfccaaDoorE6
import Derived.Test.YtfhodefiknfccaaDoorE2
import Derived.Test.YtfhodefiknfccaaDoorB3
set_option linter.unusedVariables false
set_option linter.unusedSimpArgs false
namespace Go.M
open Go.Proofs Go.RowKit
set_option maxRecDepth 8000
set_option maxHeartbeats 4000000
def famF (F : Nat → AObj) (nx : Nat) : Nat → LM
  | 0 => []
  | m + 1 => (nx + m, F m) :: famF F nx m
theorem famF_look (F : Nat → AObj) (nx : Nat) (L : LM) : ∀ (m j : Nat), alook (famF F nx m ++ L) j = if nx ≤ j ∧ j < nx + m then some (F (j - nx)) else alook L j
  | 0, j => by simp only [famF, List.nil_append]; rw [if_neg (by omega)]
  | m + 1, j => by
    simp only [famF, List.cons_append, alook]
    by_cases q : nx + m = j
    · rw [if_pos q, if_pos (by omega)]; subst q; rw [show nx + m - nx = m by omega]
    · rw [if_neg q, famF_look F nx L m j]
      by_cases q2 : nx ≤ j ∧ j < nx + m
      · rw [if_pos q2, if_pos (by omega)]
      · rw [if_neg q2, if_neg (by omega)]
theorem of_pushF (L : LM) (nx ro gl n : Nat) (F : Nat → AObj) : ∃ L', (AW.of L nx ro gl).pushF n F = AW.of L' (nx + n) ro gl ∧ ∀ j, j < nx → alook L' j = alook L j := by
  refine ⟨famF F nx n ++ L, ?_, fun j hj => by rw [famF_look, if_neg (by omega)]⟩
  unfold AW.pushF
  simp only [AW.of, AW.mk.injEq, and_true]
  funext j
  rw [famF_look]
  rfl
theorem d_lie10at {A : AW} {p s n m : Nat} {r : Nat → Nat} {sens rds : List Value} {need sil : Int} (hm : 0 < m ∧ m ≤ 256) (h : LieOk sens rds n n need sil) (hf : FMOk A p 0 s r sens n m (fun _ => rds)) :
    AC Tryd.prog 10 [.agg #[.slice (some ⟨p, 0, none⟩) n n, .int .i64 need, .int .i64 sil], .slice (some ⟨s, 0, none⟩) m m] A (fun v A1 => ∃ cs, Mains m cs ∧ v = .tuple #[.slice (some ⟨A.next, 0, none⟩) m m, .int .i64 0] ∧ A1 = A.push (.cells cs 59)) := by
  refine AC.givesX (hf.small (by omega)) (args := [.agg #[.slice (some ⟨3, 0, none⟩) n n, .int .i64 need, .int .i64 sil], .slice (some ⟨4, 0, none⟩) m m]) (AC.mono (d_lie10 hm h) ?_) (.agg (.sl (f := 0) (by simp [rhoFM]) rfl (.flat (k := 8) rfl (.flat (k := 8) rfl .nil))) (.sl (f := 0) (by simp [rhoFM]) rfl .nil))
  rintro v A1 ⟨nm, cs, rfl, h1, h2, h3⟩
  exact ⟨nm, cs, h1, h2, h3.2.1.flat, h3, .tuple (.sl (f := 0) (if_pos rfl) rfl (.flat (k := 8) rfl .nil)) .nil⟩
theorem GO.remE {P : Program} {n : Nat} {a : AEnv} {o : Oper} {L : LM} {nx ro gl : Nat} {t t2 : TypeId} {X Y : Operand} {i j r : Int} {k : IntKind} (ho : o.op = .binOp .rem t X Y t2) (hx : aev gl a X = some (.int k i)) (hy : aev gl a Y = some (.int k j)) (h1 : 0 < j) (h2 : 0 ≤ i) (hr : i % j = r) : GO P n o a L nx ro gl (isR (.int k r) (AW.of L nx ro gl)) := by
  subst hr
  exact GO.rem ho hx hy h1 h2
/-- The state of one of many seconds in Main. -/
theorem Mains.mode {m i : Nat} {cs : List Value} (h : Mains m cs) (hi : i < m) : ∃ c0 c1 c2 c3 c4 c5 c6 c7 : Int, (cs.drop (0 + (i : Int).toNat * 10)).take 10 = stateC 0 0 c0 c1 c2 c3 c4 c5 c6 c7 := by
  obtain ⟨c0, c1, c2, c3, c4, c5, c6, c7, h⟩ := h.2.2 i hi
  exact ⟨c0, c1, c2, c3, c4, c5, c6, c7, by simpa using h⟩
theorem d_ap4 {cs : List Value} {f : Nat} : apart Tryd.prog 4 cs f = cs[f]? := by simp [apart, Tryd.underlying4, isAggT]
theorem d_aeq46 (a : Int) (p : Bool) (b : Int) (q : Bool) : aeq Tryd.prog 20 46 (.agg #[.int .i64 a, .bool p]) (.agg #[.int .i64 b, .bool q]) = some (decide (a = b ∧ p = q)) := by
  simp [aeq, aeqF, Tryd.underlying46, Tryd.stoodInHeld46, d_ap3, d_ap4, Tryd.underlying3, Tryd.underlying4, Bool.decide_and]
  cases p <;> cases q <;> simp <;> rfl
end Go.M
namespace Go.M
open Go.Proofs Go.RowKit
set_option maxRecDepth 8000
set_option maxHeartbeats 4000000
theorem nf_of {l lo hi a b c d e f : Int} {p : Prop} (h : rdM l lo hi a b c d e f = false ∧ p) : ¬ Flagged l lo hi a b c d e f := of_decide_eq_false h.1
theorem d_aeqSame46 (a : Int) (p : Bool) : aeq Tryd.prog 20 46 (.agg #[.int .i64 a, .bool p]) (.agg #[.int .i64 a, .bool p]) = some true := by
  rw [d_aeq46]; simp
theorem g_of {l lo hi a b c d e f : Int} {r slo shi : Int} (h : rdM l lo hi a b c d e f = false ∧ slo ≤ r ∧ r ≤ shi) : GoodR (rdM l lo hi a b c d e f) r slo shi := ⟨h.1, h.2.1, h.2.2⟩
theorem rdN_le {s g l lo hi a b c d e f : Int} (hr : ReceiverOk s g l lo hi) : -10000 ≤ rdN s g l lo hi a b c d e f ∧ rdN s g l lo hi a b c d e f ≤ 10000 := by
  have h := shownI_le (s := s) (g := g) (a := a) (b := b) (c := c) (d := d) (e := e) (f := f) (by have := hr.2.1; omega)
  have hg := hr.2.1
  unfold rdN
  split <;> omega
theorem rdM_zero {s g l lo hi a b c d e f : Int} (h : rdM l lo hi a b c d e f = true) : rdN s g l lo hi a b c d e f = 0 := by
  unfold rdN; rw [if_pos (of_decide_eq_true h)]
theorem glob3 {L : LM} {p : List Value} {e0 e1 e2 : TypeId} {c1 c2 : List Value} {a b c d f : Nat × AObj} (g : Nat) (hg : g < 3) : (alook (a :: b :: c :: d :: f :: (2, .cells c2 e2) :: (1, .cells c1 e1) :: (0, .cells p e0) :: L) g).isSome = true := by
  have h : ∀ (x : Nat × AObj) (r : LM), (alook r g).isSome = true → (alook (x :: r) g).isSome = true := fun x r h => by
    obtain ⟨s, o⟩ := x
    simp only [alook]
    split
    · rfl
    · exact h
  refine h _ _ (h _ _ (h _ _ (h _ _ (h _ _ ?_))))
  match g, hg with
  | 0, _ => rfl
  | 1, _ => rfl
  | 2, _ => rfl
theorem any_pushF {L : LM} {nx ro gl n : Nat} {F : Nat → AObj} {Gl : LM → Nat → Prop} (h : ∀ L', (AW.of L nx ro gl).pushF n F = AW.of L' (nx + n) ro gl → (∀ j, j < nx → alook L' j = alook L j) → Gl L' (nx + n)) : ∃ L' nx', (AW.of L nx ro gl).pushF n F = AW.of L' nx' ro gl ∧ Gl L' nx' := by
  obtain ⟨L', h1, h2⟩ := of_pushF L nx ro gl n F
  exact ⟨L', _, h1, h L' h1 h2⟩
theorem made_of {L L' : LM} {nx nx' ro p o n m : Nat} {sens rds : List Value} (hL' : (AW.of L nx ro 3).pushF (m + 1) (secF (AW.of L nx ro 3).next rds n m) = AW.of L' nx' ro 3) (hG : GOk (AW.of L nx ro 3)) (h3 : Nat.ble 3 nx = true) (hp : (AW.of L nx ro 3).rd p o sens.length = some sens) (hpn : Nat.blt p nx = true) (hs : ∃ k, noAddrs k sens = true) (hr : ∃ k, noAddrs k rds = true) :
    FMOk (AW.of L' nx' ro 3) p o ((AW.of L nx ro 3).next + m) (fun i => (AW.of L nx ro 3).next + i) sens n m (fun _ => rds) :=
  hL' ▸ FMOk.made hG (Nat.le_of_ble_eq_true h3) hp (Nat.lt_of_lt_of_le (Nat.lt_succ_self p) (Nat.le_of_ble_eq_true hpn)) hs hr
theorem d_same8_1 {A : AW} {p o k : Nat} {p0 : Prop} (hG : GOk A) (need sil s0 g0 l0 lo0 hi0 s1 g1 l1 lo1 hi1 s2 g2 l2 lo2 hi2 s3 g3 l3 lo3 hi3 s4 g4 l4 lo4 hi4 a b c d e f ta tb tc td te tf : Int) (hr0 : ReceiverOk s0 g0 l0 lo0 hi0) (hT : Like a b c d e f ta tb tc td te tf) (f0 : rdM l0 lo0 hi0 a b c d e f = false ∧ p0) (hp : A.rd p o 0 = some []) :
    AC Tryd.prog 8 [.agg #[.slice (some ⟨p, o, none⟩) 1 k, .int .i64 need, .int .i64 sil], .agg #[.int .i64 s0, .int .i64 g0, .int .i64 l0, .int .i64 lo0, .int .i64 hi0, .int .i64 s1, .int .i64 g1, .int .i64 l1, .int .i64 lo1, .int .i64 hi1, .int .i64 s2, .int .i64 g2, .int .i64 l2, .int .i64 lo2, .int .i64 hi2, .int .i64 s3, .int .i64 g3, .int .i64 l3, .int .i64 lo3, .int .i64 hi3, .int .i64 s4, .int .i64 g4, .int .i64 l4, .int .i64 lo4, .int .i64 hi4], .agg #[.int .i64 ta, .int .i64 tb, .int .i64 tc, .int .i64 td, .int .i64 te, .int .i64 tf]] A
      (isR (.tuple #[.slice (some ⟨A.next, 0, none⟩) 1 1, .bool true]) (A.push (.cells [.int .i64 (rdN s0 g0 l0 lo0 hi0 a b c d e f), .bool (rdM l0 lo0 hi0 a b c d e f)] 46))) := by
  have h := d_readings8_1 (k := k) hG need sil s0 g0 l0 lo0 hi0 s1 g1 l1 lo1 hi1 s2 g2 l2 lo2 hi2 s3 g3 l3 lo3 hi3 s4 g4 l4 lo4 hi4 ta tb tc td te tf hr0 hT.ok hp
  rw [(hT.same s0 g0 l0 lo0 hi0 (nf_of f0)).1, (hT.same s0 g0 l0 lo0 hi0 (nf_of f0)).2] at h
  exact h
theorem d_same8_2 {A : AW} {p o k : Nat} {p0 p1 : Prop} (hG : GOk A) (need sil s0 g0 l0 lo0 hi0 s1 g1 l1 lo1 hi1 s2 g2 l2 lo2 hi2 s3 g3 l3 lo3 hi3 s4 g4 l4 lo4 hi4 a b c d e f ta tb tc td te tf : Int) (hr0 : ReceiverOk s0 g0 l0 lo0 hi0) (hr1 : ReceiverOk s1 g1 l1 lo1 hi1) (hT : Like a b c d e f ta tb tc td te tf) (f0 : rdM l0 lo0 hi0 a b c d e f = false ∧ p0) (f1 : rdM l1 lo1 hi1 a b c d e f = false ∧ p1) (hp : A.rd p o 0 = some []) :
    AC Tryd.prog 8 [.agg #[.slice (some ⟨p, o, none⟩) 2 k, .int .i64 need, .int .i64 sil], .agg #[.int .i64 s0, .int .i64 g0, .int .i64 l0, .int .i64 lo0, .int .i64 hi0, .int .i64 s1, .int .i64 g1, .int .i64 l1, .int .i64 lo1, .int .i64 hi1, .int .i64 s2, .int .i64 g2, .int .i64 l2, .int .i64 lo2, .int .i64 hi2, .int .i64 s3, .int .i64 g3, .int .i64 l3, .int .i64 lo3, .int .i64 hi3, .int .i64 s4, .int .i64 g4, .int .i64 l4, .int .i64 lo4, .int .i64 hi4], .agg #[.int .i64 ta, .int .i64 tb, .int .i64 tc, .int .i64 td, .int .i64 te, .int .i64 tf]] A
      (isR (.tuple #[.slice (some ⟨A.next, 0, none⟩) 2 2, .bool true]) (A.push (.cells [.int .i64 (rdN s0 g0 l0 lo0 hi0 a b c d e f), .bool (rdM l0 lo0 hi0 a b c d e f), .int .i64 (rdN s1 g1 l1 lo1 hi1 a b c d e f), .bool (rdM l1 lo1 hi1 a b c d e f)] 46))) := by
  have h := d_readings8_2 (k := k) hG need sil s0 g0 l0 lo0 hi0 s1 g1 l1 lo1 hi1 s2 g2 l2 lo2 hi2 s3 g3 l3 lo3 hi3 s4 g4 l4 lo4 hi4 ta tb tc td te tf hr0 hr1 hT.ok hp
  rw [(hT.same s0 g0 l0 lo0 hi0 (nf_of f0)).1, (hT.same s0 g0 l0 lo0 hi0 (nf_of f0)).2, (hT.same s1 g1 l1 lo1 hi1 (nf_of f1)).1, (hT.same s1 g1 l1 lo1 hi1 (nf_of f1)).2] at h
  exact h
theorem d_same8_3 {A : AW} {p o k : Nat} {p0 p1 p2 : Prop} (hG : GOk A) (need sil s0 g0 l0 lo0 hi0 s1 g1 l1 lo1 hi1 s2 g2 l2 lo2 hi2 s3 g3 l3 lo3 hi3 s4 g4 l4 lo4 hi4 a b c d e f ta tb tc td te tf : Int) (hr0 : ReceiverOk s0 g0 l0 lo0 hi0) (hr1 : ReceiverOk s1 g1 l1 lo1 hi1) (hr2 : ReceiverOk s2 g2 l2 lo2 hi2) (hT : Like a b c d e f ta tb tc td te tf) (f0 : rdM l0 lo0 hi0 a b c d e f = false ∧ p0) (f1 : rdM l1 lo1 hi1 a b c d e f = false ∧ p1) (f2 : rdM l2 lo2 hi2 a b c d e f = false ∧ p2) (hp : A.rd p o 0 = some []) :
    AC Tryd.prog 8 [.agg #[.slice (some ⟨p, o, none⟩) 3 k, .int .i64 need, .int .i64 sil], .agg #[.int .i64 s0, .int .i64 g0, .int .i64 l0, .int .i64 lo0, .int .i64 hi0, .int .i64 s1, .int .i64 g1, .int .i64 l1, .int .i64 lo1, .int .i64 hi1, .int .i64 s2, .int .i64 g2, .int .i64 l2, .int .i64 lo2, .int .i64 hi2, .int .i64 s3, .int .i64 g3, .int .i64 l3, .int .i64 lo3, .int .i64 hi3, .int .i64 s4, .int .i64 g4, .int .i64 l4, .int .i64 lo4, .int .i64 hi4], .agg #[.int .i64 ta, .int .i64 tb, .int .i64 tc, .int .i64 td, .int .i64 te, .int .i64 tf]] A
      (isR (.tuple #[.slice (some ⟨A.next, 0, none⟩) 3 3, .bool true]) (A.push (.cells [.int .i64 (rdN s0 g0 l0 lo0 hi0 a b c d e f), .bool (rdM l0 lo0 hi0 a b c d e f), .int .i64 (rdN s1 g1 l1 lo1 hi1 a b c d e f), .bool (rdM l1 lo1 hi1 a b c d e f), .int .i64 (rdN s2 g2 l2 lo2 hi2 a b c d e f), .bool (rdM l2 lo2 hi2 a b c d e f)] 46))) := by
  have h := d_readings8_3 (k := k) hG need sil s0 g0 l0 lo0 hi0 s1 g1 l1 lo1 hi1 s2 g2 l2 lo2 hi2 s3 g3 l3 lo3 hi3 s4 g4 l4 lo4 hi4 ta tb tc td te tf hr0 hr1 hr2 hT.ok hp
  rw [(hT.same s0 g0 l0 lo0 hi0 (nf_of f0)).1, (hT.same s0 g0 l0 lo0 hi0 (nf_of f0)).2, (hT.same s1 g1 l1 lo1 hi1 (nf_of f1)).1, (hT.same s1 g1 l1 lo1 hi1 (nf_of f1)).2, (hT.same s2 g2 l2 lo2 hi2 (nf_of f2)).1, (hT.same s2 g2 l2 lo2 hi2 (nf_of f2)).2] at h
  exact h
theorem d_same8_4 {A : AW} {p o k : Nat} {p0 p1 p2 p3 : Prop} (hG : GOk A) (need sil s0 g0 l0 lo0 hi0 s1 g1 l1 lo1 hi1 s2 g2 l2 lo2 hi2 s3 g3 l3 lo3 hi3 s4 g4 l4 lo4 hi4 a b c d e f ta tb tc td te tf : Int) (hr0 : ReceiverOk s0 g0 l0 lo0 hi0) (hr1 : ReceiverOk s1 g1 l1 lo1 hi1) (hr2 : ReceiverOk s2 g2 l2 lo2 hi2) (hr3 : ReceiverOk s3 g3 l3 lo3 hi3) (hT : Like a b c d e f ta tb tc td te tf) (f0 : rdM l0 lo0 hi0 a b c d e f = false ∧ p0) (f1 : rdM l1 lo1 hi1 a b c d e f = false ∧ p1) (f2 : rdM l2 lo2 hi2 a b c d e f = false ∧ p2) (f3 : rdM l3 lo3 hi3 a b c d e f = false ∧ p3) (hp : A.rd p o 0 = some []) :
    AC Tryd.prog 8 [.agg #[.slice (some ⟨p, o, none⟩) 4 k, .int .i64 need, .int .i64 sil], .agg #[.int .i64 s0, .int .i64 g0, .int .i64 l0, .int .i64 lo0, .int .i64 hi0, .int .i64 s1, .int .i64 g1, .int .i64 l1, .int .i64 lo1, .int .i64 hi1, .int .i64 s2, .int .i64 g2, .int .i64 l2, .int .i64 lo2, .int .i64 hi2, .int .i64 s3, .int .i64 g3, .int .i64 l3, .int .i64 lo3, .int .i64 hi3, .int .i64 s4, .int .i64 g4, .int .i64 l4, .int .i64 lo4, .int .i64 hi4], .agg #[.int .i64 ta, .int .i64 tb, .int .i64 tc, .int .i64 td, .int .i64 te, .int .i64 tf]] A
      (isR (.tuple #[.slice (some ⟨A.next, 0, none⟩) 4 4, .bool true]) (A.push (.cells [.int .i64 (rdN s0 g0 l0 lo0 hi0 a b c d e f), .bool (rdM l0 lo0 hi0 a b c d e f), .int .i64 (rdN s1 g1 l1 lo1 hi1 a b c d e f), .bool (rdM l1 lo1 hi1 a b c d e f), .int .i64 (rdN s2 g2 l2 lo2 hi2 a b c d e f), .bool (rdM l2 lo2 hi2 a b c d e f), .int .i64 (rdN s3 g3 l3 lo3 hi3 a b c d e f), .bool (rdM l3 lo3 hi3 a b c d e f)] 46))) := by
  have h := d_readings8_4 (k := k) hG need sil s0 g0 l0 lo0 hi0 s1 g1 l1 lo1 hi1 s2 g2 l2 lo2 hi2 s3 g3 l3 lo3 hi3 s4 g4 l4 lo4 hi4 ta tb tc td te tf hr0 hr1 hr2 hr3 hT.ok hp
  rw [(hT.same s0 g0 l0 lo0 hi0 (nf_of f0)).1, (hT.same s0 g0 l0 lo0 hi0 (nf_of f0)).2, (hT.same s1 g1 l1 lo1 hi1 (nf_of f1)).1, (hT.same s1 g1 l1 lo1 hi1 (nf_of f1)).2, (hT.same s2 g2 l2 lo2 hi2 (nf_of f2)).1, (hT.same s2 g2 l2 lo2 hi2 (nf_of f2)).2, (hT.same s3 g3 l3 lo3 hi3 (nf_of f3)).1, (hT.same s3 g3 l3 lo3 hi3 (nf_of f3)).2] at h
  exact h
theorem d_same8_5 {A : AW} {p o k : Nat} {p0 p1 p2 p3 p4 : Prop} (hG : GOk A) (need sil s0 g0 l0 lo0 hi0 s1 g1 l1 lo1 hi1 s2 g2 l2 lo2 hi2 s3 g3 l3 lo3 hi3 s4 g4 l4 lo4 hi4 a b c d e f ta tb tc td te tf : Int) (hr0 : ReceiverOk s0 g0 l0 lo0 hi0) (hr1 : ReceiverOk s1 g1 l1 lo1 hi1) (hr2 : ReceiverOk s2 g2 l2 lo2 hi2) (hr3 : ReceiverOk s3 g3 l3 lo3 hi3) (hr4 : ReceiverOk s4 g4 l4 lo4 hi4) (hT : Like a b c d e f ta tb tc td te tf) (f0 : rdM l0 lo0 hi0 a b c d e f = false ∧ p0) (f1 : rdM l1 lo1 hi1 a b c d e f = false ∧ p1) (f2 : rdM l2 lo2 hi2 a b c d e f = false ∧ p2) (f3 : rdM l3 lo3 hi3 a b c d e f = false ∧ p3) (f4 : rdM l4 lo4 hi4 a b c d e f = false ∧ p4) (hp : A.rd p o 0 = some []) :
    AC Tryd.prog 8 [.agg #[.slice (some ⟨p, o, none⟩) 5 k, .int .i64 need, .int .i64 sil], .agg #[.int .i64 s0, .int .i64 g0, .int .i64 l0, .int .i64 lo0, .int .i64 hi0, .int .i64 s1, .int .i64 g1, .int .i64 l1, .int .i64 lo1, .int .i64 hi1, .int .i64 s2, .int .i64 g2, .int .i64 l2, .int .i64 lo2, .int .i64 hi2, .int .i64 s3, .int .i64 g3, .int .i64 l3, .int .i64 lo3, .int .i64 hi3, .int .i64 s4, .int .i64 g4, .int .i64 l4, .int .i64 lo4, .int .i64 hi4], .agg #[.int .i64 ta, .int .i64 tb, .int .i64 tc, .int .i64 td, .int .i64 te, .int .i64 tf]] A
      (isR (.tuple #[.slice (some ⟨A.next, 0, none⟩) 5 5, .bool true]) (A.push (.cells [.int .i64 (rdN s0 g0 l0 lo0 hi0 a b c d e f), .bool (rdM l0 lo0 hi0 a b c d e f), .int .i64 (rdN s1 g1 l1 lo1 hi1 a b c d e f), .bool (rdM l1 lo1 hi1 a b c d e f), .int .i64 (rdN s2 g2 l2 lo2 hi2 a b c d e f), .bool (rdM l2 lo2 hi2 a b c d e f), .int .i64 (rdN s3 g3 l3 lo3 hi3 a b c d e f), .bool (rdM l3 lo3 hi3 a b c d e f), .int .i64 (rdN s4 g4 l4 lo4 hi4 a b c d e f), .bool (rdM l4 lo4 hi4 a b c d e f)] 46))) := by
  have h := d_readings8_5 (k := k) hG need sil s0 g0 l0 lo0 hi0 s1 g1 l1 lo1 hi1 s2 g2 l2 lo2 hi2 s3 g3 l3 lo3 hi3 s4 g4 l4 lo4 hi4 ta tb tc td te tf hr0 hr1 hr2 hr3 hr4 hT.ok hp
  rw [(hT.same s0 g0 l0 lo0 hi0 (nf_of f0)).1, (hT.same s0 g0 l0 lo0 hi0 (nf_of f0)).2, (hT.same s1 g1 l1 lo1 hi1 (nf_of f1)).1, (hT.same s1 g1 l1 lo1 hi1 (nf_of f1)).2, (hT.same s2 g2 l2 lo2 hi2 (nf_of f2)).1, (hT.same s2 g2 l2 lo2 hi2 (nf_of f2)).2, (hT.same s3 g3 l3 lo3 hi3 (nf_of f3)).1, (hT.same s3 g3 l3 lo3 hi3 (nf_of f3)).2, (hT.same s4 g4 l4 lo4 hi4 (nf_of f4)).1, (hT.same s4 g4 l4 lo4 hi4 (nf_of f4)).2] at h
  exact h
end Go.M
