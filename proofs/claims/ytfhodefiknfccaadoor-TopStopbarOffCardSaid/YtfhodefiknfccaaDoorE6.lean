/- Functions of the given program, walked (no condition beyond what each theorem says). -/
import Derived.Test.YtfhodefiknfccaaDoorE5
import Derived.Test.YtfhodefiknfccaaDoorB9
import Derived.Test.YtfhodefiknfccaaDoorB2
set_option linter.unusedVariables false
set_option linter.unusedSimpArgs false
namespace Go.M
open Go.Proofs Go.RowKit
set_option maxRecDepth 16000
set_option maxHeartbeats 8000000
abbrev exM : LM := [(4, .cells [] 46), (3, .cells exS 128), (2, .cells [] 0), (1, .cells stepsV 242), (0, .cells [.int .i64 0, .int .i64 0] 31)]
theorem exSmall {A : AW} {p x : Nat} {rds : List Value} {kr : Nat} (hr : noAddrs kr rds = true) (hp : A.rd p 0 5 = some exS) (hx : A.rd x 0 rds.length = some rds) (hg : GOk A) : SmallX A [(4, .cells rds 46), (3, .cells exS 128), (2, .cells [] 0), (1, .cells stepsV 242), (0, .cells [.int .i64 0, .int .i64 0] 31)] 5 3 (onto 4 x 0 (onto 3 p 0 (fun j => if j < 3 then some (j, 0) else none))) := by
  obtain ⟨hgl, g0, g1, cc, ee, g2⟩ := hg
  refine SmallX.cons (SmallX.cons ⟨fun j x hx => by split at hx <;> simp_all, fun j hj => ?_, fun j o hj => ?_, by rw [hgl]; exact Nat.le_refl 3, fun g hg => by simp [hg], by decide⟩ (.flat (k := 64) hp rfl)) (.flat hx hr)
  · match j with
    | 0 => simp [alook] at hj
    | 1 => simp [alook] at hj
    | 2 => simp [alook] at hj
    | j + 3 => simp
  · match j with
    | 0 => simp only [alook] at hj; simp at hj; subst hj; exact ⟨by decide, (0, 0), by simp, .flat (k := 8) (by show AW.rd _ 0 0 2 = _; unfold AW.rd; rw [g0]; rfl) rfl⟩
    | 1 => simp only [alook] at hj; simp at hj; subst hj; exact ⟨by decide, (1, 0), by simp, .flat (k := 8) (by show AW.rd _ 1 0 5 = _; unfold AW.rd; rw [g1]; rfl) rfl⟩
    | 2 => simp only [alook] at hj; simp at hj; subst hj; exact ⟨by decide, (2, 0), by simp, .flat (k := 8) (by show AW.rd _ 2 0 0 = _; unfold AW.rd; rw [g2]; simp) rfl⟩
    | j + 3 => simp [alook] at hj
theorem d_nextEx1 {A : AW} {p x k : Nat} (hp : A.rd p 0 5 = some exS) (hx : A.rd x 0 2 = some [.int .i64 20, .bool false]) (hg : GOk A) : AC Tryd.prog 90 [.agg #[.slice (some ⟨p, 0, none⟩) 1 k, .int .i64 1, .int .i64 1], exSt 0 0 0, .agg #[.slice (some ⟨x, 0, none⟩) 1 1, .int .i64 0]] A (isR (.agg #[.int .i64 0, .int .i64 0, .int .i64 0, .int .i64 0, .int .i64 0, .int .i64 0, .int .i64 0, .int .i64 0, .int .i64 0, .int .i64 0, .slice none 0 0]) A) := by
  refine AC.isX (exSmall (rds := [.int .i64 20, .bool false]) (kr := 8) rfl hp hx hg) (args := [.agg #[.slice (some ⟨3, 0, none⟩) 1 k, .int .i64 1, .int .i64 1], exSt 0 0 0, .agg #[.slice (some ⟨4, 0, none⟩) 1 1, .int .i64 0]]) ?_ ⟨32, rfl⟩
      (.agg (.sl rfl rfl (.flat (k := 8) rfl (.flat (k := 8) rfl .nil))) (.flat (k := 32) rfl (.agg (.sl rfl rfl (.flat (k := 8) rfl .nil)) .nil)))
  refine AC.go Tryd.func90 rfl rfl ?_
  clear hp hx hg
  repeat' (first
  | refine GT.draws (id := 6) [[], [0], [0, 1], [0, 1, 2], [0, 1, 2, 3], [], [], [], [7], [0, 1, 2, 3, 4, 5, 6, 7, 8], [0, 1, 2, 3, 4, 5, 6, 7, 8, 9]] [10] (by kernel_rfl) ?_
  | refine GL.sf rfl rfl rfl rfl ?_
  | refine GL.done ?_
  | refine GP.thenN ?_
  | refine GT.seq ?_
  | refine GT.region ?_
  | refine GL.skipG rfl rfl rfl rfl rfl ?_
  | refine GD.li rfl rfl (by exact onAt.none rfl) rfl (by repeat first | exact AllG.nil rfl | refine AllG.cons rfl (by first | exact GO.sf rfl rfl | exact GO.callV rfl rfl rfl Tryd.func194 rfl rfl rfl (d_countEx1 rfl rfl)) ?_) ?_
  | refine GD.hF rfl rfl rfl (by exact onAt.none rfl) rfl rfl ?_ ?_
  | refine GD.done rfl rfl rfl ?_
  | exact AllJs.nil rfl
  | refine GT.skip ?_
  | refine GT.block ?_
  | refine GT.ret ?_
  | refine GP.inN ?_
  | refine GT.condF rfl ?_
  | refine GP.endR1 rfl ?_)
  rfl
theorem d_nextEx2 {A : AW} {p x k : Nat} (hp : A.rd p 0 5 = some exS) (hx : A.rd x 0 2 = some [.int .i64 40, .bool false]) (hg : GOk A) : AC Tryd.prog 90 [.agg #[.slice (some ⟨p, 0, none⟩) 1 k, .int .i64 1, .int .i64 1], exSt 0 0 0, .agg #[.slice (some ⟨x, 0, none⟩) 1 1, .int .i64 0]] A (isR (.agg #[.int .i64 0, .int .i64 0, .int .i64 1, .int .i64 0, .int .i64 0, .int .i64 0, .int .i64 0, .int .i64 0, .int .i64 0, .int .i64 0, .slice none 0 0]) A) := by
  refine AC.isX (exSmall (rds := [.int .i64 40, .bool false]) (kr := 8) rfl hp hx hg) (args := [.agg #[.slice (some ⟨3, 0, none⟩) 1 k, .int .i64 1, .int .i64 1], exSt 0 0 0, .agg #[.slice (some ⟨4, 0, none⟩) 1 1, .int .i64 0]]) ?_ ⟨32, rfl⟩
      (.agg (.sl rfl rfl (.flat (k := 8) rfl (.flat (k := 8) rfl .nil))) (.flat (k := 32) rfl (.agg (.sl rfl rfl (.flat (k := 8) rfl .nil)) .nil)))
  refine AC.go Tryd.func90 rfl rfl ?_
  clear hp hx hg
  repeat' (first
  | refine GT.draws (id := 6) [[], [0], [0, 1], [0, 1, 2], [0, 1, 2, 3], [], [], [], [7], [0, 1, 2, 3, 4, 5, 6, 7, 8], [0, 1, 2, 3, 4, 5, 6, 7, 8, 9]] [10] (by kernel_rfl) ?_
  | refine GL.sf rfl rfl rfl rfl ?_
  | refine GL.done ?_
  | refine GP.thenN ?_
  | refine GT.seq ?_
  | refine GT.region ?_
  | refine GL.skipG rfl rfl rfl rfl rfl ?_
  | refine GD.li rfl rfl (by exact onAt.none rfl) rfl (by repeat first | exact AllG.nil rfl | refine AllG.cons rfl (by first | exact GO.sf rfl rfl | exact GO.callV rfl rfl rfl Tryd.func194 rfl rfl rfl (d_countEx2 rfl rfl)) ?_) ?_
  | refine GD.hF rfl rfl rfl (by exact onAt.none rfl) rfl rfl ?_ ?_
  | refine GD.done rfl rfl rfl ?_
  | exact AllJs.nil rfl
  | refine GT.skip ?_
  | refine GT.block ?_
  | refine GT.ret ?_
  | refine GP.inN ?_
  | refine GT.condF rfl ?_
  | refine GP.endR1 rfl ?_)
  rfl
theorem d_nextEx3 {A : AW} {p x k : Nat} (hp : A.rd p 0 5 = some exS) (hx : A.rd x 0 2 = some [.int .i64 40, .bool false]) (hg : GOk A) : AC Tryd.prog 90 [.agg #[.slice (some ⟨p, 0, none⟩) 1 k, .int .i64 1, .int .i64 1], exSt 0 0 1, .agg #[.slice (some ⟨x, 0, none⟩) 1 1, .int .i64 0]] A (isR (.agg #[.int .i64 1, .int .i64 1, .int .i64 0, .int .i64 0, .int .i64 0, .int .i64 0, .int .i64 0, .int .i64 0, .int .i64 0, .int .i64 0, .slice (some ⟨A.next, 0, none⟩) 1 1]) A.burn) := by
  refine AC.givesDX (Φ := fun u => u = .agg #[.int .i64 1, .int .i64 1, .int .i64 0, .int .i64 0, .int .i64 0, .int .i64 0, .int .i64 0, .int .i64 0, .int .i64 0, .int .i64 0, .slice (some ⟨A.next, 0, none⟩) 1 1]) (exSmall (rds := [.int .i64 40, .bool false]) (kr := 8) rfl hp hx hg) (args := [.agg #[.slice (some ⟨3, 0, none⟩) 1 k, .int .i64 1, .int .i64 1], exSt 0 0 1, .agg #[.slice (some ⟨4, 0, none⟩) 1 1, .int .i64 0]]) ?_
      (.agg (.sl rfl rfl (.flat (k := 8) rfl (.flat (k := 8) rfl .nil))) (.flat (k := 32) rfl (.agg (.sl rfl rfl (.flat (k := 8) rfl .nil)) .nil)))
  refine AC.go Tryd.func90 rfl rfl ?_
  clear hp hx hg
  repeat' (first
  | refine GT.draws (id := 6) [[], [0], [0, 1], [0, 1, 2], [0, 1, 2, 3], [], [], [], [7], [0, 1, 2, 3, 4, 5, 6, 7, 8], [0, 1, 2, 3, 4, 5, 6, 7, 8, 9]] [9, 10] (by kernel_rfl) ?_
  | refine GL.sf rfl rfl rfl rfl ?_
  | refine GL.done ?_
  | refine GP.thenN ?_
  | refine GT.seq ?_
  | refine GT.region ?_
  | refine GL.skipG rfl rfl rfl rfl rfl ?_
  | refine GD.li rfl rfl (by exact onAt.none rfl) rfl (by repeat first | exact AllG.nil rfl | refine AllG.cons rfl (by exact GO.sf rfl rfl) ?_) ?_
  | refine GD.he rfl rfl rfl (by exact onAt.none rfl) rfl (by exact GO.callV rfl rfl rfl Tryd.func194 rfl rfl rfl (d_countEx3 rfl rfl)) ?_ ?_
  | refine GD.hF rfl rfl rfl (by exact onAt.none rfl) rfl rfl ?_ ?_
  | refine GD.done rfl rfl rfl ?_
  | exact AllJs.nil rfl
  | refine GT.skip ?_
  | refine GT.block ?_
  | refine GT.ret ?_
  | refine GP.inN ?_
  | refine GT.condF rfl ?_
  | refine GP.endR1 rfl ?_)
  exact ⟨_, _, rfl, .agg (.flat (k := 8) rfl (.flat (k := 8) rfl (.flat (k := 8) rfl (.flat (k := 8) rfl (.flat (k := 8) rfl (.flat (k := 8) rfl (.flat (k := 8) rfl (.flat (k := 8) rfl (.flat (k := 8) rfl (.flat (k := 8) rfl (.sl (f := 0) (g := 0) (if_pos rfl) rfl .nil))))))))))) .nil⟩
theorem d_nextEx4 {A : AW} {p x k : Nat} (hp : A.rd p 0 5 = some exS) (hx : A.rd x 0 2 = some [.int .i64 20, .bool false]) (hg : GOk A) : AC Tryd.prog 90 [.agg #[.slice (some ⟨p, 0, none⟩) 1 k, .int .i64 1, .int .i64 1], exSt 1 1 0, .agg #[.slice (some ⟨x, 0, none⟩) 1 1, .int .i64 0]] A (isR (.agg #[.int .i64 2, .int .i64 0, .int .i64 0, .int .i64 0, .int .i64 0, .int .i64 0, .int .i64 0, .int .i64 0, .int .i64 0, .int .i64 0, .slice none 0 0]) A) := by
  refine AC.isX (exSmall (rds := [.int .i64 20, .bool false]) (kr := 8) rfl hp hx hg) (args := [.agg #[.slice (some ⟨3, 0, none⟩) 1 k, .int .i64 1, .int .i64 1], exSt 1 1 0, .agg #[.slice (some ⟨4, 0, none⟩) 1 1, .int .i64 0]]) ?_ ⟨32, rfl⟩
      (.agg (.sl rfl rfl (.flat (k := 8) rfl (.flat (k := 8) rfl .nil))) (.flat (k := 32) rfl (.agg (.sl rfl rfl (.flat (k := 8) rfl .nil)) .nil)))
  refine AC.go Tryd.func90 rfl rfl ?_
  clear hp hx hg
  repeat' (first
  | refine GT.draws (id := 6) [[], [0], [0, 1], [0, 1, 2], [0, 1, 2, 3], [], [], [], [7], [0, 1, 2, 3, 4, 5, 6, 7, 8], [0, 1, 2, 3, 4, 5, 6, 7, 8, 9]] [10] (by kernel_rfl) ?_
  | refine GL.sf rfl rfl rfl rfl ?_
  | refine GL.done ?_
  | refine GP.thenN ?_
  | refine GT.seq ?_
  | refine GT.region ?_
  | refine GL.skipG rfl rfl rfl rfl rfl ?_
  | refine GD.li rfl rfl (by exact onAt.none rfl) rfl (by repeat first | exact AllG.nil rfl | refine AllG.cons rfl (by first | exact GO.sf rfl rfl | exact GO.callV rfl rfl rfl Tryd.func195 rfl rfl rfl (d_transEx rfl rfl)) ?_) ?_
  | refine GD.hF rfl rfl rfl (by exact onAt.none rfl) rfl rfl ?_ ?_
  | refine GD.done rfl rfl rfl ?_
  | exact AllJs.nil rfl
  | refine GT.skip ?_
  | refine GT.block ?_
  | refine GT.ret ?_
  | refine GP.inN ?_
  | refine GT.condF rfl ?_
  | refine GP.endR1 rfl ?_)
  rfl
theorem exSens : SensorOk exN kNear (-20) 20 2 := ⟨⟨by decide, by decide, fun i b h => by
  match i with
  | 0 => simp [exN] at h; subst h; exact .inl (.inr (by decide))
  | i + 1 => simp [exN] at h⟩, .inr (.inl rfl), by decide, by decide, by decide, by decide⟩
abbrev exQ (c0 c1 c2 c3 : List Value) : List Value := c0 ++ c1 ++ c2 ++ c3
theorem d_statesEx : AC Tryd.prog 10 [.agg #[.slice (some ⟨3, 0, none⟩) 1 1, .int .i64 1, .int .i64 1], .slice (some ⟨4, 0, none⟩) 4 4] (AW.of (FM exS 1 4 exR) 1000 1000 3)
      (fun u A1 => ∃ nm, u = .tuple #[.slice (some ⟨nm, 0, none⟩) 4 4, .int .i64 0] ∧ A1.objs nm = some (.cells (stateC 0 0 0 0 0 0 0 0 0 0 ++ stateC 0 0 1 0 0 0 0 0 0 0 ++ stateC 1 1 0 0 0 0 0 0 0 0 ++ stateC 2 0 0 0 0 0 0 0 0 0) 59) ∧ 1000 ≤ nm) := by
  have hs : ∃ k, noAddrs k exS = true := ⟨64, rfl⟩
  have hr : ∀ i, i < 4 → ∃ k, noAddrs k (exR i) = true := fun i _ => ⟨64, rfl⟩
  have hcl : Closure86 exS 1 4 1 exR 1 1 := fun L nx i hi hsub => d_closure86_1 (if i = 0 ∨ i = 3 then 20 else 40) false 1 1 (by split <;> decide) (fun h => by cases h) (rd_of (hsub (5 + i) _ (by rw [alook, if_neg (by omega)]; exact FM_look hi))) (rd_of (hsub 1000 _ rfl)) (by
    have := hsub 3 _ rfl
    have ho : (AW.of L nx 1001 3).objs 3 = some (.cells exS 128) := this
    unfold AW.rd; rw [ho]; simp)
  have hpl : Plant84 exS 1 4 1 exR 1 1 := fun L nx ro hp => d_plant84_1 exN kNear (-20) 20 2 1 1 exSens (by decide) (by decide) (rd_of hp)
  refine AC.goF Tryd.func10 rfl rfl ?_
  repeat' (first
  | refine GL.v rfl rfl rfl (GO.call rfl rfl Tryd.func41 rfl rfl rfl (AC.go Tryd.func41 rfl rfl (by repeat' (first | exact ⟨rfl, rfl⟩ | refine GL.sf rfl rfl rfl rfl ?_ | refine GL.done ?_ | refine GP.thenN ?_ | refine GT.seq ?_ | refine GT.region ?_ | refine GL.v rfl rfl rfl (by exact GO.mkfn rfl (fun _ h => by cases h) rfl rfl) ?_ | refine GT.ret ?_ | refine GP.endR1 rfl ?_)))) ?_
  | refine GP.fthen ?_
  | refine GF.range2 ?_
  | refine GP.range ?_
  | refine GF.seq ?_
  | refine GL.sf rfl rfl rfl rfl ?_
  | refine GL.done ?_
  | refine GP.thenN ?_
  | refine GT.seq ?_
  | refine GT.region ?_
  | refine GL.v rfl rfl rfl (by exact GO.call rfl rfl Tryd.func40 rfl rfl rfl (d_seconds40at (by decide) hs hr hcl hpl (fun j o h => by have hj := FM_lt (by omega) h; simp only [alook]; (repeat rw [if_neg (by omega)]); exact h))) ?_
  | refine GT.skip ?_
  | refine GT.condF rfl ?_)
  refine GRange.of (a := [(18, .func (.func 89) #[] #[.pointer (some ⟨1003, 0, none⟩), .pointer (some ⟨1002, 0, none⟩)]), (7, .pointer (some ⟨1001, 0, none⟩))]) (asub_cons rfl (asub_cons rfl asub_nil)) rfl rfl rfl rfl (fun f => ?_)
  refine AC.go Tryd.func89 rfl rfl ?_
  repeat' (first
  | refine GL.v rfl rfl rfl (GO.yield rfl rfl rfl rfl (rfl) rfl rfl rfl (by repeat' (first | exact GP.yBody rfl ⟨rfl, rfl⟩ | refine GP.yAssign (rfl) ?_ | refine GL.sf rfl rfl rfl rfl ?_ | refine GL.nf rfl rfl rfl ?_ | refine GL.done ?_ | refine GT.region ?_ | refine GT.block ?_ | refine GP.inN ?_))) ?_
  | refine GT.unroll 5 ?_
  | refine GL.sf rfl rfl rfl rfl ?_
  | refine GL.nf rfl rfl rfl ?_
  | refine GL.done ?_
  | refine GP.thenN ?_
  | refine GT.seq ?_
  | refine GT.region ?_
  | refine GL.v rfl rfl rfl (by first | exact GO.call rfl rfl Tryd.func90 rfl rfl rfl (d_nextEx1 rfl rfl ⟨rfl, rfl, rfl, _, _, rfl⟩) | exact GO.call rfl rfl Tryd.func90 rfl rfl rfl (d_nextEx2 rfl rfl ⟨rfl, rfl, rfl, _, _, rfl⟩) | exact GO.call rfl rfl Tryd.func90 rfl rfl rfl (d_nextEx3 rfl rfl ⟨rfl, rfl, rfl, _, _, rfl⟩) | exact GO.call rfl rfl Tryd.func90 rfl rfl rfl (d_nextEx4 rfl rfl ⟨rfl, rfl, rfl, _, _, rfl⟩) | exact GO.add rfl rfl rfl (by omega)) ?_
  | refine GT.skip ?_
  | refine GT.block ?_
  | refine GT.exit ?_
  | refine GP.thenE ?_
  | refine GP.inN ?_
  | refine GP.hit ?_
  | refine GP.againN ?_
  | refine GP.againE ?_
  | refine GU.step ?_
  | refine GT.condT rfl ?_
  | refine GT.condF rfl ?_
  | refine GP.endN0 rfl ?_)
  refine ⟨_, _, rfl, rfl, rfl, ?_⟩
  repeat' (first
  | refine GP.fend2 rfl rfl ?_
  | refine GL.sf rfl rfl rfl rfl ?_
  | refine GL.done ?_)
  exact ⟨_, rfl, rfl, Nat.le_of_ble_eq_true rfl⟩
end Go.M
namespace Go.M
open Go.Proofs Go.RowKit
set_option maxRecDepth 16000
set_option maxHeartbeats 8000000
theorem exRec : ReceiverOk 100 150 0 (-10000) 10000 := by unfold ReceiverOk; omega
theorem exSig (c : Int) (h : 0 ≤ c ∧ c ≤ 10) : SignalOk 10 0 c 0 1 0 := by unfold SignalOk; omega
theorem d_toldEx1 {A : AW} (hG : GOk A) : AC Tryd.prog 38 [.agg #[.int .i64 100, .int .i64 150, .int .i64 0, .int .i64 (-10000), .int .i64 10000], .agg #[.int .i64 10, .int .i64 0, .int .i64 3, .int .i64 0, .int .i64 1, .int .i64 0]] A (isR (.tuple #[.int .i64 20, .string ⟨#[]⟩, .int .i64 0]) A) := by
  have h := d_told38n hG 100 150 0 (-10000) 10000 10 0 3 0 1 0 exRec (exSig 3 (by decide)) (by decide)
  rw [show shownI 100 150 10 0 3 0 1 0 = 20 by decide] at h
  exact h
theorem d_toldEx2 {A : AW} (hG : GOk A) : AC Tryd.prog 38 [.agg #[.int .i64 100, .int .i64 150, .int .i64 0, .int .i64 (-10000), .int .i64 10000], .agg #[.int .i64 10, .int .i64 0, .int .i64 5, .int .i64 0, .int .i64 1, .int .i64 0]] A (isR (.tuple #[.int .i64 40, .string ⟨#[]⟩, .int .i64 0]) A) := by
  have h := d_told38n hG 100 150 0 (-10000) 10000 10 0 5 0 1 0 exRec (exSig 5 (by decide)) (by decide)
  rw [show shownI 100 150 10 0 5 0 1 0 = 40 by decide] at h
  exact h
theorem d_statesExAt {A : AW} {p s : Nat} {r : Nat → Nat} (hf : FMOk A p 0 s r exS 1 4 exR) : AC Tryd.prog 10 [.agg #[.slice (some ⟨p, 0, none⟩) 1 1, .int .i64 1, .int .i64 1], .slice (some ⟨s, 0, none⟩) 4 4] A
    (isR (.tuple #[.slice (some ⟨A.next, 0, none⟩) 4 4, .int .i64 0]) (A.push (.cells (stateC 0 0 0 0 0 0 0 0 0 0 ++ stateC 0 0 1 0 0 0 0 0 0 0 ++ stateC 1 1 0 0 0 0 0 0 0 0 ++ stateC 2 0 0 0 0 0 0 0 0 0) 59))) := by
  refine AC.exact (AC.givesX (hf.small (by decide)) (args := [.agg #[.slice (some ⟨3, 0, none⟩) 1 1, .int .i64 1, .int .i64 1], .slice (some ⟨4, 0, none⟩) 4 4]) (AC.mono d_statesEx ?_) (.agg (.sl (f := 0) (by simp [rhoFM]) rfl (.flat (k := 8) rfl (.flat (k := 8) rfl .nil))) (.sl (f := 0) (by simp [rhoFM]) rfl .nil)))
  rintro v A1 ⟨nm, rfl, h1, h2⟩
  exact ⟨nm, _, h1, h2, ⟨64, rfl⟩, rfl, .tuple (.sl (f := 0) (if_pos rfl) rfl (.flat (k := 8) rfl .nil)) .nil⟩
theorem ex4 {p : Nat → Prop} (h0 : p 0) (h1 : p 1) (h2 : p 2) (h3 : p 3) : ∀ i, i < 4 → p i := fun i hi => match i, hi with | 0, _ => h0 | 1, _ => h1 | 2, _ => h2 | 3, _ => h3
theorem d_off7 {A : AW} (hG : GOk A) : AC Tryd.prog 7 [] A (isR (.bool true) A) := by
  refine AC.isG hG ?_ ⟨8, rfl⟩ .nil
  refine AC.go Tryd.func7 rfl rfl ?_
  repeat' (first
  | refine GT.unroll 5 ?_
  | refine GL.sf rfl rfl rfl rfl ?_
  | refine GL.nf rfl rfl rfl ?_
  | refine GL.done ?_
  | refine GP.thenN ?_
  | refine GT.seq ?_
  | refine GT.region ?_
  | refine GL.unguardG rfl rfl rfl ?_
  | refine GL.v rfl rfl rfl (by first | exact GO.call rfl rfl Tryd.func38 rfl rfl rfl (d_toldEx1 ⟨rfl, rfl, rfl, _, _, rfl⟩) | exact GO.call rfl rfl Tryd.func38 rfl rfl rfl (d_toldEx2 ⟨rfl, rfl, rfl, _, _, rfl⟩) | exact GO.eq rfl rfl rfl rfl rfl Tryd.eqGuardType59 (d_aeq59 _ _ _ _ _ _ _ _ _ _ _ _ _ _ _ _ _ _ _ _) rfl | exact GO.push (GO.call rfl rfl Tryd.func10 rfl rfl rfl (d_statesExAt (r := fun i => 7 + 3 * i) ⟨⟨rfl, rfl, rfl, _, _, rfl⟩, rfl, ⟨64, rfl⟩, rfl, (ex4 rfl rfl rfl rfl), (fun i _ => ⟨64, rfl⟩)⟩)) | exact GO.add rfl rfl rfl (by omega)) ?_
  | refine GT.skip ?_
  | refine GT.block ?_
  | refine GT.ret ?_
  | refine GT.exit ?_
  | refine GP.thenE ?_
  | refine GP.inN ?_
  | refine GP.hit ?_
  | refine GP.againN ?_
  | refine GP.againE ?_
  | refine GU.step ?_
  | refine GT.condT rfl ?_
  | refine GT.condF rfl ?_
  | refine GP.endR1 rfl ?_)
  rfl
end Go.M
