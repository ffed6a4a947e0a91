/- Functions of the given program, walked (no condition beyond what each theorem says). -/
import Derived.Test.YtfhodefiknfccaaDoorB8
set_option linter.unusedVariables false
set_option linter.unusedSimpArgs false
namespace Go.M
open Go.Proofs Go.RowKit
set_option maxRecDepth 8000
set_option maxHeartbeats 4000000
theorem d_mapped87_1 {A : AW} {r : Nat} (r0 : Int) (m0 : Bool) (q0 : -10000 ≤ r0 ∧ r0 ≤ 10000) (u0 : m0 = true → r0 = 0) (h : A.rd r 0 2 = some [.int .i64 r0, .bool m0]) : AC Tryd.prog 87 [.slice (some ⟨r, 0, none⟩) 1 1, .func (.func 88) #[] #[]] A (isR (.slice (some ⟨A.next, 0, none⟩) 1 1) (A.push (.cells [.int .i64 0] 48))) := by
  refine AC.gives1 (x := .cells [.int .i64 r0, .bool m0] 46) (b := r) (g := 0) (args := [.slice (some ⟨0, 0, none⟩) 1 1, .func (.func 88) #[] #[]]) ?_ ⟨64, rfl⟩ ⟨h, 64, rfl⟩ (.sl (g := 0) rfl rfl (.flat (k := 8) rfl .nil))
  refine AC.go Tryd.func87 rfl rfl ?_
  clear h
  repeat' (first
  | refine GT.unroll 2 ?_
  | refine GL.sf rfl rfl rfl rfl ?_
  | refine GL.nf rfl rfl rfl ?_
  | refine GL.done ?_
  | refine GP.thenN ?_
  | refine GT.seq ?_
  | refine GT.region ?_
  | refine GL.v rfl rfl rfl (by first | exact GO.callV rfl rfl rfl Tryd.func88 rfl rfl rfl (d_check88 _ _ q0 u0) | exact GO.add rfl rfl rfl (by omega)) ?_
  | refine GT.skip ?_
  | refine GT.block ?_
  | refine GT.ret ?_
  | refine GT.exit ?_
  | refine GP.thenE ?_
  | refine GP.inN ?_
  | refine GP.hit ?_
  | refine GP.againN ?_
  | refine GP.againE ?_
  | refine GU.step ?_
  | refine GT.condT rfl ?_
  | refine GT.condF rfl ?_
  | refine GP.endR1 rfl ?_)
  exact ⟨_, rfl, rfl, by decide⟩
theorem d_closure86_1 {A : AW} {r b p k : Nat} (r0 : Int) (m0 : Bool) (need sil : Int) (q0 : -10000 ≤ r0 ∧ r0 ≤ 10000) (u0 : m0 = true → r0 = 0) (h : A.rd r 0 2 = some [.int .i64 r0, .bool m0]) (hb : A.rd b 0 3 = some [.slice (some ⟨p, 0, none⟩) 1 k, .int .i64 need, .int .i64 sil]) (hp : A.rd p 0 0 = some []) :
    AC Tryd.prog 86 [.agg #[.slice (some ⟨r, 0, none⟩) 1 1, .int .i64 0], .pointer (some ⟨b, 0, none⟩)] A (isR (.int .i64 0) A) := by
  refine AC.isX (((SmallX.nil.cons (k := 0) (b := r) (f := 0) (o := .cells [.int .i64 r0, .bool m0] 46) (.flat (k := 64) h rfl)).cons (b := p) (f := 0) (o := .cells [] 128) (.flat (k := 8) hp rfl)).cons (b := b) (f := 0) (o := .cells [.slice (some ⟨1, 0, none⟩) 1 k, .int .i64 need, .int .i64 sil] 53) ⟨_, hb, .sl rfl rfl (.flat (k := 8) rfl (.flat (k := 8) rfl .nil))⟩)
    (args := [.agg #[.slice (some ⟨0, 0, none⟩) 1 1, .int .i64 0], .pointer (some ⟨2, 0, none⟩)]) ?_ ⟨8, rfl⟩ (.agg (.sl rfl rfl (.flat (k := 8) rfl .nil)) (.ptr rfl rfl .nil))
  refine AC.go Tryd.func86 rfl rfl ?_
  clear h hb hp
  repeat' (first
  | refine GT.draws (id := 1) [[], [0], [0, 1], [], [3], [3, 4], [0, 1, 2, 3, 4, 5], [0, 1, 2, 3, 4, 5, 6], [], [8], [0, 1, 2, 3, 4, 5, 6, 7, 8, 9], [0, 1, 2, 3, 4, 5, 6, 7, 8, 9, 10], [], [12], [12, 13], [0, 1, 2, 3, 4, 5, 6, 7, 8, 9, 10, 11, 12, 13, 14], [0, 1, 2, 3, 4, 5, 6, 7, 8, 9, 10, 11, 12, 13, 14, 15], [0, 1, 2, 3, 4, 5, 6, 7, 8, 9, 10, 11, 12, 13, 14, 15, 16], [0, 1, 2, 3, 4, 5, 6, 7, 8, 9, 10, 11, 12, 13, 14, 15, 16, 17], [0, 1, 2, 3, 4, 5, 6, 7, 8, 9, 10, 11, 12, 13, 14, 15, 16, 17, 18], [0, 1, 2, 3, 4, 5, 6, 7, 8, 9, 10, 11, 12, 13, 14, 15, 16, 17, 18, 19], [0, 1, 2, 3, 4, 5, 6, 7, 8, 9, 10, 11, 12, 13, 14, 15, 16, 17, 18, 19, 20], [0, 1, 2, 3, 4, 5, 6, 7, 8, 9, 10, 11, 12, 13, 14, 15, 16, 17, 18, 19, 20, 21], [0, 1, 2, 3, 4, 5, 6, 7, 8, 9, 10, 11, 12, 13, 14, 15, 16, 17, 18, 19, 20, 21, 22]] [10, 21] (by kernel_rfl) ?_
  | refine GL.sf rfl rfl rfl rfl ?_
  | refine GL.done ?_
  | refine GP.thenN ?_
  | refine GT.seq ?_
  | refine GT.region ?_
  | refine GD.li rfl rfl (by first | exact onAt.none rfl | exact onAt.yes rfl rfl rfl) rfl (by repeat first | exact AllG.nil rfl | refine AllG.cons rfl (by first | exact GO.sf rfl rfl | exact GO.sv rfl rfl | exact GO.call rfl rfl Tryd.func72 rfl rfl rfl (d_when72 _ _) | exact GO.call rfl rfl Tryd.func71 rfl rfl rfl (d_first71 [0] rfl rfl rfl) | exact GO.call rfl rfl Tryd.func71 rfl rfl rfl (d_first71 [whenI (!decide ((1 : Int) = 1)) 2, firstNZ [0], whenI (decide (3 < (0 : Int))) 13] rfl rfl rfl)) ?_) ?_
  | refine GD.he rfl rfl rfl (by exact onAt.none rfl) rfl (by first | exact GO.sf rfl rfl | exact GO.push (GO.call rfl rfl Tryd.func87 rfl rfl rfl (d_mapped87_1 r0 m0 q0 u0 rfl))) ?_ ?_
  | refine GD.done rfl rfl rfl ?_
  | exact AllJs.nil rfl
  | refine GT.ret ?_
  | refine GP.endR1 rfl ?_)
  rfl
theorem d_mapped87_2 {A : AW} {r : Nat} (r0 r1 : Int) (m0 m1 : Bool) (q0 : -10000 ≤ r0 ∧ r0 ≤ 10000) (u0 : m0 = true → r0 = 0) (q1 : -10000 ≤ r1 ∧ r1 ≤ 10000) (u1 : m1 = true → r1 = 0) (h : A.rd r 0 4 = some [.int .i64 r0, .bool m0, .int .i64 r1, .bool m1]) : AC Tryd.prog 87 [.slice (some ⟨r, 0, none⟩) 2 2, .func (.func 88) #[] #[]] A (isR (.slice (some ⟨A.next, 0, none⟩) 2 2) (A.push (.cells [.int .i64 0, .int .i64 0] 48))) := by
  refine AC.gives1 (x := .cells [.int .i64 r0, .bool m0, .int .i64 r1, .bool m1] 46) (b := r) (g := 0) (args := [.slice (some ⟨0, 0, none⟩) 2 2, .func (.func 88) #[] #[]]) ?_ ⟨64, rfl⟩ ⟨h, 64, rfl⟩ (.sl (g := 0) rfl rfl (.flat (k := 8) rfl .nil))
  refine AC.go Tryd.func87 rfl rfl ?_
  clear h
  repeat' (first
  | refine GT.unroll 3 ?_
  | refine GL.sf rfl rfl rfl rfl ?_
  | refine GL.nf rfl rfl rfl ?_
  | refine GL.done ?_
  | refine GP.thenN ?_
  | refine GT.seq ?_
  | refine GT.region ?_
  | refine GL.v rfl rfl rfl (by first | exact GO.callV rfl rfl rfl Tryd.func88 rfl rfl rfl (d_check88 _ _ q0 u0) | exact GO.callV rfl rfl rfl Tryd.func88 rfl rfl rfl (d_check88 _ _ q1 u1) | exact GO.add rfl rfl rfl (by omega)) ?_
  | refine GT.skip ?_
  | refine GT.block ?_
  | refine GT.ret ?_
  | refine GT.exit ?_
  | refine GP.thenE ?_
  | refine GP.inN ?_
  | refine GP.hit ?_
  | refine GP.againN ?_
  | refine GP.againE ?_
  | refine GU.step ?_
  | refine GT.condT rfl ?_
  | refine GT.condF rfl ?_
  | refine GP.endR1 rfl ?_)
  exact ⟨_, rfl, rfl, by decide⟩
theorem d_closure86_2 {A : AW} {r b p k : Nat} (r0 r1 : Int) (m0 m1 : Bool) (need sil : Int) (q0 : -10000 ≤ r0 ∧ r0 ≤ 10000) (u0 : m0 = true → r0 = 0) (q1 : -10000 ≤ r1 ∧ r1 ≤ 10000) (u1 : m1 = true → r1 = 0) (h : A.rd r 0 4 = some [.int .i64 r0, .bool m0, .int .i64 r1, .bool m1]) (hb : A.rd b 0 3 = some [.slice (some ⟨p, 0, none⟩) 2 k, .int .i64 need, .int .i64 sil]) (hp : A.rd p 0 0 = some []) :
    AC Tryd.prog 86 [.agg #[.slice (some ⟨r, 0, none⟩) 2 2, .int .i64 0], .pointer (some ⟨b, 0, none⟩)] A (isR (.int .i64 0) A) := by
  refine AC.isX (((SmallX.nil.cons (k := 0) (b := r) (f := 0) (o := .cells [.int .i64 r0, .bool m0, .int .i64 r1, .bool m1] 46) (.flat (k := 64) h rfl)).cons (b := p) (f := 0) (o := .cells [] 128) (.flat (k := 8) hp rfl)).cons (b := b) (f := 0) (o := .cells [.slice (some ⟨1, 0, none⟩) 2 k, .int .i64 need, .int .i64 sil] 53) ⟨_, hb, .sl rfl rfl (.flat (k := 8) rfl (.flat (k := 8) rfl .nil))⟩)
    (args := [.agg #[.slice (some ⟨0, 0, none⟩) 2 2, .int .i64 0], .pointer (some ⟨2, 0, none⟩)]) ?_ ⟨8, rfl⟩ (.agg (.sl rfl rfl (.flat (k := 8) rfl .nil)) (.ptr rfl rfl .nil))
  refine AC.go Tryd.func86 rfl rfl ?_
  clear h hb hp
  repeat' (first
  | refine GT.draws (id := 1) [[], [0], [0, 1], [], [3], [3, 4], [0, 1, 2, 3, 4, 5], [0, 1, 2, 3, 4, 5, 6], [], [8], [0, 1, 2, 3, 4, 5, 6, 7, 8, 9], [0, 1, 2, 3, 4, 5, 6, 7, 8, 9, 10], [], [12], [12, 13], [0, 1, 2, 3, 4, 5, 6, 7, 8, 9, 10, 11, 12, 13, 14], [0, 1, 2, 3, 4, 5, 6, 7, 8, 9, 10, 11, 12, 13, 14, 15], [0, 1, 2, 3, 4, 5, 6, 7, 8, 9, 10, 11, 12, 13, 14, 15, 16], [0, 1, 2, 3, 4, 5, 6, 7, 8, 9, 10, 11, 12, 13, 14, 15, 16, 17], [0, 1, 2, 3, 4, 5, 6, 7, 8, 9, 10, 11, 12, 13, 14, 15, 16, 17, 18], [0, 1, 2, 3, 4, 5, 6, 7, 8, 9, 10, 11, 12, 13, 14, 15, 16, 17, 18, 19], [0, 1, 2, 3, 4, 5, 6, 7, 8, 9, 10, 11, 12, 13, 14, 15, 16, 17, 18, 19, 20], [0, 1, 2, 3, 4, 5, 6, 7, 8, 9, 10, 11, 12, 13, 14, 15, 16, 17, 18, 19, 20, 21], [0, 1, 2, 3, 4, 5, 6, 7, 8, 9, 10, 11, 12, 13, 14, 15, 16, 17, 18, 19, 20, 21, 22]] [10, 21] (by kernel_rfl) ?_
  | refine GL.sf rfl rfl rfl rfl ?_
  | refine GL.done ?_
  | refine GP.thenN ?_
  | refine GT.seq ?_
  | refine GT.region ?_
  | refine GD.li rfl rfl (by first | exact onAt.none rfl | exact onAt.yes rfl rfl rfl) rfl (by repeat first | exact AllG.nil rfl | refine AllG.cons rfl (by first | exact GO.sf rfl rfl | exact GO.sv rfl rfl | exact GO.call rfl rfl Tryd.func72 rfl rfl rfl (d_when72 _ _) | exact GO.call rfl rfl Tryd.func71 rfl rfl rfl (d_first71 [0, 0] rfl rfl rfl) | exact GO.call rfl rfl Tryd.func71 rfl rfl rfl (d_first71 [whenI (!decide ((2 : Int) = 2)) 2, firstNZ [0, 0], whenI (decide (3 < (0 : Int))) 13] rfl rfl rfl)) ?_) ?_
  | refine GD.he rfl rfl rfl (by exact onAt.none rfl) rfl (by first | exact GO.sf rfl rfl | exact GO.push (GO.call rfl rfl Tryd.func87 rfl rfl rfl (d_mapped87_2 r0 r1 m0 m1 q0 u0 q1 u1 rfl))) ?_ ?_
  | refine GD.done rfl rfl rfl ?_
  | exact AllJs.nil rfl
  | refine GT.ret ?_
  | refine GP.endR1 rfl ?_)
  rfl
end Go.M
namespace Go.M
open Go.Proofs Go.RowKit
set_option maxRecDepth 8000
set_option maxHeartbeats 4000000
theorem d_mapped87_3 {A : AW} {r : Nat} (r0 r1 r2 : Int) (m0 m1 m2 : Bool) (q0 : -10000 ≤ r0 ∧ r0 ≤ 10000) (u0 : m0 = true → r0 = 0) (q1 : -10000 ≤ r1 ∧ r1 ≤ 10000) (u1 : m1 = true → r1 = 0) (q2 : -10000 ≤ r2 ∧ r2 ≤ 10000) (u2 : m2 = true → r2 = 0) (h : A.rd r 0 6 = some [.int .i64 r0, .bool m0, .int .i64 r1, .bool m1, .int .i64 r2, .bool m2]) : AC Tryd.prog 87 [.slice (some ⟨r, 0, none⟩) 3 3, .func (.func 88) #[] #[]] A (isR (.slice (some ⟨A.next, 0, none⟩) 3 3) (A.push (.cells [.int .i64 0, .int .i64 0, .int .i64 0] 48))) := by
  refine AC.gives1 (x := .cells [.int .i64 r0, .bool m0, .int .i64 r1, .bool m1, .int .i64 r2, .bool m2] 46) (b := r) (g := 0) (args := [.slice (some ⟨0, 0, none⟩) 3 3, .func (.func 88) #[] #[]]) ?_ ⟨64, rfl⟩ ⟨h, 64, rfl⟩ (.sl (g := 0) rfl rfl (.flat (k := 8) rfl .nil))
  refine AC.go Tryd.func87 rfl rfl ?_
  clear h
  repeat' (first
  | refine GT.unroll 4 ?_
  | refine GL.sf rfl rfl rfl rfl ?_
  | refine GL.nf rfl rfl rfl ?_
  | refine GL.done ?_
  | refine GP.thenN ?_
  | refine GT.seq ?_
  | refine GT.region ?_
  | refine GL.v rfl rfl rfl (by first | exact GO.callV rfl rfl rfl Tryd.func88 rfl rfl rfl (d_check88 _ _ q0 u0) | exact GO.callV rfl rfl rfl Tryd.func88 rfl rfl rfl (d_check88 _ _ q1 u1) | exact GO.callV rfl rfl rfl Tryd.func88 rfl rfl rfl (d_check88 _ _ q2 u2) | exact GO.add rfl rfl rfl (by omega)) ?_
  | refine GT.skip ?_
  | refine GT.block ?_
  | refine GT.ret ?_
  | refine GT.exit ?_
  | refine GP.thenE ?_
  | refine GP.inN ?_
  | refine GP.hit ?_
  | refine GP.againN ?_
  | refine GP.againE ?_
  | refine GU.step ?_
  | refine GT.condT rfl ?_
  | refine GT.condF rfl ?_
  | refine GP.endR1 rfl ?_)
  exact ⟨_, rfl, rfl, by decide⟩
theorem d_closure86_3 {A : AW} {r b p k : Nat} (r0 r1 r2 : Int) (m0 m1 m2 : Bool) (need sil : Int) (q0 : -10000 ≤ r0 ∧ r0 ≤ 10000) (u0 : m0 = true → r0 = 0) (q1 : -10000 ≤ r1 ∧ r1 ≤ 10000) (u1 : m1 = true → r1 = 0) (q2 : -10000 ≤ r2 ∧ r2 ≤ 10000) (u2 : m2 = true → r2 = 0) (h : A.rd r 0 6 = some [.int .i64 r0, .bool m0, .int .i64 r1, .bool m1, .int .i64 r2, .bool m2]) (hb : A.rd b 0 3 = some [.slice (some ⟨p, 0, none⟩) 3 k, .int .i64 need, .int .i64 sil]) (hp : A.rd p 0 0 = some []) :
    AC Tryd.prog 86 [.agg #[.slice (some ⟨r, 0, none⟩) 3 3, .int .i64 0], .pointer (some ⟨b, 0, none⟩)] A (isR (.int .i64 0) A) := by
  refine AC.isX (((SmallX.nil.cons (k := 0) (b := r) (f := 0) (o := .cells [.int .i64 r0, .bool m0, .int .i64 r1, .bool m1, .int .i64 r2, .bool m2] 46) (.flat (k := 64) h rfl)).cons (b := p) (f := 0) (o := .cells [] 128) (.flat (k := 8) hp rfl)).cons (b := b) (f := 0) (o := .cells [.slice (some ⟨1, 0, none⟩) 3 k, .int .i64 need, .int .i64 sil] 53) ⟨_, hb, .sl rfl rfl (.flat (k := 8) rfl (.flat (k := 8) rfl .nil))⟩)
    (args := [.agg #[.slice (some ⟨0, 0, none⟩) 3 3, .int .i64 0], .pointer (some ⟨2, 0, none⟩)]) ?_ ⟨8, rfl⟩ (.agg (.sl rfl rfl (.flat (k := 8) rfl .nil)) (.ptr rfl rfl .nil))
  refine AC.go Tryd.func86 rfl rfl ?_
  clear h hb hp
  repeat' (first
  | refine GT.draws (id := 1) [[], [0], [0, 1], [], [3], [3, 4], [0, 1, 2, 3, 4, 5], [0, 1, 2, 3, 4, 5, 6], [], [8], [0, 1, 2, 3, 4, 5, 6, 7, 8, 9], [0, 1, 2, 3, 4, 5, 6, 7, 8, 9, 10], [], [12], [12, 13], [0, 1, 2, 3, 4, 5, 6, 7, 8, 9, 10, 11, 12, 13, 14], [0, 1, 2, 3, 4, 5, 6, 7, 8, 9, 10, 11, 12, 13, 14, 15], [0, 1, 2, 3, 4, 5, 6, 7, 8, 9, 10, 11, 12, 13, 14, 15, 16], [0, 1, 2, 3, 4, 5, 6, 7, 8, 9, 10, 11, 12, 13, 14, 15, 16, 17], [0, 1, 2, 3, 4, 5, 6, 7, 8, 9, 10, 11, 12, 13, 14, 15, 16, 17, 18], [0, 1, 2, 3, 4, 5, 6, 7, 8, 9, 10, 11, 12, 13, 14, 15, 16, 17, 18, 19], [0, 1, 2, 3, 4, 5, 6, 7, 8, 9, 10, 11, 12, 13, 14, 15, 16, 17, 18, 19, 20], [0, 1, 2, 3, 4, 5, 6, 7, 8, 9, 10, 11, 12, 13, 14, 15, 16, 17, 18, 19, 20, 21], [0, 1, 2, 3, 4, 5, 6, 7, 8, 9, 10, 11, 12, 13, 14, 15, 16, 17, 18, 19, 20, 21, 22]] [10, 21] (by kernel_rfl) ?_
  | refine GL.sf rfl rfl rfl rfl ?_
  | refine GL.done ?_
  | refine GP.thenN ?_
  | refine GT.seq ?_
  | refine GT.region ?_
  | refine GD.li rfl rfl (by first | exact onAt.none rfl | exact onAt.yes rfl rfl rfl) rfl (by repeat first | exact AllG.nil rfl | refine AllG.cons rfl (by first | exact GO.sf rfl rfl | exact GO.sv rfl rfl | exact GO.call rfl rfl Tryd.func72 rfl rfl rfl (d_when72 _ _) | exact GO.call rfl rfl Tryd.func71 rfl rfl rfl (d_first71 [0, 0, 0] rfl rfl rfl)) ?_) ?_
  | refine GD.he rfl rfl rfl (by exact onAt.none rfl) rfl (by first | exact GO.sf rfl rfl | exact GO.push (GO.call rfl rfl Tryd.func87 rfl rfl rfl (d_mapped87_3 r0 r1 r2 m0 m1 m2 q0 u0 q1 u1 q2 u2 rfl))) ?_ ?_
  | refine GD.done rfl rfl rfl ?_
  | exact AllJs.nil rfl
  | refine GT.ret ?_
  | refine GP.endR1 rfl ?_)
  rfl
theorem d_mapped87_4 {A : AW} {r : Nat} (r0 r1 r2 r3 : Int) (m0 m1 m2 m3 : Bool) (q0 : -10000 ≤ r0 ∧ r0 ≤ 10000) (u0 : m0 = true → r0 = 0) (q1 : -10000 ≤ r1 ∧ r1 ≤ 10000) (u1 : m1 = true → r1 = 0) (q2 : -10000 ≤ r2 ∧ r2 ≤ 10000) (u2 : m2 = true → r2 = 0) (q3 : -10000 ≤ r3 ∧ r3 ≤ 10000) (u3 : m3 = true → r3 = 0) (h : A.rd r 0 8 = some [.int .i64 r0, .bool m0, .int .i64 r1, .bool m1, .int .i64 r2, .bool m2, .int .i64 r3, .bool m3]) : AC Tryd.prog 87 [.slice (some ⟨r, 0, none⟩) 4 4, .func (.func 88) #[] #[]] A (isR (.slice (some ⟨A.next, 0, none⟩) 4 4) (A.push (.cells [.int .i64 0, .int .i64 0, .int .i64 0, .int .i64 0] 48))) := by
  refine AC.gives1 (x := .cells [.int .i64 r0, .bool m0, .int .i64 r1, .bool m1, .int .i64 r2, .bool m2, .int .i64 r3, .bool m3] 46) (b := r) (g := 0) (args := [.slice (some ⟨0, 0, none⟩) 4 4, .func (.func 88) #[] #[]]) ?_ ⟨64, rfl⟩ ⟨h, 64, rfl⟩ (.sl (g := 0) rfl rfl (.flat (k := 8) rfl .nil))
  refine AC.go Tryd.func87 rfl rfl ?_
  clear h
  repeat' (first
  | refine GT.unroll 5 ?_
  | refine GL.sf rfl rfl rfl rfl ?_
  | refine GL.nf rfl rfl rfl ?_
  | refine GL.done ?_
  | refine GP.thenN ?_
  | refine GT.seq ?_
  | refine GT.region ?_
  | refine GL.v rfl rfl rfl (by first | exact GO.callV rfl rfl rfl Tryd.func88 rfl rfl rfl (d_check88 _ _ q0 u0) | exact GO.callV rfl rfl rfl Tryd.func88 rfl rfl rfl (d_check88 _ _ q1 u1) | exact GO.callV rfl rfl rfl Tryd.func88 rfl rfl rfl (d_check88 _ _ q2 u2) | exact GO.callV rfl rfl rfl Tryd.func88 rfl rfl rfl (d_check88 _ _ q3 u3) | exact GO.add rfl rfl rfl (by omega)) ?_
  | refine GT.skip ?_
  | refine GT.block ?_
  | refine GT.ret ?_
  | refine GT.exit ?_
  | refine GP.thenE ?_
  | refine GP.inN ?_
  | refine GP.hit ?_
  | refine GP.againN ?_
  | refine GP.againE ?_
  | refine GU.step ?_
  | refine GT.condT rfl ?_
  | refine GT.condF rfl ?_
  | refine GP.endR1 rfl ?_)
  exact ⟨_, rfl, rfl, by decide⟩
theorem d_closure86_4 {A : AW} {r b p k : Nat} (r0 r1 r2 r3 : Int) (m0 m1 m2 m3 : Bool) (need sil : Int) (q0 : -10000 ≤ r0 ∧ r0 ≤ 10000) (u0 : m0 = true → r0 = 0) (q1 : -10000 ≤ r1 ∧ r1 ≤ 10000) (u1 : m1 = true → r1 = 0) (q2 : -10000 ≤ r2 ∧ r2 ≤ 10000) (u2 : m2 = true → r2 = 0) (q3 : -10000 ≤ r3 ∧ r3 ≤ 10000) (u3 : m3 = true → r3 = 0) (h : A.rd r 0 8 = some [.int .i64 r0, .bool m0, .int .i64 r1, .bool m1, .int .i64 r2, .bool m2, .int .i64 r3, .bool m3]) (hb : A.rd b 0 3 = some [.slice (some ⟨p, 0, none⟩) 4 k, .int .i64 need, .int .i64 sil]) (hp : A.rd p 0 0 = some []) :
    AC Tryd.prog 86 [.agg #[.slice (some ⟨r, 0, none⟩) 4 4, .int .i64 0], .pointer (some ⟨b, 0, none⟩)] A (isR (.int .i64 0) A) := by
  refine AC.isX (((SmallX.nil.cons (k := 0) (b := r) (f := 0) (o := .cells [.int .i64 r0, .bool m0, .int .i64 r1, .bool m1, .int .i64 r2, .bool m2, .int .i64 r3, .bool m3] 46) (.flat (k := 64) h rfl)).cons (b := p) (f := 0) (o := .cells [] 128) (.flat (k := 8) hp rfl)).cons (b := b) (f := 0) (o := .cells [.slice (some ⟨1, 0, none⟩) 4 k, .int .i64 need, .int .i64 sil] 53) ⟨_, hb, .sl rfl rfl (.flat (k := 8) rfl (.flat (k := 8) rfl .nil))⟩)
    (args := [.agg #[.slice (some ⟨0, 0, none⟩) 4 4, .int .i64 0], .pointer (some ⟨2, 0, none⟩)]) ?_ ⟨8, rfl⟩ (.agg (.sl rfl rfl (.flat (k := 8) rfl .nil)) (.ptr rfl rfl .nil))
  refine AC.go Tryd.func86 rfl rfl ?_
  clear h hb hp
  repeat' (first
  | refine GT.draws (id := 1) [[], [0], [0, 1], [], [3], [3, 4], [0, 1, 2, 3, 4, 5], [0, 1, 2, 3, 4, 5, 6], [], [8], [0, 1, 2, 3, 4, 5, 6, 7, 8, 9], [0, 1, 2, 3, 4, 5, 6, 7, 8, 9, 10], [], [12], [12, 13], [0, 1, 2, 3, 4, 5, 6, 7, 8, 9, 10, 11, 12, 13, 14], [0, 1, 2, 3, 4, 5, 6, 7, 8, 9, 10, 11, 12, 13, 14, 15], [0, 1, 2, 3, 4, 5, 6, 7, 8, 9, 10, 11, 12, 13, 14, 15, 16], [0, 1, 2, 3, 4, 5, 6, 7, 8, 9, 10, 11, 12, 13, 14, 15, 16, 17], [0, 1, 2, 3, 4, 5, 6, 7, 8, 9, 10, 11, 12, 13, 14, 15, 16, 17, 18], [0, 1, 2, 3, 4, 5, 6, 7, 8, 9, 10, 11, 12, 13, 14, 15, 16, 17, 18, 19], [0, 1, 2, 3, 4, 5, 6, 7, 8, 9, 10, 11, 12, 13, 14, 15, 16, 17, 18, 19, 20], [0, 1, 2, 3, 4, 5, 6, 7, 8, 9, 10, 11, 12, 13, 14, 15, 16, 17, 18, 19, 20, 21], [0, 1, 2, 3, 4, 5, 6, 7, 8, 9, 10, 11, 12, 13, 14, 15, 16, 17, 18, 19, 20, 21, 22]] [10, 21] (by kernel_rfl) ?_
  | refine GL.sf rfl rfl rfl rfl ?_
  | refine GL.done ?_
  | refine GP.thenN ?_
  | refine GT.seq ?_
  | refine GT.region ?_
  | refine GD.li rfl rfl (by first | exact onAt.none rfl | exact onAt.yes rfl rfl rfl) rfl (by repeat first | exact AllG.nil rfl | refine AllG.cons rfl (by first | exact GO.sf rfl rfl | exact GO.sv rfl rfl | exact GO.call rfl rfl Tryd.func72 rfl rfl rfl (d_when72 _ _) | exact GO.call rfl rfl Tryd.func71 rfl rfl rfl (d_first71 [0, 0, 0, 0] rfl rfl rfl) | exact GO.call rfl rfl Tryd.func71 rfl rfl rfl (d_first71 [whenI (!decide ((4 : Int) = 4)) 2, firstNZ [0, 0, 0, 0], whenI (decide (3 < (0 : Int))) 13] rfl rfl rfl)) ?_) ?_
  | refine GD.he rfl rfl rfl (by exact onAt.none rfl) rfl (by first | exact GO.sf rfl rfl | exact GO.push (GO.call rfl rfl Tryd.func87 rfl rfl rfl (d_mapped87_4 r0 r1 r2 r3 m0 m1 m2 m3 q0 u0 q1 u1 q2 u2 q3 u3 rfl))) ?_ ?_
  | refine GD.done rfl rfl rfl ?_
  | exact AllJs.nil rfl
  | refine GT.ret ?_
  | refine GP.endR1 rfl ?_)
  rfl
theorem d_mapped87_5 {A : AW} {r : Nat} (r0 r1 r2 r3 r4 : Int) (m0 m1 m2 m3 m4 : Bool) (q0 : -10000 ≤ r0 ∧ r0 ≤ 10000) (u0 : m0 = true → r0 = 0) (q1 : -10000 ≤ r1 ∧ r1 ≤ 10000) (u1 : m1 = true → r1 = 0) (q2 : -10000 ≤ r2 ∧ r2 ≤ 10000) (u2 : m2 = true → r2 = 0) (q3 : -10000 ≤ r3 ∧ r3 ≤ 10000) (u3 : m3 = true → r3 = 0) (q4 : -10000 ≤ r4 ∧ r4 ≤ 10000) (u4 : m4 = true → r4 = 0) (h : A.rd r 0 10 = some [.int .i64 r0, .bool m0, .int .i64 r1, .bool m1, .int .i64 r2, .bool m2, .int .i64 r3, .bool m3, .int .i64 r4, .bool m4]) : AC Tryd.prog 87 [.slice (some ⟨r, 0, none⟩) 5 5, .func (.func 88) #[] #[]] A (isR (.slice (some ⟨A.next, 0, none⟩) 5 5) (A.push (.cells [.int .i64 0, .int .i64 0, .int .i64 0, .int .i64 0, .int .i64 0] 48))) := by
  refine AC.gives1 (x := .cells [.int .i64 r0, .bool m0, .int .i64 r1, .bool m1, .int .i64 r2, .bool m2, .int .i64 r3, .bool m3, .int .i64 r4, .bool m4] 46) (b := r) (g := 0) (args := [.slice (some ⟨0, 0, none⟩) 5 5, .func (.func 88) #[] #[]]) ?_ ⟨64, rfl⟩ ⟨h, 64, rfl⟩ (.sl (g := 0) rfl rfl (.flat (k := 8) rfl .nil))
  refine AC.go Tryd.func87 rfl rfl ?_
  clear h
  repeat' (first
  | refine GT.unroll 6 ?_
  | refine GL.sf rfl rfl rfl rfl ?_
  | refine GL.nf rfl rfl rfl ?_
  | refine GL.done ?_
  | refine GP.thenN ?_
  | refine GT.seq ?_
  | refine GT.region ?_
  | refine GL.v rfl rfl rfl (by first | exact GO.callV rfl rfl rfl Tryd.func88 rfl rfl rfl (d_check88 _ _ q0 u0) | exact GO.callV rfl rfl rfl Tryd.func88 rfl rfl rfl (d_check88 _ _ q1 u1) | exact GO.callV rfl rfl rfl Tryd.func88 rfl rfl rfl (d_check88 _ _ q2 u2) | exact GO.callV rfl rfl rfl Tryd.func88 rfl rfl rfl (d_check88 _ _ q3 u3) | exact GO.callV rfl rfl rfl Tryd.func88 rfl rfl rfl (d_check88 _ _ q4 u4) | exact GO.add rfl rfl rfl (by omega)) ?_
  | refine GT.skip ?_
  | refine GT.block ?_
  | refine GT.ret ?_
  | refine GT.exit ?_
  | refine GP.thenE ?_
  | refine GP.inN ?_
  | refine GP.hit ?_
  | refine GP.againN ?_
  | refine GP.againE ?_
  | refine GU.step ?_
  | refine GT.condT rfl ?_
  | refine GT.condF rfl ?_
  | refine GP.endR1 rfl ?_)
  exact ⟨_, rfl, rfl, by decide⟩
theorem d_closure86_5 {A : AW} {r b p k : Nat} (r0 r1 r2 r3 r4 : Int) (m0 m1 m2 m3 m4 : Bool) (need sil : Int) (q0 : -10000 ≤ r0 ∧ r0 ≤ 10000) (u0 : m0 = true → r0 = 0) (q1 : -10000 ≤ r1 ∧ r1 ≤ 10000) (u1 : m1 = true → r1 = 0) (q2 : -10000 ≤ r2 ∧ r2 ≤ 10000) (u2 : m2 = true → r2 = 0) (q3 : -10000 ≤ r3 ∧ r3 ≤ 10000) (u3 : m3 = true → r3 = 0) (q4 : -10000 ≤ r4 ∧ r4 ≤ 10000) (u4 : m4 = true → r4 = 0) (h : A.rd r 0 10 = some [.int .i64 r0, .bool m0, .int .i64 r1, .bool m1, .int .i64 r2, .bool m2, .int .i64 r3, .bool m3, .int .i64 r4, .bool m4]) (hb : A.rd b 0 3 = some [.slice (some ⟨p, 0, none⟩) 5 k, .int .i64 need, .int .i64 sil]) (hp : A.rd p 0 0 = some []) :
    AC Tryd.prog 86 [.agg #[.slice (some ⟨r, 0, none⟩) 5 5, .int .i64 0], .pointer (some ⟨b, 0, none⟩)] A (isR (.int .i64 0) A) := by
  refine AC.isX (((SmallX.nil.cons (k := 0) (b := r) (f := 0) (o := .cells [.int .i64 r0, .bool m0, .int .i64 r1, .bool m1, .int .i64 r2, .bool m2, .int .i64 r3, .bool m3, .int .i64 r4, .bool m4] 46) (.flat (k := 64) h rfl)).cons (b := p) (f := 0) (o := .cells [] 128) (.flat (k := 8) hp rfl)).cons (b := b) (f := 0) (o := .cells [.slice (some ⟨1, 0, none⟩) 5 k, .int .i64 need, .int .i64 sil] 53) ⟨_, hb, .sl rfl rfl (.flat (k := 8) rfl (.flat (k := 8) rfl .nil))⟩)
    (args := [.agg #[.slice (some ⟨0, 0, none⟩) 5 5, .int .i64 0], .pointer (some ⟨2, 0, none⟩)]) ?_ ⟨8, rfl⟩ (.agg (.sl rfl rfl (.flat (k := 8) rfl .nil)) (.ptr rfl rfl .nil))
  refine AC.go Tryd.func86 rfl rfl ?_
  clear h hb hp
  repeat' (first
  | refine GT.draws (id := 1) [[], [0], [0, 1], [], [3], [3, 4], [0, 1, 2, 3, 4, 5], [0, 1, 2, 3, 4, 5, 6], [], [8], [0, 1, 2, 3, 4, 5, 6, 7, 8, 9], [0, 1, 2, 3, 4, 5, 6, 7, 8, 9, 10], [], [12], [12, 13], [0, 1, 2, 3, 4, 5, 6, 7, 8, 9, 10, 11, 12, 13, 14], [0, 1, 2, 3, 4, 5, 6, 7, 8, 9, 10, 11, 12, 13, 14, 15], [0, 1, 2, 3, 4, 5, 6, 7, 8, 9, 10, 11, 12, 13, 14, 15, 16], [0, 1, 2, 3, 4, 5, 6, 7, 8, 9, 10, 11, 12, 13, 14, 15, 16, 17], [0, 1, 2, 3, 4, 5, 6, 7, 8, 9, 10, 11, 12, 13, 14, 15, 16, 17, 18], [0, 1, 2, 3, 4, 5, 6, 7, 8, 9, 10, 11, 12, 13, 14, 15, 16, 17, 18, 19], [0, 1, 2, 3, 4, 5, 6, 7, 8, 9, 10, 11, 12, 13, 14, 15, 16, 17, 18, 19, 20], [0, 1, 2, 3, 4, 5, 6, 7, 8, 9, 10, 11, 12, 13, 14, 15, 16, 17, 18, 19, 20, 21], [0, 1, 2, 3, 4, 5, 6, 7, 8, 9, 10, 11, 12, 13, 14, 15, 16, 17, 18, 19, 20, 21, 22]] [10, 21] (by kernel_rfl) ?_
  | refine GL.sf rfl rfl rfl rfl ?_
  | refine GL.done ?_
  | refine GP.thenN ?_
  | refine GT.seq ?_
  | refine GT.region ?_
  | refine GD.li rfl rfl (by first | exact onAt.none rfl | exact onAt.yes rfl rfl rfl) rfl (by repeat first | exact AllG.nil rfl | refine AllG.cons rfl (by first | exact GO.sf rfl rfl | exact GO.sv rfl rfl | exact GO.call rfl rfl Tryd.func72 rfl rfl rfl (d_when72 _ _) | exact GO.call rfl rfl Tryd.func71 rfl rfl rfl (d_first71 [0, 0, 0, 0, 0] rfl rfl rfl) | exact GO.call rfl rfl Tryd.func71 rfl rfl rfl (d_first71 [whenI (!decide ((5 : Int) = 5)) 2, firstNZ [0, 0, 0, 0, 0], whenI (decide (3 < (0 : Int))) 13] rfl rfl rfl)) ?_) ?_
  | refine GD.he rfl rfl rfl (by exact onAt.none rfl) rfl (by first | exact GO.sf rfl rfl | exact GO.push (GO.call rfl rfl Tryd.func87 rfl rfl rfl (d_mapped87_5 r0 r1 r2 r3 r4 m0 m1 m2 m3 m4 q0 u0 q1 u1 q2 u2 q3 u3 q4 u4 rfl))) ?_ ?_
  | refine GD.done rfl rfl rfl ?_
  | exact AllJs.nil rfl
  | refine GT.ret ?_
  | refine GP.endR1 rfl ?_)
  rfl
end Go.M
