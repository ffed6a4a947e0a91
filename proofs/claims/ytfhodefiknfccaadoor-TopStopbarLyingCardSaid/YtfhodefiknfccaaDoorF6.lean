/- Functions of the given program, walked (no condition beyond what each theorem says). -/
import Derived.Test.YtfhodefiknfccaaDoorE7
set_option linter.unusedVariables false
set_option linter.unusedSimpArgs false
namespace Go.M
open Go.Proofs Go.RowKit
set_option maxRecDepth 16000
set_option maxHeartbeats 16000000
theorem d_law3_zero {b : Option Addr} {c : Nat} (need sil : Int) (x : Fault) :
    AC Tryd.prog 3 [.agg #[.slice b 0 c, .int .i64 need, .int .i64 sil], x.val] (AW.of [(2, .cells [] 0), (1, .cells stepsV 242), (0, .cells [.int .i64 0, .int .i64 0] 31)] 4 4 3) (fun v _ => v = .bool true) := by
  refine AC.go Tryd.func3 rfl rfl ?_
  repeat' (first
  | refine GL.v rfl rfl rfl (GO.call rfl rfl Tryd.func6 rfl rfl rfl (AC.go Tryd.func6 rfl rfl (by repeat' (first | exact ⟨rfl, rfl⟩ | refine GL.v rfl rfl rfl (GO.call rfl rfl Tryd.func35 rfl rfl rfl (AC.go Tryd.func35 rfl rfl (by repeat' (first | exact ⟨rfl, rfl⟩ | refine GL.sf rfl rfl rfl rfl ?_ | refine GL.sv rfl rfl rfl rfl ?_ | refine GL.done ?_ | refine GP.thenN ?_ | refine GT.seq ?_ | refine GT.region ?_ | refine GL.v rfl rfl rfl (by first | exact GO.call rfl rfl Tryd.func55 rfl rfl rfl (d_when55 _ _) | exact GO.call rfl rfl Tryd.func53 rfl rfl rfl (d_first53 [12, 0] rfl rfl rfl)) ?_ | refine GT.ret ?_ | refine GP.thenR ?_ | refine GT.condT rfl ?_ | refine GP.endR1 rfl ?_)))) ?_ | refine GL.v rfl rfl rfl (GO.call rfl rfl Tryd.func34 rfl rfl rfl (AC.go Tryd.func34 rfl rfl (by repeat' (first | exact ⟨rfl, rfl⟩ | refine GT.unroll 1 ?_ | refine GL.sf rfl rfl rfl rfl ?_ | refine GL.sv rfl rfl rfl rfl ?_ | refine GL.done ?_ | refine GP.thenN ?_ | refine GT.seq ?_ | refine GT.region ?_ | refine GL.skipG rfl rfl rfl rfl rfl ?_ | refine GT.block ?_ | refine GT.ret ?_ | refine GT.exit ?_ | refine GP.thenE ?_ | refine GP.hit ?_ | refine GP.againE ?_ | refine GU.step ?_ | refine GT.condF rfl ?_ | refine GP.endR1 rfl ?_)))) ?_ | refine GL.sf rfl rfl rfl rfl ?_ | refine GL.done ?_ | refine GP.thenN ?_ | refine GT.seq ?_ | refine GT.region ?_ | refine GL.unguardG rfl rfl rfl ?_ | refine GL.skipG rfl rfl rfl rfl rfl ?_ | refine GT.ret ?_ | refine GP.thenR ?_ | refine GT.condT rfl ?_ | refine GP.endR1 rfl ?_)))) ?_
  | exact rfl
  | refine GL.sf rfl rfl rfl rfl ?_
  | refine GL.done ?_
  | refine GP.thenN ?_
  | refine GT.seq ?_
  | refine GT.region ?_
  | refine GL.skipG rfl rfl rfl rfl rfl ?_
  | refine GL.v rfl rfl rfl (by exact GO.call rfl rfl Tryd.func7 rfl rfl rfl (d_off7 ⟨rfl, rfl, rfl, _, _, rfl⟩)) ?_
  | refine GT.ret ?_
  | refine GP.thenR ?_
  | refine GT.condT rfl ?_
  | refine GP.endR1 rfl ?_)
end Go.M
