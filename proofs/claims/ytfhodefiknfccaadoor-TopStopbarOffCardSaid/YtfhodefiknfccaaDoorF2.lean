/- Functions of the given program, walked (no condition beyond what each theorem says). -/
import Derived.Test.YtfhodefiknfccaaDoorE6
import Derived.Test.YtfhodefiknfccaaDoorE3
import Derived.Test.YtfhodefiknfccaaDoorF1
set_option linter.unusedVariables false
set_option linter.unusedSimpArgs false
namespace Go.M
open Go.Proofs Go.RowKit
set_option maxRecDepth 16000
set_option maxHeartbeats 16000000
theorem d_law5_bad {c : Nat} (l : List Sen) (need sil : Int) (x : Fault) (hl : l.length ≤ 9223372036854775807) (hbad : Ready l need sil x → False) :
    AC Tryd.prog 5 [.agg #[.slice (some ⟨3, 0, none⟩) l.length c, .int .i64 need, .int .i64 sil], x.val] (AW.of [(3, .cells (senC l) 43), (2, .cells [] 0), (1, .cells stepsV 242), (0, .cells [.int .i64 0, .int .i64 0] 31)] 4 4 3) (fun v _ => v = .bool true) := by
  refine AC.go Tryd.func5 rfl rfl ?_
  repeat' (first
  | exact rfl
  | (refine GL.any rfl rfl rfl (GO.call rfl rfl Tryd.func6 rfl rfl rfl (d_ready6 l need sil x hl (rd_self rfl))) ?_; rintro v A1 ⟨⟨b, rfl, hbR⟩, rfl⟩; refine ⟨_, _, rfl, ?_⟩)
  | refine GL.sf rfl rfl rfl rfl ?_
  | refine GL.done ?_
  | refine GP.thenN ?_
  | refine GT.seq ?_
  | refine GT.region ?_
  | refine GL.v rfl rfl rfl (by exact GO.call rfl rfl Tryd.func7 rfl rfl rfl (d_off7 ⟨rfl, rfl, rfl, _, _, rfl⟩)) ?_
  | refine GT.skip ?_
  | refine GT.ret ?_
  | refine GP.thenR ?_
  | (refine GT.condB rfl (fun h => ?_) (fun h => ?_))
  | refine GP.endR1 rfl ?_)
  have hb1 : b = true := by
    cases b with
    | true => rfl
    | false => exact absurd ‹(!false) = false› (by decide)
  exact (hbad (hbR hb1)).elim
theorem d_law5_zero {b : Option Addr} {c : Nat} (need sil : Int) (x : Fault) :
    AC Tryd.prog 5 [.agg #[.slice b 0 c, .int .i64 need, .int .i64 sil], x.val] (AW.of [(2, .cells [] 0), (1, .cells stepsV 242), (0, .cells [.int .i64 0, .int .i64 0] 31)] 4 4 3) (fun v _ => v = .bool true) := by
  refine AC.go Tryd.func5 rfl rfl ?_
  repeat' (first
  | refine GL.v rfl rfl rfl (GO.call rfl rfl Tryd.func6 rfl rfl rfl (AC.go Tryd.func6 rfl rfl (by repeat' (first | exact ⟨rfl, rfl⟩ | refine GL.v rfl rfl rfl (GO.call rfl rfl Tryd.func35 rfl rfl rfl (AC.go Tryd.func35 rfl rfl (by repeat' (first | exact ⟨rfl, rfl⟩ | refine GL.sf rfl rfl rfl rfl ?_ | refine GL.sv rfl rfl rfl rfl ?_ | refine GL.done ?_ | refine GP.thenN ?_ | refine GT.seq ?_ | refine GT.region ?_ | refine GL.v rfl rfl rfl (by first | exact GO.call rfl rfl Tryd.func55 rfl rfl rfl (d_when55 _ _) | exact GO.call rfl rfl Tryd.func53 rfl rfl rfl (d_first53 [12, 0] rfl rfl rfl)) ?_ | refine GT.ret ?_ | refine GP.thenR ?_ | refine GT.condT rfl ?_ | refine GP.endR1 rfl ?_)))) ?_ | refine GL.v rfl rfl rfl (GO.call rfl rfl Tryd.func34 rfl rfl rfl (AC.go Tryd.func34 rfl rfl (by repeat' (first | exact ⟨rfl, rfl⟩ | refine GT.unroll 1 ?_ | refine GL.sf rfl rfl rfl rfl ?_ | refine GL.sv rfl rfl rfl rfl ?_ | refine GL.done ?_ | refine GP.thenN ?_ | refine GT.seq ?_ | refine GT.region ?_ | refine GL.skipG rfl rfl rfl rfl rfl ?_ | refine GT.block ?_ | refine GT.ret ?_ | refine GT.exit ?_ | refine GP.thenE ?_ | refine GP.hit ?_ | refine GP.againE ?_ | refine GU.step ?_ | refine GT.condF rfl ?_ | refine GP.endR1 rfl ?_)))) ?_ | refine GL.sf rfl rfl rfl rfl ?_ | refine GL.done ?_ | refine GP.thenN ?_ | refine GT.seq ?_ | refine GT.region ?_ | refine GL.unguardG rfl rfl rfl ?_ | refine GL.skipG rfl rfl rfl rfl rfl ?_ | refine GT.ret ?_ | refine GP.thenR ?_ | refine GT.condT rfl ?_ | refine GP.endR1 rfl ?_)))) ?_
  | exact rfl
  | refine GL.sf rfl rfl rfl rfl ?_
  | refine GL.done ?_
  | refine GP.thenN ?_
  | refine GT.seq ?_
  | refine GT.region ?_
  | refine GL.v rfl rfl rfl (by exact GO.call rfl rfl Tryd.func7 rfl rfl rfl (d_off7 ⟨rfl, rfl, rfl, _, _, rfl⟩)) ?_
  | refine GT.ret ?_
  | refine GP.thenR ?_
  | refine GT.condT rfl ?_
  | refine GP.endR1 rfl ?_)
end Go.M
namespace Go.M
open Go.Proofs Go.RowKit
set_option maxRecDepth 16000
set_option maxHeartbeats 4000000
theorem d_law5 {c : Nat} (l : List Sen) (need sil : Int) (x : Fault) (hl : l.length ≤ 9223372036854775807) (hb : 0 ≤ x.before ∧ x.before ≤ 255) :
    AC Tryd.prog 5 [.agg #[.slice (some ⟨3, 0, none⟩) l.length c, .int .i64 need, .int .i64 sil], x.val] (AW.of [(3, .cells (senC l) 43), (2, .cells [] 0), (1, .cells stepsV 242), (0, .cells [.int .i64 0, .int .i64 0] 31)] 4 4 3) (fun v _ => v = .bool true) := by
  by_cases hR : Ready l need sil x
  · exact d_law5G l need sil x hb hR
  · exact d_law5_bad l need sil x hl hR
end Go.M
