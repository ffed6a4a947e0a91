/- Functions of the given program, walked (no condition beyond what each theorem says). -/
import Derived.Test.YtfhodefiknfccaaDoorE7
import Derived.Test.YtfhodefiknfccaaDoorF1
import Derived.Test.YtfhodefiknfccaaDoorF2
import Derived.Test.YtfhodefiknfccaaDoorF3
import Derived.Test.YtfhodefiknfccaaDoorF4
import Derived.Test.YtfhodefiknfccaaDoorF5
set_option linter.unusedVariables false
set_option linter.unusedSimpArgs false
namespace Go.M
open Go.Proofs Go.RowKit
set_option maxRecDepth 16000
set_option maxHeartbeats 16000000
theorem d_law3_bad {c : Nat} (l : List Sen) (need sil : Int) (x : Fault) (hl : l.length ≤ 9223372036854775807) (hbad : Ready l need sil x → x.u.natAbs ≤ 30 → x.v.natAbs ≤ 30 → ¬(x.u = 0 ∧ x.v = 0) → False) :
    AC Tryd.prog 3 [.agg #[.slice (some ⟨3, 0, none⟩) l.length c, .int .i64 need, .int .i64 sil], x.val] (AW.of [(3, .cells (senC l) 43), (2, .cells [] 0), (1, .cells stepsV 242), (0, .cells [.int .i64 0, .int .i64 0] 31)] 4 4 3) (fun v _ => v = .bool true) := by
  refine AC.go Tryd.func3 rfl rfl ?_
  repeat' (first
  | exact rfl
  | (refine GL.any rfl rfl rfl (GO.call rfl rfl Tryd.func6 rfl rfl rfl (d_ready6 l need sil x hl (rd_self rfl))) ?_; rintro v A1 ⟨⟨b, rfl, hbR⟩, rfl⟩; refine ⟨_, _, rfl, ?_⟩)
  | refine GL.sf rfl rfl rfl rfl ?_
  | refine GL.done ?_
  | refine GP.thenN ?_
  | refine GT.seq ?_
  | refine GT.region ?_
  | refine GL.unguardG rfl rfl rfl ?_
  | refine GL.skipG rfl rfl rfl rfl rfl ?_
  | refine GL.v rfl rfl rfl (by first | exact GO.eq rfl rfl rfl rfl rfl Tryd.eqGuardType31 (d_aeq31 _ _ _ _) rfl | exact GO.call rfl rfl Tryd.func7 rfl rfl rfl (d_off7 ⟨rfl, rfl, rfl, _, _, rfl⟩)) ?_
  | refine GT.skip ?_
  | refine GT.ret ?_
  | refine GP.thenR ?_
  | refine GT.condT rfl ?_
  | (refine GT.condD rfl (fun h => ?_) (fun h => ?_) <;> try (exfalso; omega))
  | (refine GL.forkDG rfl rfl rfl (fun h => ?_) (fun h => ?_) <;> try (exfalso; omega))
  | (refine GL.forkBG rfl rfl rfl (fun h => ?_) (fun h => ?_))
  | refine GP.endR1 rfl ?_)
  have hb1 : b = true := by
    cases b with
    | true => rfl
    | false => exact absurd ‹(!false) = false› (by decide)
  exact (hbad (hbR hb1) (by omega) (by omega) (by assumption)).elim
end Go.M
namespace Go.M
open Go.Proofs Go.RowKit
set_option maxRecDepth 16000
set_option maxHeartbeats 4000000
theorem d_law3 {c : Nat} (l : List Sen) (need sil : Int) (x : Fault) (hl : l.length ≤ 9223372036854775807) (hw : 0 ≤ x.which ∧ x.which ≤ 255) (hb : 0 ≤ x.before ∧ x.before ≤ 255) :
    AC Tryd.prog 3 [.agg #[.slice (some ⟨3, 0, none⟩) l.length c, .int .i64 need, .int .i64 sil], x.val] (AW.of [(3, .cells (senC l) 43), (2, .cells [] 0), (1, .cells stepsV 242), (0, .cells [.int .i64 0, .int .i64 0] 31)] 4 4 3) (fun v _ => v = .bool true) := by
  by_cases hR : Ready l need sil x ∧ x.u.natAbs ≤ 30 ∧ x.v.natAbs ≤ 30 ∧ ¬(x.u = 0 ∧ x.v = 0)
  · obtain ⟨hR, hu, hv, h0⟩ := hR
    have h5 := hR.five
    have hp := hR.pl.1
    match l, hR, h5, hp with
    | [⟨s0, k0, lo0, hi0, d0⟩], hR, _, _ => exact d_law3_1 s0 k0 lo0 hi0 d0 need sil x hw hb hR hu hv h0
    | [⟨s0, k0, lo0, hi0, d0⟩, ⟨s1, k1, lo1, hi1, d1⟩], hR, _, _ => exact d_law3_2 s0 k0 s1 k1 lo0 hi0 d0 lo1 hi1 d1 need sil x hw hb hR hu hv h0
    | [⟨s0, k0, lo0, hi0, d0⟩, ⟨s1, k1, lo1, hi1, d1⟩, ⟨s2, k2, lo2, hi2, d2⟩], hR, _, _ => exact d_law3_3 s0 k0 s1 k1 s2 k2 lo0 hi0 d0 lo1 hi1 d1 lo2 hi2 d2 need sil x hw hb hR hu hv h0
    | [⟨s0, k0, lo0, hi0, d0⟩, ⟨s1, k1, lo1, hi1, d1⟩, ⟨s2, k2, lo2, hi2, d2⟩, ⟨s3, k3, lo3, hi3, d3⟩], hR, _, _ => exact d_law3_4 s0 k0 s1 k1 s2 k2 s3 k3 lo0 hi0 d0 lo1 hi1 d1 lo2 hi2 d2 lo3 hi3 d3 need sil x hw hb hR hu hv h0
    | [⟨s0, k0, lo0, hi0, d0⟩, ⟨s1, k1, lo1, hi1, d1⟩, ⟨s2, k2, lo2, hi2, d2⟩, ⟨s3, k3, lo3, hi3, d3⟩, ⟨s4, k4, lo4, hi4, d4⟩], hR, _, _ => exact d_law3_5 s0 k0 s1 k1 s2 k2 s3 k3 s4 k4 lo0 hi0 d0 lo1 hi1 d1 lo2 hi2 d2 lo3 hi3 d3 lo4 hi4 d4 need sil x hw hb hR hu hv h0
  · exact d_law3_bad l need sil x hl fun h1 h2 h3 h4 => hR ⟨h1, h2, h3, h4⟩
end Go.M
