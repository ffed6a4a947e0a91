/- Functions of the given program, walked (no condition beyond what each theorem says). -/
import Derived.Test.YtfhodefiknfccaaT3
import Derived.Test.YtfhodefiknfccaaM20
set_option linter.unusedVariables false
set_option linter.unusedSimpArgs false
namespace Go.M
open Go.Proofs
set_option maxRecDepth 8000
set_option maxHeartbeats 4000000
def distLo (s2 s3 call reply : Int) : Int := max 0 (halvedI (reply - call - s2 - s3 + 1))
def distHi (s2 s3 call reply : Int) : Int := halvedI (reply - call - s2 + s3)
theorem means16 {A : AW} (s1 s2 s3 s4 s5 s6 s7 s8 call reply : Int) (hs : StationOk s1 s2 s3 s4 s5 s6 s7 s8) (hc : 0 ≤ call ∧ call ≤ 100000000) (hr : 0 ≤ reply ∧ reply ≤ 100000000) :
    AC Try.prog 16 [.agg #[.int .i64 s1, .int .i64 s2, .int .i64 s3, .int .i64 s4, .int .i64 s5, .int .i64 s6, .int .i64 s7, .int .i64 s8], .int .i64 call, .int .i64 reply] A
      (isR (.tuple #[.agg #[.int .i64 (distLo s2 s3 call reply), .int .i64 (distHi s2 s3 call reply)], .bool (decide (distLo s2 s3 call reply ≤ distHi s2 s3 call reply))]) A) := by
  refine AC.is0 ?_ ⟨16, rfl⟩ (.flat (k := 32) rfl (.flat (k := 8) rfl (.flat (k := 8) rfl .nil)))
  refine AC.go Try.func16 rfl rfl ?_
  obtain ⟨h1, h2, h3, h4, h5, h6, h7, h8⟩ := hs
  repeat' (first
    | refine GL.sf rfl rfl rfl rfl ?_
    | refine GL.nf rfl rfl rfl ?_
    | refine GL.sv rfl rfl rfl rfl ?_
    | refine GL.sn rfl rfl rfl ?_
    | refine GL.done ?_
    | refine GP.thenN ?_
    | refine GT.seq ?_
    | refine GT.region ?_
    | refine GL.unguard rfl rfl ?_
    | refine GL.skip rfl rfl rfl rfl ?_
    | refine GL.skipU rfl rfl rfl rfl ?_
    | refine GL.v rfl rfl rfl (by first | exact GO.add rfl rfl rfl (by omega) | exact GO.sub rfl rfl rfl (by omega) | exact GO.mul rfl rfl rfl (by omega) | exact GO.rem rfl rfl rfl (by omega) (by omega) | exact GO.quo rfl rfl rfl (by omega) (by omega) | exact GO.neg rfl rfl (by omega) | exact GO.conv rfl rfl rfl rfl (i64_wrap (by omega) (by omega)) | exact GO.conv rfl rfl rfl rfl rfl) ?_
    | refine GT.skip ?_
    | refine GT.block ?_
    | refine GT.ret ?_
    | refine GT.exit ?_
    | refine GP.thenR ?_
    | refine GP.thenE ?_
    | refine GP.inN ?_
    | refine GP.inR ?_
    | refine GP.hit ?_
    | refine GP.miss rfl ?_
    | refine GP.againN ?_
    | refine GP.againR ?_
    | refine GP.againE ?_
    | refine GP.invR ?_
    | refine GP.invE ?_
    | refine GU.step ?_
    | refine GT.condT rfl ?_
    | refine GT.condF rfl ?_
    | (refine GT.condD rfl (fun h => ?_) (fun h => ?_) <;> try (exfalso; omega))
    | (refine GT.condN rfl (fun h => ?_) (fun h => ?_) <;> try (exfalso; omega))
    | (refine GT.condB rfl (fun h => ?_) (fun h => ?_))
    | (refine GL.forkD rfl rfl (fun h => ?_) (fun h => ?_) <;> try (exfalso; omega))
    | (refine GL.forkN rfl rfl (fun h => ?_) (fun h => ?_) <;> try (exfalso; omega))
    | (refine GL.forkB rfl rfl (fun h => ?_) (fun h => ?_))
    | refine GP.endR1 rfl ?_
    | refine GP.endR2 rfl ?_
    | refine GP.endN1 rfl ?_
    | refine GP.endR3 rfl ?_
    | refine GP.endN0 rfl ?_
    | refine GP.endR0 rfl ?_)
  refine GT.draws [[], [], [1], [0, 1, 2], [0, 1, 2, 3], [0, 1, 2, 3, 4], [0, 1, 2, 3, 4, 5], [], [], [8], [7, 8, 9], [0, 1, 2, 3, 4, 5, 7, 8, 9, 10], [0, 1, 2, 3, 4, 5, 6, 7, 8, 9, 10, 11], [], [0, 1, 2, 3, 4, 5, 6, 7, 8, 9, 10, 11, 12, 13]] [13, 14] (by kernel_rfl) ?_
  repeat' (first
    | refine GD.light rfl rfl (by first | exact onAt.none rfl | exact onAt.yes rfl rfl rfl) rfl (by first | exact AllMs.cons rfl (astepF_sound rfl) (.nil rfl) | exact AllMs.cons rfl (astep_sound rfl) (.nil rfl) | exact AllMs.cons rfl (astep_sound rfl) (.cons rfl (astep_sound rfl) (.nil rfl)) | exact AllMs.cons rfl (astep_sound rfl) (.cons rfl (astep_sound rfl) (.cons rfl (astep_sound rfl) (.nil rfl))) | exact AllMs.cons rfl (GO.call rfl rfl Try.func23 rfl rfl rfl (halved23 _ (by omega))).run (.nil rfl) | exact AllMs.cons rfl (GO.call rfl rfl Try.func23 rfl rfl rfl (halved23 _ (by omega))).run (.cons rfl (GO.call rfl rfl Try.func23 rfl rfl rfl (halved23 _ (by omega))).run (.nil rfl)) | exact AllMs.cons rfl (GO.add rfl rfl rfl (by omega)).run (.nil rfl) | exact AllMs.cons rfl (GO.add rfl rfl rfl (by omega)).run (.cons rfl (GO.add rfl rfl rfl (by omega)).run (.nil rfl)) | exact AllMs.cons rfl (GO.sub rfl rfl rfl (by omega)).run (.nil rfl) | exact AllMs.cons rfl (GO.sub rfl rfl rfl (by omega)).run (.cons rfl (GO.sub rfl rfl rfl (by omega)).run (.nil rfl)) | exact AllMs.cons rfl (GO.mul rfl rfl rfl (by omega)).run (.nil rfl) | exact AllMs.cons rfl (GO.mul rfl rfl rfl (by omega)).run (.cons rfl (GO.mul rfl rfl rfl (by omega)).run (.nil rfl)) | exact AllMs.cons rfl (GO.rem rfl rfl rfl (by omega) (by omega)).run (.nil rfl) | exact AllMs.cons rfl (GO.rem rfl rfl rfl (by omega) (by omega)).run (.cons rfl (GO.rem rfl rfl rfl (by omega) (by omega)).run (.nil rfl)) | exact AllMs.cons rfl (GO.quo rfl rfl rfl (by omega) (by omega)).run (.nil rfl) | exact AllMs.cons rfl (GO.quo rfl rfl rfl (by omega) (by omega)).run (.cons rfl (GO.quo rfl rfl rfl (by omega) (by omega)).run (.nil rfl)) | exact AllMs.cons rfl (GO.neg rfl rfl (by omega)).run (.nil rfl) | exact AllMs.cons rfl (GO.neg rfl rfl (by omega)).run (.cons rfl (GO.neg rfl rfl (by omega)).run (.nil rfl)) | exact AllMs.cons rfl (GO.conv rfl rfl rfl rfl (i64_wrap (by omega) (by omega))).run (.nil rfl) | exact AllMs.cons rfl (GO.conv rfl rfl rfl rfl (i64_wrap (by omega) (by omega))).run (.cons rfl (GO.conv rfl rfl rfl rfl (i64_wrap (by omega) (by omega))).run (.nil rfl)) | exact AllMs.cons rfl (GO.conv rfl rfl rfl rfl rfl).run (.nil rfl) | exact AllMs.cons rfl (GO.conv rfl rfl rfl rfl rfl).run (.cons rfl (GO.conv rfl rfl rfl rfl rfl).run (.nil rfl))) ?_
    | refine GD.off rfl rfl rfl rfl rfl (by first | exact .inl rfl | exact .inr rfl) rfl ?_
    | refine GD.heavy rfl rfl rfl (by first | exact onAt.none rfl | exact onAt.yes rfl rfl rfl) rfl (by first | exact astepF_sound rfl | exact astep_sound rfl | exact (GO.call rfl rfl Try.func23 rfl rfl rfl (halved23 _ (by omega))).run) (by repeat first | exact .nil rfl | refine .cons rfl (by first | exact again.one rfl rfl rfl (astep_sound rfl) | exact again.off rfl rfl rfl rfl (by first | exact .inl rfl | exact .inr rfl) rfl rfl | exact again.one rfl rfl rfl (GO.call rfl rfl Try.func23 rfl rfl rfl (halved23 _ (by omega))).run | exact again.one rfl rfl rfl (GO.add rfl rfl rfl (by omega)).run | exact again.one rfl rfl rfl (GO.sub rfl rfl rfl (by omega)).run | exact again.one rfl rfl rfl (GO.mul rfl rfl rfl (by omega)).run | exact again.one rfl rfl rfl (GO.rem rfl rfl rfl (by omega) (by omega)).run | exact again.one rfl rfl rfl (GO.quo rfl rfl rfl (by omega) (by omega)).run | exact again.one rfl rfl rfl (GO.neg rfl rfl (by omega)).run | exact again.one rfl rfl rfl (GO.conv rfl rfl rfl rfl (i64_wrap (by omega) (by omega))).run | exact again.one rfl rfl rfl (GO.conv rfl rfl rfl rfl rfl).run) ?_) ?_
    | refine GD.heavyF rfl rfl rfl (by first | exact onAt.none rfl | exact onAt.yes rfl rfl rfl) rfl rfl (by repeat first | exact .nil rfl | refine .cons rfl (by first | exact again.one rfl rfl rfl (astep_sound rfl) | exact again.off rfl rfl rfl rfl (by first | exact .inl rfl | exact .inr rfl) rfl rfl | exact again.one rfl rfl rfl (GO.call rfl rfl Try.func23 rfl rfl rfl (halved23 _ (by omega))).run | exact again.one rfl rfl rfl (GO.add rfl rfl rfl (by omega)).run | exact again.one rfl rfl rfl (GO.sub rfl rfl rfl (by omega)).run | exact again.one rfl rfl rfl (GO.mul rfl rfl rfl (by omega)).run | exact again.one rfl rfl rfl (GO.rem rfl rfl rfl (by omega) (by omega)).run | exact again.one rfl rfl rfl (GO.quo rfl rfl rfl (by omega) (by omega)).run | exact again.one rfl rfl rfl (GO.neg rfl rfl (by omega)).run | exact again.one rfl rfl rfl (GO.conv rfl rfl rfl rfl (i64_wrap (by omega) (by omega))).run | exact again.one rfl rfl rfl (GO.conv rfl rfl rfl rfl rfl).run) ?_) ?_
    | refine GD.heavyN rfl rfl rfl (by first | exact onAt.none rfl | exact onAt.yes rfl rfl rfl) rfl rfl (by repeat first | exact .nil rfl | refine .cons rfl (by first | exact again.one rfl rfl rfl (astep_sound rfl) | exact again.off rfl rfl rfl rfl (by first | exact .inl rfl | exact .inr rfl) rfl rfl | exact again.one rfl rfl rfl (GO.call rfl rfl Try.func23 rfl rfl rfl (halved23 _ (by omega))).run | exact again.one rfl rfl rfl (GO.add rfl rfl rfl (by omega)).run | exact again.one rfl rfl rfl (GO.sub rfl rfl rfl (by omega)).run | exact again.one rfl rfl rfl (GO.mul rfl rfl rfl (by omega)).run | exact again.one rfl rfl rfl (GO.rem rfl rfl rfl (by omega) (by omega)).run | exact again.one rfl rfl rfl (GO.quo rfl rfl rfl (by omega) (by omega)).run | exact again.one rfl rfl rfl (GO.neg rfl rfl (by omega)).run | exact again.one rfl rfl rfl (GO.conv rfl rfl rfl rfl (i64_wrap (by omega) (by omega))).run | exact again.one rfl rfl rfl (GO.conv rfl rfl rfl rfl rfl).run) ?_) ?_
    | refine GD.done rfl rfl rfl ?_
    | (refine GD.forkD rfl rfl rfl rfl (fun h => ?_) (fun h => ?_) <;> try (exfalso; omega))
    | (refine GD.forkN rfl rfl rfl rfl (fun h => ?_) (fun h => ?_) <;> try (exfalso; omega))
    | refine GD.forkB rfl rfl rfl rfl (fun h => ?_) (fun h => ?_))
  repeat' (first
    | refine GL.sf rfl rfl rfl rfl ?_
    | refine GL.nf rfl rfl rfl ?_
    | refine GL.sv rfl rfl rfl rfl ?_
    | refine GL.sn rfl rfl rfl ?_
    | refine GL.done ?_
    | refine GP.thenN ?_
    | refine GT.seq ?_
    | refine GT.region ?_
    | refine GL.unguard rfl rfl ?_
    | refine GL.skip rfl rfl rfl rfl ?_
    | refine GL.skipU rfl rfl rfl rfl ?_
    | refine GL.v rfl rfl rfl (by first | exact GO.add rfl rfl rfl (by omega) | exact GO.sub rfl rfl rfl (by omega) | exact GO.mul rfl rfl rfl (by omega) | exact GO.rem rfl rfl rfl (by omega) (by omega) | exact GO.quo rfl rfl rfl (by omega) (by omega) | exact GO.neg rfl rfl (by omega) | exact GO.conv rfl rfl rfl rfl (i64_wrap (by omega) (by omega)) | exact GO.conv rfl rfl rfl rfl rfl) ?_
    | refine GT.skip ?_
    | refine GT.block ?_
    | refine GT.ret ?_
    | refine GT.exit ?_
    | refine GP.thenR ?_
    | refine GP.thenE ?_
    | refine GP.inN ?_
    | refine GP.inR ?_
    | refine GP.hit ?_
    | refine GP.miss rfl ?_
    | refine GP.againN ?_
    | refine GP.againR ?_
    | refine GP.againE ?_
    | refine GP.invR ?_
    | refine GP.invE ?_
    | refine GU.step ?_
    | refine GT.condT rfl ?_
    | refine GT.condF rfl ?_
    | (refine GT.condD rfl (fun h => ?_) (fun h => ?_) <;> try (exfalso; omega))
    | (refine GT.condN rfl (fun h => ?_) (fun h => ?_) <;> try (exfalso; omega))
    | (refine GT.condB rfl (fun h => ?_) (fun h => ?_))
    | (refine GL.forkD rfl rfl (fun h => ?_) (fun h => ?_) <;> try (exfalso; omega))
    | (refine GL.forkN rfl rfl (fun h => ?_) (fun h => ?_) <;> try (exfalso; omega))
    | (refine GL.forkB rfl rfl (fun h => ?_) (fun h => ?_))
    | refine GP.endR1 rfl ?_
    | refine GP.endR2 rfl ?_
    | refine GP.endN1 rfl ?_
    | refine GP.endR3 rfl ?_
    | refine GP.endN0 rfl ?_
    | refine GP.endR0 rfl ?_)
  refine GT.draws [[], [], [1], [], [3], [1, 2, 3, 4], [0], [0, 1, 2, 3, 4, 5, 6]] [6] (by kernel_rfl) ?_
  repeat' (first
    | refine GD.light rfl rfl (by first | exact onAt.none rfl | exact onAt.yes rfl rfl rfl) rfl (by first | exact AllMs.cons rfl (astepF_sound rfl) (.nil rfl) | exact AllMs.cons rfl (astep_sound rfl) (.nil rfl) | exact AllMs.cons rfl (astep_sound rfl) (.cons rfl (astep_sound rfl) (.nil rfl)) | exact AllMs.cons rfl (astep_sound rfl) (.cons rfl (astep_sound rfl) (.cons rfl (astep_sound rfl) (.nil rfl))) | exact AllMs.cons rfl (GO.add rfl rfl rfl (by omega)).run (.nil rfl) | exact AllMs.cons rfl (GO.add rfl rfl rfl (by omega)).run (.cons rfl (GO.add rfl rfl rfl (by omega)).run (.nil rfl)) | exact AllMs.cons rfl (GO.sub rfl rfl rfl (by omega)).run (.nil rfl) | exact AllMs.cons rfl (GO.sub rfl rfl rfl (by omega)).run (.cons rfl (GO.sub rfl rfl rfl (by omega)).run (.nil rfl)) | exact AllMs.cons rfl (GO.mul rfl rfl rfl (by omega)).run (.nil rfl) | exact AllMs.cons rfl (GO.mul rfl rfl rfl (by omega)).run (.cons rfl (GO.mul rfl rfl rfl (by omega)).run (.nil rfl)) | exact AllMs.cons rfl (GO.rem rfl rfl rfl (by omega) (by omega)).run (.nil rfl) | exact AllMs.cons rfl (GO.rem rfl rfl rfl (by omega) (by omega)).run (.cons rfl (GO.rem rfl rfl rfl (by omega) (by omega)).run (.nil rfl)) | exact AllMs.cons rfl (GO.quo rfl rfl rfl (by omega) (by omega)).run (.nil rfl) | exact AllMs.cons rfl (GO.quo rfl rfl rfl (by omega) (by omega)).run (.cons rfl (GO.quo rfl rfl rfl (by omega) (by omega)).run (.nil rfl)) | exact AllMs.cons rfl (GO.neg rfl rfl (by omega)).run (.nil rfl) | exact AllMs.cons rfl (GO.neg rfl rfl (by omega)).run (.cons rfl (GO.neg rfl rfl (by omega)).run (.nil rfl)) | exact AllMs.cons rfl (GO.conv rfl rfl rfl rfl (i64_wrap (by omega) (by omega))).run (.nil rfl) | exact AllMs.cons rfl (GO.conv rfl rfl rfl rfl (i64_wrap (by omega) (by omega))).run (.cons rfl (GO.conv rfl rfl rfl rfl (i64_wrap (by omega) (by omega))).run (.nil rfl)) | exact AllMs.cons rfl (GO.conv rfl rfl rfl rfl rfl).run (.nil rfl) | exact AllMs.cons rfl (GO.conv rfl rfl rfl rfl rfl).run (.cons rfl (GO.conv rfl rfl rfl rfl rfl).run (.nil rfl))) ?_
    | refine GD.off rfl rfl rfl rfl rfl (by first | exact .inl rfl | exact .inr rfl) rfl ?_
    | refine GD.heavy rfl rfl rfl (by first | exact onAt.none rfl | exact onAt.yes rfl rfl rfl) rfl (by first | exact astepF_sound rfl | exact astep_sound rfl) (by repeat first | exact .nil rfl | refine .cons rfl (by first | exact again.one rfl rfl rfl (astep_sound rfl) | exact again.off rfl rfl rfl rfl (by first | exact .inl rfl | exact .inr rfl) rfl rfl | exact again.one rfl rfl rfl (GO.add rfl rfl rfl (by omega)).run | exact again.one rfl rfl rfl (GO.sub rfl rfl rfl (by omega)).run | exact again.one rfl rfl rfl (GO.mul rfl rfl rfl (by omega)).run | exact again.one rfl rfl rfl (GO.rem rfl rfl rfl (by omega) (by omega)).run | exact again.one rfl rfl rfl (GO.quo rfl rfl rfl (by omega) (by omega)).run | exact again.one rfl rfl rfl (GO.neg rfl rfl (by omega)).run | exact again.one rfl rfl rfl (GO.conv rfl rfl rfl rfl (i64_wrap (by omega) (by omega))).run | exact again.one rfl rfl rfl (GO.conv rfl rfl rfl rfl rfl).run) ?_) ?_
    | refine GD.heavyF rfl rfl rfl (by first | exact onAt.none rfl | exact onAt.yes rfl rfl rfl) rfl rfl (by repeat first | exact .nil rfl | refine .cons rfl (by first | exact again.one rfl rfl rfl (astep_sound rfl) | exact again.off rfl rfl rfl rfl (by first | exact .inl rfl | exact .inr rfl) rfl rfl | exact again.one rfl rfl rfl (GO.add rfl rfl rfl (by omega)).run | exact again.one rfl rfl rfl (GO.sub rfl rfl rfl (by omega)).run | exact again.one rfl rfl rfl (GO.mul rfl rfl rfl (by omega)).run | exact again.one rfl rfl rfl (GO.rem rfl rfl rfl (by omega) (by omega)).run | exact again.one rfl rfl rfl (GO.quo rfl rfl rfl (by omega) (by omega)).run | exact again.one rfl rfl rfl (GO.neg rfl rfl (by omega)).run | exact again.one rfl rfl rfl (GO.conv rfl rfl rfl rfl (i64_wrap (by omega) (by omega))).run | exact again.one rfl rfl rfl (GO.conv rfl rfl rfl rfl rfl).run) ?_) ?_
    | refine GD.heavyN rfl rfl rfl (by first | exact onAt.none rfl | exact onAt.yes rfl rfl rfl) rfl rfl (by repeat first | exact .nil rfl | refine .cons rfl (by first | exact again.one rfl rfl rfl (astep_sound rfl) | exact again.off rfl rfl rfl rfl (by first | exact .inl rfl | exact .inr rfl) rfl rfl | exact again.one rfl rfl rfl (GO.add rfl rfl rfl (by omega)).run | exact again.one rfl rfl rfl (GO.sub rfl rfl rfl (by omega)).run | exact again.one rfl rfl rfl (GO.mul rfl rfl rfl (by omega)).run | exact again.one rfl rfl rfl (GO.rem rfl rfl rfl (by omega) (by omega)).run | exact again.one rfl rfl rfl (GO.quo rfl rfl rfl (by omega) (by omega)).run | exact again.one rfl rfl rfl (GO.neg rfl rfl (by omega)).run | exact again.one rfl rfl rfl (GO.conv rfl rfl rfl rfl (i64_wrap (by omega) (by omega))).run | exact again.one rfl rfl rfl (GO.conv rfl rfl rfl rfl rfl).run) ?_) ?_
    | refine GD.done rfl rfl rfl ?_
    | (refine GD.forkD rfl rfl rfl rfl (fun h => ?_) (fun h => ?_) <;> try (exfalso; omega))
    | (refine GD.forkN rfl rfl rfl rfl (fun h => ?_) (fun h => ?_) <;> try (exfalso; omega))
    | refine GD.forkB rfl rfl rfl rfl (fun h => ?_) (fun h => ?_))
  repeat' (first
    | refine GL.sf rfl rfl rfl rfl ?_
    | refine GL.nf rfl rfl rfl ?_
    | refine GL.sv rfl rfl rfl rfl ?_
    | refine GL.sn rfl rfl rfl ?_
    | refine GL.done ?_
    | refine GP.thenN ?_
    | refine GT.seq ?_
    | refine GT.region ?_
    | refine GL.unguard rfl rfl ?_
    | refine GL.skip rfl rfl rfl rfl ?_
    | refine GL.skipU rfl rfl rfl rfl ?_
    | refine GL.v rfl rfl rfl (by first | exact GO.add rfl rfl rfl (by omega) | exact GO.sub rfl rfl rfl (by omega) | exact GO.mul rfl rfl rfl (by omega) | exact GO.rem rfl rfl rfl (by omega) (by omega) | exact GO.quo rfl rfl rfl (by omega) (by omega) | exact GO.neg rfl rfl (by omega) | exact GO.conv rfl rfl rfl rfl (i64_wrap (by omega) (by omega)) | exact GO.conv rfl rfl rfl rfl rfl) ?_
    | refine GT.skip ?_
    | refine GT.block ?_
    | refine GT.ret ?_
    | refine GT.exit ?_
    | refine GP.thenR ?_
    | refine GP.thenE ?_
    | refine GP.inN ?_
    | refine GP.inR ?_
    | refine GP.hit ?_
    | refine GP.miss rfl ?_
    | refine GP.againN ?_
    | refine GP.againR ?_
    | refine GP.againE ?_
    | refine GP.invR ?_
    | refine GP.invE ?_
    | refine GU.step ?_
    | refine GT.condT rfl ?_
    | refine GT.condF rfl ?_
    | (refine GT.condD rfl (fun h => ?_) (fun h => ?_) <;> try (exfalso; omega))
    | (refine GT.condN rfl (fun h => ?_) (fun h => ?_) <;> try (exfalso; omega))
    | (refine GT.condB rfl (fun h => ?_) (fun h => ?_))
    | (refine GL.forkD rfl rfl (fun h => ?_) (fun h => ?_) <;> try (exfalso; omega))
    | (refine GL.forkN rfl rfl (fun h => ?_) (fun h => ?_) <;> try (exfalso; omega))
    | (refine GL.forkB rfl rfl (fun h => ?_) (fun h => ?_))
    | refine GP.endR1 rfl ?_
    | refine GP.endR2 rfl ?_
    | refine GP.endN1 rfl ?_
    | refine GP.endR3 rfl ?_
    | refine GP.endN0 rfl ?_
    | refine GP.endR0 rfl ?_)
  rfl
theorem distance6 {A : AW} (s1 s2 s3 s4 s5 s6 s7 s8 call reply : Int) (hs : StationOk s1 s2 s3 s4 s5 s6 s7 s8) (hc : 0 ≤ call ∧ call ≤ 100000000) (hr : 0 ≤ reply ∧ reply ≤ 100000000) (hle : distLo s2 s3 call reply ≤ distHi s2 s3 call reply) :
    AC Try.prog 6 [.agg #[.int .i64 s1, .int .i64 s2, .int .i64 s3, .int .i64 s4, .int .i64 s5, .int .i64 s6, .int .i64 s7, .int .i64 s8], .int .i64 call, .int .i64 reply] A
      (isR (.tuple #[.agg #[.int .i64 (distLo s2 s3 call reply), .int .i64 (distHi s2 s3 call reply)], .int .i64 0]) A) := by
  have hz : firstNZ [firstNZ (stationNs s1 s2 s3 s4 s5 s6 s7 s8), whenI (withinB call 0 100000000) 3, whenI (withinB reply 0 100000000) 3] = 0 := by
    rw [station_zero hs, withinB_no hc, withinB_no hr]; rfl
  refine AC.is0 ?_ ⟨16, rfl⟩ (.flat (k := 32) rfl (.flat (k := 8) rfl (.flat (k := 8) rfl .nil)))
  refine AC.go Try.func6 rfl rfl ?_
  repeat' (first
    | exact absurd hz h
    | exact absurd hle h
    | refine GL.sf rfl rfl rfl rfl ?_
    | refine GL.nf rfl rfl rfl ?_
    | refine GL.sv rfl rfl rfl rfl ?_
    | refine GL.sn rfl rfl rfl ?_
    | refine GL.done ?_
    | refine GP.thenN ?_
    | refine GT.seq ?_
    | refine GT.region ?_
    | refine GL.unguard rfl rfl ?_
    | refine GL.skip rfl rfl rfl rfl ?_
    | refine GL.skipU rfl rfl rfl rfl ?_
    | refine GL.v rfl rfl rfl (by first | exact GO.call rfl rfl Try.func14 rfl rfl rfl (station14 _ _ _ _ _ _ _ _) | exact GO.call rfl rfl Try.func15 rfl rfl rfl (tick15 _) | exact GO.call rfl rfl Try.func13 rfl rfl rfl (first13 [firstNZ (stationNs s1 s2 s3 s4 s5 s6 s7 s8), whenI (withinB call 0 100000000) 3, whenI (withinB reply 0 100000000) 3] rfl rfl rfl) | exact GO.call rfl rfl Try.func16 rfl rfl rfl (means16 s1 s2 s3 s4 s5 s6 s7 s8 call reply hs hc hr) | exact GO.add rfl rfl rfl (by omega) | exact GO.sub rfl rfl rfl (by omega) | exact GO.mul rfl rfl rfl (by omega) | exact GO.rem rfl rfl rfl (by omega) (by omega) | exact GO.quo rfl rfl rfl (by omega) (by omega) | exact GO.neg rfl rfl (by omega) | exact GO.conv rfl rfl rfl rfl (i64_wrap (by omega) (by omega)) | exact GO.conv rfl rfl rfl rfl rfl) ?_
    | refine GT.skip ?_
    | refine GT.block ?_
    | refine GT.ret ?_
    | refine GT.exit ?_
    | refine GP.thenR ?_
    | refine GP.thenE ?_
    | refine GP.inN ?_
    | refine GP.inR ?_
    | refine GP.hit ?_
    | refine GP.miss rfl ?_
    | refine GP.againN ?_
    | refine GP.againR ?_
    | refine GP.againE ?_
    | refine GP.invR ?_
    | refine GP.invE ?_
    | refine GU.step ?_
    | refine GT.condT rfl ?_
    | refine GT.condF rfl ?_
    | (refine GT.condD rfl (fun h => ?_) (fun h => ?_) <;> try (exfalso; omega))
    | (refine GT.condN rfl (fun h => ?_) (fun h => ?_) <;> try (exfalso; omega))
    | (refine GT.condB rfl (fun h => ?_) (fun h => ?_))
    | (refine GL.forkD rfl rfl (fun h => ?_) (fun h => ?_) <;> try (exfalso; omega))
    | (refine GL.forkN rfl rfl (fun h => ?_) (fun h => ?_) <;> try (exfalso; omega))
    | (refine GL.forkB rfl rfl (fun h => ?_) (fun h => ?_))
    | refine GP.endR1 rfl ?_
    | refine GP.endR2 rfl ?_
    | refine GP.endN1 rfl ?_
    | refine GP.endR3 rfl ?_
    | refine GP.endN0 rfl ?_
    | refine GP.endR0 rfl ?_)

  rfl
theorem common30 {A : AW} (a b c d : Int) : AC Try.prog 30 [.agg #[.int .i64 a, .int .i64 b], .agg #[.int .i64 c, .int .i64 d]] A (isR (.agg #[.int .i64 (max a c), .int .i64 (min b d)]) A) := by
  refine AC.is0 ?_ ⟨16, rfl⟩ (.flat (k := 16) rfl (.flat (k := 16) rfl .nil))
  refine AC.go Try.func30 rfl rfl ?_
  repeat' (first
    | refine GL.sf rfl rfl rfl rfl ?_
    | refine GL.nf rfl rfl rfl ?_
    | refine GL.sv rfl rfl rfl rfl ?_
    | refine GL.sn rfl rfl rfl ?_
    | refine GL.done ?_
    | refine GP.thenN ?_
    | refine GT.seq ?_
    | refine GT.region ?_
    | refine GL.unguard rfl rfl ?_
    | refine GL.skip rfl rfl rfl rfl ?_
    | refine GL.skipU rfl rfl rfl rfl ?_
    | refine GL.v rfl rfl rfl (by first | exact GO.add rfl rfl rfl (by omega) | exact GO.sub rfl rfl rfl (by omega) | exact GO.mul rfl rfl rfl (by omega) | exact GO.rem rfl rfl rfl (by omega) (by omega) | exact GO.quo rfl rfl rfl (by omega) (by omega) | exact GO.neg rfl rfl (by omega) | exact GO.conv rfl rfl rfl rfl (i64_wrap (by omega) (by omega)) | exact GO.conv rfl rfl rfl rfl rfl) ?_
    | refine GT.skip ?_
    | refine GT.block ?_
    | refine GT.ret ?_
    | refine GT.exit ?_
    | refine GP.thenR ?_
    | refine GP.thenE ?_
    | refine GP.inN ?_
    | refine GP.inR ?_
    | refine GP.hit ?_
    | refine GP.miss rfl ?_
    | refine GP.againN ?_
    | refine GP.againR ?_
    | refine GP.againE ?_
    | refine GP.invR ?_
    | refine GP.invE ?_
    | refine GU.step ?_
    | refine GT.condT rfl ?_
    | refine GT.condF rfl ?_
    | (refine GT.condD rfl (fun h => ?_) (fun h => ?_) <;> try (exfalso; omega))
    | (refine GT.condN rfl (fun h => ?_) (fun h => ?_) <;> try (exfalso; omega))
    | (refine GT.condB rfl (fun h => ?_) (fun h => ?_))
    | (refine GL.forkD rfl rfl (fun h => ?_) (fun h => ?_) <;> try (exfalso; omega))
    | (refine GL.forkN rfl rfl (fun h => ?_) (fun h => ?_) <;> try (exfalso; omega))
    | (refine GL.forkB rfl rfl (fun h => ?_) (fun h => ?_))
    | refine GP.endR1 rfl ?_
    | refine GP.endR2 rfl ?_
    | refine GP.endN1 rfl ?_
    | refine GP.endR3 rfl ?_
    | refine GP.endN0 rfl ?_
    | refine GP.endR0 rfl ?_)
  rfl
theorem fix7 {A : AW} (s : ByteArray) (a b : Int) : AC Try.prog 7 [.string s, .agg #[.int .i64 a, .int .i64 b]] A (isR (.agg #[.string s, .int .i64 a, .int .i64 b, .int .i64 (-5), .int .i64 5, .int .i64 0, .int .i64 9]) A) := by
  refine AC.is0 ?_ ⟨16, rfl⟩ (.flat (k := 16) rfl (.flat (k := 16) rfl .nil))
  refine AC.go Try.func7 rfl rfl ?_
  repeat' (first
    | refine GL.sf rfl rfl rfl rfl ?_
    | refine GL.nf rfl rfl rfl ?_
    | refine GL.sv rfl rfl rfl rfl ?_
    | refine GL.sn rfl rfl rfl ?_
    | refine GL.done ?_
    | refine GP.thenN ?_
    | refine GT.seq ?_
    | refine GT.region ?_
    | refine GL.unguard rfl rfl ?_
    | refine GL.skip rfl rfl rfl rfl ?_
    | refine GL.skipU rfl rfl rfl rfl ?_
    | refine GL.v rfl rfl rfl (by first | exact GO.add rfl rfl rfl (by omega) | exact GO.sub rfl rfl rfl (by omega) | exact GO.mul rfl rfl rfl (by omega) | exact GO.rem rfl rfl rfl (by omega) (by omega) | exact GO.quo rfl rfl rfl (by omega) (by omega) | exact GO.neg rfl rfl (by omega) | exact GO.conv rfl rfl rfl rfl (i64_wrap (by omega) (by omega)) | exact GO.conv rfl rfl rfl rfl rfl) ?_
    | refine GT.skip ?_
    | refine GT.block ?_
    | refine GT.ret ?_
    | refine GT.exit ?_
    | refine GP.thenR ?_
    | refine GP.thenE ?_
    | refine GP.inN ?_
    | refine GP.inR ?_
    | refine GP.hit ?_
    | refine GP.miss rfl ?_
    | refine GP.againN ?_
    | refine GP.againR ?_
    | refine GP.againE ?_
    | refine GP.invR ?_
    | refine GP.invE ?_
    | refine GU.step ?_
    | refine GT.condT rfl ?_
    | refine GT.condF rfl ?_
    | (refine GT.condD rfl (fun h => ?_) (fun h => ?_) <;> try (exfalso; omega))
    | (refine GT.condN rfl (fun h => ?_) (fun h => ?_) <;> try (exfalso; omega))
    | (refine GT.condB rfl (fun h => ?_) (fun h => ?_))
    | (refine GL.forkD rfl rfl (fun h => ?_) (fun h => ?_) <;> try (exfalso; omega))
    | (refine GL.forkN rfl rfl (fun h => ?_) (fun h => ?_) <;> try (exfalso; omega))
    | (refine GL.forkB rfl rfl (fun h => ?_) (fun h => ?_))
    | refine GP.endR1 rfl ?_
    | refine GP.endR2 rfl ?_
    | refine GP.endN1 rfl ?_
    | refine GP.endR3 rfl ?_
    | refine GP.endN0 rfl ?_
    | refine GP.endR0 rfl ?_)
  rfl
end Go.M
