/- Functions of the given program, walked (no condition beyond what each theorem says). -/
import Derived.Test.YtfhodefiknfccaaT6
set_option linter.unusedVariables false
set_option linter.unusedSimpArgs false
namespace Go.M
open Go.Proofs
set_option maxRecDepth 8000
set_option maxHeartbeats 4000000
theorem name_a {A : AW} {b : Nat} (h : A.objs b = some (.map [] 0)) : AC Try.prog 29 [.string ⟨#[115, 48]⟩, .map (some b)] A (isR (.int .i64 0) A) := by
  refine AC.is1 (o := .map [] 0) (args := [.string ⟨#[115, 48]⟩, .map (some 0)]) ?_ ⟨8, rfl⟩ (b := b) (g := 0) ⟨h, 8, rfl⟩ (.flat (k := 8) rfl (.map rfl .nil))
  refine AC.go Try.func29 rfl rfl ?_
  repeat' (first
    | refine GL.sf rfl rfl rfl rfl ?_
    | refine GL.nf rfl rfl rfl ?_
    | refine GL.sv rfl rfl rfl rfl ?_
    | refine GL.sn rfl rfl rfl ?_
    | refine GL.done ?_
    | refine GP.thenN ?_
    | refine GT.seq ?_
    | refine GT.region ?_
    | refine GL.unguard rfl rfl ?_
    | refine GL.skip rfl rfl rfl rfl ?_
    | refine GL.skipU rfl rfl rfl rfl ?_
    | refine GL.v rfl rfl rfl (by first | exact GO.add rfl rfl rfl (by omega) | exact GO.sub rfl rfl rfl (by omega) | exact GO.mul rfl rfl rfl (by omega) | exact GO.rem rfl rfl rfl (by omega) (by omega) | exact GO.quo rfl rfl rfl (by omega) (by omega) | exact GO.neg rfl rfl (by omega) | exact GO.conv rfl rfl rfl rfl (i64_wrap (by omega) (by omega)) | exact GO.conv rfl rfl rfl rfl rfl) ?_
    | refine GT.skip ?_
    | refine GT.block ?_
    | refine GT.ret ?_
    | refine GT.exit ?_
    | refine GP.thenR ?_
    | refine GP.thenE ?_
    | refine GP.inN ?_
    | refine GP.inR ?_
    | refine GP.hit ?_
    | refine GP.miss rfl ?_
    | refine GP.againN ?_
    | refine GP.againR ?_
    | refine GP.againE ?_
    | refine GP.invR ?_
    | refine GP.invE ?_
    | refine GU.step ?_
    | refine GT.condT rfl ?_
    | refine GT.condF rfl ?_
    | (refine GT.condD rfl (fun h => ?_) (fun h => ?_) <;> try (exfalso; omega))
    | (refine GT.condN rfl (fun h => ?_) (fun h => ?_) <;> try (exfalso; omega))
    | (refine GT.condB rfl (fun h => ?_) (fun h => ?_))
    | (refine GL.forkD rfl rfl (fun h => ?_) (fun h => ?_) <;> try (exfalso; omega))
    | (refine GL.forkN rfl rfl (fun h => ?_) (fun h => ?_) <;> try (exfalso; omega))
    | (refine GL.forkB rfl rfl (fun h => ?_) (fun h => ?_))
    | refine GP.endR1 rfl ?_
    | refine GP.endR2 rfl ?_
    | refine GP.endN1 rfl ?_
    | refine GP.endR3 rfl ?_
    | refine GP.endN0 rfl ?_
    | refine GP.endR0 rfl ?_)
  refine GT.draws [[], [0], [0, 1], [0, 1, 2], [], [], [4, 5], [0, 1, 2, 3, 4, 5, 6], [0, 1, 2, 3, 4, 5, 6, 7], [0, 1, 2, 3, 4, 5, 6, 7, 8], [0, 1, 2, 3, 4, 5, 6, 7, 8, 9]] [8] (by kernel_rfl) ?_
  repeat' (first
    | refine GD.light rfl rfl (by first | exact onAt.none rfl | exact onAt.yes rfl rfl rfl) rfl (by first | exact AllMs.cons rfl (astepF_sound rfl) (.nil rfl) | exact AllMs.cons rfl (astep_sound rfl) (.nil rfl) | exact AllMs.cons rfl (astep_sound rfl) (.cons rfl (astep_sound rfl) (.nil rfl)) | exact AllMs.cons rfl (astep_sound rfl) (.cons rfl (astep_sound rfl) (.cons rfl (astep_sound rfl) (.nil rfl))) | exact AllMs.cons rfl (GO.call rfl rfl Try.func34 rfl rfl rfl (isName_s0)).run (.nil rfl) | exact AllMs.cons rfl (GO.call rfl rfl Try.func34 rfl rfl rfl (isName_s0)).run (.cons rfl (GO.call rfl rfl Try.func34 rfl rfl rfl (isName_s0)).run (.nil rfl)) | exact AllMs.cons rfl (GO.call rfl rfl Try.func32 rfl rfl rfl (when32 _ _)).run (.nil rfl) | exact AllMs.cons rfl (GO.call rfl rfl Try.func32 rfl rfl rfl (when32 _ _)).run (.cons rfl (GO.call rfl rfl Try.func32 rfl rfl rfl (when32 _ _)).run (.nil rfl)) | exact AllMs.cons rfl (GO.call rfl rfl Try.func28 rfl rfl rfl (first28 [whenI (!true) 8, whenI false 9] rfl rfl rfl)).run (.nil rfl) | exact AllMs.cons rfl (GO.call rfl rfl Try.func28 rfl rfl rfl (first28 [whenI (!true) 8, whenI false 9] rfl rfl rfl)).run (.cons rfl (GO.call rfl rfl Try.func28 rfl rfl rfl (first28 [whenI (!true) 8, whenI false 9] rfl rfl rfl)).run (.nil rfl)) | exact AllMs.cons rfl (GO.add rfl rfl rfl (by omega)).run (.nil rfl) | exact AllMs.cons rfl (GO.add rfl rfl rfl (by omega)).run (.cons rfl (GO.add rfl rfl rfl (by omega)).run (.nil rfl)) | exact AllMs.cons rfl (GO.sub rfl rfl rfl (by omega)).run (.nil rfl) | exact AllMs.cons rfl (GO.sub rfl rfl rfl (by omega)).run (.cons rfl (GO.sub rfl rfl rfl (by omega)).run (.nil rfl)) | exact AllMs.cons rfl (GO.mul rfl rfl rfl (by omega)).run (.nil rfl) | exact AllMs.cons rfl (GO.mul rfl rfl rfl (by omega)).run (.cons rfl (GO.mul rfl rfl rfl (by omega)).run (.nil rfl)) | exact AllMs.cons rfl (GO.rem rfl rfl rfl (by omega) (by omega)).run (.nil rfl) | exact AllMs.cons rfl (GO.rem rfl rfl rfl (by omega) (by omega)).run (.cons rfl (GO.rem rfl rfl rfl (by omega) (by omega)).run (.nil rfl)) | exact AllMs.cons rfl (GO.quo rfl rfl rfl (by omega) (by omega)).run (.nil rfl) | exact AllMs.cons rfl (GO.quo rfl rfl rfl (by omega) (by omega)).run (.cons rfl (GO.quo rfl rfl rfl (by omega) (by omega)).run (.nil rfl)) | exact AllMs.cons rfl (GO.neg rfl rfl (by omega)).run (.nil rfl) | exact AllMs.cons rfl (GO.neg rfl rfl (by omega)).run (.cons rfl (GO.neg rfl rfl (by omega)).run (.nil rfl)) | exact AllMs.cons rfl (GO.conv rfl rfl rfl rfl (i64_wrap (by omega) (by omega))).run (.nil rfl) | exact AllMs.cons rfl (GO.conv rfl rfl rfl rfl (i64_wrap (by omega) (by omega))).run (.cons rfl (GO.conv rfl rfl rfl rfl (i64_wrap (by omega) (by omega))).run (.nil rfl)) | exact AllMs.cons rfl (GO.conv rfl rfl rfl rfl rfl).run (.nil rfl) | exact AllMs.cons rfl (GO.conv rfl rfl rfl rfl rfl).run (.cons rfl (GO.conv rfl rfl rfl rfl rfl).run (.nil rfl))) ?_
    | refine GD.off rfl rfl rfl rfl rfl (by first | exact .inl rfl | exact .inr rfl) rfl ?_
    | refine GD.heavy rfl rfl rfl (by first | exact onAt.none rfl | exact onAt.yes rfl rfl rfl) rfl (by first | exact astepF_sound rfl | exact astep_sound rfl | exact (GO.call rfl rfl Try.func34 rfl rfl rfl (isName_s0)).run | exact (GO.call rfl rfl Try.func32 rfl rfl rfl (when32 _ _)).run | exact (GO.call rfl rfl Try.func28 rfl rfl rfl (first28 [whenI (!true) 8, whenI false 9] rfl rfl rfl)).run) (by repeat first | exact .nil rfl | refine .cons rfl (by first | exact again.one rfl rfl rfl (astep_sound rfl) | exact again.off rfl rfl rfl rfl (by first | exact .inl rfl | exact .inr rfl) rfl rfl | exact again.one rfl rfl rfl (GO.call rfl rfl Try.func34 rfl rfl rfl (isName_s0)).run | exact again.one rfl rfl rfl (GO.call rfl rfl Try.func32 rfl rfl rfl (when32 _ _)).run | exact again.one rfl rfl rfl (GO.call rfl rfl Try.func28 rfl rfl rfl (first28 [whenI (!true) 8, whenI false 9] rfl rfl rfl)).run | exact again.one rfl rfl rfl (GO.add rfl rfl rfl (by omega)).run | exact again.one rfl rfl rfl (GO.sub rfl rfl rfl (by omega)).run | exact again.one rfl rfl rfl (GO.mul rfl rfl rfl (by omega)).run | exact again.one rfl rfl rfl (GO.rem rfl rfl rfl (by omega) (by omega)).run | exact again.one rfl rfl rfl (GO.quo rfl rfl rfl (by omega) (by omega)).run | exact again.one rfl rfl rfl (GO.neg rfl rfl (by omega)).run | exact again.one rfl rfl rfl (GO.conv rfl rfl rfl rfl (i64_wrap (by omega) (by omega))).run | exact again.one rfl rfl rfl (GO.conv rfl rfl rfl rfl rfl).run) ?_) ?_
    | refine GD.heavyF rfl rfl rfl (by first | exact onAt.none rfl | exact onAt.yes rfl rfl rfl) rfl rfl (by repeat first | exact .nil rfl | refine .cons rfl (by first | exact again.one rfl rfl rfl (astep_sound rfl) | exact again.off rfl rfl rfl rfl (by first | exact .inl rfl | exact .inr rfl) rfl rfl | exact again.one rfl rfl rfl (GO.call rfl rfl Try.func34 rfl rfl rfl (isName_s0)).run | exact again.one rfl rfl rfl (GO.call rfl rfl Try.func32 rfl rfl rfl (when32 _ _)).run | exact again.one rfl rfl rfl (GO.call rfl rfl Try.func28 rfl rfl rfl (first28 [whenI (!true) 8, whenI false 9] rfl rfl rfl)).run | exact again.one rfl rfl rfl (GO.add rfl rfl rfl (by omega)).run | exact again.one rfl rfl rfl (GO.sub rfl rfl rfl (by omega)).run | exact again.one rfl rfl rfl (GO.mul rfl rfl rfl (by omega)).run | exact again.one rfl rfl rfl (GO.rem rfl rfl rfl (by omega) (by omega)).run | exact again.one rfl rfl rfl (GO.quo rfl rfl rfl (by omega) (by omega)).run | exact again.one rfl rfl rfl (GO.neg rfl rfl (by omega)).run | exact again.one rfl rfl rfl (GO.conv rfl rfl rfl rfl (i64_wrap (by omega) (by omega))).run | exact again.one rfl rfl rfl (GO.conv rfl rfl rfl rfl rfl).run) ?_) ?_
    | refine GD.heavyN rfl rfl rfl (by first | exact onAt.none rfl | exact onAt.yes rfl rfl rfl) rfl rfl (by repeat first | exact .nil rfl | refine .cons rfl (by first | exact again.one rfl rfl rfl (astep_sound rfl) | exact again.off rfl rfl rfl rfl (by first | exact .inl rfl | exact .inr rfl) rfl rfl | exact again.one rfl rfl rfl (GO.call rfl rfl Try.func34 rfl rfl rfl (isName_s0)).run | exact again.one rfl rfl rfl (GO.call rfl rfl Try.func32 rfl rfl rfl (when32 _ _)).run | exact again.one rfl rfl rfl (GO.call rfl rfl Try.func28 rfl rfl rfl (first28 [whenI (!true) 8, whenI false 9] rfl rfl rfl)).run | exact again.one rfl rfl rfl (GO.add rfl rfl rfl (by omega)).run | exact again.one rfl rfl rfl (GO.sub rfl rfl rfl (by omega)).run | exact again.one rfl rfl rfl (GO.mul rfl rfl rfl (by omega)).run | exact again.one rfl rfl rfl (GO.rem rfl rfl rfl (by omega) (by omega)).run | exact again.one rfl rfl rfl (GO.quo rfl rfl rfl (by omega) (by omega)).run | exact again.one rfl rfl rfl (GO.neg rfl rfl (by omega)).run | exact again.one rfl rfl rfl (GO.conv rfl rfl rfl rfl (i64_wrap (by omega) (by omega))).run | exact again.one rfl rfl rfl (GO.conv rfl rfl rfl rfl rfl).run) ?_) ?_
    | refine GD.done rfl rfl rfl ?_
    | (refine GD.forkD rfl rfl rfl rfl (fun h => ?_) (fun h => ?_) <;> try (exfalso; omega))
    | (refine GD.forkN rfl rfl rfl rfl (fun h => ?_) (fun h => ?_) <;> try (exfalso; omega))
    | refine GD.forkB rfl rfl rfl rfl (fun h => ?_) (fun h => ?_))
  repeat' (first
    | refine GL.sf rfl rfl rfl rfl ?_
    | refine GL.nf rfl rfl rfl ?_
    | refine GL.sv rfl rfl rfl rfl ?_
    | refine GL.sn rfl rfl rfl ?_
    | refine GL.done ?_
    | refine GP.thenN ?_
    | refine GT.seq ?_
    | refine GT.region ?_
    | refine GL.unguard rfl rfl ?_
    | refine GL.skip rfl rfl rfl rfl ?_
    | refine GL.skipU rfl rfl rfl rfl ?_
    | refine GL.v rfl rfl rfl (by first | exact GO.add rfl rfl rfl (by omega) | exact GO.sub rfl rfl rfl (by omega) | exact GO.mul rfl rfl rfl (by omega) | exact GO.rem rfl rfl rfl (by omega) (by omega) | exact GO.quo rfl rfl rfl (by omega) (by omega) | exact GO.neg rfl rfl (by omega) | exact GO.conv rfl rfl rfl rfl (i64_wrap (by omega) (by omega)) | exact GO.conv rfl rfl rfl rfl rfl) ?_
    | refine GT.skip ?_
    | refine GT.block ?_
    | refine GT.ret ?_
    | refine GT.exit ?_
    | refine GP.thenR ?_
    | refine GP.thenE ?_
    | refine GP.inN ?_
    | refine GP.inR ?_
    | refine GP.hit ?_
    | refine GP.miss rfl ?_
    | refine GP.againN ?_
    | refine GP.againR ?_
    | refine GP.againE ?_
    | refine GP.invR ?_
    | refine GP.invE ?_
    | refine GU.step ?_
    | refine GT.condT rfl ?_
    | refine GT.condF rfl ?_
    | (refine GT.condD rfl (fun h => ?_) (fun h => ?_) <;> try (exfalso; omega))
    | (refine GT.condN rfl (fun h => ?_) (fun h => ?_) <;> try (exfalso; omega))
    | (refine GT.condB rfl (fun h => ?_) (fun h => ?_))
    | (refine GL.forkD rfl rfl (fun h => ?_) (fun h => ?_) <;> try (exfalso; omega))
    | (refine GL.forkN rfl rfl (fun h => ?_) (fun h => ?_) <;> try (exfalso; omega))
    | (refine GL.forkB rfl rfl (fun h => ?_) (fun h => ?_))
    | refine GP.endR1 rfl ?_
    | refine GP.endR2 rfl ?_
    | refine GP.endN1 rfl ?_
    | refine GP.endR3 rfl ?_
    | refine GP.endN0 rfl ?_
    | refine GP.endR0 rfl ?_)
  rfl
theorem name_b {A : AW} {b : Nat} (h : A.objs b = some (.map [⟨.string ⟨#[115, 48]⟩, .bool true, 0⟩] 1)) : AC Try.prog 29 [.string ⟨#[115, 49]⟩, .map (some b)] A (isR (.int .i64 0) A) := by
  refine AC.is1 (o := .map [⟨.string ⟨#[115, 48]⟩, .bool true, 0⟩] 1) (args := [.string ⟨#[115, 49]⟩, .map (some 0)]) ?_ ⟨8, rfl⟩ (b := b) (g := 0) ⟨h, 8, rfl⟩ (.flat (k := 8) rfl (.map rfl .nil))
  refine AC.go Try.func29 rfl rfl ?_
  repeat' (first
    | refine GL.sf rfl rfl rfl rfl ?_
    | refine GL.nf rfl rfl rfl ?_
    | refine GL.sv rfl rfl rfl rfl ?_
    | refine GL.sn rfl rfl rfl ?_
    | refine GL.done ?_
    | refine GP.thenN ?_
    | refine GT.seq ?_
    | refine GT.region ?_
    | refine GL.unguard rfl rfl ?_
    | refine GL.skip rfl rfl rfl rfl ?_
    | refine GL.skipU rfl rfl rfl rfl ?_
    | refine GL.v rfl rfl rfl (by first | exact GO.add rfl rfl rfl (by omega) | exact GO.sub rfl rfl rfl (by omega) | exact GO.mul rfl rfl rfl (by omega) | exact GO.rem rfl rfl rfl (by omega) (by omega) | exact GO.quo rfl rfl rfl (by omega) (by omega) | exact GO.neg rfl rfl (by omega) | exact GO.conv rfl rfl rfl rfl (i64_wrap (by omega) (by omega)) | exact GO.conv rfl rfl rfl rfl rfl) ?_
    | refine GT.skip ?_
    | refine GT.block ?_
    | refine GT.ret ?_
    | refine GT.exit ?_
    | refine GP.thenR ?_
    | refine GP.thenE ?_
    | refine GP.inN ?_
    | refine GP.inR ?_
    | refine GP.hit ?_
    | refine GP.miss rfl ?_
    | refine GP.againN ?_
    | refine GP.againR ?_
    | refine GP.againE ?_
    | refine GP.invR ?_
    | refine GP.invE ?_
    | refine GU.step ?_
    | refine GT.condT rfl ?_
    | refine GT.condF rfl ?_
    | (refine GT.condD rfl (fun h => ?_) (fun h => ?_) <;> try (exfalso; omega))
    | (refine GT.condN rfl (fun h => ?_) (fun h => ?_) <;> try (exfalso; omega))
    | (refine GT.condB rfl (fun h => ?_) (fun h => ?_))
    | (refine GL.forkD rfl rfl (fun h => ?_) (fun h => ?_) <;> try (exfalso; omega))
    | (refine GL.forkN rfl rfl (fun h => ?_) (fun h => ?_) <;> try (exfalso; omega))
    | (refine GL.forkB rfl rfl (fun h => ?_) (fun h => ?_))
    | refine GP.endR1 rfl ?_
    | refine GP.endR2 rfl ?_
    | refine GP.endN1 rfl ?_
    | refine GP.endR3 rfl ?_
    | refine GP.endN0 rfl ?_
    | refine GP.endR0 rfl ?_)
  refine GT.draws [[], [0], [0, 1], [0, 1, 2], [], [], [4, 5], [0, 1, 2, 3, 4, 5, 6], [0, 1, 2, 3, 4, 5, 6, 7], [0, 1, 2, 3, 4, 5, 6, 7, 8], [0, 1, 2, 3, 4, 5, 6, 7, 8, 9]] [8] (by kernel_rfl) ?_
  repeat' (first
    | refine GD.light rfl rfl (by first | exact onAt.none rfl | exact onAt.yes rfl rfl rfl) rfl (by first | exact AllMs.cons rfl (astepF_sound rfl) (.nil rfl) | exact AllMs.cons rfl (astep_sound rfl) (.nil rfl) | exact AllMs.cons rfl (astep_sound rfl) (.cons rfl (astep_sound rfl) (.nil rfl)) | exact AllMs.cons rfl (astep_sound rfl) (.cons rfl (astep_sound rfl) (.cons rfl (astep_sound rfl) (.nil rfl))) | exact AllMs.cons rfl (GO.call rfl rfl Try.func34 rfl rfl rfl (isName_s1)).run (.nil rfl) | exact AllMs.cons rfl (GO.call rfl rfl Try.func34 rfl rfl rfl (isName_s1)).run (.cons rfl (GO.call rfl rfl Try.func34 rfl rfl rfl (isName_s1)).run (.nil rfl)) | exact AllMs.cons rfl (GO.call rfl rfl Try.func32 rfl rfl rfl (when32 _ _)).run (.nil rfl) | exact AllMs.cons rfl (GO.call rfl rfl Try.func32 rfl rfl rfl (when32 _ _)).run (.cons rfl (GO.call rfl rfl Try.func32 rfl rfl rfl (when32 _ _)).run (.nil rfl)) | exact AllMs.cons rfl (GO.call rfl rfl Try.func28 rfl rfl rfl (first28 [whenI (!true) 8, whenI false 9] rfl rfl rfl)).run (.nil rfl) | exact AllMs.cons rfl (GO.call rfl rfl Try.func28 rfl rfl rfl (first28 [whenI (!true) 8, whenI false 9] rfl rfl rfl)).run (.cons rfl (GO.call rfl rfl Try.func28 rfl rfl rfl (first28 [whenI (!true) 8, whenI false 9] rfl rfl rfl)).run (.nil rfl)) | exact AllMs.cons rfl (GO.add rfl rfl rfl (by omega)).run (.nil rfl) | exact AllMs.cons rfl (GO.add rfl rfl rfl (by omega)).run (.cons rfl (GO.add rfl rfl rfl (by omega)).run (.nil rfl)) | exact AllMs.cons rfl (GO.sub rfl rfl rfl (by omega)).run (.nil rfl) | exact AllMs.cons rfl (GO.sub rfl rfl rfl (by omega)).run (.cons rfl (GO.sub rfl rfl rfl (by omega)).run (.nil rfl)) | exact AllMs.cons rfl (GO.mul rfl rfl rfl (by omega)).run (.nil rfl) | exact AllMs.cons rfl (GO.mul rfl rfl rfl (by omega)).run (.cons rfl (GO.mul rfl rfl rfl (by omega)).run (.nil rfl)) | exact AllMs.cons rfl (GO.rem rfl rfl rfl (by omega) (by omega)).run (.nil rfl) | exact AllMs.cons rfl (GO.rem rfl rfl rfl (by omega) (by omega)).run (.cons rfl (GO.rem rfl rfl rfl (by omega) (by omega)).run (.nil rfl)) | exact AllMs.cons rfl (GO.quo rfl rfl rfl (by omega) (by omega)).run (.nil rfl) | exact AllMs.cons rfl (GO.quo rfl rfl rfl (by omega) (by omega)).run (.cons rfl (GO.quo rfl rfl rfl (by omega) (by omega)).run (.nil rfl)) | exact AllMs.cons rfl (GO.neg rfl rfl (by omega)).run (.nil rfl) | exact AllMs.cons rfl (GO.neg rfl rfl (by omega)).run (.cons rfl (GO.neg rfl rfl (by omega)).run (.nil rfl)) | exact AllMs.cons rfl (GO.conv rfl rfl rfl rfl (i64_wrap (by omega) (by omega))).run (.nil rfl) | exact AllMs.cons rfl (GO.conv rfl rfl rfl rfl (i64_wrap (by omega) (by omega))).run (.cons rfl (GO.conv rfl rfl rfl rfl (i64_wrap (by omega) (by omega))).run (.nil rfl)) | exact AllMs.cons rfl (GO.conv rfl rfl rfl rfl rfl).run (.nil rfl) | exact AllMs.cons rfl (GO.conv rfl rfl rfl rfl rfl).run (.cons rfl (GO.conv rfl rfl rfl rfl rfl).run (.nil rfl))) ?_
    | refine GD.off rfl rfl rfl rfl rfl (by first | exact .inl rfl | exact .inr rfl) rfl ?_
    | refine GD.heavy rfl rfl rfl (by first | exact onAt.none rfl | exact onAt.yes rfl rfl rfl) rfl (by first | exact astepF_sound rfl | exact astep_sound rfl | exact (GO.call rfl rfl Try.func34 rfl rfl rfl (isName_s1)).run | exact (GO.call rfl rfl Try.func32 rfl rfl rfl (when32 _ _)).run | exact (GO.call rfl rfl Try.func28 rfl rfl rfl (first28 [whenI (!true) 8, whenI false 9] rfl rfl rfl)).run) (by repeat first | exact .nil rfl | refine .cons rfl (by first | exact again.one rfl rfl rfl (astep_sound rfl) | exact again.off rfl rfl rfl rfl (by first | exact .inl rfl | exact .inr rfl) rfl rfl | exact again.one rfl rfl rfl (GO.call rfl rfl Try.func34 rfl rfl rfl (isName_s1)).run | exact again.one rfl rfl rfl (GO.call rfl rfl Try.func32 rfl rfl rfl (when32 _ _)).run | exact again.one rfl rfl rfl (GO.call rfl rfl Try.func28 rfl rfl rfl (first28 [whenI (!true) 8, whenI false 9] rfl rfl rfl)).run | exact again.one rfl rfl rfl (GO.add rfl rfl rfl (by omega)).run | exact again.one rfl rfl rfl (GO.sub rfl rfl rfl (by omega)).run | exact again.one rfl rfl rfl (GO.mul rfl rfl rfl (by omega)).run | exact again.one rfl rfl rfl (GO.rem rfl rfl rfl (by omega) (by omega)).run | exact again.one rfl rfl rfl (GO.quo rfl rfl rfl (by omega) (by omega)).run | exact again.one rfl rfl rfl (GO.neg rfl rfl (by omega)).run | exact again.one rfl rfl rfl (GO.conv rfl rfl rfl rfl (i64_wrap (by omega) (by omega))).run | exact again.one rfl rfl rfl (GO.conv rfl rfl rfl rfl rfl).run) ?_) ?_
    | refine GD.heavyF rfl rfl rfl (by first | exact onAt.none rfl | exact onAt.yes rfl rfl rfl) rfl rfl (by repeat first | exact .nil rfl | refine .cons rfl (by first | exact again.one rfl rfl rfl (astep_sound rfl) | exact again.off rfl rfl rfl rfl (by first | exact .inl rfl | exact .inr rfl) rfl rfl | exact again.one rfl rfl rfl (GO.call rfl rfl Try.func34 rfl rfl rfl (isName_s1)).run | exact again.one rfl rfl rfl (GO.call rfl rfl Try.func32 rfl rfl rfl (when32 _ _)).run | exact again.one rfl rfl rfl (GO.call rfl rfl Try.func28 rfl rfl rfl (first28 [whenI (!true) 8, whenI false 9] rfl rfl rfl)).run | exact again.one rfl rfl rfl (GO.add rfl rfl rfl (by omega)).run | exact again.one rfl rfl rfl (GO.sub rfl rfl rfl (by omega)).run | exact again.one rfl rfl rfl (GO.mul rfl rfl rfl (by omega)).run | exact again.one rfl rfl rfl (GO.rem rfl rfl rfl (by omega) (by omega)).run | exact again.one rfl rfl rfl (GO.quo rfl rfl rfl (by omega) (by omega)).run | exact again.one rfl rfl rfl (GO.neg rfl rfl (by omega)).run | exact again.one rfl rfl rfl (GO.conv rfl rfl rfl rfl (i64_wrap (by omega) (by omega))).run | exact again.one rfl rfl rfl (GO.conv rfl rfl rfl rfl rfl).run) ?_) ?_
    | refine GD.heavyN rfl rfl rfl (by first | exact onAt.none rfl | exact onAt.yes rfl rfl rfl) rfl rfl (by repeat first | exact .nil rfl | refine .cons rfl (by first | exact again.one rfl rfl rfl (astep_sound rfl) | exact again.off rfl rfl rfl rfl (by first | exact .inl rfl | exact .inr rfl) rfl rfl | exact again.one rfl rfl rfl (GO.call rfl rfl Try.func34 rfl rfl rfl (isName_s1)).run | exact again.one rfl rfl rfl (GO.call rfl rfl Try.func32 rfl rfl rfl (when32 _ _)).run | exact again.one rfl rfl rfl (GO.call rfl rfl Try.func28 rfl rfl rfl (first28 [whenI (!true) 8, whenI false 9] rfl rfl rfl)).run | exact again.one rfl rfl rfl (GO.add rfl rfl rfl (by omega)).run | exact again.one rfl rfl rfl (GO.sub rfl rfl rfl (by omega)).run | exact again.one rfl rfl rfl (GO.mul rfl rfl rfl (by omega)).run | exact again.one rfl rfl rfl (GO.rem rfl rfl rfl (by omega) (by omega)).run | exact again.one rfl rfl rfl (GO.quo rfl rfl rfl (by omega) (by omega)).run | exact again.one rfl rfl rfl (GO.neg rfl rfl (by omega)).run | exact again.one rfl rfl rfl (GO.conv rfl rfl rfl rfl (i64_wrap (by omega) (by omega))).run | exact again.one rfl rfl rfl (GO.conv rfl rfl rfl rfl rfl).run) ?_) ?_
    | refine GD.done rfl rfl rfl ?_
    | (refine GD.forkD rfl rfl rfl rfl (fun h => ?_) (fun h => ?_) <;> try (exfalso; omega))
    | (refine GD.forkN rfl rfl rfl rfl (fun h => ?_) (fun h => ?_) <;> try (exfalso; omega))
    | refine GD.forkB rfl rfl rfl rfl (fun h => ?_) (fun h => ?_))
  repeat' (first
    | refine GL.sf rfl rfl rfl rfl ?_
    | refine GL.nf rfl rfl rfl ?_
    | refine GL.sv rfl rfl rfl rfl ?_
    | refine GL.sn rfl rfl rfl ?_
    | refine GL.done ?_
    | refine GP.thenN ?_
    | refine GT.seq ?_
    | refine GT.region ?_
    | refine GL.unguard rfl rfl ?_
    | refine GL.skip rfl rfl rfl rfl ?_
    | refine GL.skipU rfl rfl rfl rfl ?_
    | refine GL.v rfl rfl rfl (by first | exact GO.add rfl rfl rfl (by omega) | exact GO.sub rfl rfl rfl (by omega) | exact GO.mul rfl rfl rfl (by omega) | exact GO.rem rfl rfl rfl (by omega) (by omega) | exact GO.quo rfl rfl rfl (by omega) (by omega) | exact GO.neg rfl rfl (by omega) | exact GO.conv rfl rfl rfl rfl (i64_wrap (by omega) (by omega)) | exact GO.conv rfl rfl rfl rfl rfl) ?_
    | refine GT.skip ?_
    | refine GT.block ?_
    | refine GT.ret ?_
    | refine GT.exit ?_
    | refine GP.thenR ?_
    | refine GP.thenE ?_
    | refine GP.inN ?_
    | refine GP.inR ?_
    | refine GP.hit ?_
    | refine GP.miss rfl ?_
    | refine GP.againN ?_
    | refine GP.againR ?_
    | refine GP.againE ?_
    | refine GP.invR ?_
    | refine GP.invE ?_
    | refine GU.step ?_
    | refine GT.condT rfl ?_
    | refine GT.condF rfl ?_
    | (refine GT.condD rfl (fun h => ?_) (fun h => ?_) <;> try (exfalso; omega))
    | (refine GT.condN rfl (fun h => ?_) (fun h => ?_) <;> try (exfalso; omega))
    | (refine GT.condB rfl (fun h => ?_) (fun h => ?_))
    | (refine GL.forkD rfl rfl (fun h => ?_) (fun h => ?_) <;> try (exfalso; omega))
    | (refine GL.forkN rfl rfl (fun h => ?_) (fun h => ?_) <;> try (exfalso; omega))
    | (refine GL.forkB rfl rfl (fun h => ?_) (fun h => ?_))
    | refine GP.endR1 rfl ?_
    | refine GP.endR2 rfl ?_
    | refine GP.endN1 rfl ?_
    | refine GP.endR3 rfl ?_
    | refine GP.endN0 rfl ?_
    | refine GP.endR0 rfl ?_)
  rfl
theorem name_c {A : AW} {b : Nat} (h : A.objs b = some (.map [⟨.string ⟨#[115, 48]⟩, .bool true, 0⟩, ⟨.string ⟨#[115, 49]⟩, .bool true, 1⟩] 2)) : AC Try.prog 29 [.string ⟨#[116, 104, 101, 111, 100, 111, 108, 105, 116, 101]⟩, .map (some b)] A (isR (.int .i64 0) A) := by
  refine AC.is1 (o := .map [⟨.string ⟨#[115, 48]⟩, .bool true, 0⟩, ⟨.string ⟨#[115, 49]⟩, .bool true, 1⟩] 2) (args := [.string ⟨#[116, 104, 101, 111, 100, 111, 108, 105, 116, 101]⟩, .map (some 0)]) ?_ ⟨8, rfl⟩ (b := b) (g := 0) ⟨h, 8, rfl⟩ (.flat (k := 8) rfl (.map rfl .nil))
  refine AC.go Try.func29 rfl rfl ?_
  repeat' (first
    | refine GL.sf rfl rfl rfl rfl ?_
    | refine GL.nf rfl rfl rfl ?_
    | refine GL.sv rfl rfl rfl rfl ?_
    | refine GL.sn rfl rfl rfl ?_
    | refine GL.done ?_
    | refine GP.thenN ?_
    | refine GT.seq ?_
    | refine GT.region ?_
    | refine GL.unguard rfl rfl ?_
    | refine GL.skip rfl rfl rfl rfl ?_
    | refine GL.skipU rfl rfl rfl rfl ?_
    | refine GL.v rfl rfl rfl (by first | exact GO.add rfl rfl rfl (by omega) | exact GO.sub rfl rfl rfl (by omega) | exact GO.mul rfl rfl rfl (by omega) | exact GO.rem rfl rfl rfl (by omega) (by omega) | exact GO.quo rfl rfl rfl (by omega) (by omega) | exact GO.neg rfl rfl (by omega) | exact GO.conv rfl rfl rfl rfl (i64_wrap (by omega) (by omega)) | exact GO.conv rfl rfl rfl rfl rfl) ?_
    | refine GT.skip ?_
    | refine GT.block ?_
    | refine GT.ret ?_
    | refine GT.exit ?_
    | refine GP.thenR ?_
    | refine GP.thenE ?_
    | refine GP.inN ?_
    | refine GP.inR ?_
    | refine GP.hit ?_
    | refine GP.miss rfl ?_
    | refine GP.againN ?_
    | refine GP.againR ?_
    | refine GP.againE ?_
    | refine GP.invR ?_
    | refine GP.invE ?_
    | refine GU.step ?_
    | refine GT.condT rfl ?_
    | refine GT.condF rfl ?_
    | (refine GT.condD rfl (fun h => ?_) (fun h => ?_) <;> try (exfalso; omega))
    | (refine GT.condN rfl (fun h => ?_) (fun h => ?_) <;> try (exfalso; omega))
    | (refine GT.condB rfl (fun h => ?_) (fun h => ?_))
    | (refine GL.forkD rfl rfl (fun h => ?_) (fun h => ?_) <;> try (exfalso; omega))
    | (refine GL.forkN rfl rfl (fun h => ?_) (fun h => ?_) <;> try (exfalso; omega))
    | (refine GL.forkB rfl rfl (fun h => ?_) (fun h => ?_))
    | refine GP.endR1 rfl ?_
    | refine GP.endR2 rfl ?_
    | refine GP.endN1 rfl ?_
    | refine GP.endR3 rfl ?_
    | refine GP.endN0 rfl ?_
    | refine GP.endR0 rfl ?_)
  refine GT.draws [[], [0], [0, 1], [0, 1, 2], [], [], [4, 5], [0, 1, 2, 3, 4, 5, 6], [0, 1, 2, 3, 4, 5, 6, 7], [0, 1, 2, 3, 4, 5, 6, 7, 8], [0, 1, 2, 3, 4, 5, 6, 7, 8, 9]] [8] (by kernel_rfl) ?_
  repeat' (first
    | refine GD.light rfl rfl (by first | exact onAt.none rfl | exact onAt.yes rfl rfl rfl) rfl (by first | exact AllMs.cons rfl (astepF_sound rfl) (.nil rfl) | exact AllMs.cons rfl (astep_sound rfl) (.nil rfl) | exact AllMs.cons rfl (astep_sound rfl) (.cons rfl (astep_sound rfl) (.nil rfl)) | exact AllMs.cons rfl (astep_sound rfl) (.cons rfl (astep_sound rfl) (.cons rfl (astep_sound rfl) (.nil rfl))) | exact AllMs.cons rfl (GO.call rfl rfl Try.func34 rfl rfl rfl (isName_theo)).run (.nil rfl) | exact AllMs.cons rfl (GO.call rfl rfl Try.func34 rfl rfl rfl (isName_theo)).run (.cons rfl (GO.call rfl rfl Try.func34 rfl rfl rfl (isName_theo)).run (.nil rfl)) | exact AllMs.cons rfl (GO.call rfl rfl Try.func32 rfl rfl rfl (when32 _ _)).run (.nil rfl) | exact AllMs.cons rfl (GO.call rfl rfl Try.func32 rfl rfl rfl (when32 _ _)).run (.cons rfl (GO.call rfl rfl Try.func32 rfl rfl rfl (when32 _ _)).run (.nil rfl)) | exact AllMs.cons rfl (GO.call rfl rfl Try.func28 rfl rfl rfl (first28 [whenI (!true) 8, whenI false 9] rfl rfl rfl)).run (.nil rfl) | exact AllMs.cons rfl (GO.call rfl rfl Try.func28 rfl rfl rfl (first28 [whenI (!true) 8, whenI false 9] rfl rfl rfl)).run (.cons rfl (GO.call rfl rfl Try.func28 rfl rfl rfl (first28 [whenI (!true) 8, whenI false 9] rfl rfl rfl)).run (.nil rfl)) | exact AllMs.cons rfl (GO.add rfl rfl rfl (by omega)).run (.nil rfl) | exact AllMs.cons rfl (GO.add rfl rfl rfl (by omega)).run (.cons rfl (GO.add rfl rfl rfl (by omega)).run (.nil rfl)) | exact AllMs.cons rfl (GO.sub rfl rfl rfl (by omega)).run (.nil rfl) | exact AllMs.cons rfl (GO.sub rfl rfl rfl (by omega)).run (.cons rfl (GO.sub rfl rfl rfl (by omega)).run (.nil rfl)) | exact AllMs.cons rfl (GO.mul rfl rfl rfl (by omega)).run (.nil rfl) | exact AllMs.cons rfl (GO.mul rfl rfl rfl (by omega)).run (.cons rfl (GO.mul rfl rfl rfl (by omega)).run (.nil rfl)) | exact AllMs.cons rfl (GO.rem rfl rfl rfl (by omega) (by omega)).run (.nil rfl) | exact AllMs.cons rfl (GO.rem rfl rfl rfl (by omega) (by omega)).run (.cons rfl (GO.rem rfl rfl rfl (by omega) (by omega)).run (.nil rfl)) | exact AllMs.cons rfl (GO.quo rfl rfl rfl (by omega) (by omega)).run (.nil rfl) | exact AllMs.cons rfl (GO.quo rfl rfl rfl (by omega) (by omega)).run (.cons rfl (GO.quo rfl rfl rfl (by omega) (by omega)).run (.nil rfl)) | exact AllMs.cons rfl (GO.neg rfl rfl (by omega)).run (.nil rfl) | exact AllMs.cons rfl (GO.neg rfl rfl (by omega)).run (.cons rfl (GO.neg rfl rfl (by omega)).run (.nil rfl)) | exact AllMs.cons rfl (GO.conv rfl rfl rfl rfl (i64_wrap (by omega) (by omega))).run (.nil rfl) | exact AllMs.cons rfl (GO.conv rfl rfl rfl rfl (i64_wrap (by omega) (by omega))).run (.cons rfl (GO.conv rfl rfl rfl rfl (i64_wrap (by omega) (by omega))).run (.nil rfl)) | exact AllMs.cons rfl (GO.conv rfl rfl rfl rfl rfl).run (.nil rfl) | exact AllMs.cons rfl (GO.conv rfl rfl rfl rfl rfl).run (.cons rfl (GO.conv rfl rfl rfl rfl rfl).run (.nil rfl))) ?_
    | refine GD.off rfl rfl rfl rfl rfl (by first | exact .inl rfl | exact .inr rfl) rfl ?_
    | refine GD.heavy rfl rfl rfl (by first | exact onAt.none rfl | exact onAt.yes rfl rfl rfl) rfl (by first | exact astepF_sound rfl | exact astep_sound rfl | exact (GO.call rfl rfl Try.func34 rfl rfl rfl (isName_theo)).run | exact (GO.call rfl rfl Try.func32 rfl rfl rfl (when32 _ _)).run | exact (GO.call rfl rfl Try.func28 rfl rfl rfl (first28 [whenI (!true) 8, whenI false 9] rfl rfl rfl)).run) (by repeat first | exact .nil rfl | refine .cons rfl (by first | exact again.one rfl rfl rfl (astep_sound rfl) | exact again.off rfl rfl rfl rfl (by first | exact .inl rfl | exact .inr rfl) rfl rfl | exact again.one rfl rfl rfl (GO.call rfl rfl Try.func34 rfl rfl rfl (isName_theo)).run | exact again.one rfl rfl rfl (GO.call rfl rfl Try.func32 rfl rfl rfl (when32 _ _)).run | exact again.one rfl rfl rfl (GO.call rfl rfl Try.func28 rfl rfl rfl (first28 [whenI (!true) 8, whenI false 9] rfl rfl rfl)).run | exact again.one rfl rfl rfl (GO.add rfl rfl rfl (by omega)).run | exact again.one rfl rfl rfl (GO.sub rfl rfl rfl (by omega)).run | exact again.one rfl rfl rfl (GO.mul rfl rfl rfl (by omega)).run | exact again.one rfl rfl rfl (GO.rem rfl rfl rfl (by omega) (by omega)).run | exact again.one rfl rfl rfl (GO.quo rfl rfl rfl (by omega) (by omega)).run | exact again.one rfl rfl rfl (GO.neg rfl rfl (by omega)).run | exact again.one rfl rfl rfl (GO.conv rfl rfl rfl rfl (i64_wrap (by omega) (by omega))).run | exact again.one rfl rfl rfl (GO.conv rfl rfl rfl rfl rfl).run) ?_) ?_
    | refine GD.heavyF rfl rfl rfl (by first | exact onAt.none rfl | exact onAt.yes rfl rfl rfl) rfl rfl (by repeat first | exact .nil rfl | refine .cons rfl (by first | exact again.one rfl rfl rfl (astep_sound rfl) | exact again.off rfl rfl rfl rfl (by first | exact .inl rfl | exact .inr rfl) rfl rfl | exact again.one rfl rfl rfl (GO.call rfl rfl Try.func34 rfl rfl rfl (isName_theo)).run | exact again.one rfl rfl rfl (GO.call rfl rfl Try.func32 rfl rfl rfl (when32 _ _)).run | exact again.one rfl rfl rfl (GO.call rfl rfl Try.func28 rfl rfl rfl (first28 [whenI (!true) 8, whenI false 9] rfl rfl rfl)).run | exact again.one rfl rfl rfl (GO.add rfl rfl rfl (by omega)).run | exact again.one rfl rfl rfl (GO.sub rfl rfl rfl (by omega)).run | exact again.one rfl rfl rfl (GO.mul rfl rfl rfl (by omega)).run | exact again.one rfl rfl rfl (GO.rem rfl rfl rfl (by omega) (by omega)).run | exact again.one rfl rfl rfl (GO.quo rfl rfl rfl (by omega) (by omega)).run | exact again.one rfl rfl rfl (GO.neg rfl rfl (by omega)).run | exact again.one rfl rfl rfl (GO.conv rfl rfl rfl rfl (i64_wrap (by omega) (by omega))).run | exact again.one rfl rfl rfl (GO.conv rfl rfl rfl rfl rfl).run) ?_) ?_
    | refine GD.heavyN rfl rfl rfl (by first | exact onAt.none rfl | exact onAt.yes rfl rfl rfl) rfl rfl (by repeat first | exact .nil rfl | refine .cons rfl (by first | exact again.one rfl rfl rfl (astep_sound rfl) | exact again.off rfl rfl rfl rfl (by first | exact .inl rfl | exact .inr rfl) rfl rfl | exact again.one rfl rfl rfl (GO.call rfl rfl Try.func34 rfl rfl rfl (isName_theo)).run | exact again.one rfl rfl rfl (GO.call rfl rfl Try.func32 rfl rfl rfl (when32 _ _)).run | exact again.one rfl rfl rfl (GO.call rfl rfl Try.func28 rfl rfl rfl (first28 [whenI (!true) 8, whenI false 9] rfl rfl rfl)).run | exact again.one rfl rfl rfl (GO.add rfl rfl rfl (by omega)).run | exact again.one rfl rfl rfl (GO.sub rfl rfl rfl (by omega)).run | exact again.one rfl rfl rfl (GO.mul rfl rfl rfl (by omega)).run | exact again.one rfl rfl rfl (GO.rem rfl rfl rfl (by omega) (by omega)).run | exact again.one rfl rfl rfl (GO.quo rfl rfl rfl (by omega) (by omega)).run | exact again.one rfl rfl rfl (GO.neg rfl rfl (by omega)).run | exact again.one rfl rfl rfl (GO.conv rfl rfl rfl rfl (i64_wrap (by omega) (by omega))).run | exact again.one rfl rfl rfl (GO.conv rfl rfl rfl rfl rfl).run) ?_) ?_
    | refine GD.done rfl rfl rfl ?_
    | (refine GD.forkD rfl rfl rfl rfl (fun h => ?_) (fun h => ?_) <;> try (exfalso; omega))
    | (refine GD.forkN rfl rfl rfl rfl (fun h => ?_) (fun h => ?_) <;> try (exfalso; omega))
    | refine GD.forkB rfl rfl rfl rfl (fun h => ?_) (fun h => ?_))
  repeat' (first
    | refine GL.sf rfl rfl rfl rfl ?_
    | refine GL.nf rfl rfl rfl ?_
    | refine GL.sv rfl rfl rfl rfl ?_
    | refine GL.sn rfl rfl rfl ?_
    | refine GL.done ?_
    | refine GP.thenN ?_
    | refine GT.seq ?_
    | refine GT.region ?_
    | refine GL.unguard rfl rfl ?_
    | refine GL.skip rfl rfl rfl rfl ?_
    | refine GL.skipU rfl rfl rfl rfl ?_
    | refine GL.v rfl rfl rfl (by first | exact GO.add rfl rfl rfl (by omega) | exact GO.sub rfl rfl rfl (by omega) | exact GO.mul rfl rfl rfl (by omega) | exact GO.rem rfl rfl rfl (by omega) (by omega) | exact GO.quo rfl rfl rfl (by omega) (by omega) | exact GO.neg rfl rfl (by omega) | exact GO.conv rfl rfl rfl rfl (i64_wrap (by omega) (by omega)) | exact GO.conv rfl rfl rfl rfl rfl) ?_
    | refine GT.skip ?_
    | refine GT.block ?_
    | refine GT.ret ?_
    | refine GT.exit ?_
    | refine GP.thenR ?_
    | refine GP.thenE ?_
    | refine GP.inN ?_
    | refine GP.inR ?_
    | refine GP.hit ?_
    | refine GP.miss rfl ?_
    | refine GP.againN ?_
    | refine GP.againR ?_
    | refine GP.againE ?_
    | refine GP.invR ?_
    | refine GP.invE ?_
    | refine GU.step ?_
    | refine GT.condT rfl ?_
    | refine GT.condF rfl ?_
    | (refine GT.condD rfl (fun h => ?_) (fun h => ?_) <;> try (exfalso; omega))
    | (refine GT.condN rfl (fun h => ?_) (fun h => ?_) <;> try (exfalso; omega))
    | (refine GT.condB rfl (fun h => ?_) (fun h => ?_))
    | (refine GL.forkD rfl rfl (fun h => ?_) (fun h => ?_) <;> try (exfalso; omega))
    | (refine GL.forkN rfl rfl (fun h => ?_) (fun h => ?_) <;> try (exfalso; omega))
    | (refine GL.forkB rfl rfl (fun h => ?_) (fun h => ?_))
    | refine GP.endR1 rfl ?_
    | refine GP.endR2 rfl ?_
    | refine GP.endN1 rfl ?_
    | refine GP.endR3 rfl ?_
    | refine GP.endN0 rfl ?_
    | refine GP.endR0 rfl ?_)
  rfl
theorem name_d {A : AW} {b : Nat} (h : A.objs b = some (.map [] 0)) : AC Try.prog 29 [.string ⟨#[110, 101, 97, 114]⟩, .map (some b)] A (isR (.int .i64 0) A) := by
  refine AC.is1 (o := .map [] 0) (args := [.string ⟨#[110, 101, 97, 114]⟩, .map (some 0)]) ?_ ⟨8, rfl⟩ (b := b) (g := 0) ⟨h, 8, rfl⟩ (.flat (k := 8) rfl (.map rfl .nil))
  refine AC.go Try.func29 rfl rfl ?_
  repeat' (first
    | refine GL.sf rfl rfl rfl rfl ?_
    | refine GL.nf rfl rfl rfl ?_
    | refine GL.sv rfl rfl rfl rfl ?_
    | refine GL.sn rfl rfl rfl ?_
    | refine GL.done ?_
    | refine GP.thenN ?_
    | refine GT.seq ?_
    | refine GT.region ?_
    | refine GL.unguard rfl rfl ?_
    | refine GL.skip rfl rfl rfl rfl ?_
    | refine GL.skipU rfl rfl rfl rfl ?_
    | refine GL.v rfl rfl rfl (by first | exact GO.add rfl rfl rfl (by omega) | exact GO.sub rfl rfl rfl (by omega) | exact GO.mul rfl rfl rfl (by omega) | exact GO.rem rfl rfl rfl (by omega) (by omega) | exact GO.quo rfl rfl rfl (by omega) (by omega) | exact GO.neg rfl rfl (by omega) | exact GO.conv rfl rfl rfl rfl (i64_wrap (by omega) (by omega)) | exact GO.conv rfl rfl rfl rfl rfl) ?_
    | refine GT.skip ?_
    | refine GT.block ?_
    | refine GT.ret ?_
    | refine GT.exit ?_
    | refine GP.thenR ?_
    | refine GP.thenE ?_
    | refine GP.inN ?_
    | refine GP.inR ?_
    | refine GP.hit ?_
    | refine GP.miss rfl ?_
    | refine GP.againN ?_
    | refine GP.againR ?_
    | refine GP.againE ?_
    | refine GP.invR ?_
    | refine GP.invE ?_
    | refine GU.step ?_
    | refine GT.condT rfl ?_
    | refine GT.condF rfl ?_
    | (refine GT.condD rfl (fun h => ?_) (fun h => ?_) <;> try (exfalso; omega))
    | (refine GT.condN rfl (fun h => ?_) (fun h => ?_) <;> try (exfalso; omega))
    | (refine GT.condB rfl (fun h => ?_) (fun h => ?_))
    | (refine GL.forkD rfl rfl (fun h => ?_) (fun h => ?_) <;> try (exfalso; omega))
    | (refine GL.forkN rfl rfl (fun h => ?_) (fun h => ?_) <;> try (exfalso; omega))
    | (refine GL.forkB rfl rfl (fun h => ?_) (fun h => ?_))
    | refine GP.endR1 rfl ?_
    | refine GP.endR2 rfl ?_
    | refine GP.endN1 rfl ?_
    | refine GP.endR3 rfl ?_
    | refine GP.endN0 rfl ?_
    | refine GP.endR0 rfl ?_)
  refine GT.draws [[], [0], [0, 1], [0, 1, 2], [], [], [4, 5], [0, 1, 2, 3, 4, 5, 6], [0, 1, 2, 3, 4, 5, 6, 7], [0, 1, 2, 3, 4, 5, 6, 7, 8], [0, 1, 2, 3, 4, 5, 6, 7, 8, 9]] [8] (by kernel_rfl) ?_
  repeat' (first
    | refine GD.light rfl rfl (by first | exact onAt.none rfl | exact onAt.yes rfl rfl rfl) rfl (by first | exact AllMs.cons rfl (astepF_sound rfl) (.nil rfl) | exact AllMs.cons rfl (astep_sound rfl) (.nil rfl) | exact AllMs.cons rfl (astep_sound rfl) (.cons rfl (astep_sound rfl) (.nil rfl)) | exact AllMs.cons rfl (astep_sound rfl) (.cons rfl (astep_sound rfl) (.cons rfl (astep_sound rfl) (.nil rfl))) | exact AllMs.cons rfl (GO.call rfl rfl Try.func34 rfl rfl rfl (isName_near)).run (.nil rfl) | exact AllMs.cons rfl (GO.call rfl rfl Try.func34 rfl rfl rfl (isName_near)).run (.cons rfl (GO.call rfl rfl Try.func34 rfl rfl rfl (isName_near)).run (.nil rfl)) | exact AllMs.cons rfl (GO.call rfl rfl Try.func32 rfl rfl rfl (when32 _ _)).run (.nil rfl) | exact AllMs.cons rfl (GO.call rfl rfl Try.func32 rfl rfl rfl (when32 _ _)).run (.cons rfl (GO.call rfl rfl Try.func32 rfl rfl rfl (when32 _ _)).run (.nil rfl)) | exact AllMs.cons rfl (GO.call rfl rfl Try.func28 rfl rfl rfl (first28 [whenI (!true) 8, whenI false 9] rfl rfl rfl)).run (.nil rfl) | exact AllMs.cons rfl (GO.call rfl rfl Try.func28 rfl rfl rfl (first28 [whenI (!true) 8, whenI false 9] rfl rfl rfl)).run (.cons rfl (GO.call rfl rfl Try.func28 rfl rfl rfl (first28 [whenI (!true) 8, whenI false 9] rfl rfl rfl)).run (.nil rfl)) | exact AllMs.cons rfl (GO.add rfl rfl rfl (by omega)).run (.nil rfl) | exact AllMs.cons rfl (GO.add rfl rfl rfl (by omega)).run (.cons rfl (GO.add rfl rfl rfl (by omega)).run (.nil rfl)) | exact AllMs.cons rfl (GO.sub rfl rfl rfl (by omega)).run (.nil rfl) | exact AllMs.cons rfl (GO.sub rfl rfl rfl (by omega)).run (.cons rfl (GO.sub rfl rfl rfl (by omega)).run (.nil rfl)) | exact AllMs.cons rfl (GO.mul rfl rfl rfl (by omega)).run (.nil rfl) | exact AllMs.cons rfl (GO.mul rfl rfl rfl (by omega)).run (.cons rfl (GO.mul rfl rfl rfl (by omega)).run (.nil rfl)) | exact AllMs.cons rfl (GO.rem rfl rfl rfl (by omega) (by omega)).run (.nil rfl) | exact AllMs.cons rfl (GO.rem rfl rfl rfl (by omega) (by omega)).run (.cons rfl (GO.rem rfl rfl rfl (by omega) (by omega)).run (.nil rfl)) | exact AllMs.cons rfl (GO.quo rfl rfl rfl (by omega) (by omega)).run (.nil rfl) | exact AllMs.cons rfl (GO.quo rfl rfl rfl (by omega) (by omega)).run (.cons rfl (GO.quo rfl rfl rfl (by omega) (by omega)).run (.nil rfl)) | exact AllMs.cons rfl (GO.neg rfl rfl (by omega)).run (.nil rfl) | exact AllMs.cons rfl (GO.neg rfl rfl (by omega)).run (.cons rfl (GO.neg rfl rfl (by omega)).run (.nil rfl)) | exact AllMs.cons rfl (GO.conv rfl rfl rfl rfl (i64_wrap (by omega) (by omega))).run (.nil rfl) | exact AllMs.cons rfl (GO.conv rfl rfl rfl rfl (i64_wrap (by omega) (by omega))).run (.cons rfl (GO.conv rfl rfl rfl rfl (i64_wrap (by omega) (by omega))).run (.nil rfl)) | exact AllMs.cons rfl (GO.conv rfl rfl rfl rfl rfl).run (.nil rfl) | exact AllMs.cons rfl (GO.conv rfl rfl rfl rfl rfl).run (.cons rfl (GO.conv rfl rfl rfl rfl rfl).run (.nil rfl))) ?_
    | refine GD.off rfl rfl rfl rfl rfl (by first | exact .inl rfl | exact .inr rfl) rfl ?_
    | refine GD.heavy rfl rfl rfl (by first | exact onAt.none rfl | exact onAt.yes rfl rfl rfl) rfl (by first | exact astepF_sound rfl | exact astep_sound rfl | exact (GO.call rfl rfl Try.func34 rfl rfl rfl (isName_near)).run | exact (GO.call rfl rfl Try.func32 rfl rfl rfl (when32 _ _)).run | exact (GO.call rfl rfl Try.func28 rfl rfl rfl (first28 [whenI (!true) 8, whenI false 9] rfl rfl rfl)).run) (by repeat first | exact .nil rfl | refine .cons rfl (by first | exact again.one rfl rfl rfl (astep_sound rfl) | exact again.off rfl rfl rfl rfl (by first | exact .inl rfl | exact .inr rfl) rfl rfl | exact again.one rfl rfl rfl (GO.call rfl rfl Try.func34 rfl rfl rfl (isName_near)).run | exact again.one rfl rfl rfl (GO.call rfl rfl Try.func32 rfl rfl rfl (when32 _ _)).run | exact again.one rfl rfl rfl (GO.call rfl rfl Try.func28 rfl rfl rfl (first28 [whenI (!true) 8, whenI false 9] rfl rfl rfl)).run | exact again.one rfl rfl rfl (GO.add rfl rfl rfl (by omega)).run | exact again.one rfl rfl rfl (GO.sub rfl rfl rfl (by omega)).run | exact again.one rfl rfl rfl (GO.mul rfl rfl rfl (by omega)).run | exact again.one rfl rfl rfl (GO.rem rfl rfl rfl (by omega) (by omega)).run | exact again.one rfl rfl rfl (GO.quo rfl rfl rfl (by omega) (by omega)).run | exact again.one rfl rfl rfl (GO.neg rfl rfl (by omega)).run | exact again.one rfl rfl rfl (GO.conv rfl rfl rfl rfl (i64_wrap (by omega) (by omega))).run | exact again.one rfl rfl rfl (GO.conv rfl rfl rfl rfl rfl).run) ?_) ?_
    | refine GD.heavyF rfl rfl rfl (by first | exact onAt.none rfl | exact onAt.yes rfl rfl rfl) rfl rfl (by repeat first | exact .nil rfl | refine .cons rfl (by first | exact again.one rfl rfl rfl (astep_sound rfl) | exact again.off rfl rfl rfl rfl (by first | exact .inl rfl | exact .inr rfl) rfl rfl | exact again.one rfl rfl rfl (GO.call rfl rfl Try.func34 rfl rfl rfl (isName_near)).run | exact again.one rfl rfl rfl (GO.call rfl rfl Try.func32 rfl rfl rfl (when32 _ _)).run | exact again.one rfl rfl rfl (GO.call rfl rfl Try.func28 rfl rfl rfl (first28 [whenI (!true) 8, whenI false 9] rfl rfl rfl)).run | exact again.one rfl rfl rfl (GO.add rfl rfl rfl (by omega)).run | exact again.one rfl rfl rfl (GO.sub rfl rfl rfl (by omega)).run | exact again.one rfl rfl rfl (GO.mul rfl rfl rfl (by omega)).run | exact again.one rfl rfl rfl (GO.rem rfl rfl rfl (by omega) (by omega)).run | exact again.one rfl rfl rfl (GO.quo rfl rfl rfl (by omega) (by omega)).run | exact again.one rfl rfl rfl (GO.neg rfl rfl (by omega)).run | exact again.one rfl rfl rfl (GO.conv rfl rfl rfl rfl (i64_wrap (by omega) (by omega))).run | exact again.one rfl rfl rfl (GO.conv rfl rfl rfl rfl rfl).run) ?_) ?_
    | refine GD.heavyN rfl rfl rfl (by first | exact onAt.none rfl | exact onAt.yes rfl rfl rfl) rfl rfl (by repeat first | exact .nil rfl | refine .cons rfl (by first | exact again.one rfl rfl rfl (astep_sound rfl) | exact again.off rfl rfl rfl rfl (by first | exact .inl rfl | exact .inr rfl) rfl rfl | exact again.one rfl rfl rfl (GO.call rfl rfl Try.func34 rfl rfl rfl (isName_near)).run | exact again.one rfl rfl rfl (GO.call rfl rfl Try.func32 rfl rfl rfl (when32 _ _)).run | exact again.one rfl rfl rfl (GO.call rfl rfl Try.func28 rfl rfl rfl (first28 [whenI (!true) 8, whenI false 9] rfl rfl rfl)).run | exact again.one rfl rfl rfl (GO.add rfl rfl rfl (by omega)).run | exact again.one rfl rfl rfl (GO.sub rfl rfl rfl (by omega)).run | exact again.one rfl rfl rfl (GO.mul rfl rfl rfl (by omega)).run | exact again.one rfl rfl rfl (GO.rem rfl rfl rfl (by omega) (by omega)).run | exact again.one rfl rfl rfl (GO.quo rfl rfl rfl (by omega) (by omega)).run | exact again.one rfl rfl rfl (GO.neg rfl rfl (by omega)).run | exact again.one rfl rfl rfl (GO.conv rfl rfl rfl rfl (i64_wrap (by omega) (by omega))).run | exact again.one rfl rfl rfl (GO.conv rfl rfl rfl rfl rfl).run) ?_) ?_
    | refine GD.done rfl rfl rfl ?_
    | (refine GD.forkD rfl rfl rfl rfl (fun h => ?_) (fun h => ?_) <;> try (exfalso; omega))
    | (refine GD.forkN rfl rfl rfl rfl (fun h => ?_) (fun h => ?_) <;> try (exfalso; omega))
    | refine GD.forkB rfl rfl rfl rfl (fun h => ?_) (fun h => ?_))
  repeat' (first
    | refine GL.sf rfl rfl rfl rfl ?_
    | refine GL.nf rfl rfl rfl ?_
    | refine GL.sv rfl rfl rfl rfl ?_
    | refine GL.sn rfl rfl rfl ?_
    | refine GL.done ?_
    | refine GP.thenN ?_
    | refine GT.seq ?_
    | refine GT.region ?_
    | refine GL.unguard rfl rfl ?_
    | refine GL.skip rfl rfl rfl rfl ?_
    | refine GL.skipU rfl rfl rfl rfl ?_
    | refine GL.v rfl rfl rfl (by first | exact GO.add rfl rfl rfl (by omega) | exact GO.sub rfl rfl rfl (by omega) | exact GO.mul rfl rfl rfl (by omega) | exact GO.rem rfl rfl rfl (by omega) (by omega) | exact GO.quo rfl rfl rfl (by omega) (by omega) | exact GO.neg rfl rfl (by omega) | exact GO.conv rfl rfl rfl rfl (i64_wrap (by omega) (by omega)) | exact GO.conv rfl rfl rfl rfl rfl) ?_
    | refine GT.skip ?_
    | refine GT.block ?_
    | refine GT.ret ?_
    | refine GT.exit ?_
    | refine GP.thenR ?_
    | refine GP.thenE ?_
    | refine GP.inN ?_
    | refine GP.inR ?_
    | refine GP.hit ?_
    | refine GP.miss rfl ?_
    | refine GP.againN ?_
    | refine GP.againR ?_
    | refine GP.againE ?_
    | refine GP.invR ?_
    | refine GP.invE ?_
    | refine GU.step ?_
    | refine GT.condT rfl ?_
    | refine GT.condF rfl ?_
    | (refine GT.condD rfl (fun h => ?_) (fun h => ?_) <;> try (exfalso; omega))
    | (refine GT.condN rfl (fun h => ?_) (fun h => ?_) <;> try (exfalso; omega))
    | (refine GT.condB rfl (fun h => ?_) (fun h => ?_))
    | (refine GL.forkD rfl rfl (fun h => ?_) (fun h => ?_) <;> try (exfalso; omega))
    | (refine GL.forkN rfl rfl (fun h => ?_) (fun h => ?_) <;> try (exfalso; omega))
    | (refine GL.forkB rfl rfl (fun h => ?_) (fun h => ?_))
    | refine GP.endR1 rfl ?_
    | refine GP.endR2 rfl ?_
    | refine GP.endN1 rfl ?_
    | refine GP.endR3 rfl ?_
    | refine GP.endN0 rfl ?_
    | refine GP.endR0 rfl ?_)
  rfl
theorem name_e {A : AW} {b : Nat} (h : A.objs b = some (.map [⟨.string ⟨#[110, 101, 97, 114]⟩, .bool true, 0⟩] 1)) : AC Try.prog 29 [.string ⟨#[116, 104, 101, 111, 100, 111, 108, 105, 116, 101]⟩, .map (some b)] A (isR (.int .i64 0) A) := by
  refine AC.is1 (o := .map [⟨.string ⟨#[110, 101, 97, 114]⟩, .bool true, 0⟩] 1) (args := [.string ⟨#[116, 104, 101, 111, 100, 111, 108, 105, 116, 101]⟩, .map (some 0)]) ?_ ⟨8, rfl⟩ (b := b) (g := 0) ⟨h, 8, rfl⟩ (.flat (k := 8) rfl (.map rfl .nil))
  refine AC.go Try.func29 rfl rfl ?_
  repeat' (first
    | refine GL.sf rfl rfl rfl rfl ?_
    | refine GL.nf rfl rfl rfl ?_
    | refine GL.sv rfl rfl rfl rfl ?_
    | refine GL.sn rfl rfl rfl ?_
    | refine GL.done ?_
    | refine GP.thenN ?_
    | refine GT.seq ?_
    | refine GT.region ?_
    | refine GL.unguard rfl rfl ?_
    | refine GL.skip rfl rfl rfl rfl ?_
    | refine GL.skipU rfl rfl rfl rfl ?_
    | refine GL.v rfl rfl rfl (by first | exact GO.add rfl rfl rfl (by omega) | exact GO.sub rfl rfl rfl (by omega) | exact GO.mul rfl rfl rfl (by omega) | exact GO.rem rfl rfl rfl (by omega) (by omega) | exact GO.quo rfl rfl rfl (by omega) (by omega) | exact GO.neg rfl rfl (by omega) | exact GO.conv rfl rfl rfl rfl (i64_wrap (by omega) (by omega)) | exact GO.conv rfl rfl rfl rfl rfl) ?_
    | refine GT.skip ?_
    | refine GT.block ?_
    | refine GT.ret ?_
    | refine GT.exit ?_
    | refine GP.thenR ?_
    | refine GP.thenE ?_
    | refine GP.inN ?_
    | refine GP.inR ?_
    | refine GP.hit ?_
    | refine GP.miss rfl ?_
    | refine GP.againN ?_
    | refine GP.againR ?_
    | refine GP.againE ?_
    | refine GP.invR ?_
    | refine GP.invE ?_
    | refine GU.step ?_
    | refine GT.condT rfl ?_
    | refine GT.condF rfl ?_
    | (refine GT.condD rfl (fun h => ?_) (fun h => ?_) <;> try (exfalso; omega))
    | (refine GT.condN rfl (fun h => ?_) (fun h => ?_) <;> try (exfalso; omega))
    | (refine GT.condB rfl (fun h => ?_) (fun h => ?_))
    | (refine GL.forkD rfl rfl (fun h => ?_) (fun h => ?_) <;> try (exfalso; omega))
    | (refine GL.forkN rfl rfl (fun h => ?_) (fun h => ?_) <;> try (exfalso; omega))
    | (refine GL.forkB rfl rfl (fun h => ?_) (fun h => ?_))
    | refine GP.endR1 rfl ?_
    | refine GP.endR2 rfl ?_
    | refine GP.endN1 rfl ?_
    | refine GP.endR3 rfl ?_
    | refine GP.endN0 rfl ?_
    | refine GP.endR0 rfl ?_)
  refine GT.draws [[], [0], [0, 1], [0, 1, 2], [], [], [4, 5], [0, 1, 2, 3, 4, 5, 6], [0, 1, 2, 3, 4, 5, 6, 7], [0, 1, 2, 3, 4, 5, 6, 7, 8], [0, 1, 2, 3, 4, 5, 6, 7, 8, 9]] [8] (by kernel_rfl) ?_
  repeat' (first
    | refine GD.light rfl rfl (by first | exact onAt.none rfl | exact onAt.yes rfl rfl rfl) rfl (by first | exact AllMs.cons rfl (astepF_sound rfl) (.nil rfl) | exact AllMs.cons rfl (astep_sound rfl) (.nil rfl) | exact AllMs.cons rfl (astep_sound rfl) (.cons rfl (astep_sound rfl) (.nil rfl)) | exact AllMs.cons rfl (astep_sound rfl) (.cons rfl (astep_sound rfl) (.cons rfl (astep_sound rfl) (.nil rfl))) | exact AllMs.cons rfl (GO.call rfl rfl Try.func34 rfl rfl rfl (isName_theo)).run (.nil rfl) | exact AllMs.cons rfl (GO.call rfl rfl Try.func34 rfl rfl rfl (isName_theo)).run (.cons rfl (GO.call rfl rfl Try.func34 rfl rfl rfl (isName_theo)).run (.nil rfl)) | exact AllMs.cons rfl (GO.call rfl rfl Try.func32 rfl rfl rfl (when32 _ _)).run (.nil rfl) | exact AllMs.cons rfl (GO.call rfl rfl Try.func32 rfl rfl rfl (when32 _ _)).run (.cons rfl (GO.call rfl rfl Try.func32 rfl rfl rfl (when32 _ _)).run (.nil rfl)) | exact AllMs.cons rfl (GO.call rfl rfl Try.func28 rfl rfl rfl (first28 [whenI (!true) 8, whenI false 9] rfl rfl rfl)).run (.nil rfl) | exact AllMs.cons rfl (GO.call rfl rfl Try.func28 rfl rfl rfl (first28 [whenI (!true) 8, whenI false 9] rfl rfl rfl)).run (.cons rfl (GO.call rfl rfl Try.func28 rfl rfl rfl (first28 [whenI (!true) 8, whenI false 9] rfl rfl rfl)).run (.nil rfl)) | exact AllMs.cons rfl (GO.add rfl rfl rfl (by omega)).run (.nil rfl) | exact AllMs.cons rfl (GO.add rfl rfl rfl (by omega)).run (.cons rfl (GO.add rfl rfl rfl (by omega)).run (.nil rfl)) | exact AllMs.cons rfl (GO.sub rfl rfl rfl (by omega)).run (.nil rfl) | exact AllMs.cons rfl (GO.sub rfl rfl rfl (by omega)).run (.cons rfl (GO.sub rfl rfl rfl (by omega)).run (.nil rfl)) | exact AllMs.cons rfl (GO.mul rfl rfl rfl (by omega)).run (.nil rfl) | exact AllMs.cons rfl (GO.mul rfl rfl rfl (by omega)).run (.cons rfl (GO.mul rfl rfl rfl (by omega)).run (.nil rfl)) | exact AllMs.cons rfl (GO.rem rfl rfl rfl (by omega) (by omega)).run (.nil rfl) | exact AllMs.cons rfl (GO.rem rfl rfl rfl (by omega) (by omega)).run (.cons rfl (GO.rem rfl rfl rfl (by omega) (by omega)).run (.nil rfl)) | exact AllMs.cons rfl (GO.quo rfl rfl rfl (by omega) (by omega)).run (.nil rfl) | exact AllMs.cons rfl (GO.quo rfl rfl rfl (by omega) (by omega)).run (.cons rfl (GO.quo rfl rfl rfl (by omega) (by omega)).run (.nil rfl)) | exact AllMs.cons rfl (GO.neg rfl rfl (by omega)).run (.nil rfl) | exact AllMs.cons rfl (GO.neg rfl rfl (by omega)).run (.cons rfl (GO.neg rfl rfl (by omega)).run (.nil rfl)) | exact AllMs.cons rfl (GO.conv rfl rfl rfl rfl (i64_wrap (by omega) (by omega))).run (.nil rfl) | exact AllMs.cons rfl (GO.conv rfl rfl rfl rfl (i64_wrap (by omega) (by omega))).run (.cons rfl (GO.conv rfl rfl rfl rfl (i64_wrap (by omega) (by omega))).run (.nil rfl)) | exact AllMs.cons rfl (GO.conv rfl rfl rfl rfl rfl).run (.nil rfl) | exact AllMs.cons rfl (GO.conv rfl rfl rfl rfl rfl).run (.cons rfl (GO.conv rfl rfl rfl rfl rfl).run (.nil rfl))) ?_
    | refine GD.off rfl rfl rfl rfl rfl (by first | exact .inl rfl | exact .inr rfl) rfl ?_
    | refine GD.heavy rfl rfl rfl (by first | exact onAt.none rfl | exact onAt.yes rfl rfl rfl) rfl (by first | exact astepF_sound rfl | exact astep_sound rfl | exact (GO.call rfl rfl Try.func34 rfl rfl rfl (isName_theo)).run | exact (GO.call rfl rfl Try.func32 rfl rfl rfl (when32 _ _)).run | exact (GO.call rfl rfl Try.func28 rfl rfl rfl (first28 [whenI (!true) 8, whenI false 9] rfl rfl rfl)).run) (by repeat first | exact .nil rfl | refine .cons rfl (by first | exact again.one rfl rfl rfl (astep_sound rfl) | exact again.off rfl rfl rfl rfl (by first | exact .inl rfl | exact .inr rfl) rfl rfl | exact again.one rfl rfl rfl (GO.call rfl rfl Try.func34 rfl rfl rfl (isName_theo)).run | exact again.one rfl rfl rfl (GO.call rfl rfl Try.func32 rfl rfl rfl (when32 _ _)).run | exact again.one rfl rfl rfl (GO.call rfl rfl Try.func28 rfl rfl rfl (first28 [whenI (!true) 8, whenI false 9] rfl rfl rfl)).run | exact again.one rfl rfl rfl (GO.add rfl rfl rfl (by omega)).run | exact again.one rfl rfl rfl (GO.sub rfl rfl rfl (by omega)).run | exact again.one rfl rfl rfl (GO.mul rfl rfl rfl (by omega)).run | exact again.one rfl rfl rfl (GO.rem rfl rfl rfl (by omega) (by omega)).run | exact again.one rfl rfl rfl (GO.quo rfl rfl rfl (by omega) (by omega)).run | exact again.one rfl rfl rfl (GO.neg rfl rfl (by omega)).run | exact again.one rfl rfl rfl (GO.conv rfl rfl rfl rfl (i64_wrap (by omega) (by omega))).run | exact again.one rfl rfl rfl (GO.conv rfl rfl rfl rfl rfl).run) ?_) ?_
    | refine GD.heavyF rfl rfl rfl (by first | exact onAt.none rfl | exact onAt.yes rfl rfl rfl) rfl rfl (by repeat first | exact .nil rfl | refine .cons rfl (by first | exact again.one rfl rfl rfl (astep_sound rfl) | exact again.off rfl rfl rfl rfl (by first | exact .inl rfl | exact .inr rfl) rfl rfl | exact again.one rfl rfl rfl (GO.call rfl rfl Try.func34 rfl rfl rfl (isName_theo)).run | exact again.one rfl rfl rfl (GO.call rfl rfl Try.func32 rfl rfl rfl (when32 _ _)).run | exact again.one rfl rfl rfl (GO.call rfl rfl Try.func28 rfl rfl rfl (first28 [whenI (!true) 8, whenI false 9] rfl rfl rfl)).run | exact again.one rfl rfl rfl (GO.add rfl rfl rfl (by omega)).run | exact again.one rfl rfl rfl (GO.sub rfl rfl rfl (by omega)).run | exact again.one rfl rfl rfl (GO.mul rfl rfl rfl (by omega)).run | exact again.one rfl rfl rfl (GO.rem rfl rfl rfl (by omega) (by omega)).run | exact again.one rfl rfl rfl (GO.quo rfl rfl rfl (by omega) (by omega)).run | exact again.one rfl rfl rfl (GO.neg rfl rfl (by omega)).run | exact again.one rfl rfl rfl (GO.conv rfl rfl rfl rfl (i64_wrap (by omega) (by omega))).run | exact again.one rfl rfl rfl (GO.conv rfl rfl rfl rfl rfl).run) ?_) ?_
    | refine GD.heavyN rfl rfl rfl (by first | exact onAt.none rfl | exact onAt.yes rfl rfl rfl) rfl rfl (by repeat first | exact .nil rfl | refine .cons rfl (by first | exact again.one rfl rfl rfl (astep_sound rfl) | exact again.off rfl rfl rfl rfl (by first | exact .inl rfl | exact .inr rfl) rfl rfl | exact again.one rfl rfl rfl (GO.call rfl rfl Try.func34 rfl rfl rfl (isName_theo)).run | exact again.one rfl rfl rfl (GO.call rfl rfl Try.func32 rfl rfl rfl (when32 _ _)).run | exact again.one rfl rfl rfl (GO.call rfl rfl Try.func28 rfl rfl rfl (first28 [whenI (!true) 8, whenI false 9] rfl rfl rfl)).run | exact again.one rfl rfl rfl (GO.add rfl rfl rfl (by omega)).run | exact again.one rfl rfl rfl (GO.sub rfl rfl rfl (by omega)).run | exact again.one rfl rfl rfl (GO.mul rfl rfl rfl (by omega)).run | exact again.one rfl rfl rfl (GO.rem rfl rfl rfl (by omega) (by omega)).run | exact again.one rfl rfl rfl (GO.quo rfl rfl rfl (by omega) (by omega)).run | exact again.one rfl rfl rfl (GO.neg rfl rfl (by omega)).run | exact again.one rfl rfl rfl (GO.conv rfl rfl rfl rfl (i64_wrap (by omega) (by omega))).run | exact again.one rfl rfl rfl (GO.conv rfl rfl rfl rfl rfl).run) ?_) ?_
    | refine GD.done rfl rfl rfl ?_
    | (refine GD.forkD rfl rfl rfl rfl (fun h => ?_) (fun h => ?_) <;> try (exfalso; omega))
    | (refine GD.forkN rfl rfl rfl rfl (fun h => ?_) (fun h => ?_) <;> try (exfalso; omega))
    | refine GD.forkB rfl rfl rfl rfl (fun h => ?_) (fun h => ?_))
  repeat' (first
    | refine GL.sf rfl rfl rfl rfl ?_
    | refine GL.nf rfl rfl rfl ?_
    | refine GL.sv rfl rfl rfl rfl ?_
    | refine GL.sn rfl rfl rfl ?_
    | refine GL.done ?_
    | refine GP.thenN ?_
    | refine GT.seq ?_
    | refine GT.region ?_
    | refine GL.unguard rfl rfl ?_
    | refine GL.skip rfl rfl rfl rfl ?_
    | refine GL.skipU rfl rfl rfl rfl ?_
    | refine GL.v rfl rfl rfl (by first | exact GO.add rfl rfl rfl (by omega) | exact GO.sub rfl rfl rfl (by omega) | exact GO.mul rfl rfl rfl (by omega) | exact GO.rem rfl rfl rfl (by omega) (by omega) | exact GO.quo rfl rfl rfl (by omega) (by omega) | exact GO.neg rfl rfl (by omega) | exact GO.conv rfl rfl rfl rfl (i64_wrap (by omega) (by omega)) | exact GO.conv rfl rfl rfl rfl rfl) ?_
    | refine GT.skip ?_
    | refine GT.block ?_
    | refine GT.ret ?_
    | refine GT.exit ?_
    | refine GP.thenR ?_
    | refine GP.thenE ?_
    | refine GP.inN ?_
    | refine GP.inR ?_
    | refine GP.hit ?_
    | refine GP.miss rfl ?_
    | refine GP.againN ?_
    | refine GP.againR ?_
    | refine GP.againE ?_
    | refine GP.invR ?_
    | refine GP.invE ?_
    | refine GU.step ?_
    | refine GT.condT rfl ?_
    | refine GT.condF rfl ?_
    | (refine GT.condD rfl (fun h => ?_) (fun h => ?_) <;> try (exfalso; omega))
    | (refine GT.condN rfl (fun h => ?_) (fun h => ?_) <;> try (exfalso; omega))
    | (refine GT.condB rfl (fun h => ?_) (fun h => ?_))
    | (refine GL.forkD rfl rfl (fun h => ?_) (fun h => ?_) <;> try (exfalso; omega))
    | (refine GL.forkN rfl rfl (fun h => ?_) (fun h => ?_) <;> try (exfalso; omega))
    | (refine GL.forkB rfl rfl (fun h => ?_) (fun h => ?_))
    | refine GP.endR1 rfl ?_
    | refine GP.endR2 rfl ?_
    | refine GP.endN1 rfl ?_
    | refine GP.endR3 rfl ?_
    | refine GP.endN0 rfl ?_
    | refine GP.endR0 rfl ?_)
  rfl
theorem mapped25 {A : AW} {b f : Nat} (a0 b0 a1 b1 a2 b2 : Int) (h0 : -1000000 ≤ a0 ∧ a0 ≤ b0 ∧ b0 ≤ 1000000) (h1 : -1000000 ≤ a1 ∧ a1 ≤ b1 ∧ b1 ≤ 1000000) (h2 : -1000000 ≤ a2 ∧ a2 ≤ b2 ∧ b2 ≤ 1000000)
    (h : A.rd b f 6 = some [.int .i64 a0, .int .i64 b0, .int .i64 a1, .int .i64 b1, .int .i64 a2, .int .i64 b2]) : AC Try.prog 25 [.slice (some ⟨b, f, none⟩) 3 3, .func (.func 26) #[] #[]] A (isR (.slice (some ⟨A.next, 0, none⟩) 3 3) (A.push (.cells [.int .i64 0, .int .i64 0, .int .i64 0] 34))) := by
  refine AC.gives1 (x := .cells [.int .i64 a0, .int .i64 b0, .int .i64 a1, .int .i64 b1, .int .i64 a2, .int .i64 b2] 33) (b := b) (g := f) (args := [.slice (some ⟨0, 0, none⟩) 3 3, .func (.func 26) #[] #[]]) ?_ ⟨8, rfl⟩ ⟨h, 16, rfl⟩ (.sl (g := 0) rfl rfl (.flat (k := 8) rfl .nil))
  refine AC.go Try.func25 rfl rfl ?_
  repeat' (first
    | refine GL.sf rfl rfl rfl rfl ?_
    | refine GL.nf rfl rfl rfl ?_
    | refine GL.sv rfl rfl rfl rfl ?_
    | refine GL.sn rfl rfl rfl ?_
    | refine GL.done ?_
    | refine GP.thenN ?_
    | refine GT.seq ?_
    | refine GT.region ?_
    | refine GL.unguard rfl rfl ?_
    | refine GL.skip rfl rfl rfl rfl ?_
    | refine GL.skipU rfl rfl rfl rfl ?_
    | refine GL.v rfl rfl rfl (by first | exact GO.add rfl rfl rfl (by omega) | exact GO.sub rfl rfl rfl (by omega) | exact GO.mul rfl rfl rfl (by omega) | exact GO.rem rfl rfl rfl (by omega) (by omega) | exact GO.quo rfl rfl rfl (by omega) (by omega) | exact GO.neg rfl rfl (by omega) | exact GO.conv rfl rfl rfl rfl (i64_wrap (by omega) (by omega)) | exact GO.conv rfl rfl rfl rfl rfl) ?_
    | refine GT.skip ?_
    | refine GT.block ?_
    | refine GT.ret ?_
    | refine GT.exit ?_
    | refine GP.thenR ?_
    | refine GP.thenE ?_
    | refine GP.inN ?_
    | refine GP.inR ?_
    | refine GP.hit ?_
    | refine GP.miss rfl ?_
    | refine GP.againN ?_
    | refine GP.againR ?_
    | refine GP.againE ?_
    | refine GP.invR ?_
    | refine GP.invE ?_
    | refine GU.step ?_
    | refine GT.condT rfl ?_
    | refine GT.condF rfl ?_
    | (refine GT.condD rfl (fun h => ?_) (fun h => ?_) <;> try (exfalso; omega))
    | (refine GT.condN rfl (fun h => ?_) (fun h => ?_) <;> try (exfalso; omega))
    | (refine GT.condB rfl (fun h => ?_) (fun h => ?_))
    | (refine GL.forkD rfl rfl (fun h => ?_) (fun h => ?_) <;> try (exfalso; omega))
    | (refine GL.forkN rfl rfl (fun h => ?_) (fun h => ?_) <;> try (exfalso; omega))
    | (refine GL.forkB rfl rfl (fun h => ?_) (fun h => ?_))
    | refine GP.endR1 rfl ?_
    | refine GP.endR2 rfl ?_
    | refine GP.endN1 rfl ?_
    | refine GP.endR3 rfl ?_
    | refine GP.endN0 rfl ?_
    | refine GP.endR0 rfl ?_)
  refine GT.unroll 4 ?_
  repeat' (first
    | refine GL.sf rfl rfl rfl rfl ?_
    | refine GL.nf rfl rfl rfl ?_
    | refine GL.sv rfl rfl rfl rfl ?_
    | refine GL.sn rfl rfl rfl ?_
    | refine GL.done ?_
    | refine GP.thenN ?_
    | refine GT.seq ?_
    | refine GT.region ?_
    | refine GL.unguard rfl rfl ?_
    | refine GL.skip rfl rfl rfl rfl ?_
    | refine GL.skipU rfl rfl rfl rfl ?_
    | refine GL.v rfl rfl rfl (by first | exact GO.callV rfl rfl rfl Try.func26 rfl rfl rfl (clos26 _ _ (by omega)) | exact GO.add rfl rfl rfl (by omega) | exact GO.sub rfl rfl rfl (by omega) | exact GO.mul rfl rfl rfl (by omega) | exact GO.rem rfl rfl rfl (by omega) (by omega) | exact GO.quo rfl rfl rfl (by omega) (by omega) | exact GO.neg rfl rfl (by omega) | exact GO.conv rfl rfl rfl rfl (i64_wrap (by omega) (by omega)) | exact GO.conv rfl rfl rfl rfl rfl) ?_
    | refine GT.skip ?_
    | refine GT.block ?_
    | refine GT.ret ?_
    | refine GT.exit ?_
    | refine GP.thenR ?_
    | refine GP.thenE ?_
    | refine GP.inN ?_
    | refine GP.inR ?_
    | refine GP.hit ?_
    | refine GP.miss rfl ?_
    | refine GP.againN ?_
    | refine GP.againR ?_
    | refine GP.againE ?_
    | refine GP.invR ?_
    | refine GP.invE ?_
    | refine GU.step ?_
    | refine GT.condT rfl ?_
    | refine GT.condF rfl ?_
    | (refine GT.condD rfl (fun h => ?_) (fun h => ?_) <;> try (exfalso; omega))
    | (refine GT.condN rfl (fun h => ?_) (fun h => ?_) <;> try (exfalso; omega))
    | (refine GT.condB rfl (fun h => ?_) (fun h => ?_))
    | (refine GL.forkD rfl rfl (fun h => ?_) (fun h => ?_) <;> try (exfalso; omega))
    | (refine GL.forkN rfl rfl (fun h => ?_) (fun h => ?_) <;> try (exfalso; omega))
    | (refine GL.forkB rfl rfl (fun h => ?_) (fun h => ?_))
    | refine GP.endR1 rfl ?_
    | refine GP.endR2 rfl ?_
    | refine GP.endN1 rfl ?_
    | refine GP.endR3 rfl ?_
    | refine GP.endN0 rfl ?_
    | refine GP.endR0 rfl ?_)
  exact ⟨_, rfl, rfl, by decide⟩
end Go.M
