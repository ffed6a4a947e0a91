/- Functions of the given program, walked (no condition beyond what each theorem says). -/
import Derived.Test.YtfhodefiknfccaaT7
import Derived.Test.YtfhodefiknfccaaT7e
set_option linter.unusedVariables false
set_option linter.unusedSimpArgs false
namespace Go.M
open Go.Proofs
set_option maxRecDepth 8000
set_option maxHeartbeats 4000000
theorem meet22 {A : AW} {b f : Nat} {n0 n1 : ByteArray} (a0 b0 a1 b1 : Int) (h : A.rd b f 14 = some [.string n0, .int .i64 a0, .int .i64 b0, .int .i64 (-5), .int .i64 5, .int .i64 0, .int .i64 9, .string n1, .int .i64 a1, .int .i64 b1, .int .i64 (-5), .int .i64 5, .int .i64 0, .int .i64 9]) : AC Try.prog 18 [.slice (some ⟨b, f, none⟩) 2 2] A (isR (.tuple #[.agg #[.int .i64 (max a0 a1), .int .i64 (min b0 b1), .int .i64 (-5), .int .i64 5, .int .i64 0, .int .i64 9], .bool (decide (max a0 a1 ≤ min b0 b1))]) A) := by
  refine AC.is1 (o := .cells [.string n0, .int .i64 a0, .int .i64 b0, .int .i64 (-5), .int .i64 5, .int .i64 0, .int .i64 9, .string n1, .int .i64 a1, .int .i64 b1, .int .i64 (-5), .int .i64 5, .int .i64 0, .int .i64 9] 40) (b := b) (g := f) (args := [.slice (some ⟨0, 0, none⟩) 2 2]) ?_ ⟨16, rfl⟩ ⟨h, 64, rfl⟩ (.sl (g := 0) rfl rfl .nil)
  refine AC.go Try.func18 rfl rfl ?_
  clear h
  repeat' (first
    | refine GL.sf rfl rfl rfl rfl ?_
    | refine GL.nf rfl rfl rfl ?_
    | refine GL.sv rfl rfl rfl rfl ?_
    | refine GL.sn rfl rfl rfl ?_
    | refine GL.done ?_
    | refine GP.thenN ?_
    | refine GT.seq ?_
    | refine GT.region ?_
    | refine GL.unguard rfl rfl ?_
    | refine GL.skip rfl rfl rfl rfl ?_
    | refine GL.skipU rfl rfl rfl rfl ?_
    | refine GL.v rfl rfl rfl (by first | exact GO.add rfl rfl rfl (by omega) | exact GO.sub rfl rfl rfl (by omega) | exact GO.mul rfl rfl rfl (by omega) | exact GO.rem rfl rfl rfl (by omega) (by omega) | exact GO.quo rfl rfl rfl (by omega) (by omega) | exact GO.neg rfl rfl (by omega) | exact GO.conv rfl rfl rfl rfl (i64_wrap (by omega) (by omega)) | exact GO.conv rfl rfl rfl rfl rfl) ?_
    | refine GT.skip ?_
    | refine GT.block ?_
    | refine GT.ret ?_
    | refine GT.exit ?_
    | refine GP.thenR ?_
    | refine GP.thenE ?_
    | refine GP.inN ?_
    | refine GP.inR ?_
    | refine GP.hit ?_
    | refine GP.miss rfl ?_
    | refine GP.againN ?_
    | refine GP.againR ?_
    | refine GP.againE ?_
    | refine GP.invR ?_
    | refine GP.invE ?_
    | refine GU.step ?_
    | refine GT.condT rfl ?_
    | refine GT.condF rfl ?_
    | (refine GT.condD rfl (fun h => ?_) (fun h => ?_) <;> try (exfalso; omega))
    | (refine GT.condN rfl (fun h => ?_) (fun h => ?_) <;> try (exfalso; omega))
    | (refine GT.condB rfl (fun h => ?_) (fun h => ?_))
    | (refine GL.forkD rfl rfl (fun h => ?_) (fun h => ?_) <;> try (exfalso; omega))
    | (refine GL.forkN rfl rfl (fun h => ?_) (fun h => ?_) <;> try (exfalso; omega))
    | (refine GL.forkB rfl rfl (fun h => ?_) (fun h => ?_))
    | refine GP.endR1 rfl ?_
    | refine GP.endR2 rfl ?_
    | refine GP.endN1 rfl ?_
    | refine GP.endR3 rfl ?_
    | refine GP.endN0 rfl ?_
    | refine GP.endR0 rfl ?_)
  refine GT.unroll 2 ?_
  repeat' (first
    | refine GT.unroll 4 ?_
    | (refine GT.draws [[], [], [1], [1, 2], [], [1, 2, 3, 4], [0, 1, 2, 3, 4, 5], [0, 1, 2, 3, 4, 5, 6]] [7] (by kernel_rfl) ?_ <;> (repeat' (first | refine GD.light rfl rfl (by first | exact onAt.none rfl | exact onAt.yes rfl rfl rfl) rfl (by first | exact AllMs.cons rfl (astepF_sound rfl) (.nil rfl) | exact AllMs.cons rfl (astep_sound rfl) (.nil rfl) | exact AllMs.cons rfl (astep_sound rfl) (.cons rfl (astep_sound rfl) (.nil rfl)) | exact AllMs.cons rfl (astep_sound rfl) (.cons rfl (astep_sound rfl) (.cons rfl (astep_sound rfl) (.nil rfl))) | exact AllMs.cons rfl (GO.eq rfl rfl rfl rfl rfl Try.eqGuardType38 (aeq38 _ _ _ _ _ _ _ _ _ _ _ _) rfl).run (.nil rfl) | exact AllMs.cons rfl (GO.eq rfl rfl rfl rfl rfl Try.eqGuardType38 (aeq38 _ _ _ _ _ _ _ _ _ _ _ _) rfl).run (.cons rfl (GO.eq rfl rfl rfl rfl rfl Try.eqGuardType38 (aeq38 _ _ _ _ _ _ _ _ _ _ _ _) rfl).run (.nil rfl)) | exact AllMs.cons rfl (GO.call rfl rfl Try.func30 rfl rfl rfl (common30 _ _ _ _)).run (.nil rfl) | exact AllMs.cons rfl (GO.call rfl rfl Try.func30 rfl rfl rfl (common30 _ _ _ _)).run (.cons rfl (GO.call rfl rfl Try.func30 rfl rfl rfl (common30 _ _ _ _)).run (.nil rfl)) | exact AllMs.cons rfl (GO.add rfl rfl rfl (by omega)).run (.nil rfl) | exact AllMs.cons rfl (GO.add rfl rfl rfl (by omega)).run (.cons rfl (GO.add rfl rfl rfl (by omega)).run (.nil rfl)) | exact AllMs.cons rfl (GO.sub rfl rfl rfl (by omega)).run (.nil rfl) | exact AllMs.cons rfl (GO.sub rfl rfl rfl (by omega)).run (.cons rfl (GO.sub rfl rfl rfl (by omega)).run (.nil rfl)) | exact AllMs.cons rfl (GO.mul rfl rfl rfl (by omega)).run (.nil rfl) | exact AllMs.cons rfl (GO.mul rfl rfl rfl (by omega)).run (.cons rfl (GO.mul rfl rfl rfl (by omega)).run (.nil rfl)) | exact AllMs.cons rfl (GO.rem rfl rfl rfl (by omega) (by omega)).run (.nil rfl) | exact AllMs.cons rfl (GO.rem rfl rfl rfl (by omega) (by omega)).run (.cons rfl (GO.rem rfl rfl rfl (by omega) (by omega)).run (.nil rfl)) | exact AllMs.cons rfl (GO.quo rfl rfl rfl (by omega) (by omega)).run (.nil rfl) | exact AllMs.cons rfl (GO.quo rfl rfl rfl (by omega) (by omega)).run (.cons rfl (GO.quo rfl rfl rfl (by omega) (by omega)).run (.nil rfl)) | exact AllMs.cons rfl (GO.neg rfl rfl (by omega)).run (.nil rfl) | exact AllMs.cons rfl (GO.neg rfl rfl (by omega)).run (.cons rfl (GO.neg rfl rfl (by omega)).run (.nil rfl)) | exact AllMs.cons rfl (GO.conv rfl rfl rfl rfl (i64_wrap (by omega) (by omega))).run (.nil rfl) | exact AllMs.cons rfl (GO.conv rfl rfl rfl rfl (i64_wrap (by omega) (by omega))).run (.cons rfl (GO.conv rfl rfl rfl rfl (i64_wrap (by omega) (by omega))).run (.nil rfl)) | exact AllMs.cons rfl (GO.conv rfl rfl rfl rfl rfl).run (.nil rfl) | exact AllMs.cons rfl (GO.conv rfl rfl rfl rfl rfl).run (.cons rfl (GO.conv rfl rfl rfl rfl rfl).run (.nil rfl))) ?_ | refine GD.off rfl rfl rfl rfl rfl (by first | exact .inl rfl | exact .inr rfl) rfl ?_ | refine GD.heavy rfl rfl rfl (by first | exact onAt.none rfl | exact onAt.yes rfl rfl rfl) rfl (by first | exact astepF_sound rfl | exact astep_sound rfl | exact (GO.eq rfl rfl rfl rfl rfl Try.eqGuardType38 (aeq38 _ _ _ _ _ _ _ _ _ _ _ _) rfl).run | exact (GO.call rfl rfl Try.func30 rfl rfl rfl (common30 _ _ _ _)).run) (by repeat first | exact .nil rfl | refine .cons rfl (by first | exact again.one rfl rfl rfl (astep_sound rfl) | exact again.off rfl rfl rfl rfl (by first | exact .inl rfl | exact .inr rfl) rfl rfl | exact again.one rfl rfl rfl (GO.eq rfl rfl rfl rfl rfl Try.eqGuardType38 (aeq38 _ _ _ _ _ _ _ _ _ _ _ _) rfl).run | exact again.one rfl rfl rfl (GO.call rfl rfl Try.func30 rfl rfl rfl (common30 _ _ _ _)).run | exact again.one rfl rfl rfl (GO.add rfl rfl rfl (by omega)).run | exact again.one rfl rfl rfl (GO.sub rfl rfl rfl (by omega)).run | exact again.one rfl rfl rfl (GO.mul rfl rfl rfl (by omega)).run | exact again.one rfl rfl rfl (GO.rem rfl rfl rfl (by omega) (by omega)).run | exact again.one rfl rfl rfl (GO.quo rfl rfl rfl (by omega) (by omega)).run | exact again.one rfl rfl rfl (GO.neg rfl rfl (by omega)).run | exact again.one rfl rfl rfl (GO.conv rfl rfl rfl rfl (i64_wrap (by omega) (by omega))).run | exact again.one rfl rfl rfl (GO.conv rfl rfl rfl rfl rfl).run) ?_) ?_ | refine GD.heavyF rfl rfl rfl (by first | exact onAt.none rfl | exact onAt.yes rfl rfl rfl) rfl rfl (by repeat first | exact .nil rfl | refine .cons rfl (by first | exact again.one rfl rfl rfl (astep_sound rfl) | exact again.off rfl rfl rfl rfl (by first | exact .inl rfl | exact .inr rfl) rfl rfl | exact again.one rfl rfl rfl (GO.eq rfl rfl rfl rfl rfl Try.eqGuardType38 (aeq38 _ _ _ _ _ _ _ _ _ _ _ _) rfl).run | exact again.one rfl rfl rfl (GO.call rfl rfl Try.func30 rfl rfl rfl (common30 _ _ _ _)).run | exact again.one rfl rfl rfl (GO.add rfl rfl rfl (by omega)).run | exact again.one rfl rfl rfl (GO.sub rfl rfl rfl (by omega)).run | exact again.one rfl rfl rfl (GO.mul rfl rfl rfl (by omega)).run | exact again.one rfl rfl rfl (GO.rem rfl rfl rfl (by omega) (by omega)).run | exact again.one rfl rfl rfl (GO.quo rfl rfl rfl (by omega) (by omega)).run | exact again.one rfl rfl rfl (GO.neg rfl rfl (by omega)).run | exact again.one rfl rfl rfl (GO.conv rfl rfl rfl rfl (i64_wrap (by omega) (by omega))).run | exact again.one rfl rfl rfl (GO.conv rfl rfl rfl rfl rfl).run) ?_) ?_ | refine GD.heavyN rfl rfl rfl (by first | exact onAt.none rfl | exact onAt.yes rfl rfl rfl) rfl rfl (by repeat first | exact .nil rfl | refine .cons rfl (by first | exact again.one rfl rfl rfl (astep_sound rfl) | exact again.off rfl rfl rfl rfl (by first | exact .inl rfl | exact .inr rfl) rfl rfl | exact again.one rfl rfl rfl (GO.eq rfl rfl rfl rfl rfl Try.eqGuardType38 (aeq38 _ _ _ _ _ _ _ _ _ _ _ _) rfl).run | exact again.one rfl rfl rfl (GO.call rfl rfl Try.func30 rfl rfl rfl (common30 _ _ _ _)).run | exact again.one rfl rfl rfl (GO.add rfl rfl rfl (by omega)).run | exact again.one rfl rfl rfl (GO.sub rfl rfl rfl (by omega)).run | exact again.one rfl rfl rfl (GO.mul rfl rfl rfl (by omega)).run | exact again.one rfl rfl rfl (GO.rem rfl rfl rfl (by omega) (by omega)).run | exact again.one rfl rfl rfl (GO.quo rfl rfl rfl (by omega) (by omega)).run | exact again.one rfl rfl rfl (GO.neg rfl rfl (by omega)).run | exact again.one rfl rfl rfl (GO.conv rfl rfl rfl rfl (i64_wrap (by omega) (by omega))).run | exact again.one rfl rfl rfl (GO.conv rfl rfl rfl rfl rfl).run) ?_) ?_ | refine GD.done rfl rfl rfl ?_ | (refine GD.forkD rfl rfl rfl rfl (fun h => ?_) (fun h => ?_) <;> try (exfalso; omega)) | (refine GD.forkN rfl rfl rfl rfl (fun h => ?_) (fun h => ?_) <;> try (exfalso; omega)) | refine GD.forkB rfl rfl rfl rfl (fun h => ?_) (fun h => ?_))))
    | refine GL.sf rfl rfl rfl rfl ?_
    | refine GL.nf rfl rfl rfl ?_
    | refine GL.sv rfl rfl rfl rfl ?_
    | refine GL.sn rfl rfl rfl ?_
    | refine GL.done ?_
    | refine GP.thenN ?_
    | refine GT.seq ?_
    | refine GT.region ?_
    | refine GL.unguard rfl rfl ?_
    | refine GL.skip rfl rfl rfl rfl ?_
    | refine GL.skipU rfl rfl rfl rfl ?_
    | refine GL.v rfl rfl rfl (by first | exact GO.eq rfl rfl rfl rfl rfl Try.eqGuardType38 (aeq38 _ _ _ _ _ _ _ _ _ _ _ _) rfl | exact GO.call rfl rfl Try.func30 rfl rfl rfl (common30 _ _ _ _) | exact GO.add rfl rfl rfl (by omega) | exact GO.sub rfl rfl rfl (by omega) | exact GO.mul rfl rfl rfl (by omega) | exact GO.rem rfl rfl rfl (by omega) (by omega) | exact GO.quo rfl rfl rfl (by omega) (by omega) | exact GO.neg rfl rfl (by omega) | exact GO.conv rfl rfl rfl rfl (i64_wrap (by omega) (by omega)) | exact GO.conv rfl rfl rfl rfl rfl) ?_
    | refine GT.skip ?_
    | refine GT.block ?_
    | refine GT.ret ?_
    | refine GT.exit ?_
    | refine GP.thenR ?_
    | refine GP.thenE ?_
    | refine GP.inN ?_
    | refine GP.inR ?_
    | refine GP.hit ?_
    | refine GP.miss rfl ?_
    | refine GP.againN ?_
    | refine GP.againR ?_
    | refine GP.againE ?_
    | refine GP.invR ?_
    | refine GP.invE ?_
    | refine GU.step ?_
    | refine GT.condT rfl ?_
    | refine GT.condF rfl ?_
    | (refine GT.condD rfl (fun h => ?_) (fun h => ?_) <;> try (exfalso; omega))
    | (refine GT.condN rfl (fun h => ?_) (fun h => ?_) <;> try (exfalso; omega))
    | (refine GT.condB rfl (fun h => ?_) (fun h => ?_))
    | (refine GL.forkD rfl rfl (fun h => ?_) (fun h => ?_) <;> try (exfalso; omega))
    | (refine GL.forkN rfl rfl (fun h => ?_) (fun h => ?_) <;> try (exfalso; omega))
    | (refine GL.forkB rfl rfl (fun h => ?_) (fun h => ?_))
    | refine GP.endR1 rfl ?_
    | refine GP.endR2 rfl ?_
    | refine GP.endN1 rfl ?_
    | refine GP.endR3 rfl ?_
    | refine GP.endN0 rfl ?_
    | refine GP.endR0 rfl ?_)
  all_goals first
    | (have e1 : max a0 a1 = a0 := by omega
       have e2 : min b0 b1 = b0 := by omega
       rw [e1, e2]
       first | (rw [decide_eq_true h]; rfl) | (rw [decide_eq_false h]; rfl))
    | (have e1 : max a0 a1 = max a0 a1 := by omega
       have e2 : min b0 b1 = min b0 b1 := by omega
       rw [e1, e2]
       first | (rw [decide_eq_true h]; rfl) | (rw [decide_eq_false h]; rfl))
theorem meet23 {A : AW} {b f : Nat} {n0 n1 : ByteArray} (a0 b0 a1 b1 : Int) (h : A.rd b f 14 = some [.string n0, .int .i64 a0, .int .i64 b0, .int .i64 (-5), .int .i64 5, .int .i64 0, .int .i64 9, .string n1, .int .i64 a1, .int .i64 b1, .int .i64 (-5), .int .i64 5, .int .i64 0, .int .i64 9]) : AC Try.prog 18 [.slice (some ⟨b, f, none⟩) 2 3] A (isR (.tuple #[.agg #[.int .i64 (max a0 a1), .int .i64 (min b0 b1), .int .i64 (-5), .int .i64 5, .int .i64 0, .int .i64 9], .bool (decide (max a0 a1 ≤ min b0 b1))]) A) := by
  refine AC.is1 (o := .cells [.string n0, .int .i64 a0, .int .i64 b0, .int .i64 (-5), .int .i64 5, .int .i64 0, .int .i64 9, .string n1, .int .i64 a1, .int .i64 b1, .int .i64 (-5), .int .i64 5, .int .i64 0, .int .i64 9] 40) (b := b) (g := f) (args := [.slice (some ⟨0, 0, none⟩) 2 3]) ?_ ⟨16, rfl⟩ ⟨h, 64, rfl⟩ (.sl (g := 0) rfl rfl .nil)
  refine AC.go Try.func18 rfl rfl ?_
  clear h
  repeat' (first
    | refine GL.sf rfl rfl rfl rfl ?_
    | refine GL.nf rfl rfl rfl ?_
    | refine GL.sv rfl rfl rfl rfl ?_
    | refine GL.sn rfl rfl rfl ?_
    | refine GL.done ?_
    | refine GP.thenN ?_
    | refine GT.seq ?_
    | refine GT.region ?_
    | refine GL.unguard rfl rfl ?_
    | refine GL.skip rfl rfl rfl rfl ?_
    | refine GL.skipU rfl rfl rfl rfl ?_
    | refine GL.v rfl rfl rfl (by first | exact GO.add rfl rfl rfl (by omega) | exact GO.sub rfl rfl rfl (by omega) | exact GO.mul rfl rfl rfl (by omega) | exact GO.rem rfl rfl rfl (by omega) (by omega) | exact GO.quo rfl rfl rfl (by omega) (by omega) | exact GO.neg rfl rfl (by omega) | exact GO.conv rfl rfl rfl rfl (i64_wrap (by omega) (by omega)) | exact GO.conv rfl rfl rfl rfl rfl) ?_
    | refine GT.skip ?_
    | refine GT.block ?_
    | refine GT.ret ?_
    | refine GT.exit ?_
    | refine GP.thenR ?_
    | refine GP.thenE ?_
    | refine GP.inN ?_
    | refine GP.inR ?_
    | refine GP.hit ?_
    | refine GP.miss rfl ?_
    | refine GP.againN ?_
    | refine GP.againR ?_
    | refine GP.againE ?_
    | refine GP.invR ?_
    | refine GP.invE ?_
    | refine GU.step ?_
    | refine GT.condT rfl ?_
    | refine GT.condF rfl ?_
    | (refine GT.condD rfl (fun h => ?_) (fun h => ?_) <;> try (exfalso; omega))
    | (refine GT.condN rfl (fun h => ?_) (fun h => ?_) <;> try (exfalso; omega))
    | (refine GT.condB rfl (fun h => ?_) (fun h => ?_))
    | (refine GL.forkD rfl rfl (fun h => ?_) (fun h => ?_) <;> try (exfalso; omega))
    | (refine GL.forkN rfl rfl (fun h => ?_) (fun h => ?_) <;> try (exfalso; omega))
    | (refine GL.forkB rfl rfl (fun h => ?_) (fun h => ?_))
    | refine GP.endR1 rfl ?_
    | refine GP.endR2 rfl ?_
    | refine GP.endN1 rfl ?_
    | refine GP.endR3 rfl ?_
    | refine GP.endN0 rfl ?_
    | refine GP.endR0 rfl ?_)
  refine GT.unroll 2 ?_
  repeat' (first
    | refine GT.unroll 4 ?_
    | (refine GT.draws [[], [], [1], [1, 2], [], [1, 2, 3, 4], [0, 1, 2, 3, 4, 5], [0, 1, 2, 3, 4, 5, 6]] [7] (by kernel_rfl) ?_ <;> (repeat' (first | refine GD.light rfl rfl (by first | exact onAt.none rfl | exact onAt.yes rfl rfl rfl) rfl (by first | exact AllMs.cons rfl (astepF_sound rfl) (.nil rfl) | exact AllMs.cons rfl (astep_sound rfl) (.nil rfl) | exact AllMs.cons rfl (astep_sound rfl) (.cons rfl (astep_sound rfl) (.nil rfl)) | exact AllMs.cons rfl (astep_sound rfl) (.cons rfl (astep_sound rfl) (.cons rfl (astep_sound rfl) (.nil rfl))) | exact AllMs.cons rfl (GO.eq rfl rfl rfl rfl rfl Try.eqGuardType38 (aeq38 _ _ _ _ _ _ _ _ _ _ _ _) rfl).run (.nil rfl) | exact AllMs.cons rfl (GO.eq rfl rfl rfl rfl rfl Try.eqGuardType38 (aeq38 _ _ _ _ _ _ _ _ _ _ _ _) rfl).run (.cons rfl (GO.eq rfl rfl rfl rfl rfl Try.eqGuardType38 (aeq38 _ _ _ _ _ _ _ _ _ _ _ _) rfl).run (.nil rfl)) | exact AllMs.cons rfl (GO.call rfl rfl Try.func30 rfl rfl rfl (common30 _ _ _ _)).run (.nil rfl) | exact AllMs.cons rfl (GO.call rfl rfl Try.func30 rfl rfl rfl (common30 _ _ _ _)).run (.cons rfl (GO.call rfl rfl Try.func30 rfl rfl rfl (common30 _ _ _ _)).run (.nil rfl)) | exact AllMs.cons rfl (GO.add rfl rfl rfl (by omega)).run (.nil rfl) | exact AllMs.cons rfl (GO.add rfl rfl rfl (by omega)).run (.cons rfl (GO.add rfl rfl rfl (by omega)).run (.nil rfl)) | exact AllMs.cons rfl (GO.sub rfl rfl rfl (by omega)).run (.nil rfl) | exact AllMs.cons rfl (GO.sub rfl rfl rfl (by omega)).run (.cons rfl (GO.sub rfl rfl rfl (by omega)).run (.nil rfl)) | exact AllMs.cons rfl (GO.mul rfl rfl rfl (by omega)).run (.nil rfl) | exact AllMs.cons rfl (GO.mul rfl rfl rfl (by omega)).run (.cons rfl (GO.mul rfl rfl rfl (by omega)).run (.nil rfl)) | exact AllMs.cons rfl (GO.rem rfl rfl rfl (by omega) (by omega)).run (.nil rfl) | exact AllMs.cons rfl (GO.rem rfl rfl rfl (by omega) (by omega)).run (.cons rfl (GO.rem rfl rfl rfl (by omega) (by omega)).run (.nil rfl)) | exact AllMs.cons rfl (GO.quo rfl rfl rfl (by omega) (by omega)).run (.nil rfl) | exact AllMs.cons rfl (GO.quo rfl rfl rfl (by omega) (by omega)).run (.cons rfl (GO.quo rfl rfl rfl (by omega) (by omega)).run (.nil rfl)) | exact AllMs.cons rfl (GO.neg rfl rfl (by omega)).run (.nil rfl) | exact AllMs.cons rfl (GO.neg rfl rfl (by omega)).run (.cons rfl (GO.neg rfl rfl (by omega)).run (.nil rfl)) | exact AllMs.cons rfl (GO.conv rfl rfl rfl rfl (i64_wrap (by omega) (by omega))).run (.nil rfl) | exact AllMs.cons rfl (GO.conv rfl rfl rfl rfl (i64_wrap (by omega) (by omega))).run (.cons rfl (GO.conv rfl rfl rfl rfl (i64_wrap (by omega) (by omega))).run (.nil rfl)) | exact AllMs.cons rfl (GO.conv rfl rfl rfl rfl rfl).run (.nil rfl) | exact AllMs.cons rfl (GO.conv rfl rfl rfl rfl rfl).run (.cons rfl (GO.conv rfl rfl rfl rfl rfl).run (.nil rfl))) ?_ | refine GD.off rfl rfl rfl rfl rfl (by first | exact .inl rfl | exact .inr rfl) rfl ?_ | refine GD.heavy rfl rfl rfl (by first | exact onAt.none rfl | exact onAt.yes rfl rfl rfl) rfl (by first | exact astepF_sound rfl | exact astep_sound rfl | exact (GO.eq rfl rfl rfl rfl rfl Try.eqGuardType38 (aeq38 _ _ _ _ _ _ _ _ _ _ _ _) rfl).run | exact (GO.call rfl rfl Try.func30 rfl rfl rfl (common30 _ _ _ _)).run) (by repeat first | exact .nil rfl | refine .cons rfl (by first | exact again.one rfl rfl rfl (astep_sound rfl) | exact again.off rfl rfl rfl rfl (by first | exact .inl rfl | exact .inr rfl) rfl rfl | exact again.one rfl rfl rfl (GO.eq rfl rfl rfl rfl rfl Try.eqGuardType38 (aeq38 _ _ _ _ _ _ _ _ _ _ _ _) rfl).run | exact again.one rfl rfl rfl (GO.call rfl rfl Try.func30 rfl rfl rfl (common30 _ _ _ _)).run | exact again.one rfl rfl rfl (GO.add rfl rfl rfl (by omega)).run | exact again.one rfl rfl rfl (GO.sub rfl rfl rfl (by omega)).run | exact again.one rfl rfl rfl (GO.mul rfl rfl rfl (by omega)).run | exact again.one rfl rfl rfl (GO.rem rfl rfl rfl (by omega) (by omega)).run | exact again.one rfl rfl rfl (GO.quo rfl rfl rfl (by omega) (by omega)).run | exact again.one rfl rfl rfl (GO.neg rfl rfl (by omega)).run | exact again.one rfl rfl rfl (GO.conv rfl rfl rfl rfl (i64_wrap (by omega) (by omega))).run | exact again.one rfl rfl rfl (GO.conv rfl rfl rfl rfl rfl).run) ?_) ?_ | refine GD.heavyF rfl rfl rfl (by first | exact onAt.none rfl | exact onAt.yes rfl rfl rfl) rfl rfl (by repeat first | exact .nil rfl | refine .cons rfl (by first | exact again.one rfl rfl rfl (astep_sound rfl) | exact again.off rfl rfl rfl rfl (by first | exact .inl rfl | exact .inr rfl) rfl rfl | exact again.one rfl rfl rfl (GO.eq rfl rfl rfl rfl rfl Try.eqGuardType38 (aeq38 _ _ _ _ _ _ _ _ _ _ _ _) rfl).run | exact again.one rfl rfl rfl (GO.call rfl rfl Try.func30 rfl rfl rfl (common30 _ _ _ _)).run | exact again.one rfl rfl rfl (GO.add rfl rfl rfl (by omega)).run | exact again.one rfl rfl rfl (GO.sub rfl rfl rfl (by omega)).run | exact again.one rfl rfl rfl (GO.mul rfl rfl rfl (by omega)).run | exact again.one rfl rfl rfl (GO.rem rfl rfl rfl (by omega) (by omega)).run | exact again.one rfl rfl rfl (GO.quo rfl rfl rfl (by omega) (by omega)).run | exact again.one rfl rfl rfl (GO.neg rfl rfl (by omega)).run | exact again.one rfl rfl rfl (GO.conv rfl rfl rfl rfl (i64_wrap (by omega) (by omega))).run | exact again.one rfl rfl rfl (GO.conv rfl rfl rfl rfl rfl).run) ?_) ?_ | refine GD.heavyN rfl rfl rfl (by first | exact onAt.none rfl | exact onAt.yes rfl rfl rfl) rfl rfl (by repeat first | exact .nil rfl | refine .cons rfl (by first | exact again.one rfl rfl rfl (astep_sound rfl) | exact again.off rfl rfl rfl rfl (by first | exact .inl rfl | exact .inr rfl) rfl rfl | exact again.one rfl rfl rfl (GO.eq rfl rfl rfl rfl rfl Try.eqGuardType38 (aeq38 _ _ _ _ _ _ _ _ _ _ _ _) rfl).run | exact again.one rfl rfl rfl (GO.call rfl rfl Try.func30 rfl rfl rfl (common30 _ _ _ _)).run | exact again.one rfl rfl rfl (GO.add rfl rfl rfl (by omega)).run | exact again.one rfl rfl rfl (GO.sub rfl rfl rfl (by omega)).run | exact again.one rfl rfl rfl (GO.mul rfl rfl rfl (by omega)).run | exact again.one rfl rfl rfl (GO.rem rfl rfl rfl (by omega) (by omega)).run | exact again.one rfl rfl rfl (GO.quo rfl rfl rfl (by omega) (by omega)).run | exact again.one rfl rfl rfl (GO.neg rfl rfl (by omega)).run | exact again.one rfl rfl rfl (GO.conv rfl rfl rfl rfl (i64_wrap (by omega) (by omega))).run | exact again.one rfl rfl rfl (GO.conv rfl rfl rfl rfl rfl).run) ?_) ?_ | refine GD.done rfl rfl rfl ?_ | (refine GD.forkD rfl rfl rfl rfl (fun h => ?_) (fun h => ?_) <;> try (exfalso; omega)) | (refine GD.forkN rfl rfl rfl rfl (fun h => ?_) (fun h => ?_) <;> try (exfalso; omega)) | refine GD.forkB rfl rfl rfl rfl (fun h => ?_) (fun h => ?_))))
    | refine GL.sf rfl rfl rfl rfl ?_
    | refine GL.nf rfl rfl rfl ?_
    | refine GL.sv rfl rfl rfl rfl ?_
    | refine GL.sn rfl rfl rfl ?_
    | refine GL.done ?_
    | refine GP.thenN ?_
    | refine GT.seq ?_
    | refine GT.region ?_
    | refine GL.unguard rfl rfl ?_
    | refine GL.skip rfl rfl rfl rfl ?_
    | refine GL.skipU rfl rfl rfl rfl ?_
    | refine GL.v rfl rfl rfl (by first | exact GO.eq rfl rfl rfl rfl rfl Try.eqGuardType38 (aeq38 _ _ _ _ _ _ _ _ _ _ _ _) rfl | exact GO.call rfl rfl Try.func30 rfl rfl rfl (common30 _ _ _ _) | exact GO.add rfl rfl rfl (by omega) | exact GO.sub rfl rfl rfl (by omega) | exact GO.mul rfl rfl rfl (by omega) | exact GO.rem rfl rfl rfl (by omega) (by omega) | exact GO.quo rfl rfl rfl (by omega) (by omega) | exact GO.neg rfl rfl (by omega) | exact GO.conv rfl rfl rfl rfl (i64_wrap (by omega) (by omega)) | exact GO.conv rfl rfl rfl rfl rfl) ?_
    | refine GT.skip ?_
    | refine GT.block ?_
    | refine GT.ret ?_
    | refine GT.exit ?_
    | refine GP.thenR ?_
    | refine GP.thenE ?_
    | refine GP.inN ?_
    | refine GP.inR ?_
    | refine GP.hit ?_
    | refine GP.miss rfl ?_
    | refine GP.againN ?_
    | refine GP.againR ?_
    | refine GP.againE ?_
    | refine GP.invR ?_
    | refine GP.invE ?_
    | refine GU.step ?_
    | refine GT.condT rfl ?_
    | refine GT.condF rfl ?_
    | (refine GT.condD rfl (fun h => ?_) (fun h => ?_) <;> try (exfalso; omega))
    | (refine GT.condN rfl (fun h => ?_) (fun h => ?_) <;> try (exfalso; omega))
    | (refine GT.condB rfl (fun h => ?_) (fun h => ?_))
    | (refine GL.forkD rfl rfl (fun h => ?_) (fun h => ?_) <;> try (exfalso; omega))
    | (refine GL.forkN rfl rfl (fun h => ?_) (fun h => ?_) <;> try (exfalso; omega))
    | (refine GL.forkB rfl rfl (fun h => ?_) (fun h => ?_))
    | refine GP.endR1 rfl ?_
    | refine GP.endR2 rfl ?_
    | refine GP.endN1 rfl ?_
    | refine GP.endR3 rfl ?_
    | refine GP.endN0 rfl ?_
    | refine GP.endR0 rfl ?_)
  all_goals first
    | (have e1 : max a0 a1 = a0 := by omega
       have e2 : min b0 b1 = b0 := by omega
       rw [e1, e2]
       first | (rw [decide_eq_true h]; rfl) | (rw [decide_eq_false h]; rfl))
    | (have e1 : max a0 a1 = max a0 a1 := by omega
       have e2 : min b0 b1 = min b0 b1 := by omega
       rw [e1, e2]
       first | (rw [decide_eq_true h]; rfl) | (rw [decide_eq_false h]; rfl))
theorem meet33 {A : AW} {b f : Nat} {n0 n1 n2 : ByteArray} (a0 b0 a1 b1 a2 b2 : Int) (h : A.rd b f 21 = some [.string n0, .int .i64 a0, .int .i64 b0, .int .i64 (-5), .int .i64 5, .int .i64 0, .int .i64 9, .string n1, .int .i64 a1, .int .i64 b1, .int .i64 (-5), .int .i64 5, .int .i64 0, .int .i64 9, .string n2, .int .i64 a2, .int .i64 b2, .int .i64 (-5), .int .i64 5, .int .i64 0, .int .i64 9]) : AC Try.prog 18 [.slice (some ⟨b, f, none⟩) 3 3] A (isR (.tuple #[.agg #[.int .i64 (max (max a0 a1) a2), .int .i64 (min (min b0 b1) b2), .int .i64 (-5), .int .i64 5, .int .i64 0, .int .i64 9], .bool (decide (max (max a0 a1) a2 ≤ min (min b0 b1) b2))]) A) := by
  refine AC.is1 (o := .cells [.string n0, .int .i64 a0, .int .i64 b0, .int .i64 (-5), .int .i64 5, .int .i64 0, .int .i64 9, .string n1, .int .i64 a1, .int .i64 b1, .int .i64 (-5), .int .i64 5, .int .i64 0, .int .i64 9, .string n2, .int .i64 a2, .int .i64 b2, .int .i64 (-5), .int .i64 5, .int .i64 0, .int .i64 9] 40) (b := b) (g := f) (args := [.slice (some ⟨0, 0, none⟩) 3 3]) ?_ ⟨16, rfl⟩ ⟨h, 64, rfl⟩ (.sl (g := 0) rfl rfl .nil)
  refine AC.go Try.func18 rfl rfl ?_
  clear h
  repeat' (first
    | refine GL.sf rfl rfl rfl rfl ?_
    | refine GL.nf rfl rfl rfl ?_
    | refine GL.sv rfl rfl rfl rfl ?_
    | refine GL.sn rfl rfl rfl ?_
    | refine GL.done ?_
    | refine GP.thenN ?_
    | refine GT.seq ?_
    | refine GT.region ?_
    | refine GL.unguard rfl rfl ?_
    | refine GL.skip rfl rfl rfl rfl ?_
    | refine GL.skipU rfl rfl rfl rfl ?_
    | refine GL.v rfl rfl rfl (by first | exact GO.add rfl rfl rfl (by omega) | exact GO.sub rfl rfl rfl (by omega) | exact GO.mul rfl rfl rfl (by omega) | exact GO.rem rfl rfl rfl (by omega) (by omega) | exact GO.quo rfl rfl rfl (by omega) (by omega) | exact GO.neg rfl rfl (by omega) | exact GO.conv rfl rfl rfl rfl (i64_wrap (by omega) (by omega)) | exact GO.conv rfl rfl rfl rfl rfl) ?_
    | refine GT.skip ?_
    | refine GT.block ?_
    | refine GT.ret ?_
    | refine GT.exit ?_
    | refine GP.thenR ?_
    | refine GP.thenE ?_
    | refine GP.inN ?_
    | refine GP.inR ?_
    | refine GP.hit ?_
    | refine GP.miss rfl ?_
    | refine GP.againN ?_
    | refine GP.againR ?_
    | refine GP.againE ?_
    | refine GP.invR ?_
    | refine GP.invE ?_
    | refine GU.step ?_
    | refine GT.condT rfl ?_
    | refine GT.condF rfl ?_
    | (refine GT.condD rfl (fun h => ?_) (fun h => ?_) <;> try (exfalso; omega))
    | (refine GT.condN rfl (fun h => ?_) (fun h => ?_) <;> try (exfalso; omega))
    | (refine GT.condB rfl (fun h => ?_) (fun h => ?_))
    | (refine GL.forkD rfl rfl (fun h => ?_) (fun h => ?_) <;> try (exfalso; omega))
    | (refine GL.forkN rfl rfl (fun h => ?_) (fun h => ?_) <;> try (exfalso; omega))
    | (refine GL.forkB rfl rfl (fun h => ?_) (fun h => ?_))
    | refine GP.endR1 rfl ?_
    | refine GP.endR2 rfl ?_
    | refine GP.endN1 rfl ?_
    | refine GP.endR3 rfl ?_
    | refine GP.endN0 rfl ?_
    | refine GP.endR0 rfl ?_)
  refine GT.unroll 3 ?_
  repeat' (first
    | refine GT.unroll 4 ?_
    | (refine GT.draws [[], [], [1], [1, 2], [], [1, 2, 3, 4], [0, 1, 2, 3, 4, 5], [0, 1, 2, 3, 4, 5, 6]] [7] (by kernel_rfl) ?_ <;> (repeat' (first | refine GD.light rfl rfl (by first | exact onAt.none rfl | exact onAt.yes rfl rfl rfl) rfl (by first | exact AllMs.cons rfl (astepF_sound rfl) (.nil rfl) | exact AllMs.cons rfl (astep_sound rfl) (.nil rfl) | exact AllMs.cons rfl (astep_sound rfl) (.cons rfl (astep_sound rfl) (.nil rfl)) | exact AllMs.cons rfl (astep_sound rfl) (.cons rfl (astep_sound rfl) (.cons rfl (astep_sound rfl) (.nil rfl))) | exact AllMs.cons rfl (GO.eq rfl rfl rfl rfl rfl Try.eqGuardType38 (aeq38 _ _ _ _ _ _ _ _ _ _ _ _) rfl).run (.nil rfl) | exact AllMs.cons rfl (GO.eq rfl rfl rfl rfl rfl Try.eqGuardType38 (aeq38 _ _ _ _ _ _ _ _ _ _ _ _) rfl).run (.cons rfl (GO.eq rfl rfl rfl rfl rfl Try.eqGuardType38 (aeq38 _ _ _ _ _ _ _ _ _ _ _ _) rfl).run (.nil rfl)) | exact AllMs.cons rfl (GO.call rfl rfl Try.func30 rfl rfl rfl (common30 _ _ _ _)).run (.nil rfl) | exact AllMs.cons rfl (GO.call rfl rfl Try.func30 rfl rfl rfl (common30 _ _ _ _)).run (.cons rfl (GO.call rfl rfl Try.func30 rfl rfl rfl (common30 _ _ _ _)).run (.nil rfl)) | exact AllMs.cons rfl (GO.add rfl rfl rfl (by omega)).run (.nil rfl) | exact AllMs.cons rfl (GO.add rfl rfl rfl (by omega)).run (.cons rfl (GO.add rfl rfl rfl (by omega)).run (.nil rfl)) | exact AllMs.cons rfl (GO.sub rfl rfl rfl (by omega)).run (.nil rfl) | exact AllMs.cons rfl (GO.sub rfl rfl rfl (by omega)).run (.cons rfl (GO.sub rfl rfl rfl (by omega)).run (.nil rfl)) | exact AllMs.cons rfl (GO.mul rfl rfl rfl (by omega)).run (.nil rfl) | exact AllMs.cons rfl (GO.mul rfl rfl rfl (by omega)).run (.cons rfl (GO.mul rfl rfl rfl (by omega)).run (.nil rfl)) | exact AllMs.cons rfl (GO.rem rfl rfl rfl (by omega) (by omega)).run (.nil rfl) | exact AllMs.cons rfl (GO.rem rfl rfl rfl (by omega) (by omega)).run (.cons rfl (GO.rem rfl rfl rfl (by omega) (by omega)).run (.nil rfl)) | exact AllMs.cons rfl (GO.quo rfl rfl rfl (by omega) (by omega)).run (.nil rfl) | exact AllMs.cons rfl (GO.quo rfl rfl rfl (by omega) (by omega)).run (.cons rfl (GO.quo rfl rfl rfl (by omega) (by omega)).run (.nil rfl)) | exact AllMs.cons rfl (GO.neg rfl rfl (by omega)).run (.nil rfl) | exact AllMs.cons rfl (GO.neg rfl rfl (by omega)).run (.cons rfl (GO.neg rfl rfl (by omega)).run (.nil rfl)) | exact AllMs.cons rfl (GO.conv rfl rfl rfl rfl (i64_wrap (by omega) (by omega))).run (.nil rfl) | exact AllMs.cons rfl (GO.conv rfl rfl rfl rfl (i64_wrap (by omega) (by omega))).run (.cons rfl (GO.conv rfl rfl rfl rfl (i64_wrap (by omega) (by omega))).run (.nil rfl)) | exact AllMs.cons rfl (GO.conv rfl rfl rfl rfl rfl).run (.nil rfl) | exact AllMs.cons rfl (GO.conv rfl rfl rfl rfl rfl).run (.cons rfl (GO.conv rfl rfl rfl rfl rfl).run (.nil rfl))) ?_ | refine GD.off rfl rfl rfl rfl rfl (by first | exact .inl rfl | exact .inr rfl) rfl ?_ | refine GD.heavy rfl rfl rfl (by first | exact onAt.none rfl | exact onAt.yes rfl rfl rfl) rfl (by first | exact astepF_sound rfl | exact astep_sound rfl | exact (GO.eq rfl rfl rfl rfl rfl Try.eqGuardType38 (aeq38 _ _ _ _ _ _ _ _ _ _ _ _) rfl).run | exact (GO.call rfl rfl Try.func30 rfl rfl rfl (common30 _ _ _ _)).run) (by repeat first | exact .nil rfl | refine .cons rfl (by first | exact again.one rfl rfl rfl (astep_sound rfl) | exact again.off rfl rfl rfl rfl (by first | exact .inl rfl | exact .inr rfl) rfl rfl | exact again.one rfl rfl rfl (GO.eq rfl rfl rfl rfl rfl Try.eqGuardType38 (aeq38 _ _ _ _ _ _ _ _ _ _ _ _) rfl).run | exact again.one rfl rfl rfl (GO.call rfl rfl Try.func30 rfl rfl rfl (common30 _ _ _ _)).run | exact again.one rfl rfl rfl (GO.add rfl rfl rfl (by omega)).run | exact again.one rfl rfl rfl (GO.sub rfl rfl rfl (by omega)).run | exact again.one rfl rfl rfl (GO.mul rfl rfl rfl (by omega)).run | exact again.one rfl rfl rfl (GO.rem rfl rfl rfl (by omega) (by omega)).run | exact again.one rfl rfl rfl (GO.quo rfl rfl rfl (by omega) (by omega)).run | exact again.one rfl rfl rfl (GO.neg rfl rfl (by omega)).run | exact again.one rfl rfl rfl (GO.conv rfl rfl rfl rfl (i64_wrap (by omega) (by omega))).run | exact again.one rfl rfl rfl (GO.conv rfl rfl rfl rfl rfl).run) ?_) ?_ | refine GD.heavyF rfl rfl rfl (by first | exact onAt.none rfl | exact onAt.yes rfl rfl rfl) rfl rfl (by repeat first | exact .nil rfl | refine .cons rfl (by first | exact again.one rfl rfl rfl (astep_sound rfl) | exact again.off rfl rfl rfl rfl (by first | exact .inl rfl | exact .inr rfl) rfl rfl | exact again.one rfl rfl rfl (GO.eq rfl rfl rfl rfl rfl Try.eqGuardType38 (aeq38 _ _ _ _ _ _ _ _ _ _ _ _) rfl).run | exact again.one rfl rfl rfl (GO.call rfl rfl Try.func30 rfl rfl rfl (common30 _ _ _ _)).run | exact again.one rfl rfl rfl (GO.add rfl rfl rfl (by omega)).run | exact again.one rfl rfl rfl (GO.sub rfl rfl rfl (by omega)).run | exact again.one rfl rfl rfl (GO.mul rfl rfl rfl (by omega)).run | exact again.one rfl rfl rfl (GO.rem rfl rfl rfl (by omega) (by omega)).run | exact again.one rfl rfl rfl (GO.quo rfl rfl rfl (by omega) (by omega)).run | exact again.one rfl rfl rfl (GO.neg rfl rfl (by omega)).run | exact again.one rfl rfl rfl (GO.conv rfl rfl rfl rfl (i64_wrap (by omega) (by omega))).run | exact again.one rfl rfl rfl (GO.conv rfl rfl rfl rfl rfl).run) ?_) ?_ | refine GD.heavyN rfl rfl rfl (by first | exact onAt.none rfl | exact onAt.yes rfl rfl rfl) rfl rfl (by repeat first | exact .nil rfl | refine .cons rfl (by first | exact again.one rfl rfl rfl (astep_sound rfl) | exact again.off rfl rfl rfl rfl (by first | exact .inl rfl | exact .inr rfl) rfl rfl | exact again.one rfl rfl rfl (GO.eq rfl rfl rfl rfl rfl Try.eqGuardType38 (aeq38 _ _ _ _ _ _ _ _ _ _ _ _) rfl).run | exact again.one rfl rfl rfl (GO.call rfl rfl Try.func30 rfl rfl rfl (common30 _ _ _ _)).run | exact again.one rfl rfl rfl (GO.add rfl rfl rfl (by omega)).run | exact again.one rfl rfl rfl (GO.sub rfl rfl rfl (by omega)).run | exact again.one rfl rfl rfl (GO.mul rfl rfl rfl (by omega)).run | exact again.one rfl rfl rfl (GO.rem rfl rfl rfl (by omega) (by omega)).run | exact again.one rfl rfl rfl (GO.quo rfl rfl rfl (by omega) (by omega)).run | exact again.one rfl rfl rfl (GO.neg rfl rfl (by omega)).run | exact again.one rfl rfl rfl (GO.conv rfl rfl rfl rfl (i64_wrap (by omega) (by omega))).run | exact again.one rfl rfl rfl (GO.conv rfl rfl rfl rfl rfl).run) ?_) ?_ | refine GD.done rfl rfl rfl ?_ | (refine GD.forkD rfl rfl rfl rfl (fun h => ?_) (fun h => ?_) <;> try (exfalso; omega)) | (refine GD.forkN rfl rfl rfl rfl (fun h => ?_) (fun h => ?_) <;> try (exfalso; omega)) | refine GD.forkB rfl rfl rfl rfl (fun h => ?_) (fun h => ?_))))
    | refine GL.sf rfl rfl rfl rfl ?_
    | refine GL.nf rfl rfl rfl ?_
    | refine GL.sv rfl rfl rfl rfl ?_
    | refine GL.sn rfl rfl rfl ?_
    | refine GL.done ?_
    | refine GP.thenN ?_
    | refine GT.seq ?_
    | refine GT.region ?_
    | refine GL.unguard rfl rfl ?_
    | refine GL.skip rfl rfl rfl rfl ?_
    | refine GL.skipU rfl rfl rfl rfl ?_
    | refine GL.v rfl rfl rfl (by first | exact GO.eq rfl rfl rfl rfl rfl Try.eqGuardType38 (aeq38 _ _ _ _ _ _ _ _ _ _ _ _) rfl | exact GO.call rfl rfl Try.func30 rfl rfl rfl (common30 _ _ _ _) | exact GO.add rfl rfl rfl (by omega) | exact GO.sub rfl rfl rfl (by omega) | exact GO.mul rfl rfl rfl (by omega) | exact GO.rem rfl rfl rfl (by omega) (by omega) | exact GO.quo rfl rfl rfl (by omega) (by omega) | exact GO.neg rfl rfl (by omega) | exact GO.conv rfl rfl rfl rfl (i64_wrap (by omega) (by omega)) | exact GO.conv rfl rfl rfl rfl rfl) ?_
    | refine GT.skip ?_
    | refine GT.block ?_
    | refine GT.ret ?_
    | refine GT.exit ?_
    | refine GP.thenR ?_
    | refine GP.thenE ?_
    | refine GP.inN ?_
    | refine GP.inR ?_
    | refine GP.hit ?_
    | refine GP.miss rfl ?_
    | refine GP.againN ?_
    | refine GP.againR ?_
    | refine GP.againE ?_
    | refine GP.invR ?_
    | refine GP.invE ?_
    | refine GU.step ?_
    | refine GT.condT rfl ?_
    | refine GT.condF rfl ?_
    | (refine GT.condD rfl (fun h => ?_) (fun h => ?_) <;> try (exfalso; omega))
    | (refine GT.condN rfl (fun h => ?_) (fun h => ?_) <;> try (exfalso; omega))
    | (refine GT.condB rfl (fun h => ?_) (fun h => ?_))
    | (refine GL.forkD rfl rfl (fun h => ?_) (fun h => ?_) <;> try (exfalso; omega))
    | (refine GL.forkN rfl rfl (fun h => ?_) (fun h => ?_) <;> try (exfalso; omega))
    | (refine GL.forkB rfl rfl (fun h => ?_) (fun h => ?_))
    | refine GP.endR1 rfl ?_
    | refine GP.endR2 rfl ?_
    | refine GP.endN1 rfl ?_
    | refine GP.endR3 rfl ?_
    | refine GP.endN0 rfl ?_
    | refine GP.endR0 rfl ?_)
  all_goals first
    | (have e1 : max (max a0 a1) a2 = a0 := by omega
       have e2 : min (min b0 b1) b2 = b0 := by omega
       rw [e1, e2]
       first | (rw [decide_eq_true h]; rfl) | (rw [decide_eq_false h]; rfl))
    | (have e1 : max (max a0 a1) a2 = max a0 a1 := by omega
       have e2 : min (min b0 b1) b2 = min b0 b1 := by omega
       rw [e1, e2]
       first | (rw [decide_eq_true h]; rfl) | (rw [decide_eq_false h]; rfl))
    | (have e1 : max (max a0 a1) a2 = max a0 a2 := by omega
       have e2 : min (min b0 b1) b2 = min b0 b2 := by omega
       rw [e1, e2]
       first | (rw [decide_eq_true h]; rfl) | (rw [decide_eq_false h]; rfl))
    | (have e1 : max (max a0 a1) a2 = max (max a0 a1) a2 := by omega
       have e2 : min (min b0 b1) b2 = min (min b0 b1) b2 := by omega
       rw [e1, e2]
       first | (rw [decide_eq_true h]; rfl) | (rw [decide_eq_false h]; rfl))
end Go.M
