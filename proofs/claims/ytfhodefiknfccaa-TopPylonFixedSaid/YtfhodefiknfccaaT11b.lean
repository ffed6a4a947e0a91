/- Functions of the given program, walked (no condition beyond what each theorem says). -/
import Derived.Test.YtfhodefiknfccaaT10
import Derived.Test.YtfhodefiknfccaaM21
set_option linter.unusedVariables false
set_option linter.unusedSimpArgs false
namespace Go.M
open Go.Proofs
set_option maxRecDepth 8000
set_option maxHeartbeats 4000000
theorem Odd_2 {A : AW} {b f : Nat} (a0 b0 a1 b1 a2 b2 : Int) (h0 : -1000000 ≤ a0 ∧ a0 ≤ b0 ∧ b0 ≤ 1000000) (h1 : -1000000 ≤ a1 ∧ a1 ≤ b1 ∧ b1 ≤ 1000000) (h2 : -1000000 ≤ a2 ∧ a2 ≤ b2 ∧ b2 ≤ 1000000) (hm : ¬ max (max a0 a1) a2 ≤ min (min b0 b1) b2) (hi : ¬ max a1 a2 ≤ min b1 b2) (hj : ¬ max a0 a2 ≤ min b0 b2) (hk : max a0 a1 ≤ min b0 b1) (h : A.rd b f 21 = some [.string ⟨#[115, 48]⟩, .int .i64 a0, .int .i64 b0, .int .i64 (-5), .int .i64 5, .int .i64 0, .int .i64 9, .string ⟨#[115, 49]⟩, .int .i64 a1, .int .i64 b1, .int .i64 (-5), .int .i64 5, .int .i64 0, .int .i64 9, .string ⟨#[116, 104, 101, 111, 100, 111, 108, 105, 116, 101]⟩, .int .i64 a2, .int .i64 b2, .int .i64 (-5), .int .i64 5, .int .i64 0, .int .i64 9]) : AC Try.prog 10 [.slice (some ⟨b, f, none⟩) 3 3] A (isR (.tuple #[.int .i64 2, .int .i64 0]) A) := by
  refine AC.is1 (o := .cells [.string ⟨#[115, 48]⟩, .int .i64 a0, .int .i64 b0, .int .i64 (-5), .int .i64 5, .int .i64 0, .int .i64 9, .string ⟨#[115, 49]⟩, .int .i64 a1, .int .i64 b1, .int .i64 (-5), .int .i64 5, .int .i64 0, .int .i64 9, .string ⟨#[116, 104, 101, 111, 100, 111, 108, 105, 116, 101]⟩, .int .i64 a2, .int .i64 b2, .int .i64 (-5), .int .i64 5, .int .i64 0, .int .i64 9] 40) (b := b) (g := f) (args := [.slice (some ⟨0, 0, none⟩) 3 3]) ?_ ⟨16, rfl⟩ ⟨h, 64, rfl⟩ (.sl (g := 0) rfl rfl .nil)
  refine AC.go Try.func10 rfl rfl ?_
  clear h
  repeat' (first
    | exact absurd h hm
    | refine GL.sf rfl rfl rfl rfl ?_
    | refine GL.nf rfl rfl rfl ?_
    | refine GL.sv rfl rfl rfl rfl ?_
    | refine GL.sn rfl rfl rfl ?_
    | refine GL.done ?_
    | refine GP.thenN ?_
    | refine GT.seq ?_
    | refine GT.region ?_
    | refine GL.unguard rfl rfl ?_
    | refine GL.skip rfl rfl rfl rfl ?_
    | refine GL.skipU rfl rfl rfl rfl ?_
    | refine GL.v rfl rfl rfl (by first | exact GO.call rfl rfl Try.func17 rfl rfl rfl (fixes_c3 a0 b0 a1 b1 a2 b2 h0 h1 h2 rfl) | exact GO.call rfl rfl Try.func18 rfl rfl rfl (meet33 a0 b0 a1 b1 a2 b2 rfl) | exact GO.add rfl rfl rfl (by omega) | exact GO.sub rfl rfl rfl (by omega) | exact GO.mul rfl rfl rfl (by omega) | exact GO.rem rfl rfl rfl (by omega) (by omega) | exact GO.quo rfl rfl rfl (by omega) (by omega) | exact GO.neg rfl rfl (by omega) | exact GO.conv rfl rfl rfl rfl (i64_wrap (by omega) (by omega)) | exact GO.conv rfl rfl rfl rfl rfl) ?_
    | refine GT.skip ?_
    | refine GT.block ?_
    | refine GT.ret ?_
    | refine GT.exit ?_
    | refine GP.thenR ?_
    | refine GP.thenE ?_
    | refine GP.inN ?_
    | refine GP.inR ?_
    | refine GP.hit ?_
    | refine GP.miss rfl ?_
    | refine GP.againN ?_
    | refine GP.againR ?_
    | refine GP.againE ?_
    | refine GP.invR ?_
    | refine GP.invE ?_
    | refine GU.step ?_
    | refine GT.condT rfl ?_
    | refine GT.condF rfl ?_
    | (refine GT.condD rfl (fun h => ?_) (fun h => ?_) <;> try (exfalso; omega))
    | (refine GT.condN rfl (fun h => ?_) (fun h => ?_) <;> try (exfalso; omega))
    | (refine GT.condB rfl (fun h => ?_) (fun h => ?_))
    | (refine GL.forkD rfl rfl (fun h => ?_) (fun h => ?_) <;> try (exfalso; omega))
    | (refine GL.forkN rfl rfl (fun h => ?_) (fun h => ?_) <;> try (exfalso; omega))
    | (refine GL.forkB rfl rfl (fun h => ?_) (fun h => ?_))
    | refine GP.endR1 rfl ?_
    | refine GP.endR2 rfl ?_
    | refine GP.endN1 rfl ?_
    | refine GP.endR3 rfl ?_
    | refine GP.endN0 rfl ?_
    | refine GP.endR0 rfl ?_)
  refine GT.unroll 4 ?_
  repeat' (first
    | refine GL.v rfl rfl rfl (GO.call rfl rfl Try.func19 rfl rfl rfl (AC.go Try.func19 rfl rfl (by repeat' (first | exact ⟨rfl, rfl⟩ | exact absurd h hm | exact absurd hk h | exact absurd h hj | exact absurd h hi | (refine GT.draws (id := 5) [[], [], [0, 1], [], [], [3, 4], [0, 1, 2, 3, 4, 5], [0, 1, 2, 3, 4, 5, 6]] [5, 6] (by kernel_rfl) ?_ <;> (repeat' (first | refine GD.light rfl rfl (by first | exact onAt.none rfl | exact onAt.yes rfl rfl rfl) rfl (by first | exact AllMs.cons rfl (astepF_sound rfl) (.nil rfl) | exact AllMs.cons rfl (astep_sound rfl) (.nil rfl) | exact AllMs.cons rfl (astep_sound rfl) (.cons rfl (astep_sound rfl) (.nil rfl)) | exact AllMs.cons rfl (astep_sound rfl) (.cons rfl (astep_sound rfl) (.cons rfl (astep_sound rfl) (.nil rfl))) | exact AllMs.cons rfl (GO.push (GO.call rfl rfl Try.func20 rfl rfl rfl (clone20 a0 b0 a1 b1 a2 b2 rfl))).run (.nil rfl) | exact AllMs.cons rfl (GO.push (GO.call rfl rfl Try.func20 rfl rfl rfl (clone20 a0 b0 a1 b1 a2 b2 rfl))).run (.cons rfl (GO.push (GO.call rfl rfl Try.func20 rfl rfl rfl (clone20 a0 b0 a1 b1 a2 b2 rfl))).run (.nil rfl)) | exact AllMs.cons rfl (GO.call rfl rfl Try.func18 rfl rfl rfl (meet23 _ _ _ _ rfl)).run (.nil rfl) | exact AllMs.cons rfl (GO.call rfl rfl Try.func18 rfl rfl rfl (meet23 _ _ _ _ rfl)).run (.cons rfl (GO.call rfl rfl Try.func18 rfl rfl rfl (meet23 _ _ _ _ rfl)).run (.nil rfl)) | exact AllMs.cons rfl (GO.add rfl rfl rfl (by omega)).run (.nil rfl) | exact AllMs.cons rfl (GO.add rfl rfl rfl (by omega)).run (.cons rfl (GO.add rfl rfl rfl (by omega)).run (.nil rfl)) | exact AllMs.cons rfl (GO.sub rfl rfl rfl (by omega)).run (.nil rfl) | exact AllMs.cons rfl (GO.sub rfl rfl rfl (by omega)).run (.cons rfl (GO.sub rfl rfl rfl (by omega)).run (.nil rfl)) | exact AllMs.cons rfl (GO.mul rfl rfl rfl (by omega)).run (.nil rfl) | exact AllMs.cons rfl (GO.mul rfl rfl rfl (by omega)).run (.cons rfl (GO.mul rfl rfl rfl (by omega)).run (.nil rfl)) | exact AllMs.cons rfl (GO.rem rfl rfl rfl (by omega) (by omega)).run (.nil rfl) | exact AllMs.cons rfl (GO.rem rfl rfl rfl (by omega) (by omega)).run (.cons rfl (GO.rem rfl rfl rfl (by omega) (by omega)).run (.nil rfl)) | exact AllMs.cons rfl (GO.quo rfl rfl rfl (by omega) (by omega)).run (.nil rfl) | exact AllMs.cons rfl (GO.quo rfl rfl rfl (by omega) (by omega)).run (.cons rfl (GO.quo rfl rfl rfl (by omega) (by omega)).run (.nil rfl)) | exact AllMs.cons rfl (GO.neg rfl rfl (by omega)).run (.nil rfl) | exact AllMs.cons rfl (GO.neg rfl rfl (by omega)).run (.cons rfl (GO.neg rfl rfl (by omega)).run (.nil rfl)) | exact AllMs.cons rfl (GO.conv rfl rfl rfl rfl (i64_wrap (by omega) (by omega))).run (.nil rfl) | exact AllMs.cons rfl (GO.conv rfl rfl rfl rfl (i64_wrap (by omega) (by omega))).run (.cons rfl (GO.conv rfl rfl rfl rfl (i64_wrap (by omega) (by omega))).run (.nil rfl)) | exact AllMs.cons rfl (GO.conv rfl rfl rfl rfl rfl).run (.nil rfl) | exact AllMs.cons rfl (GO.conv rfl rfl rfl rfl rfl).run (.cons rfl (GO.conv rfl rfl rfl rfl rfl).run (.nil rfl))) ?_ | refine GD.off rfl rfl rfl rfl rfl (by first | exact .inl rfl | exact .inr rfl) rfl ?_ | refine GD.heavy rfl rfl rfl (by first | exact onAt.none rfl | exact onAt.yes rfl rfl rfl) rfl (by first | exact astepF_sound rfl | exact astep_sound rfl | exact (GO.push (GO.call rfl rfl Try.func20 rfl rfl rfl (clone20 a0 b0 a1 b1 a2 b2 rfl))).run | exact (GO.call rfl rfl Try.func18 rfl rfl rfl (meet23 _ _ _ _ rfl)).run) (by repeat first | exact .nil rfl | refine .cons rfl (by first | exact again.one rfl rfl rfl (astep_sound rfl) | exact again.off rfl rfl rfl rfl (by first | exact .inl rfl | exact .inr rfl) rfl rfl | exact again.one rfl rfl rfl (GO.push (GO.call rfl rfl Try.func20 rfl rfl rfl (clone20 a0 b0 a1 b1 a2 b2 rfl))).run | exact again.one rfl rfl rfl (GO.call rfl rfl Try.func18 rfl rfl rfl (meet23 _ _ _ _ rfl)).run | exact again.one rfl rfl rfl (GO.add rfl rfl rfl (by omega)).run | exact again.one rfl rfl rfl (GO.sub rfl rfl rfl (by omega)).run | exact again.one rfl rfl rfl (GO.mul rfl rfl rfl (by omega)).run | exact again.one rfl rfl rfl (GO.rem rfl rfl rfl (by omega) (by omega)).run | exact again.one rfl rfl rfl (GO.quo rfl rfl rfl (by omega) (by omega)).run | exact again.one rfl rfl rfl (GO.neg rfl rfl (by omega)).run | exact again.one rfl rfl rfl (GO.conv rfl rfl rfl rfl (i64_wrap (by omega) (by omega))).run | exact again.one rfl rfl rfl (GO.conv rfl rfl rfl rfl rfl).run) ?_) ?_ | refine GD.heavyF rfl rfl rfl (by first | exact onAt.none rfl | exact onAt.yes rfl rfl rfl) rfl rfl (by repeat first | exact .nil rfl | refine .cons rfl (by first | exact again.one rfl rfl rfl (astep_sound rfl) | exact again.off rfl rfl rfl rfl (by first | exact .inl rfl | exact .inr rfl) rfl rfl | exact again.one rfl rfl rfl (GO.push (GO.call rfl rfl Try.func20 rfl rfl rfl (clone20 a0 b0 a1 b1 a2 b2 rfl))).run | exact again.one rfl rfl rfl (GO.call rfl rfl Try.func18 rfl rfl rfl (meet23 _ _ _ _ rfl)).run | exact again.one rfl rfl rfl (GO.add rfl rfl rfl (by omega)).run | exact again.one rfl rfl rfl (GO.sub rfl rfl rfl (by omega)).run | exact again.one rfl rfl rfl (GO.mul rfl rfl rfl (by omega)).run | exact again.one rfl rfl rfl (GO.rem rfl rfl rfl (by omega) (by omega)).run | exact again.one rfl rfl rfl (GO.quo rfl rfl rfl (by omega) (by omega)).run | exact again.one rfl rfl rfl (GO.neg rfl rfl (by omega)).run | exact again.one rfl rfl rfl (GO.conv rfl rfl rfl rfl (i64_wrap (by omega) (by omega))).run | exact again.one rfl rfl rfl (GO.conv rfl rfl rfl rfl rfl).run) ?_) ?_ | refine GD.heavyN rfl rfl rfl (by first | exact onAt.none rfl | exact onAt.yes rfl rfl rfl) rfl rfl (by repeat first | exact .nil rfl | refine .cons rfl (by first | exact again.one rfl rfl rfl (astep_sound rfl) | exact again.off rfl rfl rfl rfl (by first | exact .inl rfl | exact .inr rfl) rfl rfl | exact again.one rfl rfl rfl (GO.push (GO.call rfl rfl Try.func20 rfl rfl rfl (clone20 a0 b0 a1 b1 a2 b2 rfl))).run | exact again.one rfl rfl rfl (GO.call rfl rfl Try.func18 rfl rfl rfl (meet23 _ _ _ _ rfl)).run | exact again.one rfl rfl rfl (GO.add rfl rfl rfl (by omega)).run | exact again.one rfl rfl rfl (GO.sub rfl rfl rfl (by omega)).run | exact again.one rfl rfl rfl (GO.mul rfl rfl rfl (by omega)).run | exact again.one rfl rfl rfl (GO.rem rfl rfl rfl (by omega) (by omega)).run | exact again.one rfl rfl rfl (GO.quo rfl rfl rfl (by omega) (by omega)).run | exact again.one rfl rfl rfl (GO.neg rfl rfl (by omega)).run | exact again.one rfl rfl rfl (GO.conv rfl rfl rfl rfl (i64_wrap (by omega) (by omega))).run | exact again.one rfl rfl rfl (GO.conv rfl rfl rfl rfl rfl).run) ?_) ?_ | refine GD.done rfl rfl rfl ?_ | (refine GD.forkD rfl rfl rfl rfl (fun h => ?_) (fun h => ?_) <;> try (exfalso; omega)) | (refine GD.forkN rfl rfl rfl rfl (fun h => ?_) (fun h => ?_) <;> try (exfalso; omega)) | refine GD.forkB rfl rfl rfl rfl (fun h => ?_) (fun h => ?_)))) | refine GL.clear rfl rfl rfl rfl rfl rfl rfl rfl rfl rfl rfl ?_ | refine GL.sf rfl rfl rfl rfl ?_ | refine GL.nf rfl rfl rfl ?_ | refine GL.sv rfl rfl rfl rfl ?_ | refine GL.sn rfl rfl rfl ?_ | refine GL.done ?_ | refine GP.thenN ?_ | refine GT.seq ?_ | refine GT.region ?_ | refine GL.unguard rfl rfl ?_ | refine GL.skip rfl rfl rfl rfl ?_ | refine GL.skipU rfl rfl rfl rfl ?_ | refine GL.v rfl rfl rfl (by first | exact GO.push (GO.call rfl rfl Try.func20 rfl rfl rfl (clone20 a0 b0 a1 b1 a2 b2 rfl)) | exact GO.call rfl rfl Try.func18 rfl rfl rfl (meet23 _ _ _ _ rfl) | exact GO.add rfl rfl rfl (by omega) | exact GO.sub rfl rfl rfl (by omega) | exact GO.mul rfl rfl rfl (by omega) | exact GO.rem rfl rfl rfl (by omega) (by omega) | exact GO.quo rfl rfl rfl (by omega) (by omega) | exact GO.neg rfl rfl (by omega) | exact GO.conv rfl rfl rfl rfl (i64_wrap (by omega) (by omega)) | exact GO.conv rfl rfl rfl rfl rfl) ?_ | refine GT.skip ?_ | refine GT.block ?_ | refine GT.ret ?_ | refine GT.exit ?_ | refine GP.thenR ?_ | refine GP.thenE ?_ | refine GP.inN ?_ | refine GP.inR ?_ | refine GP.hit ?_ | refine GP.miss rfl ?_ | refine GP.againN ?_ | refine GP.againR ?_ | refine GP.againE ?_ | refine GP.invR ?_ | refine GP.invE ?_ | refine GU.step ?_ | refine GT.condT rfl ?_ | refine GT.condF rfl ?_ | (refine GT.condD rfl (fun h => ?_) (fun h => ?_) <;> try (exfalso; omega)) | (refine GT.condN rfl (fun h => ?_) (fun h => ?_) <;> try (exfalso; omega)) | (refine GT.condB rfl (fun h => ?_) (fun h => ?_)) | (refine GL.forkD rfl rfl (fun h => ?_) (fun h => ?_) <;> try (exfalso; omega)) | (refine GL.forkN rfl rfl (fun h => ?_) (fun h => ?_) <;> try (exfalso; omega)) | (refine GL.forkB rfl rfl (fun h => ?_) (fun h => ?_)) | refine GP.endR1 rfl ?_ | refine GP.endR2 rfl ?_ | refine GP.endN1 rfl ?_ | refine GP.endR3 rfl ?_ | refine GP.endN0 rfl ?_ | refine GP.endR0 rfl ?_)))) ?_
    | exact absurd h hm
    | exact absurd hk h
    | exact absurd h hj
    | exact absurd h hi
    | (refine GT.draws (id := 5) [[], [], [0, 1], [], [], [3, 4], [0, 1, 2, 3, 4, 5], [0, 1, 2, 3, 4, 5, 6]] [5, 6] (by kernel_rfl) ?_ <;> (repeat' (first | refine GD.light rfl rfl (by first | exact onAt.none rfl | exact onAt.yes rfl rfl rfl) rfl (by first | exact AllMs.cons rfl (astepF_sound rfl) (.nil rfl) | exact AllMs.cons rfl (astep_sound rfl) (.nil rfl) | exact AllMs.cons rfl (astep_sound rfl) (.cons rfl (astep_sound rfl) (.nil rfl)) | exact AllMs.cons rfl (astep_sound rfl) (.cons rfl (astep_sound rfl) (.cons rfl (astep_sound rfl) (.nil rfl))) | exact AllMs.cons rfl (GO.push (GO.call rfl rfl Try.func20 rfl rfl rfl (clone20 a0 b0 a1 b1 a2 b2 rfl))).run (.nil rfl) | exact AllMs.cons rfl (GO.push (GO.call rfl rfl Try.func20 rfl rfl rfl (clone20 a0 b0 a1 b1 a2 b2 rfl))).run (.cons rfl (GO.push (GO.call rfl rfl Try.func20 rfl rfl rfl (clone20 a0 b0 a1 b1 a2 b2 rfl))).run (.nil rfl)) | exact AllMs.cons rfl (GO.call rfl rfl Try.func18 rfl rfl rfl (meet23 _ _ _ _ rfl)).run (.nil rfl) | exact AllMs.cons rfl (GO.call rfl rfl Try.func18 rfl rfl rfl (meet23 _ _ _ _ rfl)).run (.cons rfl (GO.call rfl rfl Try.func18 rfl rfl rfl (meet23 _ _ _ _ rfl)).run (.nil rfl)) | exact AllMs.cons rfl (GO.add rfl rfl rfl (by omega)).run (.nil rfl) | exact AllMs.cons rfl (GO.add rfl rfl rfl (by omega)).run (.cons rfl (GO.add rfl rfl rfl (by omega)).run (.nil rfl)) | exact AllMs.cons rfl (GO.sub rfl rfl rfl (by omega)).run (.nil rfl) | exact AllMs.cons rfl (GO.sub rfl rfl rfl (by omega)).run (.cons rfl (GO.sub rfl rfl rfl (by omega)).run (.nil rfl)) | exact AllMs.cons rfl (GO.mul rfl rfl rfl (by omega)).run (.nil rfl) | exact AllMs.cons rfl (GO.mul rfl rfl rfl (by omega)).run (.cons rfl (GO.mul rfl rfl rfl (by omega)).run (.nil rfl)) | exact AllMs.cons rfl (GO.rem rfl rfl rfl (by omega) (by omega)).run (.nil rfl) | exact AllMs.cons rfl (GO.rem rfl rfl rfl (by omega) (by omega)).run (.cons rfl (GO.rem rfl rfl rfl (by omega) (by omega)).run (.nil rfl)) | exact AllMs.cons rfl (GO.quo rfl rfl rfl (by omega) (by omega)).run (.nil rfl) | exact AllMs.cons rfl (GO.quo rfl rfl rfl (by omega) (by omega)).run (.cons rfl (GO.quo rfl rfl rfl (by omega) (by omega)).run (.nil rfl)) | exact AllMs.cons rfl (GO.neg rfl rfl (by omega)).run (.nil rfl) | exact AllMs.cons rfl (GO.neg rfl rfl (by omega)).run (.cons rfl (GO.neg rfl rfl (by omega)).run (.nil rfl)) | exact AllMs.cons rfl (GO.conv rfl rfl rfl rfl (i64_wrap (by omega) (by omega))).run (.nil rfl) | exact AllMs.cons rfl (GO.conv rfl rfl rfl rfl (i64_wrap (by omega) (by omega))).run (.cons rfl (GO.conv rfl rfl rfl rfl (i64_wrap (by omega) (by omega))).run (.nil rfl)) | exact AllMs.cons rfl (GO.conv rfl rfl rfl rfl rfl).run (.nil rfl) | exact AllMs.cons rfl (GO.conv rfl rfl rfl rfl rfl).run (.cons rfl (GO.conv rfl rfl rfl rfl rfl).run (.nil rfl))) ?_ | refine GD.off rfl rfl rfl rfl rfl (by first | exact .inl rfl | exact .inr rfl) rfl ?_ | refine GD.heavy rfl rfl rfl (by first | exact onAt.none rfl | exact onAt.yes rfl rfl rfl) rfl (by first | exact astepF_sound rfl | exact astep_sound rfl | exact (GO.push (GO.call rfl rfl Try.func20 rfl rfl rfl (clone20 a0 b0 a1 b1 a2 b2 rfl))).run | exact (GO.call rfl rfl Try.func18 rfl rfl rfl (meet23 _ _ _ _ rfl)).run) (by repeat first | exact .nil rfl | refine .cons rfl (by first | exact again.one rfl rfl rfl (astep_sound rfl) | exact again.off rfl rfl rfl rfl (by first | exact .inl rfl | exact .inr rfl) rfl rfl | exact again.one rfl rfl rfl (GO.push (GO.call rfl rfl Try.func20 rfl rfl rfl (clone20 a0 b0 a1 b1 a2 b2 rfl))).run | exact again.one rfl rfl rfl (GO.call rfl rfl Try.func18 rfl rfl rfl (meet23 _ _ _ _ rfl)).run | exact again.one rfl rfl rfl (GO.add rfl rfl rfl (by omega)).run | exact again.one rfl rfl rfl (GO.sub rfl rfl rfl (by omega)).run | exact again.one rfl rfl rfl (GO.mul rfl rfl rfl (by omega)).run | exact again.one rfl rfl rfl (GO.rem rfl rfl rfl (by omega) (by omega)).run | exact again.one rfl rfl rfl (GO.quo rfl rfl rfl (by omega) (by omega)).run | exact again.one rfl rfl rfl (GO.neg rfl rfl (by omega)).run | exact again.one rfl rfl rfl (GO.conv rfl rfl rfl rfl (i64_wrap (by omega) (by omega))).run | exact again.one rfl rfl rfl (GO.conv rfl rfl rfl rfl rfl).run) ?_) ?_ | refine GD.heavyF rfl rfl rfl (by first | exact onAt.none rfl | exact onAt.yes rfl rfl rfl) rfl rfl (by repeat first | exact .nil rfl | refine .cons rfl (by first | exact again.one rfl rfl rfl (astep_sound rfl) | exact again.off rfl rfl rfl rfl (by first | exact .inl rfl | exact .inr rfl) rfl rfl | exact again.one rfl rfl rfl (GO.push (GO.call rfl rfl Try.func20 rfl rfl rfl (clone20 a0 b0 a1 b1 a2 b2 rfl))).run | exact again.one rfl rfl rfl (GO.call rfl rfl Try.func18 rfl rfl rfl (meet23 _ _ _ _ rfl)).run | exact again.one rfl rfl rfl (GO.add rfl rfl rfl (by omega)).run | exact again.one rfl rfl rfl (GO.sub rfl rfl rfl (by omega)).run | exact again.one rfl rfl rfl (GO.mul rfl rfl rfl (by omega)).run | exact again.one rfl rfl rfl (GO.rem rfl rfl rfl (by omega) (by omega)).run | exact again.one rfl rfl rfl (GO.quo rfl rfl rfl (by omega) (by omega)).run | exact again.one rfl rfl rfl (GO.neg rfl rfl (by omega)).run | exact again.one rfl rfl rfl (GO.conv rfl rfl rfl rfl (i64_wrap (by omega) (by omega))).run | exact again.one rfl rfl rfl (GO.conv rfl rfl rfl rfl rfl).run) ?_) ?_ | refine GD.heavyN rfl rfl rfl (by first | exact onAt.none rfl | exact onAt.yes rfl rfl rfl) rfl rfl (by repeat first | exact .nil rfl | refine .cons rfl (by first | exact again.one rfl rfl rfl (astep_sound rfl) | exact again.off rfl rfl rfl rfl (by first | exact .inl rfl | exact .inr rfl) rfl rfl | exact again.one rfl rfl rfl (GO.push (GO.call rfl rfl Try.func20 rfl rfl rfl (clone20 a0 b0 a1 b1 a2 b2 rfl))).run | exact again.one rfl rfl rfl (GO.call rfl rfl Try.func18 rfl rfl rfl (meet23 _ _ _ _ rfl)).run | exact again.one rfl rfl rfl (GO.add rfl rfl rfl (by omega)).run | exact again.one rfl rfl rfl (GO.sub rfl rfl rfl (by omega)).run | exact again.one rfl rfl rfl (GO.mul rfl rfl rfl (by omega)).run | exact again.one rfl rfl rfl (GO.rem rfl rfl rfl (by omega) (by omega)).run | exact again.one rfl rfl rfl (GO.quo rfl rfl rfl (by omega) (by omega)).run | exact again.one rfl rfl rfl (GO.neg rfl rfl (by omega)).run | exact again.one rfl rfl rfl (GO.conv rfl rfl rfl rfl (i64_wrap (by omega) (by omega))).run | exact again.one rfl rfl rfl (GO.conv rfl rfl rfl rfl rfl).run) ?_) ?_ | refine GD.done rfl rfl rfl ?_ | (refine GD.forkD rfl rfl rfl rfl (fun h => ?_) (fun h => ?_) <;> try (exfalso; omega)) | (refine GD.forkN rfl rfl rfl rfl (fun h => ?_) (fun h => ?_) <;> try (exfalso; omega)) | refine GD.forkB rfl rfl rfl rfl (fun h => ?_) (fun h => ?_))))
    | refine GL.clear rfl rfl rfl rfl rfl rfl rfl rfl rfl rfl rfl ?_
    | refine GL.sf rfl rfl rfl rfl ?_
    | refine GL.nf rfl rfl rfl ?_
    | refine GL.sv rfl rfl rfl rfl ?_
    | refine GL.sn rfl rfl rfl ?_
    | refine GL.done ?_
    | refine GP.thenN ?_
    | refine GT.seq ?_
    | refine GT.region ?_
    | refine GL.unguard rfl rfl ?_
    | refine GL.skip rfl rfl rfl rfl ?_
    | refine GL.skipU rfl rfl rfl rfl ?_
    | refine GL.v rfl rfl rfl (by first | exact GO.push (GO.call rfl rfl Try.func20 rfl rfl rfl (clone20 a0 b0 a1 b1 a2 b2 rfl)) | exact GO.call rfl rfl Try.func18 rfl rfl rfl (meet23 _ _ _ _ rfl) | exact GO.add rfl rfl rfl (by omega) | exact GO.sub rfl rfl rfl (by omega) | exact GO.mul rfl rfl rfl (by omega) | exact GO.rem rfl rfl rfl (by omega) (by omega) | exact GO.quo rfl rfl rfl (by omega) (by omega) | exact GO.neg rfl rfl (by omega) | exact GO.conv rfl rfl rfl rfl (i64_wrap (by omega) (by omega)) | exact GO.conv rfl rfl rfl rfl rfl) ?_
    | refine GT.skip ?_
    | refine GT.block ?_
    | refine GT.ret ?_
    | refine GT.exit ?_
    | refine GP.thenR ?_
    | refine GP.thenE ?_
    | refine GP.inN ?_
    | refine GP.inR ?_
    | refine GP.hit ?_
    | refine GP.miss rfl ?_
    | refine GP.againN ?_
    | refine GP.againR ?_
    | refine GP.againE ?_
    | refine GP.invR ?_
    | refine GP.invE ?_
    | refine GU.step ?_
    | refine GT.condT rfl ?_
    | refine GT.condF rfl ?_
    | (refine GT.condD rfl (fun h => ?_) (fun h => ?_) <;> try (exfalso; omega))
    | (refine GT.condN rfl (fun h => ?_) (fun h => ?_) <;> try (exfalso; omega))
    | (refine GT.condB rfl (fun h => ?_) (fun h => ?_))
    | (refine GL.forkD rfl rfl (fun h => ?_) (fun h => ?_) <;> try (exfalso; omega))
    | (refine GL.forkN rfl rfl (fun h => ?_) (fun h => ?_) <;> try (exfalso; omega))
    | (refine GL.forkB rfl rfl (fun h => ?_) (fun h => ?_))
    | refine GP.endR1 rfl ?_
    | refine GP.endR2 rfl ?_
    | refine GP.endN1 rfl ?_
    | refine GP.endR3 rfl ?_
    | refine GP.endN0 rfl ?_
    | refine GP.endR0 rfl ?_)
  rfl
end Go.M
