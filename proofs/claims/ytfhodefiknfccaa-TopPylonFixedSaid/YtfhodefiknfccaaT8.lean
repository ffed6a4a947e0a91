/- Functions of the given program, walked (no condition beyond what each theorem says). -/
import Derived.Test.YtfhodefiknfccaaT7
set_option linter.unusedVariables false
set_option linter.unusedSimpArgs false
namespace Go.M
open Go.Proofs
set_option maxRecDepth 8000
set_option maxHeartbeats 4000000
theorem fixes_c3 {A : AW} {b f c : Nat} (a0 b0 a1 b1 a2 b2 : Int) (h0 : -1000000 ≤ a0 ∧ a0 ≤ b0 ∧ b0 ≤ 1000000) (h1 : -1000000 ≤ a1 ∧ a1 ≤ b1 ∧ b1 ≤ 1000000) (h2 : -1000000 ≤ a2 ∧ a2 ≤ b2 ∧ b2 ≤ 1000000) (h : A.rd b f 21 = some [.string ⟨#[115, 48]⟩, .int .i64 a0, .int .i64 b0, .int .i64 (-5), .int .i64 5, .int .i64 0, .int .i64 9, .string ⟨#[115, 49]⟩, .int .i64 a1, .int .i64 b1, .int .i64 (-5), .int .i64 5, .int .i64 0, .int .i64 9, .string ⟨#[116, 104, 101, 111, 100, 111, 108, 105, 116, 101]⟩, .int .i64 a2, .int .i64 b2, .int .i64 (-5), .int .i64 5, .int .i64 0, .int .i64 9]) : AC Try.prog 17 [.slice (some ⟨b, f, none⟩) 3 c] A (isR (.int .i64 0) A) := by
  refine AC.is1 (o := .cells [.string ⟨#[115, 48]⟩, .int .i64 a0, .int .i64 b0, .int .i64 (-5), .int .i64 5, .int .i64 0, .int .i64 9, .string ⟨#[115, 49]⟩, .int .i64 a1, .int .i64 b1, .int .i64 (-5), .int .i64 5, .int .i64 0, .int .i64 9, .string ⟨#[116, 104, 101, 111, 100, 111, 108, 105, 116, 101]⟩, .int .i64 a2, .int .i64 b2, .int .i64 (-5), .int .i64 5, .int .i64 0, .int .i64 9] 40) (b := b) (g := f) (args := [.slice (some ⟨0, 0, none⟩) 3 c]) ?_ ⟨8, rfl⟩ ⟨h, 64, rfl⟩ (.sl (g := 0) rfl rfl .nil)
  refine AC.go Try.func17 rfl rfl ?_
  clear h
  repeat' (first
    | refine GL.sf rfl rfl rfl rfl ?_
    | refine GL.nf rfl rfl rfl ?_
    | refine GL.sv rfl rfl rfl rfl ?_
    | refine GL.sn rfl rfl rfl ?_
    | refine GL.done ?_
    | refine GP.thenN ?_
    | refine GT.seq ?_
    | refine GT.region ?_
    | refine GL.unguard rfl rfl ?_
    | refine GL.skip rfl rfl rfl rfl ?_
    | refine GL.skipU rfl rfl rfl rfl ?_
    | refine GL.v rfl rfl rfl (by first | exact GO.call rfl rfl Try.func24 rfl rfl rfl (sized24 _ _) | exact GO.add rfl rfl rfl (by omega) | exact GO.sub rfl rfl rfl (by omega) | exact GO.mul rfl rfl rfl (by omega) | exact GO.rem rfl rfl rfl (by omega) (by omega) | exact GO.quo rfl rfl rfl (by omega) (by omega) | exact GO.neg rfl rfl (by omega) | exact GO.conv rfl rfl rfl rfl (i64_wrap (by omega) (by omega)) | exact GO.conv rfl rfl rfl rfl rfl) ?_
    | refine GT.skip ?_
    | refine GT.block ?_
    | refine GT.ret ?_
    | refine GT.exit ?_
    | refine GP.thenR ?_
    | refine GP.thenE ?_
    | refine GP.inN ?_
    | refine GP.inR ?_
    | refine GP.hit ?_
    | refine GP.miss rfl ?_
    | refine GP.againN ?_
    | refine GP.againR ?_
    | refine GP.againE ?_
    | refine GP.invR ?_
    | refine GP.invE ?_
    | refine GU.step ?_
    | refine GT.condT rfl ?_
    | refine GT.condF rfl ?_
    | (refine GT.condD rfl (fun h => ?_) (fun h => ?_) <;> try (exfalso; omega))
    | (refine GT.condN rfl (fun h => ?_) (fun h => ?_) <;> try (exfalso; omega))
    | (refine GT.condB rfl (fun h => ?_) (fun h => ?_))
    | (refine GL.forkD rfl rfl (fun h => ?_) (fun h => ?_) <;> try (exfalso; omega))
    | (refine GL.forkN rfl rfl (fun h => ?_) (fun h => ?_) <;> try (exfalso; omega))
    | (refine GL.forkB rfl rfl (fun h => ?_) (fun h => ?_))
    | refine GP.endR1 rfl ?_
    | refine GP.endR2 rfl ?_
    | refine GP.endN1 rfl ?_
    | refine GP.endR3 rfl ?_
    | refine GP.endN0 rfl ?_
    | refine GP.endR0 rfl ?_)
  refine GT.unroll 4 ?_
  repeat' (first
    | refine GL.sf rfl rfl rfl rfl ?_
    | refine GL.nf rfl rfl rfl ?_
    | refine GL.sv rfl rfl rfl rfl ?_
    | refine GL.sn rfl rfl rfl ?_
    | refine GL.done ?_
    | refine GP.thenN ?_
    | refine GT.seq ?_
    | refine GT.region ?_
    | refine GL.unguard rfl rfl ?_
    | refine GL.skip rfl rfl rfl rfl ?_
    | refine GL.skipU rfl rfl rfl rfl ?_
    | refine GL.v rfl rfl rfl (by first | exact GO.push (GO.call rfl rfl Try.func25 rfl rfl rfl (mapped25 _ _ _ _ _ _ (by omega) (by omega) (by omega) rfl)) | exact GO.call rfl rfl Try.func29 rfl rfl rfl (name_a rfl) | exact GO.call rfl rfl Try.func29 rfl rfl rfl (name_b rfl) | exact GO.call rfl rfl Try.func29 rfl rfl rfl (name_c rfl) | exact GO.call rfl rfl Try.func28 rfl rfl rfl (first28 [0, 0, 0] rfl rfl rfl) | exact GO.call rfl rfl Try.func28 rfl rfl rfl (first28 [0, firstNZ [0, 0, 0]] rfl rfl rfl) | exact GO.add rfl rfl rfl (by omega) | exact GO.sub rfl rfl rfl (by omega) | exact GO.mul rfl rfl rfl (by omega) | exact GO.rem rfl rfl rfl (by omega) (by omega) | exact GO.quo rfl rfl rfl (by omega) (by omega) | exact GO.neg rfl rfl (by omega) | exact GO.conv rfl rfl rfl rfl (i64_wrap (by omega) (by omega)) | exact GO.conv rfl rfl rfl rfl rfl) ?_
    | refine GT.skip ?_
    | refine GT.block ?_
    | refine GT.ret ?_
    | refine GT.exit ?_
    | refine GP.thenR ?_
    | refine GP.thenE ?_
    | refine GP.inN ?_
    | refine GP.inR ?_
    | refine GP.hit ?_
    | refine GP.miss rfl ?_
    | refine GP.againN ?_
    | refine GP.againR ?_
    | refine GP.againE ?_
    | refine GP.invR ?_
    | refine GP.invE ?_
    | refine GU.step ?_
    | refine GT.condT rfl ?_
    | refine GT.condF rfl ?_
    | (refine GT.condD rfl (fun h => ?_) (fun h => ?_) <;> try (exfalso; omega))
    | (refine GT.condN rfl (fun h => ?_) (fun h => ?_) <;> try (exfalso; omega))
    | (refine GT.condB rfl (fun h => ?_) (fun h => ?_))
    | (refine GL.forkD rfl rfl (fun h => ?_) (fun h => ?_) <;> try (exfalso; omega))
    | (refine GL.forkN rfl rfl (fun h => ?_) (fun h => ?_) <;> try (exfalso; omega))
    | (refine GL.forkB rfl rfl (fun h => ?_) (fun h => ?_))
    | refine GP.endR1 rfl ?_
    | refine GP.endR2 rfl ?_
    | refine GP.endN1 rfl ?_
    | refine GP.endR3 rfl ?_
    | refine GP.endN0 rfl ?_
    | refine GP.endR0 rfl ?_)
  rfl
theorem fixes_c2 {A : AW} {b f c : Nat} (a0 b0 a1 b1 : Int) (h0 : -1000000 ≤ a0 ∧ a0 ≤ b0 ∧ b0 ≤ 1000000) (h1 : -1000000 ≤ a1 ∧ a1 ≤ b1 ∧ b1 ≤ 1000000) (h : A.rd b f 14 = some [.string ⟨#[110, 101, 97, 114]⟩, .int .i64 a0, .int .i64 b0, .int .i64 (-5), .int .i64 5, .int .i64 0, .int .i64 9, .string ⟨#[116, 104, 101, 111, 100, 111, 108, 105, 116, 101]⟩, .int .i64 a1, .int .i64 b1, .int .i64 (-5), .int .i64 5, .int .i64 0, .int .i64 9]) : AC Try.prog 17 [.slice (some ⟨b, f, none⟩) 2 c] A (isR (.int .i64 0) A) := by
  refine AC.is1 (o := .cells [.string ⟨#[110, 101, 97, 114]⟩, .int .i64 a0, .int .i64 b0, .int .i64 (-5), .int .i64 5, .int .i64 0, .int .i64 9, .string ⟨#[116, 104, 101, 111, 100, 111, 108, 105, 116, 101]⟩, .int .i64 a1, .int .i64 b1, .int .i64 (-5), .int .i64 5, .int .i64 0, .int .i64 9] 40) (b := b) (g := f) (args := [.slice (some ⟨0, 0, none⟩) 2 c]) ?_ ⟨8, rfl⟩ ⟨h, 64, rfl⟩ (.sl (g := 0) rfl rfl .nil)
  refine AC.go Try.func17 rfl rfl ?_
  clear h
  repeat' (first
    | refine GL.sf rfl rfl rfl rfl ?_
    | refine GL.nf rfl rfl rfl ?_
    | refine GL.sv rfl rfl rfl rfl ?_
    | refine GL.sn rfl rfl rfl ?_
    | refine GL.done ?_
    | refine GP.thenN ?_
    | refine GT.seq ?_
    | refine GT.region ?_
    | refine GL.unguard rfl rfl ?_
    | refine GL.skip rfl rfl rfl rfl ?_
    | refine GL.skipU rfl rfl rfl rfl ?_
    | refine GL.v rfl rfl rfl (by first | exact GO.call rfl rfl Try.func24 rfl rfl rfl (sized24 _ _) | exact GO.add rfl rfl rfl (by omega) | exact GO.sub rfl rfl rfl (by omega) | exact GO.mul rfl rfl rfl (by omega) | exact GO.rem rfl rfl rfl (by omega) (by omega) | exact GO.quo rfl rfl rfl (by omega) (by omega) | exact GO.neg rfl rfl (by omega) | exact GO.conv rfl rfl rfl rfl (i64_wrap (by omega) (by omega)) | exact GO.conv rfl rfl rfl rfl rfl) ?_
    | refine GT.skip ?_
    | refine GT.block ?_
    | refine GT.ret ?_
    | refine GT.exit ?_
    | refine GP.thenR ?_
    | refine GP.thenE ?_
    | refine GP.inN ?_
    | refine GP.inR ?_
    | refine GP.hit ?_
    | refine GP.miss rfl ?_
    | refine GP.againN ?_
    | refine GP.againR ?_
    | refine GP.againE ?_
    | refine GP.invR ?_
    | refine GP.invE ?_
    | refine GU.step ?_
    | refine GT.condT rfl ?_
    | refine GT.condF rfl ?_
    | (refine GT.condD rfl (fun h => ?_) (fun h => ?_) <;> try (exfalso; omega))
    | (refine GT.condN rfl (fun h => ?_) (fun h => ?_) <;> try (exfalso; omega))
    | (refine GT.condB rfl (fun h => ?_) (fun h => ?_))
    | (refine GL.forkD rfl rfl (fun h => ?_) (fun h => ?_) <;> try (exfalso; omega))
    | (refine GL.forkN rfl rfl (fun h => ?_) (fun h => ?_) <;> try (exfalso; omega))
    | (refine GL.forkB rfl rfl (fun h => ?_) (fun h => ?_))
    | refine GP.endR1 rfl ?_
    | refine GP.endR2 rfl ?_
    | refine GP.endN1 rfl ?_
    | refine GP.endR3 rfl ?_
    | refine GP.endN0 rfl ?_
    | refine GP.endR0 rfl ?_)
  refine GT.unroll 3 ?_
  repeat' (first
    | refine GL.sf rfl rfl rfl rfl ?_
    | refine GL.nf rfl rfl rfl ?_
    | refine GL.sv rfl rfl rfl rfl ?_
    | refine GL.sn rfl rfl rfl ?_
    | refine GL.done ?_
    | refine GP.thenN ?_
    | refine GT.seq ?_
    | refine GT.region ?_
    | refine GL.unguard rfl rfl ?_
    | refine GL.skip rfl rfl rfl rfl ?_
    | refine GL.skipU rfl rfl rfl rfl ?_
    | refine GL.v rfl rfl rfl (by first | exact GO.push (GO.call rfl rfl Try.func25 rfl rfl rfl (mapped25 _ _ _ _ _ _ (by omega) (by omega) (by omega) rfl)) | exact GO.call rfl rfl Try.func29 rfl rfl rfl (name_d rfl) | exact GO.call rfl rfl Try.func29 rfl rfl rfl (name_e rfl) | exact GO.call rfl rfl Try.func28 rfl rfl rfl (first28 [0, 0, 0] rfl rfl rfl) | exact GO.call rfl rfl Try.func28 rfl rfl rfl (first28 [0, firstNZ [0, 0, 0]] rfl rfl rfl) | exact GO.add rfl rfl rfl (by omega) | exact GO.sub rfl rfl rfl (by omega) | exact GO.mul rfl rfl rfl (by omega) | exact GO.rem rfl rfl rfl (by omega) (by omega) | exact GO.quo rfl rfl rfl (by omega) (by omega) | exact GO.neg rfl rfl (by omega) | exact GO.conv rfl rfl rfl rfl (i64_wrap (by omega) (by omega)) | exact GO.conv rfl rfl rfl rfl rfl) ?_
    | refine GT.skip ?_
    | refine GT.block ?_
    | refine GT.ret ?_
    | refine GT.exit ?_
    | refine GP.thenR ?_
    | refine GP.thenE ?_
    | refine GP.inN ?_
    | refine GP.inR ?_
    | refine GP.hit ?_
    | refine GP.miss rfl ?_
    | refine GP.againN ?_
    | refine GP.againR ?_
    | refine GP.againE ?_
    | refine GP.invR ?_
    | refine GP.invE ?_
    | refine GU.step ?_
    | refine GT.condT rfl ?_
    | refine GT.condF rfl ?_
    | (refine GT.condD rfl (fun h => ?_) (fun h => ?_) <;> try (exfalso; omega))
    | (refine GT.condN rfl (fun h => ?_) (fun h => ?_) <;> try (exfalso; omega))
    | (refine GT.condB rfl (fun h => ?_) (fun h => ?_))
    | (refine GL.forkD rfl rfl (fun h => ?_) (fun h => ?_) <;> try (exfalso; omega))
    | (refine GL.forkN rfl rfl (fun h => ?_) (fun h => ?_) <;> try (exfalso; omega))
    | (refine GL.forkB rfl rfl (fun h => ?_) (fun h => ?_))
    | refine GP.endR1 rfl ?_
    | refine GP.endR2 rfl ?_
    | refine GP.endN1 rfl ?_
    | refine GP.endR3 rfl ?_
    | refine GP.endN0 rfl ?_
    | refine GP.endR0 rfl ?_)
  rfl
end Go.M
