/- Functions of the given program, walked (no condition beyond what each theorem says). -/
import Derived.Test.YtfhodefiknfccaaT10
set_option linter.unusedVariables false
set_option linter.unusedSimpArgs false
namespace Go.M
open Go.Proofs
set_option maxRecDepth 8000
set_option maxHeartbeats 4000000
theorem distance_ex {A : AW} : AC Try.prog 6 [.agg #[.int .i64 12, .int .i64 50, .int .i64 2, .int .i64 0, .int .i64 0, .int .i64 1, .int .i64 1, .int .i64 1], .int .i64 200, .int .i64 350] A (isR (.tuple #[.agg #[.int .i64 49, .int .i64 51], .int .i64 0]) A) := by
  have e1 : distLo 50 2 200 350 = 49 := by decide
  have e2 : distHi 50 2 200 350 = 51 := by decide
  have h := distance6 (A := A) 12 50 2 0 0 1 1 1 200 350 (by unfold StationOk; omega) (by omega) (by omega) (by rw [e1, e2]; decide)
  rw [e1, e2] at h
  exact h
theorem distance_law (s1 s2 s3 s4 s5 s6 s7 s8 d off : Int) (hs : StationOk s1 s2 s3 s4 s5 s6 s7 s8) (hd : 10000 ≤ d ∧ d ≤ 30000) (ho : -s3 ≤ off ∧ off ≤ s3) :
    ∃ lo hi : Int, (∀ A, AC Try.prog 6 [.agg #[.int .i64 s1, .int .i64 s2, .int .i64 s3, .int .i64 s4, .int .i64 s5, .int .i64 s6, .int .i64 s7, .int .i64 s8], .int .i64 1000, .int .i64 (1000 + s2 + 2 * d + off)] A (isR (.tuple #[.agg #[.int .i64 lo, .int .i64 hi], .int .i64 0]) A)) ∧ d - 1000 ≤ lo ∧ 0 ≤ lo ∧ lo ≤ d ∧ d ≤ hi ∧ hi ≤ d + 1000 := by
  obtain ⟨h1, h2, h3, h4, h5, h6, h7, h8⟩ := id hs
  have hlo : d - 1000 ≤ distLo s2 s3 1000 (1000 + s2 + 2 * d + off) ∧ 0 ≤ distLo s2 s3 1000 (1000 + s2 + 2 * d + off) ∧ distLo s2 s3 1000 (1000 + s2 + 2 * d + off) ≤ d := by
    unfold distLo halvedI
    split <;> omega
  have hhi : d ≤ distHi s2 s3 1000 (1000 + s2 + 2 * d + off) ∧ distHi s2 s3 1000 (1000 + s2 + 2 * d + off) ≤ d + 1000 := by
    unfold distHi halvedI
    split <;> omega
  exact ⟨_, _, fun A => distance6 (A := A) s1 s2 s3 s4 s5 s6 s7 s8 1000 _ hs (by omega) (by omega) (by omega), hlo.1, hlo.2.1, hlo.2.2, hhi.1, hhi.2⟩
/-- The product of a reply's part, and the part itself. -/
theorem off_law (n s : Int) (hn : -128 ≤ n ∧ n ≤ 127) (hs : 0 ≤ s ∧ s ≤ 1000) : (-128000 ≤ n * s ∧ n * s ≤ 128000) ∧ -s ≤ (n * s).tdiv 128 ∧ (n * s).tdiv 128 ≤ s := by
  have a1 : -128 * s ≤ n * s := Int.mul_le_mul_of_nonneg_right hn.1 hs.1
  have a2 : n * s ≤ 127 * s := Int.mul_le_mul_of_nonneg_right hn.2 hs.1
  refine ⟨by omega, ?_, ?_⟩
  · rcases Int.le_total 0 (n * s) with h | h
    · have := Int.tdiv_nonneg h (show (0 : Int) ≤ 128 by decide); omega
    · have e : (n * s).tdiv 128 = -((-(n * s)) / 128) := by
        rw [← Int.tdiv_eq_ediv_of_nonneg (by omega), Int.neg_tdiv, Int.neg_neg]
      rw [e]; omega
  · rcases Int.le_total 0 (n * s) with h | h
    · rw [Int.tdiv_eq_ediv_of_nonneg h]; omega
    · have e : (n * s).tdiv 128 = -((-(n * s)) / 128) := by
        rw [← Int.tdiv_eq_ediv_of_nonneg (by omega), Int.neg_tdiv, Int.neg_neg]
      rw [e]; omega
theorem meet_ex {A : AW} {b f : Nat} (h : A.rd b f 14 = some [.string ⟨#[110, 101, 97, 114]⟩, .int .i64 (1000 + 49), .int .i64 (1000 + 51), .int .i64 (-5), .int .i64 5, .int .i64 0, .int .i64 9, .string ⟨#[116, 104, 101, 111, 100, 111, 108, 105, 116, 101]⟩, .int .i64 1040, .int .i64 1050, .int .i64 (-5), .int .i64 5, .int .i64 0, .int .i64 9]) :
    AC Try.prog 9 [.slice (some ⟨b, f, none⟩) 2 2] A (isR (.tuple #[.agg #[.int .i64 1049, .int .i64 1050, .int .i64 (-5), .int .i64 5, .int .i64 0, .int .i64 9], .int .i64 0]) A) := by
  have e1 : max (1000 + 49) 1040 = (1049 : Int) := by omega
  have e2 : min (1000 + 51) 1050 = (1050 : Int) := by omega
  have := Meet_c2_ok (A := A) (1000 + 49) (1000 + 51) 1040 1050 (by omega) (by omega) (by omega) h
  rw [e1, e2] at this
  exact this
theorem place4 {A : AW} : AC Try.prog 4 [] A (isR (.bool true) A) := by
  refine AC.is0 ?_ ⟨8, rfl⟩ .nil
  refine AC.go Try.func4 rfl rfl ?_
  repeat' (first
    | refine GL.sf rfl rfl rfl rfl ?_
    | refine GL.nf rfl rfl rfl ?_
    | refine GL.sv rfl rfl rfl rfl ?_
    | refine GL.sn rfl rfl rfl ?_
    | refine GL.done ?_
    | refine GP.thenN ?_
    | refine GT.seq ?_
    | refine GT.region ?_
    | refine GL.unguard rfl rfl ?_
    | refine GL.skip rfl rfl rfl rfl ?_
    | refine GL.skipU rfl rfl rfl rfl ?_
    | refine GL.v rfl rfl rfl (by first | exact GO.call rfl rfl Try.func6 rfl rfl rfl (distance_ex) | exact GO.call rfl rfl Try.func7 rfl rfl rfl (fix7 _ _ _) | exact GO.call rfl rfl Try.func9 rfl rfl rfl (meet_ex rfl) | exact GO.eq rfl rfl rfl rfl rfl Try.eqGuardType33 (aeq33 _ _ _ _) rfl | exact GO.add rfl rfl rfl (by omega) | exact GO.sub rfl rfl rfl (by omega) | exact GO.mul rfl rfl rfl (by omega) | exact GO.rem rfl rfl rfl (by omega) (by omega) | exact GO.quo rfl rfl rfl (by omega) (by omega) | exact GO.neg rfl rfl (by omega) | exact GO.conv rfl rfl rfl rfl (i64_wrap (by omega) (by omega)) | exact GO.conv rfl rfl rfl rfl rfl) ?_
    | refine GT.skip ?_
    | refine GT.block ?_
    | refine GT.ret ?_
    | refine GT.exit ?_
    | refine GP.thenR ?_
    | refine GP.thenE ?_
    | refine GP.inN ?_
    | refine GP.inR ?_
    | refine GP.hit ?_
    | refine GP.miss rfl ?_
    | refine GP.againN ?_
    | refine GP.againR ?_
    | refine GP.againE ?_
    | refine GP.invR ?_
    | refine GP.invE ?_
    | refine GU.step ?_
    | refine GT.condT rfl ?_
    | refine GT.condF rfl ?_
    | (refine GT.condD rfl (fun h => ?_) (fun h => ?_) <;> try (exfalso; omega))
    | (refine GT.condN rfl (fun h => ?_) (fun h => ?_) <;> try (exfalso; omega))
    | (refine GT.condB rfl (fun h => ?_) (fun h => ?_))
    | (refine GL.forkD rfl rfl (fun h => ?_) (fun h => ?_) <;> try (exfalso; omega))
    | (refine GL.forkN rfl rfl (fun h => ?_) (fun h => ?_) <;> try (exfalso; omega))
    | (refine GL.forkB rfl rfl (fun h => ?_) (fun h => ?_))
    | refine GP.endR1 rfl ?_
    | refine GP.endR2 rfl ?_
    | refine GP.endN1 rfl ?_
    | refine GP.endR3 rfl ?_
    | refine GP.endN0 rfl ?_
    | refine GP.endR0 rfl ?_)
  rfl
end Go.M
