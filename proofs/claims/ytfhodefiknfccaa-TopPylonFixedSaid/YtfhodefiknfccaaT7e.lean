/- Functions of the given program, walked (no condition beyond what each theorem says). -/
import Derived.Test.YtfhodefiknfccaaM20
import Derived.Test.YtfhodefiknfccaaProg
set_option linter.unusedVariables false
set_option linter.unusedSimpArgs false
namespace Go.M
open Go.Proofs
set_option maxRecDepth 8000
set_option maxHeartbeats 4000000
theorem s3 : szOf Try.prog 3 = some 1 := rfl
theorem s33 : szOf Try.prog 33 = some 2 := rfl
theorem ap3 {cs : List Value} {f : Nat} : apart Try.prog 3 cs f = cs[f]? := by simp [apart, Try.underlying3, isAggT]
theorem ap33 {cs : List Value} {f : Nat} : apart Try.prog 33 cs f = some (.agg ((cs.drop f).take 2).toArray) := by simp [apart, Try.underlying33, isAggT, s33]
theorem aeq33 (a b c d : Int) : aeq Try.prog 20 33 (.agg #[.int .i64 a, .int .i64 b]) (.agg #[.int .i64 c, .int .i64 d]) = some (decide (a = c ∧ b = d)) := by
  simp [aeq, aeqF, Try.underlying33, Try.stoodInHeld33, ap3, Try.underlying3, Bool.decide_and]
  rfl
theorem aeq38 (a b c d e f a' b' c' d' e' f' : Int) : aeq Try.prog 20 38 (.agg #[.int .i64 a, .int .i64 b, .int .i64 c, .int .i64 d, .int .i64 e, .int .i64 f]) (.agg #[.int .i64 a', .int .i64 b', .int .i64 c', .int .i64 d', .int .i64 e', .int .i64 f']) = some (decide ((a = a' ∧ b = b') ∧ (c = c' ∧ d = d') ∧ (e = e' ∧ f = f'))) := by
  simp [aeq, aeqF, aeqA, Try.underlying38, Try.underlying33, Try.stoodInHeld33, ap3, ap33, s33, Try.underlying3, List.range', Bool.decide_and]
  rfl
end Go.M
