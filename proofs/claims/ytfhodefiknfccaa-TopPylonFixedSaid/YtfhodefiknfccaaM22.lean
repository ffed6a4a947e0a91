/- Part 22: the remainder by 3, each way; two strings joined. -/
import Derived.Test.YtfhodefiknfccaaM21
set_option linter.unusedVariables false
set_option linter.unusedSimpArgs false
namespace Go.M
open Go.RowKit
variable {P : Program} {n m : Nat} {a : AEnv} {Q : AQ} {ops : Array Oper} {rest : List Oper} {o : Oper} {L L' : LM} {nx nx' ro gl : Nat} {t t2 : TypeId} {X Y : Operand} {i : Int} {k : IntKind}
theorem GL.rem3 {d : Tmp} (hg : o.guard = none) (hd : o.dst = some d) (hn : Nat.ble (d + 1) n = true) (ho : o.op = .binOp .rem t X Y t2) (hx : aev gl a X = some (.int k i)) (hy : aev gl a Y = some (.int k 3)) (h : 0 ≤ i)
    (h0 : i % 3 = 0 → GL P n m ops rest ((d, .int k 0) :: a) L nx ro gl Q) (h1 : i % 3 = 1 → GL P n m ops rest ((d, .int k 1) :: a) L nx ro gl Q) (h2 : i % 3 = 2 → GL P n m ops rest ((d, .int k 2) :: a) L nx ro gl Q) : GL P n m ops (o :: rest) a L nx ro gl Q := by
  have e : i % 3 = 0 ∨ i % 3 = 1 ∨ i % 3 = 2 := by omega
  have g := GO.rem (P := P) (n := n) (o := o) (a := a) (L := L) (nx := nx) (ro := ro) (gl := gl) ho hx hy (by decide) h
  rcases e with e | e | e <;> rw [e] at g
  · exact GL.v hg hd hn g (h0 e)
  · exact GL.v hg hd hn g (h1 e)
  · exact GL.v hg hd hn g (h2 e)
theorem GO.cat {x y z : ByteArray} (ho : o.op = .binOp .add t X Y t2) (hx : aev gl a X = some (.string x)) (hy : aev gl a Y = some (.string y)) (hz : x ++ y = z) (hs : Nat.ble (x.size + y.size) 9223372036854775807 = true) : GO P n o a L nx ro gl (isR (.string z) (AW.of L nx ro gl)) :=
  ⟨by
    subst hz
    exact AOp.bstep ho hx hy (by show sbin .add x y = _; simp only [sbin]; rw [if_pos (Nat.le_of_ble_eq_true hs)])⟩
end Go.M
