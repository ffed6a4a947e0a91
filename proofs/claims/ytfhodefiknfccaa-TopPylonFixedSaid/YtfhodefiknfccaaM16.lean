/- Part 16: ways out; integers that do not wrap. -/
import Derived.Test.YtfhodefiknfccaaM15
set_option linter.unusedVariables false
set_option linter.unusedSimpArgs false
namespace Go.M
open Go.RowKit
variable {P : Program} {N n m : Nat} {A A' A1 A2 A0 : AW} {a a1 a0 : AEnv} {Q Q' : AQ} {K : AEnv → AW → Prop} {R : Value → AW → Prop} {rs : List ResultVar}

theorem AThen.normal (h : K a A) : AThen K Q .normal a A := h
theorem AThen.ret (h : Q .ret a A) : AThen K Q .ret a A := h
theorem AThen.exit {id : Nat} (h : Q (.exit id) a A) : AThen K Q (.exit id) a A := h
theorem AIn.normal {id : Nat} (h : Q .normal a A) : AIn id Q .normal a A := h
theorem AIn.ret {id : Nat} (h : Q .ret a A) : AIn id Q .ret a A := h
theorem AIn.hit {id : Nat} (h : Q .normal a A) : AIn id Q (.exit id) a A := by simp only [AIn, if_true]; exact h
theorem AIn.miss {id id' : Nat} (hn : (id' == id) = false) (h : Q (.exit id') a A) : AIn id Q (.exit id') a A := by
  have : ¬ id' = id := by simpa using hn
  simp only [AIn]; rw [if_neg this]; exact h
theorem AEnd.ret {v : Value} (h1 : ares P A a rs = some v) (h2 : R v A) : AEnd P rs R .ret a A := ⟨v, h1, h2⟩
theorem AEnd.normal {v : Value} (h1 : ares P A a rs = some v) (h2 : R v A) : AEnd P rs R .normal a A := ⟨v, h1, h2⟩
theorem ARounds.step {c : Code} {k : Nat} (h : AT P n m c a A (AThen (ARounds P n m c Q k) Q)) : ARounds P n m c Q (k + 1) a A := h

theorem i64_wrap {x : Int} (h1 : -9223372036854775808 ≤ x) (h2 : x ≤ 9223372036854775807) : IntKind.i64.wrap x = x := by
  rw [IntKind.wrap_i64]; omega

variable {ops : Array Oper} {rest : List Oper} {o : Oper}
theorem AOp.addI {t t2 : TypeId} {X Y : Operand} {x y : Int} (ho : o.op = .binOp .add t X Y t2) (hx : aev A.gl a X = some (.int .i64 x)) (hy : aev A.gl a Y = some (.int .i64 y)) (h1 : -9223372036854775808 ≤ x + y ∧ x + y ≤ 9223372036854775807) : AOp P n o a A (isR (.int .i64 (x + y)) A) :=
  .ibin ho hx hy (by simp only [M.ibin]; rw [i64_wrap h1.1 h1.2])
theorem AOp.subI {t t2 : TypeId} {X Y : Operand} {x y : Int} (ho : o.op = .binOp .sub t X Y t2) (hx : aev A.gl a X = some (.int .i64 x)) (hy : aev A.gl a Y = some (.int .i64 y)) (h1 : -9223372036854775808 ≤ x - y ∧ x - y ≤ 9223372036854775807) : AOp P n o a A (isR (.int .i64 (x - y)) A) :=
  .ibin ho hx hy (by simp only [M.ibin]; rw [i64_wrap h1.1 h1.2])
theorem AOp.mulI {t t2 : TypeId} {X Y : Operand} {x y : Int} (ho : o.op = .binOp .mul t X Y t2) (hx : aev A.gl a X = some (.int .i64 x)) (hy : aev A.gl a Y = some (.int .i64 y)) (h1 : -9223372036854775808 ≤ x * y ∧ x * y ≤ 9223372036854775807) : AOp P n o a A (isR (.int .i64 (x * y)) A) :=
  .ibin ho hx hy (by simp only [M.ibin]; rw [i64_wrap h1.1 h1.2])
theorem AOp.negI {t : TypeId} {X : Operand} {x : Int} (ho : o.op = .unOp .neg t X) (hx : aev A.gl a X = some (.int .i64 x)) (h1 : -9223372036854775808 ≤ -x ∧ -x ≤ 9223372036854775807) : AOp P n o a A (isR (.int .i64 (-x)) A) := by
  have := AOp.neg (P := P) (n := n) (A := A) ho hx
  rw [i64_wrap (by omega) (by omega)] at this
  rwa [show 0 - x = -x by omega] at this
/-- Division by a positive number, of one that is not negative. -/
theorem AOp.quoI {t t2 : TypeId} {X Y : Operand} {x y : Int} (ho : o.op = .binOp .quo t X Y t2) (hx : aev A.gl a X = some (.int .i64 x)) (hy : aev A.gl a Y = some (.int .i64 y)) (h1 : 0 < y) (h2 : 0 ≤ x ∧ x ≤ 9223372036854775807) : AOp P n o a A (isR (.int .i64 (x / y)) A) :=
  .ibin ho hx hy (by
    have e : x.tdiv y = x / y := Int.tdiv_eq_ediv_of_nonneg h2.1
    have h3 : 0 ≤ x / y := Int.ediv_nonneg h2.1 (by omega)
    have h4 : x / y ≤ x := Int.ediv_le_self _ h2.1
    simp only [M.ibin]
    rw [if_neg (by omega), e, i64_wrap (by omega) (by omega)])
theorem AOp.remI {k : IntKind} {t t2 : TypeId} {X Y : Operand} {x y : Int} (ho : o.op = .binOp .rem t X Y t2) (hx : aev A.gl a X = some (.int k x)) (hy : aev A.gl a Y = some (.int k y)) (h1 : 0 < y) (h2 : 0 ≤ x) : AOp P n o a A (isR (.int k (x % y)) A) :=
  .ibin ho hx hy (by simp only [M.ibin]; rw [if_neg (by omega), Int.tmod_eq_emod_of_nonneg h2])
/-- Division toward zero. -/
theorem AOp.quoT {t t2 : TypeId} {X Y : Operand} {x y : Int} (ho : o.op = .binOp .quo t X Y t2) (hx : aev A.gl a X = some (.int .i64 x)) (hy : aev A.gl a Y = some (.int .i64 y)) (h1 : 0 < y) (h2 : -9223372036854775808 ≤ x ∧ x ≤ 9223372036854775807) : AOp P n o a A (isR (.int .i64 (x.tdiv y)) A) :=
  .ibin ho hx hy (by simp only [M.ibin]; rw [if_neg (by omega), wrap_i64_tdiv x y h2.1 h2.2 (by omega)])
theorem AOp.remT {k : IntKind} {t t2 : TypeId} {X Y : Operand} {x y : Int} (ho : o.op = .binOp .rem t X Y t2) (hx : aev A.gl a X = some (.int k x)) (hy : aev A.gl a Y = some (.int k y)) (h1 : 0 < y) : AOp P n o a A (isR (.int k (x.tmod y)) A) :=
  .ibin ho hx hy (by simp only [M.ibin]; rw [if_neg (by omega)])

/-- Comparisons. -/
def icmp (op : BinOp) (x y : Int) : Option Bool :=
  match op with
  | .eql => some (decide (x = y))
  | .neq => some (!decide (x = y))
  | .lss => some (decide (x < y))
  | .leq => some (decide (x ≤ y))
  | .gtr => some (decide (y < x))
  | .geq => some (decide (y ≤ x))
  | _ => none
theorem AOp.icmp {op : BinOp} {k : IntKind} {t t2 : TypeId} {X Y : Operand} {x y : Int} {b : Bool} (ho : o.op = .binOp op t X Y t2) (hx : aev A.gl a X = some (.int k x)) (hy : aev A.gl a Y = some (.int k y)) (h : M.icmp op x y = some b) : AOp P n o a A (isR (.bool b) A) :=
  .ibin ho hx hy (by unfold M.icmp at h; cases op <;> first | (cases h; rfl) | cases h)
theorem AOp.convI {s d : TypeId} {x : Operand} {k k' : IntKind} {i : Int} (ho : o.op = .convert s d x) (hx : aev A.gl a x = some (.int k i)) (hs : P.underlying s = some (.int k)) (hd : P.underlying d = some (.int k')) (hw : k'.wrap i = i) : AOp P n o a A (isR (.int k' i) A) := by
  have := AOp.iconv (P := P) (n := n) ho hx hs hd
  rwa [hw] at this

theorem AC.isOf {f : FuncId} {args args2 : List Value} {v : Value} {L : List (Nat × AObj)} {k : Nat} (ρ : Nat → Option (Nat × Nat)) (h : AC P f args (AW.of L k k 0) (fun u _ => u = v)) (hv : ∃ j, noAddrs j [v] = true)
    (hk : ∀ j x, ρ j = some x → j < k) (hd : ∀ j, alook L j = none → ρ j = none) (hL : ∀ j o, alook L j = some o → j < k ∧ ∃ x, ρ j = some x ∧ objIn A x.1 x.2 o) (ha : AR ρ args args2) : AC P f args2 A (isR v A) :=
  AC.pureOf (R := fun u => u = v) ρ (h.mono fun u _ e => ⟨e, e ▸ hv⟩) hk hd hL ha
end Go.M
