/- Part 9: the operations, one by one. -/
import Derived.Test.YtfhodefiknfccaaM8
set_option linter.unusedVariables false
set_option linter.unusedSimpArgs false
namespace Go.M
open Go.RowKit
variable {P : Program} {w0 w w' w1 w2 : World} {N n m : Nat} {β β' β1 β2 : Bet} {S S' S1 S2 : Nat → Prop} {A A' A1 A2 : AW} {a a1 : AEnv} {ae : Act} {Q Q' : AQ}
variable {ops : Array Oper} {rest : List Oper} {o : Oper} {R : Value → AW → Prop}

abbrev isR (v : Value) (A1 : AW) : Value → AW → Prop := fun u B => u = v ∧ B = A1

theorem AL.op1 {v : Value} (hg : o.guard = none) (hd : okDst n o.dst = true) (h : AOp P n o a A (isR v A1)) (k : AL P n m ops rest (aput a o.dst v) A1 Q) : AL P n m ops (o :: rest) a A Q :=
  AL.op hg hd h fun _ _ ⟨e1, e2⟩ => by rw [e1, e2]; exact k
theorem AL.guarded1 {v : Value} {j : Nat} {b t : Bool} {d : Tmp} (hg : o.guard = some (j, b)) (hj : (ops[j]?).bind (·.dst) = some d) (ha : aget a d = some (.bool t)) (hd : okDst n o.dst = true)
    (on : t = b → AOp P n o a A (isR v A1)) (on2 : t = b → AL P n m ops rest (aput a o.dst v) A1 Q) (off : t = !b → AL P n m ops rest (aput a o.dst undef) A Q) : AL P n m ops (o :: rest) a A Q :=
  AL.guarded hg hj ha hd (fun q => ⟨on q, fun _ _ ⟨e1, e2⟩ => by rw [e1, e2]; exact on2 q⟩) off
theorem AL.off {j : Nat} {b : Bool} {d : Tmp} (hg : o.guard = some (j, b)) (hj : (ops[j]?).bind (·.dst) = some d) (ha : aget a d = some (.bool (!b))) (hd : okDst n o.dst = true)
    (off : AL P n m ops rest (aput a o.dst undef) A Q) : AL P n m ops (o :: rest) a A Q :=
  AL.guarded (R := fun _ _ => False) hg hj ha hd (fun q => by cases b <;> simp at q) (fun _ => off)
theorem AL.on {v : Value} {j : Nat} {b : Bool} {d : Tmp} (hg : o.guard = some (j, b)) (hj : (ops[j]?).bind (·.dst) = some d) (ha : aget a d = some (.bool b)) (hd : okDst n o.dst = true)
    (h : AOp P n o a A (isR v A1)) (k : AL P n m ops rest (aput a o.dst v) A1 Q) : AL P n m ops (o :: rest) a A Q :=
  AL.guarded1 hg hj ha hd (fun _ => h) (fun _ => k) (fun q => by cases b <;> simp at q)
theorem AL.onAny {j : Nat} {b : Bool} {d : Tmp} (hg : o.guard = some (j, b)) (hj : (ops[j]?).bind (·.dst) = some d) (ha : aget a d = some (.bool b)) (hd : okDst n o.dst = true)
    (h : AOp P n o a A R) (k : ∀ v A1, R v A1 → AL P n m ops rest (aput a o.dst v) A1 Q) : AL P n m ops (o :: rest) a A Q :=
  AL.guarded hg hj ha hd (fun _ => ⟨h, k⟩) (fun q => by cases b <;> simp at q)

theorem AOp.mono {R' : Value → AW → Prop} (h : AOp P n o a A R) (hr : ∀ v A1, R v A1 → R' v A1) : AOp P n o a A R' :=
  fun w0 N w β S ae hs he K Z hk => h w0 N w β S ae hs he K Z fun v v' w1 β1 S1 A1 r => hk v v' w1 β1 S1 A1 (hr _ _ r)
theorem AOp.sub (h : AOp P n o a A R) (hs : asub a a1) : AOp P n o a1 A R :=
  fun w0 N w β S ae hs' he K Z hk => h w0 N w β S ae hs' (he.sub hs) K Z hk

theorem AOp.of {v : Value} (h : ∀ (w0 : World) (N : Nat) (w : World) (β : Bet) (S : Nat → Prop) (ae : Act), Sim P w0 N β S A w → ER n β S a ae → ∃ v' w1, (execOp ae.eval o).run P w = .ok (.value v') w1 ∧ Done P w0 N β S A w v A1 v' w1) : AOp P n o a A (isR v A1) := by
  intro w0 N w β S ae hs he K Z hk
  obtain ⟨v', w1, hr, hd⟩ := h w0 N w β S ae hs he
  obtain ⟨β1, S1, h1, h2⟩ := hd.aft
  unfold Oper.wp
  rw [hr]
  exact hk v v' w1 β1 S1 A1 ⟨rfl, rfl⟩ h1 h2

theorem AOp.val {v : Value} (h : ∀ (w0 : World) (N : Nat) (w : World) (β : Bet) (S : Nat → Prop) (ae : Act), Sim P w0 N β S A w → ER n β S a ae → ∃ v', (execOp ae.eval o).run P w = .ok (.value v') w ∧ VR β S v v') : AOp P n o a A (isR v A) :=
  AOp.of fun w0 N w β S ae hs he => let ⟨v', h1, h2⟩ := h w0 N w β S ae hs he; ⟨v', w, h1, .same hs h2⟩

theorem AOp.move {x : Operand} {v : Value} (ho : o.op = .move x) (hx : aev A.gl a x = some v) : AOp P n o a A (isR v A) :=
  .val fun w0 N w β S ae hs he => ⟨_, by simp [execOp, ho], aev_sound hs he hx⟩
theorem AOp.assign {x : Operand} {v : Value} (ho : o.op = .assign x) (hx : aev A.gl a x = some v) : AOp P n o a A (isR v A) :=
  .val fun w0 N w β S ae hs he => ⟨_, by simp [execOp, ho], aev_sound hs he hx⟩
theorem VR.isBool {t : Bool} {v' : Value} (h : VR β S (.bool t) v') : v' = .bool t := by cases h; rfl
theorem VR.isInt {k : IntKind} {i : Int} {v' : Value} (h : VR β S (.int k i) v') : v' = .int k i := by cases h; rfl
theorem VR.isString {s : ByteArray} {v' : Value} (h : VR β S (.string s) v') : v' = .string s := by cases h; rfl
theorem AOp.pick {c x y : Operand} {t : Bool} {v : Value} (ho : o.op = .pick c x y) (hc : aev A.gl a c = some (.bool t)) (ht : t = true → aev A.gl a x = some v) (hf : t = false → aev A.gl a y = some v) : AOp P n o a A (isR v A) :=
  .val fun w0 N w β S ae hs he => by
    have e := VR.isBool (aev_sound hs he hc)
    cases t
    · exact ⟨_, by simp [execOp, ho, e, asBool], aev_sound hs he (hf rfl)⟩
    · exact ⟨_, by simp [execOp, ho, e, asBool], aev_sound hs he (ht rfl)⟩
theorem AOp.alloc {e : TypeId} {v : Value} (ho : o.op = .alloc e) (h : aalloc P A e = some (v, A1)) : AOp P n o a A (isR v A1) :=
  .of fun w0 N w β S ae hs he => let ⟨v', w1, h1, h2⟩ := aalloc_sound hs h (.tuple #[]); ⟨v', w1, by simp [execOp, ho, h1], h2⟩
theorem AOp.box {e : TypeId} {x : Operand} {vx v : Value} (ho : o.op = .box e x) (hx : aev A.gl a x = some vx) (h : abox P A e vx = some (v, A1)) : AOp P n o a A (isR v A1) :=
  .of fun w0 N w β S ae hs he => let ⟨v', w1, h1, h2⟩ := abox_sound hs (aev_sound hs he hx) h; ⟨v', w1, by simp [execOp, ho, h1], h2⟩
theorem AOp.load {t : TypeId} {x : Operand} {vx v : Value} (ho : o.op = .load t x) (hx : aev A.gl a x = some vx) (h : aload P A t vx = some v) : AOp P n o a A (isR v A) :=
  .val fun w0 N w β S ae hs he => let ⟨v', h1, h2⟩ := aload_sound hs (aev_sound hs he hx) h; ⟨v', by simp [execOp, ho, h1], h2⟩
theorem AOp.skip (h : ∀ (w0 : World) (N : Nat) (w : World) (β : Bet) (S : Nat → Prop) (ae : Act), Sim P w0 N β S A w → ER n β S a ae → ∃ w1, (execOp ae.eval o).run P w = .ok .skip w1 ∧ Sim P w0 N β S A1 w1 ∧ A1.next = A.next ∧ A1.ro = A.ro ∧ A1.gl = A.gl) : AOp P n o a A (isR undef A1) := by
  intro w0 N w β S ae hs he K Z hk
  obtain ⟨w1, hr, h1, e1, e2, e3⟩ := h w0 N w β S ae hs he
  unfold Oper.wp
  rw [hr]
  exact hk undef undef w1 β S A1 ⟨rfl, rfl⟩ ⟨h1, .refl _ _ _, by omega, e2, e3⟩ (.tuple .nil .nil)
theorem AOp.store {t : TypeId} {x y : Operand} {vx vy : Value} (ho : o.op = .store t x y) (hx : aev A.gl a x = some vx) (hy : aev A.gl a y = some vy) (h : astore P A t vy vx = some A1) : AOp P n o a A (isR undef A1) :=
  .skip fun w0 N w β S ae hs he => let ⟨w1, h1, h2, _, h3, h4, h5⟩ := astore_sound hs (aev_sound hs he hx) (aev_sound hs he hy) h; ⟨w1, by simp [execOp, ho, h1], h2, h3, h4, h5⟩
theorem AOp.field {t : TypeId} {x : Operand} {f : Nat} {vx v : Value} (ho : o.op = .field t x f) (hx : aev A.gl a x = some vx) (h : afield P t vx f = some v) : AOp P n o a A (isR v A) :=
  .val fun w0 N w β S ae hs he => let ⟨v', h1, h2⟩ := afield_sound (aev_sound hs he hx) h w; ⟨v', by simp [execOp, ho, h1], h2⟩
theorem AOp.extract {x : Operand} {i : Nat} {vx v : Value} (ho : o.op = .extract x i) (hx : aev A.gl a x = some vx) (h : aextract vx i = some v) : AOp P n o a A (isR v A) :=
  .val fun w0 N w β S ae hs he => let ⟨v', h1, h2⟩ := aextract_sound (P := P) (aev_sound hs he hx) h w; ⟨v', by simp [execOp, ho, h1], h2⟩
theorem AOp.fieldAddr {t : TypeId} {x : Operand} {f : Nat} {vx v : Value} (ho : o.op = .fieldAddr t x f) (hx : aev A.gl a x = some vx) (h : afieldAddr P t vx f = some v) : AOp P n o a A (isR v A) :=
  .val fun w0 N w β S ae hs he => let ⟨v', h1, h2⟩ := afieldAddr_sound (aev_sound hs he hx) h w; ⟨v', by simp [execOp, ho, h1], h2⟩
theorem AOp.indexAddr {t : TypeId} {x y : Operand} {vx vy v : Value} (ho : o.op = .indexAddr t x y) (hx : aev A.gl a x = some vx) (hy : aev A.gl a y = some vy) (h : aindexAddr P t vx vy = some v) : AOp P n o a A (isR v A) :=
  .val fun w0 N w β S ae hs he => let ⟨v', h1, h2⟩ := aindexAddr_sound (aev_sound hs he hx) (aev_sound hs he hy) h w; ⟨v', by simp [execOp, ho, h1], h2⟩
theorem AOp.index {t : TypeId} {x y : Operand} {vx vy v : Value} (ho : o.op = .index t x y) (hx : aev A.gl a x = some vx) (hy : aev A.gl a y = some vy) (h : aindex P t vx vy = some v) : AOp P n o a A (isR v A) :=
  .val fun w0 N w β S ae hs he => let ⟨v', h1, h2⟩ := aindex_sound (aev_sound hs he hx) (aev_sound hs he hy) h w; ⟨v', by simp [execOp, ho, h1], h2⟩

def aevO (gl : Nat) (a : AEnv) : Option Operand → Option (Option Value)
  | none => some none
  | some x => (aev gl a x).map some
theorem aevO_sound (hs : Sim P w0 N β S A w) (he : ER n β S a ae) {x : Option Operand} {v : Option Value} (hx : aevO A.gl a x = some v) : OptVR β S v (x.map ae.eval) := by
  cases x with
  | none => cases hx; exact .none
  | some x =>
    simp only [aevO] at hx
    cases h : aev A.gl a x with
    | none => simp [h] at hx
    | some u => simp [h] at hx; subst hx; exact .some (aev_sound hs he h)
theorem AOp.slice {t : TypeId} {x : Operand} {lo hi mx : Option Operand} {vx v : Value} {vl vh vm : Option Value} (ho : o.op = .slice t x lo hi mx) (hx : aev A.gl a x = some vx)
    (hl : aevO A.gl a lo = some vl) (hh : aevO A.gl a hi = some vh) (hm : aevO A.gl a mx = some vm) (h : aslice P A t vx vl vh vm = some (v, A1)) : AOp P n o a A (isR v A1) :=
  .of fun w0 N w β S ae hs he => let ⟨v', h1, h2⟩ := aslice_sound hs (aev_sound hs he hx) (aevO_sound hs he hl) (aevO_sound hs he hh) (aevO_sound hs he hm) h; ⟨v', w, by simp [execOp, ho, h1], h2⟩

/-! ### Reckoning -/
def aevs (gl : Nat) (a : AEnv) : List Operand → Option (List Value)
  | [] => some []
  | x :: xs => (aev gl a x).bind fun v => (aevs gl a xs).map (v :: ·)
theorem aevs_sound (hs : Sim P w0 N β S A w) (he : ER n β S a ae) : ∀ {xs : List Operand} {vs : List Value}, aevs A.gl a xs = some vs → VRs β S vs (xs.map ae.eval)
  | [], vs, h => by cases h; exact .nil
  | x :: xs, vs, h => by
    simp only [aevs] at h
    cases h1 : aev A.gl a x with
    | none => simp [h1] at h
    | some v =>
      simp only [h1, Option.bind_some] at h
      cases h2 : aevs A.gl a xs with
      | none => simp [h2] at h
      | some us =>
        simp only [h2, Option.map_some, Option.some.injEq] at h
        subst h
        exact VRs.cons (aev_sound hs he h1) (aevs_sound hs he h2)

/-- A reckoning on values without addresses. -/
theorem AOp.bin {op : BinOp} {t t2 : TypeId} {x y : Operand} {vx vy v : Value} {kx ky : Nat} (ho : o.op = .binOp op t x y t2) (hx : aev A.gl a x = some vx) (hy : aev A.gl a y = some vy)
    (nx : noAddrs kx [vx] = true) (ny : noAddrs ky [vy] = true) (hr : ∀ w, (do eqGuard op t x y vx vy; binOp op t vx vy : Sem Value).run P w = .ok v w) (hv : ∀ β S, VR β S v v) : AOp P n o a A (isR v A) :=
  .val fun w0 N w β S ae hs he => by
    have ex : ae.eval x = vx := by have := VRs.eq_of_noAddrs (aev_sound hs he hx) _ nx; simpa using this
    have ey : ae.eval y = vy := by have := VRs.eq_of_noAddrs (aev_sound hs he hy) _ ny; simpa using this
    refine ⟨v, ?_, hv _ _⟩
    simp only [execOp, ho, ex, ey]
    rw [Sem.run_bind, hr]
    rfl

/-- Integers. -/
def ibin (op : BinOp) (k : IntKind) (x y : Int) : Option Value :=
  match op with
  | .add => some (.int k (k.wrap (x + y)))
  | .sub => some (.int k (k.wrap (x - y)))
  | .mul => some (.int k (k.wrap (x * y)))
  | .quo => if y = 0 then none else some (.int k (k.wrap (x.tdiv y)))
  | .rem => if y = 0 then none else some (.int k (x.tmod y))
  | .eql => some (.bool (x == y))
  | .neq => some (.bool (x != y))
  | .lss => some (.bool (x < y))
  | .leq => some (.bool (x ≤ y))
  | .gtr => some (.bool (x > y))
  | .geq => some (.bool (x ≥ y))
  | _ => none
theorem ibin_run {op : BinOp} {k : IntKind} {x y : Int} {v : Value} (t : TypeId) (X Y : Operand) (h : ibin op k x y = some v) (w : World) :
    (do eqGuard op t X Y (.int k x) (.int k y); binOp op t (.int k x) (.int k y) : Sem Value).run P w = .ok v w := by
  unfold ibin at h
  cases op
  case quo =>
    by_cases q : y = 0
    · simp [q] at h
    · simp only [if_neg q, Option.some.injEq] at h; subst h; simp [eqGuard, binOp, Op.intDiv, q]
  case rem =>
    by_cases q : y = 0
    · simp [q] at h
    · simp only [if_neg q, Option.some.injEq] at h; subst h; simp [eqGuard, binOp, Op.intDiv, q]
  all_goals first
    | (simp only [Option.some.injEq] at h; subst h; simp [eqGuard, binOp, Op.intArith, Op.intCmp]; done)
    | cases h
theorem ibin_plain {op : BinOp} {k : IntKind} {x y : Int} {v : Value} (h : ibin op k x y = some v) : ∀ β S, VR β S v v := by
  unfold ibin at h
  intro β S
  cases op
  case quo =>
    by_cases q : y = 0
    · simp [q] at h
    · simp only [if_neg q, Option.some.injEq] at h; subst h; exact .int .nil
  case rem =>
    by_cases q : y = 0
    · simp [q] at h
    · simp only [if_neg q, Option.some.injEq] at h; subst h; exact .int .nil
  all_goals first
    | (simp only [Option.some.injEq] at h; subst h; exact .int .nil)
    | (simp only [Option.some.injEq] at h; subst h; exact .bool .nil)
    | cases h
theorem AOp.ibin {op : BinOp} {t t2 : TypeId} {X Y : Operand} {k : IntKind} {x y : Int} {v : Value} (ho : o.op = .binOp op t X Y t2) (hx : aev A.gl a X = some (.int k x)) (hy : aev A.gl a Y = some (.int k y)) (h : M.ibin op k x y = some v) : AOp P n o a A (isR v A) :=
  .bin (kx := 64) (ky := 64) ho hx hy rfl rfl (ibin_run t X Y h) (ibin_plain h)

theorem AOp.un {op : UnOp} {t : TypeId} {x : Operand} {vx v : Value} {kx : Nat} (ho : o.op = .unOp op t x) (hx : aev A.gl a x = some vx) (nx : noAddrs kx [vx] = true) (hr : ∀ w, (Op.unary op vx).run P w = .ok v w) (hv : ∀ β S, VR β S v v) : AOp P n o a A (isR v A) :=
  .val fun w0 N w β S ae hs he => by
    have ex : ae.eval x = vx := by have := VRs.eq_of_noAddrs (aev_sound hs he hx) _ nx; simpa using this
    exact ⟨v, by simp [execOp, ho, ex, hr], hv _ _⟩
theorem AOp.not {t : TypeId} {x : Operand} {b : Bool} (ho : o.op = .unOp .not t x) (hx : aev A.gl a x = some (.bool b)) : AOp P n o a A (isR (.bool !b) A) :=
  .un (kx := 64) ho hx rfl (fun w => by simp [Op.unary]) (fun _ _ => .bool .nil)
theorem AOp.neg {t : TypeId} {x : Operand} {k : IntKind} {i : Int} (ho : o.op = .unOp .neg t x) (hx : aev A.gl a x = some (.int k i)) : AOp P n o a A (isR (.int k (k.wrap (0 - i))) A) :=
  .un (kx := 64) ho hx rfl (fun w => by simp [Op.unary, Op.intArith]) (fun _ _ => .int .nil)
theorem AOp.conv {s d : TypeId} {x : Operand} {vx v : Value} {kx : Nat} (ho : o.op = .convert s d x) (hx : aev A.gl a x = some vx) (nx : noAddrs kx [vx] = true) (hr : ∀ w, (convert s d vx).run P w = .ok v w) (hv : ∀ β S, VR β S v v) : AOp P n o a A (isR v A) :=
  .val fun w0 N w β S ae hs he => by
    have ex : ae.eval x = vx := by have := VRs.eq_of_noAddrs (aev_sound hs he hx) _ nx; simpa using this
    exact ⟨v, by simp [execOp, ho, ex, hr], hv _ _⟩
theorem AOp.iconv {s d : TypeId} {x : Operand} {k k' : IntKind} {i : Int} (ho : o.op = .convert s d x) (hx : aev A.gl a x = some (.int k i)) (hs : P.underlying s = some (.int k)) (hd : P.underlying d = some (.int k')) : AOp P n o a A (isR (.int k' (k'.wrap i)) A) :=
  .conv (kx := 64) ho hx rfl (fun w => by simp [convert, run_underlying hs, run_underlying hd, Conv.intToInt]) (fun _ _ => .int .nil)

/-! ### Builtins -/
theorem run_builtin_value {c : Call} {b : Builtin} (ho : o.op = .call c) (hc : c.callee = .builtin b) (ρ : Operand → Value) (w : World) :
    (execOp ρ o).run P w = (builtin b c.argTypes o.type (c.args.map fun | .const _ => true | _ => false) (c.args.map ρ)).run P w := by
  simp [execOp, ho, resolve, hc, invoke]
  rfl

def alen (P : Program) (t : TypeId) (v : Value) : Option Nat :=
  match P.underlying t, v with
  | some (.slice _), .slice _ l _ => some l
  | some .string, .string s => some s.size
  | some (.array l _), _ => some l
  | _, _ => none
theorem AOp.len {c : Call} {t : TypeId} {x : Operand} {vx : Value} {l : Nat} (ho : o.op = .call c) (hc : c.callee = .builtin .len) (ha : c.args.toList = [x]) (ht : c.argTypes.toList = [t]) (hx : aev A.gl a x = some vx)
    (h : alen P t vx = some l) : AOp P n o a A (isR (.int .i64 l) A) :=
  .val fun w0 N w β S ae hs he => by
    have hv := aev_sound hs he hx
    have e1 : c.args = #[x] := by rw [← Array.toArray_toList (xs := c.args), ha]
    have e2 : c.argTypes = #[t] := by rw [← Array.toArray_toList (xs := c.argTypes), ht]
    refine ⟨.int .i64 l, ?_, .int .nil⟩
    rw [run_builtin_value ho hc]
    generalize hz : ae.eval x = v' at hv
    simp only [builtin, e1, e2, List.map_toArray, List.map_cons, List.map_nil, hz]
    unfold alen at h
    split at h
    · rename_i e b l' c' hu
      cases h
      cases hv <;> simp [Builtin.len_, run_underlying hu, goInt]
    · rename_i s hu
      cases h
      have := VR.isString hv
      subst this
      simp [Builtin.len_, run_underlying hu, goInt]
    · rename_i l' e _ hu
      cases h
      simp [Builtin.len_, run_underlying hu, goInt]
    · cases h

theorem AOp.append {c : Call} {t : TypeId} {x y : Operand} {vx vy v : Value} (ho : o.op = .call c) (hc : c.callee = .builtin .append) (ha : c.args.toList = [x, y]) (ht : c.argTypes.toList = [t, t]) (hx : aev A.gl a x = some vx) (hy : aev A.gl a y = some vy)
    (h : aappend P A t vx vy = some (v, A1)) : AOp P n o a A (isR v A1) :=
  .of fun w0 N w β S ae hs he => by
    have e1 : c.args = #[x, y] := by rw [← Array.toArray_toList (xs := c.args), ha]
    have e2 : c.argTypes = #[t, t] := by rw [← Array.toArray_toList (xs := c.argTypes), ht]
    obtain ⟨v', w1, h1, h2⟩ := aappend_sound hs (aev_sound hs he hx) (aev_sound hs he hy) h o.type
    refine ⟨v', w1, ?_, h2⟩
    rw [run_builtin_value ho hc]
    simp [builtin, e1, e2, h1]

theorem AOp.imax {c : Call} {x y : Operand} {k : IntKind} {i j : Int} (ho : o.op = .call c) (hc : c.callee = .builtin .max) (ha : c.args.toList = [x, y]) (hx : aev A.gl a x = some (.int k i)) (hy : aev A.gl a y = some (.int k j)) : AOp P n o a A (isR (.int k (max i j)) A) :=
  .val fun w0 N w β S ae hs he => by
    have e1 : c.args = #[x, y] := by rw [← Array.toArray_toList (xs := c.args), ha]
    refine ⟨.int k (max i j), ?_, .int .nil⟩
    rw [run_builtin_value ho hc]
    simp only [builtin, e1, List.map_toArray, List.map_cons, List.map_nil, VR.isInt (aev_sound hs he hx), VR.isInt (aev_sound hs he hy)]
    have : (if j > i then j else i) = Max.max i j := by split <;> omega
    simp [Builtin.max_, Builtin.max2, this]
theorem AOp.imin {c : Call} {x y : Operand} {k : IntKind} {i j : Int} (ho : o.op = .call c) (hc : c.callee = .builtin .min) (ha : c.args.toList = [x, y]) (hx : aev A.gl a x = some (.int k i)) (hy : aev A.gl a y = some (.int k j)) : AOp P n o a A (isR (.int k (min i j)) A) :=
  .val fun w0 N w β S ae hs he => by
    have e1 : c.args = #[x, y] := by rw [← Array.toArray_toList (xs := c.args), ha]
    refine ⟨.int k (min i j), ?_, .int .nil⟩
    rw [run_builtin_value ho hc]
    simp only [builtin, e1, List.map_toArray, List.map_cons, List.map_nil, VR.isInt (aev_sound hs he hx), VR.isInt (aev_sound hs he hy)]
    have : (if j < i then j else i) = Min.min i j := by split <;> omega
    simp [Builtin.min_, Builtin.min2, this]

/-! ### Calls -/
theorem AOp.call {c : Call} {f : FuncId} {fn : Func} {body : Code} {vs : List Value} (ho : o.op = .call c) (hc : c.callee = .value (.func f)) (hf : P.funcs[f]? = some fn) (hb : fn.body = some body) (hn : (fn.name == "runtime.NumGoroutine") = false)
    (ha : aevs A.gl a c.args.toList = some vs) (h : AC P f vs A R) : AOp P n o a A R := by
  intro w0 N w β S ae hs he K Z hk
  have hn' : ¬ fn.name = "runtime.NumGoroutine" := by simpa using hn
  have hr : (execOp ae.eval o).run P w = .ok (.enter f (c.args.map ae.eval)) w := by
    simp [execOp, ho, resolve, hc, Act.eval, Deferred.ofValue, invoke, callFunc, hf, hn', hb]
  unfold Oper.wp
  rw [hr]
  refine Calls.mono (h w0 N w β S (c.args.map ae.eval) hs (by rw [Array.toList_map]; exact aevs_sound hs he ha)) fun e w1 hq => ?_
  cases e with
  | returned v' => obtain ⟨β1, S1, v, A1, h1, h2, h3⟩ := hq; exact hk v v' w1 β1 S1 A1 h3 h1 h2
  | panicked => exact hq.elim
  | outgrown => exact hq.elim

/-- A call of a function value. -/
theorem AOp.callValue {c : Call} {t : Operand} {f : FuncId} {fn : Func} {body : Code} {vs : List Value} {first captured : Array Value} (ho : o.op = .call c) (hc : c.callee = .value t) (ht : aev A.gl a t = some (.func (.func f) first captured)) (hf : P.funcs[f]? = some fn) (hb : fn.body = some body) (hn : (fn.name == "runtime.NumGoroutine") = false)
    (ha : aevs A.gl a c.args.toList = some vs) (h : AC P f (first.toList ++ vs ++ captured.toList) A R) : AOp P n o a A R := by
  intro w0 N w β S ae hs he K Z hk
  have hn' : ¬ fn.name = "runtime.NumGoroutine" := by simpa using hn
  have hv := aev_sound hs he ht
  have hvs := aevs_sound hs he ha
  generalize hz : ae.eval t = v' at hv
  cases hv with
  | @func _ _ f' _ c' _ _ hy h1 h2 _ =>
    have hr : (execOp ae.eval o).run P w = .ok (.enter f (f' ++ c.args.map ae.eval ++ c')) w := by
      simp [execOp, ho, resolve, hc, hz, Deferred.ofValue, invoke, callFunc, hf, hn', hb]
    unfold Oper.wp
    rw [hr]
    refine Calls.mono (h w0 N w β S _ hs (by simpa using ((h1.append hvs).append h2))) fun e w1 hq => ?_
    cases e with
    | returned v' => obtain ⟨β1, S1, v, A1, h1, h2, h3⟩ := hq; exact hk v v' w1 β1 S1 A1 h3 h1 h2
    | panicked => exact hq.elim
    | outgrown => exact hq.elim

end Go.M
