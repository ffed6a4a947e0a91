/- Part of the abstract machine of this claim (no condition). -/
import GoSem.Core.Float
import Derived.Laws.ComplexArith
import Derived.RangeFuncRecord
import Derived.Test.YtfhodefiknfccaaDoorA3
set_option linter.unusedVariables false
set_option linter.unusedSimpArgs false
namespace Go.M
open Go.RowKit
variable {P : Program} {n m : Nat} {A A' A1 A2 A0 : AW} {a a1 a0 : AEnv} {Q Q' : AQ} {R : Value → AW → Prop} {rs : List ResultVar}
variable {ops : Array Oper} {rest : List Oper} {o : Oper} {c : Operand} {x y : Code} {p : Prop} {L L' : LM} {nx nx' ro gl : Nat}

structure GT (P : Program) (n m : Nat) (c : Code) (a : AEnv) (L : LM) (nx ro gl : Nat) (Q : AQ) : Prop where
  run : AT P n m c a (AW.of L nx ro gl) Q
structure GL (P : Program) (n m : Nat) (ops : Array Oper) (rest : List Oper) (a : AEnv) (L : LM) (nx ro gl : Nat) (Q : AQ) : Prop where
  run : AL P n m ops rest a (AW.of L nx ro gl) Q
structure GP (Q : AQ) (e : Exit) (a : AEnv) (L : LM) (nx ro gl : Nat) : Prop where
  run : Q e a (AW.of L nx ro gl)
structure GO (P : Program) (n : Nat) (o : Oper) (a : AEnv) (L : LM) (nx ro gl : Nat) (R : Value → AW → Prop) : Prop where
  run : AOp P n o a (AW.of L nx ro gl) R

/-- Then the code 'y'. -/
def GThen (P : Program) (n m ro gl : Nat) (y : Code) (Q : AQ) : AQ := AThen (fun a A => ∃ L nx, A = AW.of L nx ro gl ∧ GT P n m y a L nx ro gl Q) Q

theorem AC.go {f : FuncId} {fn : Func} {body : Code} {args : List Value} (hf : P.funcs[f]? = some fn) (hb : fn.body = some body) (hl : Nat.ble args.length fn.ntmps = true)
    (h : GT P fn.ntmps nx body (argEnv 0 args) L nx ro gl (AEnd P fn.results.toList R)) : AC P f args (AW.of L nx ro gl) R := AC.start hf hb hl h.run

theorem GT.seq (h : GT P n m x a L nx ro gl (GThen P n m ro gl y Q)) : GT P n m (.seq x y) a L nx ro gl Q :=
  ⟨AT.seq (AT.mono h.run fun e a A q => by
    cases e with
    | normal => obtain ⟨L, nx, rfl, hg⟩ := q; exact hg.run
    | exit id => exact q
    | goto l => exact q
    | ret => exact q
    | panic ch => exact q
    | outgrown => exact q)⟩
theorem GP.thenN (h : GT P n m y a L nx ro gl Q) : GP (GThen P n m ro gl y Q) .normal a L nx ro gl := ⟨⟨L, nx, rfl, h⟩⟩
theorem GP.thenR {ro' gl' : Nat} (h : GP Q .ret a L nx ro gl) : GP (GThen P n m ro' gl' y Q) .ret a L nx ro gl := ⟨h.run⟩
theorem GP.thenE {ro' gl' id : Nat} (h : GP Q (.exit id) a L nx ro gl) : GP (GThen P n m ro' gl' y Q) (.exit id) a L nx ro gl := ⟨h.run⟩
theorem GP.inN {id : Nat} (h : GP Q .normal a L nx ro gl) : GP (AIn id Q) .normal a L nx ro gl := ⟨h.run⟩
theorem GP.inR {id : Nat} (h : GP Q .ret a L nx ro gl) : GP (AIn id Q) .ret a L nx ro gl := ⟨h.run⟩
theorem GP.hit {id : Nat} (h : GP Q .normal a L nx ro gl) : GP (AIn id Q) (.exit id) a L nx ro gl := ⟨AIn.hit h.run⟩
theorem GP.miss {id id' : Nat} (hn : Nat.beq id' id = false) (h : GP Q (.exit id') a L nx ro gl) : GP (AIn id Q) (.exit id') a L nx ro gl :=
  ⟨AIn.miss (by have := Nat.ne_of_beq_eq_false hn; simpa using this) h.run⟩
theorem GP.endR1 {v : Value} (h1 : aresList P (AW.of L nx ro gl) a rs = some [v]) (h2 : R v (AW.of L nx ro gl)) : GP (AEnd P rs R) .ret a L nx ro gl := ⟨⟨v, by unfold ares; rw [h1]; rfl, h2⟩⟩
theorem GP.endR2 {v u : Value} (h1 : aresList P (AW.of L nx ro gl) a rs = some [v, u]) (h2 : R (.tuple #[v, u]) (AW.of L nx ro gl)) : GP (AEnd P rs R) .ret a L nx ro gl := ⟨⟨_, by unfold ares; rw [h1]; rfl, h2⟩⟩
theorem GP.endR3 {v u w : Value} (h1 : aresList P (AW.of L nx ro gl) a rs = some [v, u, w]) (h2 : R (.tuple #[v, u, w]) (AW.of L nx ro gl)) : GP (AEnd P rs R) .ret a L nx ro gl := ⟨⟨_, by unfold ares; rw [h1]; rfl, h2⟩⟩
theorem GP.endN1 {v : Value} (h1 : aresList P (AW.of L nx ro gl) a rs = some [v]) (h2 : R v (AW.of L nx ro gl)) : GP (AEnd P rs R) .normal a L nx ro gl := ⟨⟨v, by unfold ares; rw [h1]; rfl, h2⟩⟩
theorem GP.endN0 (h1 : aresList P (AW.of L nx ro gl) a rs = some []) (h2 : R (.tuple #[]) (AW.of L nx ro gl)) : GP (AEnd P rs R) .normal a L nx ro gl := ⟨⟨_, by unfold ares; rw [h1]; rfl, h2⟩⟩
theorem GP.endR0 (h1 : aresList P (AW.of L nx ro gl) a rs = some []) (h2 : R (.tuple #[]) (AW.of L nx ro gl)) : GP (AEnd P rs R) .ret a L nx ro gl := ⟨⟨_, by unfold ares; rw [h1]; rfl, h2⟩⟩

theorem GT.skip (h : GP Q .normal a L nx ro gl) : GT P n m .skip a L nx ro gl Q := ⟨AT.skip h.run⟩
theorem GT.ret (h : GP Q .ret a L nx ro gl) : GT P n m .ret a L nx ro gl Q := ⟨AT.ret h.run⟩
theorem GT.exit {id : Nat} (h : GP Q (.exit id) a L nx ro gl) : GT P n m (.exit id) a L nx ro gl Q := ⟨AT.exit h.run⟩
theorem GT.label {l : Nat} (h : GP Q .normal a L nx ro gl) : GT P n m (.label l) a L nx ro gl Q := ⟨AT.label h.run⟩
theorem GT.block {id : Nat} {c : Code} (h : GT P n m c a L nx ro gl (AIn id Q)) : GT P n m (.block id c) a L nx ro gl Q := ⟨AT.block h.run⟩
theorem GT.region {id : Nat} {l : List Oper} (h : GL P n m l.toArray l a L nx ro gl Q) : GT P n m (.region id l.toArray false) a L nx ro gl Q := ⟨AT.region h.run⟩
theorem GT.condT (hc : aev gl a c = some (.bool true)) (h : GT P n m x a L nx ro gl Q) : GT P n m (.cond c x y) a L nx ro gl Q := ⟨AT.cond hc (fun _ => h.run) (fun h => by cases h)⟩
theorem GT.condF (hc : aev gl a c = some (.bool false)) (h : GT P n m y a L nx ro gl Q) : GT P n m (.cond c x y) a L nx ro gl Q := ⟨AT.cond hc (fun h => by cases h) (fun _ => h.run)⟩
theorem GT.condD [Decidable p] (hc : aev gl a c = some (.bool (decide p))) (h1 : p → GT P n m x a L nx ro gl Q) (h2 : ¬p → GT P n m y a L nx ro gl Q) : GT P n m (.cond c x y) a L nx ro gl Q :=
  ⟨AT.cond hc (fun h => (h1 (of_decide_eq_true h)).run) (fun h => (h2 (of_decide_eq_false h)).run)⟩
theorem GT.condN [Decidable p] (hc : aev gl a c = some (.bool (!decide p))) (h1 : ¬p → GT P n m x a L nx ro gl Q) (h2 : p → GT P n m y a L nx ro gl Q) : GT P n m (.cond c x y) a L nx ro gl Q :=
  ⟨AT.cond hc (fun h => (h1 (by simpa using h)).run) (fun h => (h2 (by simpa using h)).run)⟩
theorem GT.condB {t : Bool} (hc : aev gl a c = some (.bool t)) (h1 : t = true → GT P n m x a L nx ro gl Q) (h2 : t = false → GT P n m y a L nx ro gl Q) : GT P n m (.cond c x y) a L nx ro gl Q :=
  ⟨AT.cond hc (fun h => (h1 h).run) (fun h => (h2 h).run)⟩

/-- So many rounds at most. -/
def GR (P : Program) (n m ro gl : Nat) (c : Code) (Q : AQ) : Nat → AEnv → LM → Nat → Prop
  | 0, _, _, _ => False
  | k + 1, a, L, nx => GT P n m c a L nx ro gl (AThen (fun a A => ∃ L nx, A = AW.of L nx ro gl ∧ GR P n m ro gl c Q k a L nx) Q)
theorem GR.rounds {c : Code} : ∀ {k : Nat} {a : AEnv} {L : LM} {nx : Nat}, GR P n m ro gl c Q k a L nx → ARounds P n m c Q k a (AW.of L nx ro gl)
  | 0, _, _, _, h => h
  | k + 1, a, L, nx, h => AT.mono (GT.run h) fun e a A q => by
    cases e with
    | normal => obtain ⟨L, nx, rfl, hg⟩ := q; exact GR.rounds hg
    | exit id => exact q
    | goto l => exact q
    | ret => exact q
    | panic ch => exact q
    | outgrown => exact q
/-- The loop, unrolled: 'k' rounds are left. -/
structure GU (P : Program) (n m ro gl : Nat) (c : Code) (Q : AQ) (k : Nat) (a : AEnv) (L : LM) (nx : Nat) : Prop where
  run : GR P n m ro gl c Q k a L nx
def GAgain (P : Program) (n m ro gl : Nat) (c : Code) (k : Nat) (Q : AQ) : AQ := AThen (fun a A => ∃ L nx, A = AW.of L nx ro gl ∧ GR P n m ro gl c Q k a L nx) Q
theorem GT.unroll {c : Code} (k : Nat) (h : GU P n m ro gl c Q k a L nx) : GT P n m (.loop c) a L nx ro gl Q := ⟨AT.rounds k h.run.rounds⟩
theorem GU.step {c : Code} {k : Nat} (h : GT P n m c a L nx ro gl (GAgain P n m ro gl c k Q)) : GU P n m ro gl c Q (k + 1) a L nx := ⟨h⟩
theorem GP.againN {c : Code} {k : Nat} (h : GU P n m ro gl c Q k a L nx) : GP (GAgain P n m ro gl c k Q) .normal a L nx ro gl := ⟨⟨L, nx, rfl, h.run⟩⟩
theorem GP.againR {ro' gl' k : Nat} {c : Code} (h : GP Q .ret a L nx ro gl) : GP (GAgain P n m ro' gl' c k Q) .ret a L nx ro gl := ⟨h.run⟩
theorem GP.againE {ro' gl' k id : Nat} {c : Code} (h : GP Q (.exit id) a L nx ro gl) : GP (GAgain P n m ro' gl' c k Q) (.exit id) a L nx ro gl := ⟨h.run⟩

/-- A loop by an invariant with a number. -/
def GInv (ro gl : Nat) (I : Nat → AEnv → LM → Nat → Prop) (k : Nat) (Q : AQ) : AQ := AThen (fun a A => ∃ k', k' < k ∧ ∃ L nx, A = AW.of L nx ro gl ∧ I k' a L nx) Q
theorem GT.loop {c : Code} (I : Nat → AEnv → LM → Nat → Prop) (k0 : Nat) (h0 : I k0 a L nx) (round : ∀ k a L nx, I k a L nx → GT P n m c a L nx ro gl (GInv ro gl I k Q)) : GT P n m (.loop c) a L nx ro gl Q :=
  ⟨AT.loop (fun k a A => ∃ L nx, A = AW.of L nx ro gl ∧ I k a L nx) k0 ⟨L, nx, rfl, h0⟩ fun k a A ⟨L, nx, hA, hI⟩ => hA ▸ (round k a L nx hI).run⟩
theorem GP.invN {I : Nat → AEnv → LM → Nat → Prop} {k : Nat} (k' : Nat) (hk : k' < k) (h : I k' a L nx) : GP (GInv ro gl I k Q) .normal a L nx ro gl := ⟨⟨k', hk, L, nx, rfl, h⟩⟩
theorem GP.invR {ro' gl' k : Nat} {I : Nat → AEnv → LM → Nat → Prop} (h : GP Q .ret a L nx ro gl) : GP (GInv ro' gl' I k Q) .ret a L nx ro gl := ⟨h.run⟩
theorem GP.invE {ro' gl' k id : Nat} {I : Nat → AEnv → LM → Nat → Prop} (h : GP Q (.exit id) a L nx ro gl) : GP (GInv ro' gl' I k Q) (.exit id) a L nx ro gl := ⟨h.run⟩

/-! ### Operations -/
theorem okD {n d : Nat} {o : Oper} (hd : o.dst = some d) (hn : Nat.ble (d + 1) n = true) : okDst n o.dst = true := by rw [hd]; simp only [okDst, decide_eq_true_eq]; exact Nat.le_of_ble_eq_true hn
theorem GL.done (h : GP Q .normal a L nx ro gl) : GL P n m ops [] a L nx ro gl Q := ⟨AL.done h.run⟩
theorem GL.v {d : Tmp} {v : Value} (hg : o.guard = none) (hd : o.dst = some d) (hn : Nat.ble (d + 1) n = true) (h : GO P n o a L nx ro gl (isR v (AW.of L' nx' ro gl))) (k : GL P n m ops rest ((d, v) :: a) L' nx' ro gl Q) : GL P n m ops (o :: rest) a L nx ro gl Q :=
  ⟨AL.op1 hg (okD hd hn) h.run (by rw [hd]; exact k.run)⟩
theorem GL.sv {d : Tmp} {v : Value} (hg : o.guard = none) (hd : o.dst = some d) (hn : Nat.ble (d + 1) n = true) (h : astep P o a L nx ro gl = some (v, L', nx')) (k : GL P n m ops rest ((d, v) :: a) L' nx' ro gl Q) : GL P n m ops (o :: rest) a L nx ro gl Q :=
  GL.v hg hd hn ⟨astep_sound h⟩ k
theorem GL.sf {d : Tmp} {v : Value} (hg : o.guard = none) (hd : o.dst = some d) (hn : Nat.ble (d + 1) n = true) (h : astepF P o a L nx ro gl = some (v, L', nx')) (k : GL P n m ops rest ((d, v) :: a) L' nx' ro gl Q) : GL P n m ops (o :: rest) a L nx ro gl Q :=
  GL.v hg hd hn ⟨astepF_sound h⟩ k
theorem GL.sn (hg : o.guard = none) (hd : o.dst = none) (h : nstep P o a L nx ro gl = some L') (k : GL P n m ops rest a L' nx ro gl Q) : GL P n m ops (o :: rest) a L nx ro gl Q :=
  ⟨AL.op1 hg (by rw [hd]; rfl) (nstep_sound h) (by rw [hd]; exact k.run)⟩
theorem GL.nf (hg : o.guard = none) (hd : o.dst = none) (h : nstepF P o a L nx ro gl = some L') (k : GL P n m ops rest a L' nx ro gl Q) : GL P n m ops (o :: rest) a L nx ro gl Q := GL.sn hg hd (nstepF_eq h) k
/-- A call, of whose outcome only a property is known. -/
theorem GL.any {d : Tmp} (hg : o.guard = none) (hd : o.dst = some d) (hn : Nat.ble (d + 1) n = true) (h : GO P n o a L nx ro gl R) (k : ∀ v A1, R v A1 → ∃ L' nx', A1 = AW.of L' nx' ro gl ∧ GL P n m ops rest ((d, v) :: a) L' nx' ro gl Q) : GL P n m ops (o :: rest) a L nx ro gl Q :=
  ⟨AL.op hg (okD hd hn) h.run fun v A1 hr => by obtain ⟨L', nx', rfl, hk⟩ := k v A1 hr; rw [hd]; exact hk.run⟩

theorem GL.unguard {dst : Option Tmp} {op : Op} {t : TypeId} {pos : String} {aft : Array Edge} {j : Nat} {b : Bool} {d : Tmp} (hj : (ops[j]?).bind (·.dst) = some d) (ha : aget a d = some (.bool b))
    (h : GL P n m ops (⟨dst, op, t, pos, aft, none⟩ :: rest) a L nx ro gl Q) : GL P n m ops (⟨dst, op, t, pos, aft, some (j, b)⟩ :: rest) a L nx ro gl Q := by
  refine ⟨fun r w0 N w β S ae hm hs he => ?_⟩
  have hw : Region.wanted (⟨dst, op, t, pos, aft, some (j, b)⟩ : Oper) (yielded ops ae.tmps) = true := by simp [Region.wanted, yielded_of hj ha he]
  have := h.run r w0 N w β S ae hm hs he
  unfold wpListIn at this ⊢
  rw [if_pos (by simp [Region.wanted])] at this
  rw [if_pos hw]
  have upon : ∀ K Z q, Oper.uponIn (FR r) 0 P (⟨dst, op, t, pos, aft, none⟩ : Oper) ae K Z q = Oper.uponIn (FR r) 0 P (⟨dst, op, t, pos, aft, some (j, b)⟩ : Oper) ae K Z q := by
    intro K Z q
    cases q with
    | ok x w' => cases x <;> rfl
    | halt x w' => cases x <;> rfl
  refine ⟨fun _ _ => trivial, ?_⟩
  have h2 := this.2
  rw [upon] at h2
  exact h2
theorem GL.skip {dst : Option Tmp} {op : Op} {t : TypeId} {pos : String} {aft : Array Edge} {j e : Nat} {b : Bool} {d : Tmp} (hj : (ops[j]?).bind (·.dst) = some d) (ha : aget a d = some (.bool (!b))) (he : dst = some e) (hn : Nat.ble (e + 1) n = true)
    (h : GL P n m ops rest ((e, undef) :: a) L nx ro gl Q) : GL P n m ops (⟨dst, op, t, pos, aft, some (j, b)⟩ :: rest) a L nx ro gl Q :=
  ⟨AL.off (o := ⟨dst, op, t, pos, aft, some (j, b)⟩) rfl hj ha (okD he hn) (by rw [he]; exact h.run)⟩
theorem GL.skipU {dst : Option Tmp} {op : Op} {t : TypeId} {pos : String} {aft : Array Edge} {j e : Nat} {b : Bool} {d : Tmp} (hj : (ops[j]?).bind (·.dst) = some d) (ha : aget a d = some undef) (he : dst = some e) (hn : Nat.ble (e + 1) n = true)
    (h : GL P n m ops rest ((e, undef) :: a) L nx ro gl Q) : GL P n m ops (⟨dst, op, t, pos, aft, some (j, b)⟩ :: rest) a L nx ro gl Q := by
  refine ⟨fun r w0 N w β S ae hm hs her => ?_⟩
  have hy : yielded ops ae.tmps j = none := by
    obtain ⟨v', e1, r⟩ := her.get d _ ha
    cases r
    simp [yielded, hj, e1]
  unfold wpListIn
  rw [if_neg (by simp [Region.wanted, hy])]
  refine ⟨fun _ _ => trivial, h.run r w0 N w β S _ hm hs ?_⟩
  have := her.put (d := dst) (v := undef) (v' := undef) (okD (o := ⟨dst, op, t, pos, aft, some (j, b)⟩) he hn) (.tuple .nil .nil)
  rw [he] at this ⊢
  exact this
theorem ER.shadow {β : Bet} {S : Nat → Prop} {ae : Act} {d : Nat} {v : Value} (he : ER n β S a ae) (h : aget a d = some v) : ER n β S ((d, v) :: a) ae :=
  he.sub fun t u hu => by
    simp only [aget] at hu
    split at hu
    · rename_i e; subst e; cases hu; exact h
    · exact hu
theorem GL.shadow {d : Nat} {v : Value} (h : aget a d = some v) (k : GL P n m ops rest ((d, v) :: a) L nx ro gl Q) : GL P n m ops rest a L nx ro gl Q :=
  ⟨fun r w0 N w β S ae hm hs he => k.run r w0 N w β S ae hm hs (he.shadow h)⟩
theorem GT.shadow {d : Nat} {v : Value} {c : Code} (h : aget a d = some v) (k : GT P n m c ((d, v) :: a) L nx ro gl Q) : GT P n m c a L nx ro gl Q :=
  ⟨fun r w0 N w β S ae hm hs he => k.run r w0 N w β S ae hm hs (he.shadow h)⟩
/-- Fewer slots. -/
theorem GT.keep {a1 : AEnv} {c : Code} (h : asub a1 a) (k : GT P n m c a1 L nx ro gl Q) : GT P n m c a L nx ro gl Q :=
  ⟨fun r w0 N w β S ae hm hs he => k.run r w0 N w β S ae hm hs (he.sub h)⟩
/-- It is not known whether the guard holds: both ways; the slot that was asked is written anew. -/
theorem GL.forkD [Decidable p] {dst : Option Tmp} {op : Op} {t : TypeId} {pos : String} {aft : Array Edge} {j : Nat} {b : Bool} {d : Tmp} (hj : (ops[j]?).bind (·.dst) = some d) (ha : aget a d = some (.bool (decide p)))
    (h1 : p → GL P n m ops (⟨dst, op, t, pos, aft, some (j, b)⟩ :: rest) ((d, .bool true) :: a) L nx ro gl Q) (h2 : ¬p → GL P n m ops (⟨dst, op, t, pos, aft, some (j, b)⟩ :: rest) ((d, .bool false) :: a) L nx ro gl Q) :
    GL P n m ops (⟨dst, op, t, pos, aft, some (j, b)⟩ :: rest) a L nx ro gl Q := by
  by_cases q : p
  · exact GL.shadow (by rw [ha, decide_eq_true q]) (h1 q)
  · exact GL.shadow (by rw [ha, decide_eq_false q]) (h2 q)
theorem GL.forkN [Decidable p] {dst : Option Tmp} {op : Op} {t : TypeId} {pos : String} {aft : Array Edge} {j : Nat} {b : Bool} {d : Tmp} (hj : (ops[j]?).bind (·.dst) = some d) (ha : aget a d = some (.bool (!decide p)))
    (h1 : p → GL P n m ops (⟨dst, op, t, pos, aft, some (j, b)⟩ :: rest) ((d, .bool false) :: a) L nx ro gl Q) (h2 : ¬p → GL P n m ops (⟨dst, op, t, pos, aft, some (j, b)⟩ :: rest) ((d, .bool true) :: a) L nx ro gl Q) :
    GL P n m ops (⟨dst, op, t, pos, aft, some (j, b)⟩ :: rest) a L nx ro gl Q := by
  by_cases q : p
  · exact GL.shadow (by rw [ha, decide_eq_true q]; rfl) (h1 q)
  · exact GL.shadow (by rw [ha, decide_eq_false q]; rfl) (h2 q)
theorem GL.forkB {dst : Option Tmp} {op : Op} {t : TypeId} {pos : String} {aft : Array Edge} {j : Nat} {b u : Bool} {d : Tmp} (hj : (ops[j]?).bind (·.dst) = some d) (ha : aget a d = some (.bool u))
    (h1 : u = true → GL P n m ops (⟨dst, op, t, pos, aft, some (j, b)⟩ :: rest) ((d, .bool true) :: a) L nx ro gl Q) (h2 : u = false → GL P n m ops (⟨dst, op, t, pos, aft, some (j, b)⟩ :: rest) ((d, .bool false) :: a) L nx ro gl Q) :
    GL P n m ops (⟨dst, op, t, pos, aft, some (j, b)⟩ :: rest) a L nx ro gl Q := by
  cases u with
  | true => exact GL.shadow ha (h1 rfl)
  | false => exact GL.shadow ha (h2 rfl)

/-! ### Arithmetic, calls -/
variable {t t2 : TypeId} {X Y : Operand} {i j : Int} {k : IntKind}
theorem GO.add (ho : o.op = .binOp .add t X Y t2) (hx : aev gl a X = some (.int .i64 i)) (hy : aev gl a Y = some (.int .i64 j)) (h1 : -9223372036854775808 ≤ i + j ∧ i + j ≤ 9223372036854775807) : GO P n o a L nx ro gl (isR (.int .i64 (i + j)) (AW.of L nx ro gl)) := ⟨AOp.addI ho hx hy h1⟩
theorem GO.sub (ho : o.op = .binOp .sub t X Y t2) (hx : aev gl a X = some (.int .i64 i)) (hy : aev gl a Y = some (.int .i64 j)) (h1 : -9223372036854775808 ≤ i - j ∧ i - j ≤ 9223372036854775807) : GO P n o a L nx ro gl (isR (.int .i64 (i - j)) (AW.of L nx ro gl)) := ⟨AOp.subI ho hx hy h1⟩
theorem GO.mul (ho : o.op = .binOp .mul t X Y t2) (hx : aev gl a X = some (.int .i64 i)) (hy : aev gl a Y = some (.int .i64 j)) (h1 : -9223372036854775808 ≤ i * j ∧ i * j ≤ 9223372036854775807) : GO P n o a L nx ro gl (isR (.int .i64 (i * j)) (AW.of L nx ro gl)) := ⟨AOp.mulI ho hx hy h1⟩
theorem GO.neg (ho : o.op = .unOp .neg t X) (hx : aev gl a X = some (.int .i64 i)) (h1 : -9223372036854775808 ≤ -i ∧ -i ≤ 9223372036854775807) : GO P n o a L nx ro gl (isR (.int .i64 (-i)) (AW.of L nx ro gl)) := ⟨AOp.negI ho hx h1⟩
theorem GO.quo (ho : o.op = .binOp .quo t X Y t2) (hx : aev gl a X = some (.int .i64 i)) (hy : aev gl a Y = some (.int .i64 j)) (h1 : 0 < j) (h2 : 0 ≤ i ∧ i ≤ 9223372036854775807) : GO P n o a L nx ro gl (isR (.int .i64 (i / j)) (AW.of L nx ro gl)) := ⟨AOp.quoI ho hx hy h1 h2⟩
theorem GO.quoT (ho : o.op = .binOp .quo t X Y t2) (hx : aev gl a X = some (.int .i64 i)) (hy : aev gl a Y = some (.int .i64 j)) (h1 : 0 < j) (h2 : -9223372036854775808 ≤ i ∧ i ≤ 9223372036854775807) : GO P n o a L nx ro gl (isR (.int .i64 (i.tdiv j)) (AW.of L nx ro gl)) := ⟨AOp.quoT ho hx hy h1 h2⟩
theorem GO.rem (ho : o.op = .binOp .rem t X Y t2) (hx : aev gl a X = some (.int k i)) (hy : aev gl a Y = some (.int k j)) (h1 : 0 < j) (h2 : 0 ≤ i) : GO P n o a L nx ro gl (isR (.int k (i % j)) (AW.of L nx ro gl)) := ⟨AOp.remI ho hx hy h1 h2⟩
theorem GO.remT (ho : o.op = .binOp .rem t X Y t2) (hx : aev gl a X = some (.int k i)) (hy : aev gl a Y = some (.int k j)) (h1 : 0 < j) : GO P n o a L nx ro gl (isR (.int k (i.tmod j)) (AW.of L nx ro gl)) := ⟨AOp.remT ho hx hy h1⟩
theorem GO.conv {s d : TypeId} {k' : IntKind} (ho : o.op = .convert s d X) (hx : aev gl a X = some (.int k i)) (hs : P.underlying s = some (.int k)) (hd : P.underlying d = some (.int k')) (hw : k'.wrap i = i) : GO P n o a L nx ro gl (isR (.int k' i) (AW.of L nx ro gl)) := ⟨AOp.convI ho hx hs hd hw⟩
theorem GO.bytes {s d e : TypeId} {x : Operand} {b f l c : Nat} {ns : List Int} (ho : o.op = .convert s d x) (hx : aev gl a x = some (.slice (some ⟨b, f, none⟩) l c)) (hs : P.underlying s = some (.slice e)) (he : P.underlying e = some (.int .u8)) (hd : P.underlying d = some .string)
    (hr : (AW.of L nx ro gl).rd b f l = some (ns.map (Value.int .u8))) : GO P n o a L nx ro gl (isR (.string (bytesOf ns)) (AW.of L nx ro gl)) := ⟨AOp.bytesString ho hx hs he hd hr⟩
theorem GO.next {x : Operand} {vx v : Value} (ho : o.op = .next x true) (hx : aev gl a x = some vx) (h : anext (AW.of L nx ro gl) vx = some (v, A1)) : GO P n o a L nx ro gl (isR v A1) := ⟨AOp.next ho hx h⟩
theorem GO.call {c : Call} {f : FuncId} {fn : Func} {body : Code} {vs : List Value} (ho : o.op = .call c) (hc : c.callee = .value (.func f)) (hf : P.funcs[f]? = some fn) (hb : fn.body = some body) (hn : (fn.name == "runtime.NumGoroutine") = false)
    (ha : aevs gl a c.args.toList = some vs) (h : AC P f vs (AW.of L nx ro gl) R) : GO P n o a L nx ro gl R := ⟨AOp.call ho hc hf hb hn ha h⟩
theorem GO.callV {c : Call} {t : Operand} {f : FuncId} {fn : Func} {body : Code} {vs : List Value} {first captured : Array Value} (ho : o.op = .call c) (hc : c.callee = .value t) (ht : aev gl a t = some (.func (.func f) first captured)) (hf : P.funcs[f]? = some fn) (hb : fn.body = some body) (hn : (fn.name == "runtime.NumGoroutine") = false)
    (ha : aevs gl a c.args.toList = some vs) (h : AC P f (first.toList ++ vs ++ captured.toList) (AW.of L nx ro gl) R) : GO P n o a L nx ro gl R := ⟨AOp.callValue ho hc ht hf hb hn ha h⟩

/-! ### Places that are not numerals -/
theorem GO.indexS {len cap b f s : Nat} {e : TypeId} (ho : o.op = .indexAddr t X Y) (hx : aev gl a X = some (.slice (some ⟨b, f, none⟩) len cap)) (hy : aev gl a Y = some (.int k i)) (hu : P.underlying t = some (.slice e)) (hs : szOf P e = some s) (h : 0 ≤ i ∧ i < len) :
    GO P n o a L nx ro gl (isR (.pointer (some ⟨b, f + i.toNat * s, none⟩)) (AW.of L nx ro gl)) :=
  ⟨AOp.indexAddr ho hx hy (by unfold aindexAddr; rw [hu]; simp only [hs]; rw [if_pos h])⟩
theorem GO.indexA {len b f s : Nat} {e : TypeId} (ho : o.op = .indexAddr t X Y) (hx : aev gl a X = some (.pointer (some ⟨b, f, none⟩))) (hy : aev gl a Y = some (.int k i)) (hu : P.underlying t = some (.array len e)) (hs : szOf P e = some s) (h : 0 ≤ i ∧ i < len) :
    GO P n o a L nx ro gl (isR (.pointer (some ⟨b, f + i.toNat * s, none⟩)) (AW.of L nx ro gl)) :=
  ⟨AOp.indexAddr ho hx hy (by unfold aindexAddr; rw [hu]; simp only [hs]; rw [if_pos h])⟩
theorem GO.loadC {b f : Nat} {d : TypeDesc} {cs : List Value} {e : TypeId} {v : Value} (ho : o.op = .load t X) (hx : aev gl a X = some (.pointer (some ⟨b, f, none⟩))) (hu : P.underlying t = some d) (hd : isAggT d = false) (hb : alook L b = some (.cells cs e)) (hv : cs[f]? = some v) :
    GO P n o a L nx ro gl (isR v (AW.of L nx ro gl)) :=
  ⟨AOp.load ho hx (by
    unfold aload aloadAt
    simp only
    rw [hu]
    simp only [hd, Bool.false_eq_true, if_false]
    have hf := (List.getElem?_eq_some_iff.1 hv).1
    have hb' : (AW.of L nx ro gl).objs b = some (.cells cs e) := hb
    unfold AW.rd
    rw [hb']
    simp only
    rw [if_pos (by omega)]
    simp [List.head?_take, List.head?_drop, hv])⟩
theorem GO.loadG {b f s : Nat} {d : TypeDesc} {cs vs : List Value} {e : TypeId} (ho : o.op = .load t X) (hx : aev gl a X = some (.pointer (some ⟨b, f, none⟩))) (hu : P.underlying t = some d) (hd : isAggT d = true) (hs : szOf P t = some s) (hb : alook L b = some (.cells cs e)) (hfit : f + s ≤ cs.length) (hv : (cs.drop f).take s = vs) :
    GO P n o a L nx ro gl (isR (.agg vs.toArray) (AW.of L nx ro gl)) :=
  ⟨AOp.load ho hx (by
    unfold aload aloadAt
    simp only
    rw [hu]
    simp only [hd, if_true, hs, Option.bind_some]
    have hb' : (AW.of L nx ro gl).objs b = some (.cells cs e) := hb
    unfold AW.rd
    rw [hb']
    simp only
    rw [if_pos hfit, hv]
    rfl)⟩
theorem asub_nil : asub [] a := fun _ _ h => by cases h
theorem asub_cons {d : Nat} {v : Value} {r : AEnv} (h : aget a d = some v) (hr : asub r a) : asub ((d, v) :: r) a := fun t u hu => by
  simp only [aget] at hu
  split at hu
  · rename_i e; subst e; cases hu; exact h
  · exact hr t u hu
end Go.M
namespace Go.M
open Go.RowKit
variable {P : Program} {n m : Nat} {A A' A1 A2 A0 : AW} {a a1 a0 : AEnv} {Q Q' : AQ} {R : Value → AW → Prop} {p : Prop} {L L' L0 : LM} {nx nx' nx0 ro gl : Nat} {D : Plan} {id i : Nat} {o : Oper} {v : Value}

abbrev MS := List (LM × Nat)
def msOf (ro gl : Nat) (Ms : MS) : List AW := Ms.map fun x => AW.of x.1 x.2 ro gl
structure GD (P : Program) (n m : Nat) (D : Plan) (id : Nat) (a0 : AEnv) (L0 : LM) (nx0 ro gl : Nat) (Q : AQ) (i : Nat) (a : AEnv) (Ms : MS) : Prop where
  run : DG P n m D id a0 (AW.of L0 nx0 ro gl) Q i a (msOf ro gl Ms)

theorem GT.draws {l : List Oper} (An : List (List Nat)) (H : List Nat) (hc : (Plan.mk l An H).chk n = true) (h : GD P n m ⟨l, An, H⟩ id a L nx ro gl Q 0 a [(L, nx)]) : GT P n m (.region id l.toArray true) a L nx ro gl Q :=
  ⟨AT.draws An H hc h.run⟩
theorem GD.done {Ms : MS} (hm : P.follows .mixedOrders = true) (hi : Nat.beq D.l.length i = true) (hl : Ms[D.H.length]? = some (L, nx)) (hq : GP Q .normal a L nx ro gl) : GD P n m D id a0 L0 nx0 ro gl Q i a Ms :=
  ⟨DG.done hm (Nat.eq_of_beq_eq_true hi) (M := AW.of L nx ro gl) (by unfold msOf; rw [List.getElem?_map, hl]; rfl) hq.run⟩

def okMs' (D : Plan) (i : Nat) (Ms : MS) : MS := (Ms.zipIdx.filter fun x => D.okk i x.2).map (·.1)
theorem okMs_map (D : Plan) (i : Nat) (Ms : MS) (ro gl : Nat) : D.okMs i (msOf ro gl Ms) = (okMs' D i Ms).map fun x => AW.of x.1 x.2 ro gl := by
  unfold Plan.okMs okMs' msOf
  rw [List.zipIdx_map, List.filter_map, List.map_map, List.map_map]
  rfl
inductive AllMs (p : LM → Nat → Prop) : MS → Prop
  | nil {ms : MS} : ms = [] → AllMs p ms
  | cons {ms r : MS} {L : LM} {nx : Nat} : ms = (L, nx) :: r → p L nx → AllMs p r → AllMs p ms
theorem AllMs.all {ro gl : Nat} {p : AW → Prop} {ms : MS} (h : AllMs (fun L nx => p (AW.of L nx ro gl)) ms) : AllM p (ms.map fun x => AW.of x.1 x.2 ro gl) := by
  induction h with
  | nil e => subst e; exact trivial
  | cons e h _ ih => subst e; exact ⟨h, ih⟩

theorem GD.light {Ms : MS} {d : Nat} (ho : D.l[i]? = some o) (hH : D.H.contains i = false) (hon : D.onAt a o) (hd : o.dst = some d) (h : AllMs (fun L nx => AOp P n o (D.env a0 a i o) (AW.of L nx ro gl) (isR v (AW.of L nx ro gl))) (okMs' D i Ms))
    (k : GD P n m D id a0 L0 nx0 ro gl Q (i + 1) ((d, v) :: a) Ms) : GD P n m D id a0 L0 nx0 ro gl Q i a Ms :=
  ⟨DG.light ho hH hon (okMs_map D i Ms ro gl) rfl (AllMs.all h) (by rw [hd]; exact k.run)⟩
theorem GD.off {Ms : MS} {e g d : Nat} {b : Bool} {u : Value} (ho : D.l[i]? = some o) (hH : D.H.contains i = false) (h1 : o.guard = some (g, b)) (h2 : (D.l[g]?).bind (·.dst) = some d) (h3 : aget a d = some u) (h5 : u = .bool (!b) ∨ u = undef) (hd : o.dst = some e)
    (k : GD P n m D id a0 L0 nx0 ro gl Q (i + 1) ((e, undef) :: a) Ms) : GD P n m D id a0 L0 nx0 ro gl Q i a Ms :=
  ⟨DG.off ho hH h1 h2 h3 h5 (by rw [hd]; exact k.run)⟩

inductive AllJs (p : Nat → Prop) : List Nat → Prop
  | nil {js : List Nat} : js = [] → AllJs p js
  | cons {js r : List Nat} {j : Nat} : js = j :: r → p j → AllJs p r → AllJs p js
theorem AllJs.all {p : Nat → Prop} {js : List Nat} (h : AllJs p js) : AllJ p js := by
  induction h with
  | nil e => subst e; exact trivial
  | cons e h _ ih => subst e; exact ⟨h, ih⟩

theorem GD.heavy {Ms : MS} {d : Nat} (ho : D.l[i]? = some o) (hr : D.H[Ms.length - 1]? = some i) (hM : Ms[Ms.length - 1]? = some (L, nx)) (hon : D.onAt a o) (hd : o.dst = some d) (h : AOp P n o (D.env a0 a i o) (AW.of L nx ro gl) (isR v (AW.of L' nx' ro gl)))
    (hf : AllJs (D.again P n a0 a (AW.of L' nx' ro gl)) (D.floats i (Ms.length - 1))) (k : GD P n m D id a0 L0 nx0 ro gl Q (i + 1) ((d, v) :: a) (Ms ++ [(L', nx')])) : GD P n m D id a0 L0 nx0 ro gl Q i a Ms :=
  ⟨DG.heavy (r := Ms.length - 1) (M := AW.of L nx ro gl) (M' := AW.of L' nx' ro gl) ho hr (by unfold msOf; rw [List.getElem?_map, hM]; rfl) hon rfl h rfl hf.all (by rw [hd]; have := k.run; rw [msOf, List.map_append] at this; exact this)⟩
theorem GD.heavyN {Ms : MS} (ho : D.l[i]? = some o) (hr : D.H[Ms.length - 1]? = some i) (hM : Ms[Ms.length - 1]? = some (L, nx)) (hon : D.onAt a o) (hd : o.dst = none) (h : nstep P o (D.env a0 a i o) L nx ro gl = some L')
    (hf : AllJs (D.again P n a0 a (AW.of L' nx ro gl)) (D.floats i (Ms.length - 1))) (k : GD P n m D id a0 L0 nx0 ro gl Q (i + 1) a (Ms ++ [(L', nx)])) : GD P n m D id a0 L0 nx0 ro gl Q i a Ms :=
  ⟨DG.heavy (r := Ms.length - 1) (M := AW.of L nx ro gl) (M' := AW.of L' nx ro gl) ho hr (by unfold msOf; rw [List.getElem?_map, hM]; rfl) hon rfl (nstep_sound h) rfl hf.all (by rw [hd]; have := k.run; rw [msOf, List.map_append] at this; exact this)⟩

theorem GD.heavyF {Ms : MS} (ho : D.l[i]? = some o) (hr : D.H[Ms.length - 1]? = some i) (hM : Ms[Ms.length - 1]? = some (L, nx)) (hon : D.onAt a o) (hd : o.dst = none) (h : nstepF P o (D.env a0 a i o) L nx ro gl = some L')
    (hf : AllJs (D.again P n a0 a (AW.of L' nx ro gl)) (D.floats i (Ms.length - 1))) (k : GD P n m D id a0 L0 nx0 ro gl Q (i + 1) a (Ms ++ [(L', nx)])) : GD P n m D id a0 L0 nx0 ro gl Q i a Ms := GD.heavyN ho hr hM hon hd (nstepF_eq h) hf k
theorem again.one {j d : Nat} {oj : Oper} {u : Value} {M' : AW} (h1 : D.l[j]? = some oj) (hd : oj.dst = some d) (h2 : aget a d = some u) (h4 : AOp P n oj (D.env a0 a j oj) M' (isR u M')) : D.again P n a0 a M' j :=
  ⟨oj, h1, .inr ⟨u, fun d' hd' => by rw [hd] at hd'; cases hd'; exact h2, h4⟩⟩
theorem again.off {j g d e : Nat} {b : Bool} {u : Value} {oj : Oper} {M' : AW} (h1 : D.l[j]? = some oj) (hg : oj.guard = some (g, b)) (h2 : (D.l[g]?).bind (·.dst) = some d) (h3 : aget a d = some u) (h5 : u = .bool (!b) ∨ u = undef) (hd : oj.dst = some e) (h4 : aget a e = some undef) : D.again P n a0 a M' j :=
  ⟨oj, h1, .inl ⟨⟨g, b, d, u, hg, h2, h3, h5⟩, fun d' hd' => by rw [hd] at hd'; cases hd'; exact h4⟩⟩

theorem onAt.none (h : o.guard = none) : D.onAt a o := .inl h
theorem onAt.yes {g d : Nat} {b : Bool} (h1 : o.guard = some (g, b)) (h2 : (D.l[g]?).bind (·.dst) = some d) (h3 : aget a d = some (.bool b)) : D.onAt a o := .inr ⟨g, b, d, h1, h2, h3⟩

theorem Good.congr {Ms : List AW} (he : ∀ t, aget a1 t = aget a t) (h : Good P n D a0 A0 i a Ms) : Good P n D a0 A0 i a1 Ms := by
  have e : aget a1 = aget a := funext he
  have henv : ∀ j o, D.env a0 a1 j o = D.env a0 a j o := fun j o => by unfold Plan.env Plan.src; rw [e]
  refine ⟨h.len, h.head, fun t ht => by rw [e]; exact h.keep t ht, fun j o hj ho => ?_⟩
  have := h.obs j o hj ho
  unfold Plan.ob Plan.offAt Plan.onAt Plan.opAt at this ⊢
  simp only [e, henv]
  exact this
theorem GD.shadow {Ms : MS} {d : Nat} {u : Value} (h : aget a d = some u) (k : GD P n m D id a0 L0 nx0 ro gl Q i ((d, u) :: a) Ms) : GD P n m D id a0 L0 nx0 ro gl Q i a Ms :=
  ⟨fun hc hg => k.run hc (hg.congr fun t => by
    simp only [aget]
    split
    · rename_i e; subst e; exact h.symm
    · rfl)⟩
theorem GD.forkD [Decidable p] {Ms : MS} {g d : Nat} {b : Bool} (ho : D.l[i]? = some o) (h1 : o.guard = some (g, b)) (h2 : (D.l[g]?).bind (·.dst) = some d) (h3 : aget a d = some (.bool (decide p)))
    (k1 : p → GD P n m D id a0 L0 nx0 ro gl Q i ((d, .bool true) :: a) Ms) (k2 : ¬p → GD P n m D id a0 L0 nx0 ro gl Q i ((d, .bool false) :: a) Ms) : GD P n m D id a0 L0 nx0 ro gl Q i a Ms := by
  by_cases q : p
  · exact GD.shadow (by rw [h3, decide_eq_true q]) (k1 q)
  · exact GD.shadow (by rw [h3, decide_eq_false q]) (k2 q)
theorem GD.forkN [Decidable p] {Ms : MS} {g d : Nat} {b : Bool} (ho : D.l[i]? = some o) (h1 : o.guard = some (g, b)) (h2 : (D.l[g]?).bind (·.dst) = some d) (h3 : aget a d = some (.bool (!decide p)))
    (k1 : p → GD P n m D id a0 L0 nx0 ro gl Q i ((d, .bool false) :: a) Ms) (k2 : ¬p → GD P n m D id a0 L0 nx0 ro gl Q i ((d, .bool true) :: a) Ms) : GD P n m D id a0 L0 nx0 ro gl Q i a Ms := by
  by_cases q : p
  · exact GD.shadow (by rw [h3, decide_eq_true q]; rfl) (k1 q)
  · exact GD.shadow (by rw [h3, decide_eq_false q]; rfl) (k2 q)
theorem GD.forkB {Ms : MS} {g d : Nat} {b u : Bool} (ho : D.l[i]? = some o) (h1 : o.guard = some (g, b)) (h2 : (D.l[g]?).bind (·.dst) = some d) (h3 : aget a d = some (.bool u))
    (k1 : u = true → GD P n m D id a0 L0 nx0 ro gl Q i ((d, .bool true) :: a) Ms) (k2 : u = false → GD P n m D id a0 L0 nx0 ro gl Q i ((d, .bool false) :: a) Ms) : GD P n m D id a0 L0 nx0 ro gl Q i a Ms := by
  cases u with
  | true => exact GD.shadow h3 (k1 rfl)
  | false => exact GD.shadow h3 (k2 rfl)
end Go.M
namespace Go.M
open Go.RowKit
variable {P : Program} {w0 w w' w1 w2 : World} {N n m : Nat} {β β' β1 β2 : Bet} {S S' S1 S2 : Nat → Prop} {A A' A1 A2 A0 : AW} {a a1 a0 : AEnv} {ae : Act} {Q Q' : AQ} {L L' : LM} {nx nx' ro gl k : Nat}

/-- All addresses of these values are below 'k'. -/
def Lt (k : Nat) (vs : List Value) : Prop := ∀ (β : Bet) (S : Nat → Prop) (vs' : List Value), VRs β S vs vs' → VRs β (fun i => S i ∧ i < k) vs vs'
theorem Lt.flat {j : Nat} {vs : List Value} (h : noAddrs j vs = true) : Lt k vs := fun β S vs' hv => by
  have e := VRs.eq_of_noAddrs hv j h
  subst e
  exact VRs.refl_of_noAddrs j _ h
theorem Lt.nil : Lt k [] := fun β S vs' hv => by cases hv; exact .nil
theorem Lt.cons {v : Value} {vs : List Value} (h1 : Lt k [v]) (h2 : Lt k vs) : Lt k (v :: vs) := fun β S vs' hv => by
  cases vs' with
  | nil => have := hv.length; simp at this
  | cons v' vs' => exact VRs.cons (h1 β S [v'] hv.cons_inv.1) (h2 β S vs' hv.cons_inv.2)
theorem Lt.ptr {b o : Nat} (h : Nat.blt b k = true) : Lt k [.pointer (some ⟨b, o, none⟩)] := fun β S vs' hv => by
  have h := Nat.lt_of_lt_of_le (Nat.lt_succ_self b) (Nat.le_of_ble_eq_true h)
  cases vs' with
  | nil => have := hv.length; simp at this
  | cons v' vs' =>
    have e : vs' = [] := by have := hv.length; simp at this; exact this
    subst e
    cases hv with
    | ptr hs hb _ => exact .ptr ⟨hs, h⟩ hb .nil
    | ptrD hs hb _ => exact .ptrD ⟨hs, h⟩ hb .nil
theorem Lt.sl {b o l c : Nat} (h : Nat.blt b k = true) : Lt k [.slice (some ⟨b, o, none⟩) l c] := fun β S vs' hv => by
  have h := Nat.lt_of_lt_of_le (Nat.lt_succ_self b) (Nat.le_of_ble_eq_true h)
  cases vs' with
  | nil => have := hv.length; simp at this
  | cons v' vs' =>
    have e : vs' = [] := by have := hv.length; simp at this; exact this
    subst e
    cases hv with
    | sl hs hb h1 h2 _ => exact .sl ⟨hs, h⟩ hb h1 h2 .nil
    | slD hs hb h1 _ => exact .slD ⟨hs, h⟩ hb h1 .nil
theorem Lt.map {b : Nat} (h : Nat.blt b k = true) : Lt k [.map (some b)] := fun β S vs' hv => by
  have h := Nat.lt_of_lt_of_le (Nat.lt_succ_self b) (Nat.le_of_ble_eq_true h)
  cases vs' with
  | nil => have := hv.length; simp at this
  | cons v' vs' =>
    have e : vs' = [] := by have := hv.length; simp at this; exact this
    subst e
    cases hv with
    | map hs hb _ => exact .map ⟨hs, h⟩ hb .nil
    | mapD hs hb _ => exact .mapD ⟨hs, h⟩ hb .nil
theorem Lt.func {fn : Fn} {f c : Array Value} (h1 : Lt k f.toList) (h2 : Lt k c.toList) (hf : ∀ l, fn ≠ .yield l) : Lt k [.func fn f c] := fun β S vs' hv => by
  cases vs' with
  | nil => have := hv.length; simp at this
  | cons v' vs' =>
    have e : vs' = [] := by have := hv.length; simp at this; exact this
    subst e
    cases hv with
    | func hy g1 g2 _ => exact .func hy (h1 β S _ g1) (h2 β S _ g2) .nil
    | yield _ _ _ => exact absurd rfl (hf _)
    | yieldD _ _ _ => exact absurd rfl (hf _)
theorem Lt.agg {c : Array Value} (h : Lt k c.toList) : Lt k [.agg c] := fun β S vs' hv => by
  cases vs' with
  | nil => have := hv.length; simp at this
  | cons v' vs' =>
    have e : vs' = [] := by have := hv.length; simp at this; exact this
    subst e
    cases hv with
    | agg g _ => exact .agg (h β S _ g) .nil

/-- An object that only points below 'k'. -/
def ObjLt (k : Nat) : AObj → Prop
  | .cells c _ => Lt k c
  | .map es _ => Lt k (es.map (·.val))
  | .iter _ _ => True
  | .loop _ _ a _ _ _ _ => ∀ t v, aget a t = some v → Lt k [v]
  | .dfr => True
  | .over _ => True

theorem Sim.reset (h : Sim P w0 N β S A w) (hr : A'.ro = A.ro) (hg : A'.gl = A.gl) (hrk : A'.ro ≤ A'.next)
    (hsub : ∀ j o, A'.objs j = some o → A.objs j = some o ∧ j < A'.next ∧ ObjLt A'.next o) (hglob : ∀ g, g < A'.gl → (A'.objs g).isSome = true) :
    Sim P w0 N (fun j => if (A'.objs j).isSome then β j else none) (fun j => S j ∧ j < A'.next) A' w := by
  have hb' : ∀ j L, (if (A'.objs j).isSome then β j else none) = some L → β j = some L := fun j L hj => by
    split at hj
    · exact hj
    · cases hj
  refine ⟨h.below, h.Nle, fun i o ho => ?_, fun i hi => by simp [hi], fun i o ho => (hsub i o ho).2.1, fun i j L1 L2 hi hij h1 h2 => h.inj i j L1 L2 (hr ▸ hi) hij (hb' i L1 h1) (hb' j L2 h2),
    fun i L hi hb => h.hi i L (hr ▸ hi) (hb' i L hb), fun i hi => hi.2, hrk, fun g hgl => ?_, by rw [hg, hr]; exact h.gle, fun i L hi hb => h.roz i L (hr ▸ hi) (hb' i L hb)⟩
  · obtain ⟨h1, h2, h3⟩ := hsub i o ho
    obtain ⟨L, e, r⟩ := h.live i o h1
    refine ⟨L, by simp [ho, e], ?_⟩
    have mono : ∀ {vs vs' : List Value}, Lt A'.next vs → VRs β S vs vs' → VRs (fun j => if (A'.objs j).isSome then β j else none) (fun j => S j ∧ j < A'.next) vs vs' := fun hl hv =>
      (hl β S _ hv).mono (fun j _ => by by_cases q : (A'.objs j).isSome <;> simp [q]) (fun _ hj => hj)
    rw [hr]
    cases o with
    | cells c e => obtain ⟨cs, e', fz, g1, g2, g3, g4, g5⟩ := r; exact ⟨cs, e', fz, g1, g2, g3, mono h3 g4, g5⟩
    | map es k => obtain ⟨es', g1, g2, g3, g4, g5⟩ := r; exact ⟨es', g1, g2, g3, g4, mono h3 g5⟩
    | iter s p => exact r
    | loop ready n a fn ps assign body => obtain ⟨tmps, D, h1, h2, h4⟩ := r; exact ⟨tmps, D, h1, h2, fun t v hv => let ⟨v', e1, q⟩ := h4 t v hv; ⟨v', e1, mono (h3 t v hv) q⟩⟩
    | dfr => exact r
    | over c => exact r
  · obtain ⟨hs, L, e1, e2⟩ := h.glob g (hg ▸ hgl)
    have := hglob g hgl
    have hlt := (hsub g _ (Option.eq_some_of_isSome this)).2.1
    exact ⟨⟨hs, hlt⟩, L, by simp [this, e1], e2⟩

/-- Parts of the memory. -/
def subm (L' L : LM) : Prop := ∀ j o, alook L' j = some o → alook L j = some o
theorem subm_nil : subm [] L := fun _ _ h => by cases h
theorem subm_cons {d : Nat} {v : AObj} {r : LM} (h : alook L d = some v) (hr : subm r L) : subm ((d, v) :: r) L := fun t u hu => by
  simp only [alook] at hu
  split at hu
  · rename_i e; subst e; cases hu; exact h
  · exact hr t u hu
/-- All objects are below 'k', and point below it. -/
inductive Under (k : Nat) : LM → Prop
  | nil : Under k []
  | cons {j : Nat} {o : AObj} {r : LM} : Nat.blt j k = true → ObjLt k o → Under k r → Under k ((j, o) :: r)
theorem Under.look {L : LM} (h : Under k L) : ∀ j o, alook L j = some o → j < k ∧ ObjLt k o := by
  induction h with
  | nil => intro j o ho; cases ho
  | @cons i x r hb hx _ ih =>
    intro j o ho
    simp only [alook] at ho
    split at ho
    · rename_i e; subst e; cases ho; exact ⟨Nat.lt_of_lt_of_le (Nat.lt_succ_self _) (Nat.le_of_ble_eq_true hb), hx⟩
    · exact ih j o ho
inductive EnvLt (k : Nat) : AEnv → Prop
  | nil : EnvLt k []
  | cons {t : Nat} {v : Value} {r : AEnv} : Lt k [v] → EnvLt k r → EnvLt k ((t, v) :: r)
theorem EnvLt.get {a : AEnv} (h : EnvLt k a) : ∀ {t : Nat} {v : Value}, aget a t = some v → Lt k [v] := by
  induction h with
  | nil => intro t v hv; cases hv
  | cons h1 _ ih =>
    intro t v hv
    simp only [aget] at hv
    split at hv
    · cases hv; exact h1
    · exact ih hv

/-- Names anew: what is left of the environment and of the memory has names below 'k'. -/
theorem GT.reset {c : Code} (k : Nat) (ha : asub a1 a) (hL : subm L' L) (hk : k ≤ nx) (hm : Nat.ble m k = true) (hro : Nat.ble ro k = true) (hu : Under k L') (he : EnvLt k a1) (hg : ∀ g, g < gl → (alook L' g).isSome = true)
    (h : GT P n m c a1 L' k ro gl Q) : GT P n m c a L nx ro gl Q := by
  refine ⟨fun r w0 N w β S ae hmn hs her => ?_⟩
  have hm := Nat.le_of_ble_eq_true hm
  have hro := Nat.le_of_ble_eq_true hro
  have hs' := hs.reset (A' := AW.of L' k ro gl) rfl rfl hro (fun j o ho => ⟨hL j o ho, hu.look j o ho⟩) hg
  refine wpIn_mono (h.run r w0 N w _ _ ae hm hs' ?_) (fun e ae1 w1 g => ?_)
  rotate_left
  · obtain ⟨β1, S1, a2, A2, hx, hy, hz⟩ := g
    refine ⟨β1, S1, a2, A2, ⟨hx.sim, ?_, hx.next, hx.ro, hx.gl⟩, hy, hz⟩
    have near1 : Near m β S (fun j => if ((AW.of L' k ro gl).objs j).isSome then β j else none) (fun j => S j ∧ j < (AW.of L' k ro gl).next) :=
      ⟨fun i _ _ => by by_cases q : ((AW.of L' k ro gl).objs i).isSome <;> simp [q], fun i hi hsi => ⟨hsi, by show i < k; omega⟩, fun i _ hsi => hsi.1⟩
    exact near1.trans hx.near (Nat.le_refl _)
  · refine ⟨her.size, her.defers, fun t v hv => ?_⟩
    obtain ⟨v', e1, r⟩ := her.get t v (ha t v hv)
    refine ⟨v', e1, ?_⟩
    exact (he.get hv β S _ r).mono (fun j _ => by by_cases q : ((AW.of L' k ro gl).objs j).isSome <;> simp [q]) (fun _ hj => hj)

/-- A call that gives a slice of its own. -/
theorem AC.gives {f : FuncId} {args args2 : List Value} {k len cap : Nat} {cs : List Value} {e : TypeId} (ρ : Nat → Option (Nat × Nat))
    (h : AC P f args (AW.of L k k 0) (fun v A1 => ∃ nm, v = .slice (some ⟨nm, 0, none⟩) len cap ∧ A1.objs nm = some (.cells cs e) ∧ k ≤ nm)) (hcs : ∃ j, noAddrs j cs = true)
    (hk : ∀ j x, ρ j = some x → j < k) (hd : ∀ j, alook L j = none → ρ j = none) (hL : ∀ j o, alook L j = some o → j < k ∧ ∃ x, ρ j = some x ∧ objIn A x.1 x.2 o) (ha : AR ρ args args2) :
    AC P f args2 A (isR (.slice (some ⟨A.next, 0, none⟩) len cap) (A.push (.cells cs e))) := by
  intro w0 N w β S args' hs hv
  refine Calls.mono (h w w.heap.size w _ _ args' (hs.small hk hd hL) (ha.vrs hk hv)) fun en w1 he => ?_
  cases en with
  | panicked => exact he
  | outgrown => exact he
  | returned v' =>
    obtain ⟨β1, S1, v, A1, h1, h2, nm, rfl, hob, hnm⟩ := he
    obtain ⟨L1, hb1, cs', e', fz, g1, g2, g3, g4, g5⟩ := h1.sim.live nm _ hob
    have hro : A1.ro ≤ nm := by rw [h1.ro]; exact hnm
    have hblk := h1.sim.hi nm L1 hro hb1
    obtain ⟨j, hj⟩ := hcs
    have e4 := VRs.eq_of_noAddrs g4 j hj
    have hagain := hs.again h1.sim.below
    have hcl := hagain.claim (w' := w1) (.cells cs e) L1 (fun i L' hi => by have := hs.blk_lt hi; omega) (by have := hs.size_le; omega) hagain.below (fun _ _ _ => rfl)
      ⟨cs', e', fz, g1, g2, g3, by rw [e4]; exact VRs.refl_of_noAddrs j _ hj, fun _ => g5 (by simp [hro])⟩
    refine ⟨_, _, _, _, ⟨hcl.1, hcl.2.near, by show A.next ≤ A.next + 1; omega, rfl, rfl⟩, ?_, rfl, rfl⟩
    cases h2 with
    | sl sa sb d f =>
      rw [hb1] at sb; cases sb
      exact .sl (.inr rfl) (by simp) d f .nil
    | slD sa sb d => rw [hb1] at sb; cases sb
theorem GO.push {o : Oper} {v : Value} {x : AObj} (h : GO P n o a L nx ro gl (isR v ((AW.of L nx ro gl).push x))) : GO P n o a L nx ro gl (isR v (AW.of ((nx, x) :: L) (nx + 1) ro gl)) := by
  rw [AW.of_push] at h; exact h
/-- One object, of which a call makes a slice of its own. -/
theorem AC.gives1 {f : FuncId} {args args2 : List Value} {x : AObj} {b g len cap : Nat} {cs : List Value} {e : TypeId}
    (h : AC P f args (AW.of [(0, x)] 1 1 0) (fun v A1 => ∃ nm, v = .slice (some ⟨nm, 0, none⟩) len cap ∧ A1.objs nm = some (.cells cs e) ∧ 1 ≤ nm)) (hcs : ∃ j, noAddrs j cs = true) (ho : objIn A b g x)
    (ha : AR (fun j => if j = 0 then some (b, g) else none) args args2) : AC P f args2 A (isR (.slice (some ⟨A.next, 0, none⟩) len cap) (A.push (.cells cs e))) :=
  AC.gives (L := [(0, x)]) (k := 1) (fun j => if j = 0 then some (b, g) else none) h hcs (fun j x hx => by split at hx <;> simp_all) (fun j hj => by
      by_cases q : j = 0
      · subst q; simp [alook] at hj
      · simp [q])
    (fun j o' ho' => by
      simp only [alook] at ho'
      split at ho'
      · rename_i e; subst e; cases ho'; exact ⟨by omega, (b, g), by simp, ho⟩
      · cases ho') ha
theorem GO.eq {o : Oper} {t t2 : TypeId} {X Y : Operand} {xs ys : Array Value} {b : Bool} {d : Nat} (ho : o.op = .binOp .eql t X Y t2) (hx : aev gl a X = some (.agg xs)) (hy : aev gl a Y = some (.agg ys)) (nx : noAddrs 64 [.agg xs] = true) (ny : noAddrs 64 [.agg ys] = true)
    (hg : P.eqGuardType P.depth t = false) (hb : aeq P d t (.agg xs) (.agg ys) = some b) (hd : Nat.ble d 10000 = true) : GO P n o a L nx' ro gl (isR (.bool b) (AW.of L nx' ro gl)) :=
  ⟨by have := AOp.eqAgg (P := P) (n := n) (A := AW.of L nx' ro gl) ho (.inl rfl) hx hy nx ny hg hb (Nat.le_of_ble_eq_true hd); simpa using this⟩
theorem GO.ne {o : Oper} {t t2 : TypeId} {X Y : Operand} {xs ys : Array Value} {b : Bool} {d : Nat} (ho : o.op = .binOp .neq t X Y t2) (hx : aev gl a X = some (.agg xs)) (hy : aev gl a Y = some (.agg ys)) (nx : noAddrs 64 [.agg xs] = true) (ny : noAddrs 64 [.agg ys] = true)
    (hg : P.eqGuardType P.depth t = false) (hb : aeq P d t (.agg xs) (.agg ys) = some b) (hd : Nat.ble d 10000 = true) : GO P n o a L nx' ro gl (isR (.bool (!b)) (AW.of L nx' ro gl)) :=
  ⟨by have := AOp.eqAgg (P := P) (n := n) (A := AW.of L nx' ro gl) ho (.inr rfl) hx hy nx ny hg hb (Nat.le_of_ble_eq_true hd); simpa using this⟩
end Go.M
namespace Go.M
open Go.RowKit
variable {P : Program} {n m : Nat} {A A' A1 : AW} {a : AEnv} {Q : AQ} {L L' : LM} {nx ro gl : Nat} {ops : Array Oper} {rest : List Oper} {o : Oper}

def zclear (P : Program) (e : TypeId) (l : Nat) : Option (List Value) := (zcells P e).map fun z => (List.range (l * z.length)).map fun i => z.getD (i % z.length) default
theorem zclear_run {e : TypeId} {l : Nat} {zs : List Value} (h : zclear P e l = some zs) : ∃ zv : Value, (∀ w, (zeroValue e).run P w = .ok zv w) ∧ (Builtin.zeroCells zv.cells l).toList = zs ∧ ∀ β S, VRs β S zs zs := by
  unfold zclear at h
  cases h1 : zcells P e with
  | none => simp [h1] at h
  | some z =>
    simp only [h1, Option.map_some, Option.some.injEq] at h
    obtain ⟨zv, hz0, hz, hr⟩ := zcells_run h1
    have hd : ∀ β S, VR β S (default : Value) default := fun β S => VRs.refl_of_noAddrs 8 _ rfl
    refine ⟨zv, hz, ?_, ?_⟩
    · subst h
      unfold Builtin.zeroCells
      simp only [Array.toList_map, Array.toList_range]
      have hl : z.length = zv.cells.size := by rw [← hz0]; simp
      rw [hl]
      apply List.map_congr_left
      intro i _
      simp only [← hz0]
      rw [getElem!_def, List.getD_eq_getElem?_getD, Array.getElem?_toList]
      cases zv.cells[i % zv.cells.size]? <;> rfl
    · intro β S
      subst h
      refine VRs.of_get (by simp) fun i v v' h1 h2 => ?_
      simp only [List.getElem?_map, Option.map_eq_some_iff] at h1 h2
      obtain ⟨j, hj, rfl⟩ := h1
      obtain ⟨j', hj', rfl⟩ := h2
      rw [hj] at hj'; cases hj'
      exact (hr β S).getD (hd β S) _

theorem AOp.clear {c : Call} {t e : TypeId} {x : Operand} {b f l k : Nat} {zs : List Value} (ho : o.op = .call c) (hc : c.callee = .builtin .clear) (ha : c.args.toList = [x]) (ht : c.argTypes.toList = [t]) (hx : aev A.gl a x = some (.slice (some ⟨b, f, none⟩) (l + 1) k))
    (hu : P.underlying t = some (.slice e)) (hz : zclear P e (l + 1) = some zs) (hone : zs.all (·.oneCell') = true) (hp : A.put b f zs = some A1) : AOp P n o a A (isR undef A1) := by
  intro r w0 N w β S ae hs he K Z hk
  have hv := aev_sound hs he hx
  obtain ⟨zv, z1, z2, z3⟩ := zclear_run hz
  obtain ⟨L, cur, ty, hb, hg, hl, hsim, _, e1, e2, e3⟩ := hs.put hp (z3 β S)
  have hst := run_storeCells_at P L.blk (L.off + f) ty zs 0 cur w hg (by simpa using hl) (VRs.one (z3 β S) hone)
  simp only [Nat.add_zero] at hst
  have e4 : c.args = #[x] := by rw [← Array.toArray_toList (xs := c.args), ha]
  have e5 : c.argTypes = #[t] := by rw [← Array.toArray_toList (xs := c.argTypes), ht]
  generalize hw : ae.eval x = v' at hv
  have hr : ∃ w1, (execOp ae.eval o).run P w = .ok (.value (.tuple #[])) w1 ∧ Sim P w0 N β S A1 w1 := by
    cases hv with
    | @sl _ _ _ _ _ c' _ _ _ hb2 _ _ _ =>
      rw [hb] at hb2; cases hb2
      have : ∀ w1, (storeCells ⟨L.blk, L.off + f, none⟩ zs).run P w = .ok () w1 → (Builtin.clear_ #[t] o.type #[.slice (some ⟨L.blk, L.off + f, none⟩) (l + 1) c']).run P w = .ok (.tuple #[]) w1 := by
        intro w1 h1
        simp only [Builtin.clear_]
        simp [run_underlying hu, z1, z2, h1]
      refine ⟨_, ?_, hsim⟩
      rw [run_builtin_value ho hc]
      simp only [builtin, e4, e5, List.map_toArray, List.map_cons, List.map_nil, hw]
      rw [Sem.run_bind, this _ hst]
      rfl
    | slD _ hb2 _ _ => rw [hb] at hb2; cases hb2
  obtain ⟨w1, h1, h2⟩ := hr
  refine Oper.wpIn_value h1 ?_
  exact hk undef undef w1 β S A1 ⟨rfl, rfl⟩ ⟨h2, .refl _ _ _, by omega, e2, e3⟩ (.tuple .nil .nil)
theorem GL.clear {c : Call} {t e : TypeId} {x : Operand} {b f l k : Nat} {zs : List Value} (hg : o.guard = none) (hd : o.dst = none) (ho : o.op = .call c) (hc : c.callee = .builtin .clear) (ha : c.args.toList = [x]) (ht : c.argTypes.toList = [t]) (hx : aev gl a x = some (.slice (some ⟨b, f, none⟩) (l + 1) k))
    (hu : P.underlying t = some (.slice e)) (hz : zclear P e (l + 1) = some zs) (hone : zs.all (·.oneCell') = true) (hp : ((lput L ro b f zs).bind fun L => fL L some) = some L') (k : GL P n m ops rest a L' nx ro gl Q) : GL P n m ops (o :: rest) a L nx ro gl Q := by
  obtain ⟨L1, h1, h2⟩ := bind_some hp
  rw [fL_eq] at h2
  cases h2
  exact ⟨AL.op1 hg (by rw [hd]; rfl) (AOp.clear ho hc ha ht hx hu hz hone (lput_eq h1)) (by rw [hd]; exact k.run)⟩
end Go.M
namespace Go.M
open Go.RowKit
variable {P : Program} {n m : Nat} {a : AEnv} {Q : AQ} {ops : Array Oper} {rest : List Oper} {o : Oper} {L L' : LM} {nx nx' ro gl : Nat} {t t2 : TypeId} {X Y : Operand} {i : Int} {k : IntKind}
theorem GL.rem3 {d : Tmp} (hg : o.guard = none) (hd : o.dst = some d) (hn : Nat.ble (d + 1) n = true) (ho : o.op = .binOp .rem t X Y t2) (hx : aev gl a X = some (.int k i)) (hy : aev gl a Y = some (.int k 3)) (h : 0 ≤ i)
    (h0 : i % 3 = 0 → GL P n m ops rest ((d, .int k 0) :: a) L nx ro gl Q) (h1 : i % 3 = 1 → GL P n m ops rest ((d, .int k 1) :: a) L nx ro gl Q) (h2 : i % 3 = 2 → GL P n m ops rest ((d, .int k 2) :: a) L nx ro gl Q) : GL P n m ops (o :: rest) a L nx ro gl Q := by
  have e : i % 3 = 0 ∨ i % 3 = 1 ∨ i % 3 = 2 := by omega
  have g := GO.rem (P := P) (n := n) (o := o) (a := a) (L := L) (nx := nx) (ro := ro) (gl := gl) ho hx hy (by decide) h
  rcases e with e | e | e <;> rw [e] at g
  · exact GL.v hg hd hn g (h0 e)
  · exact GL.v hg hd hn g (h1 e)
  · exact GL.v hg hd hn g (h2 e)
theorem GO.cat {x y z : ByteArray} (ho : o.op = .binOp .add t X Y t2) (hx : aev gl a X = some (.string x)) (hy : aev gl a Y = some (.string y)) (hz : x ++ y = z) (hs : Nat.ble (x.size + y.size) 9223372036854775807 = true) : GO P n o a L nx ro gl (isR (.string z) (AW.of L nx ro gl)) :=
  ⟨by
    subst hz
    exact AOp.bstep ho hx hy (by show sbin .add x y = _; simp only [sbin]; rw [if_pos (Nat.le_of_ble_eq_true hs)])⟩
theorem GO.mkfn {fn : Fn} {first captured : Array Operand} {vs us : List Value} (ho : o.op = .makeFunc fn first captured) (hf : ∀ l, fn ≠ .yield l) (h1 : aevs gl a first.toList = some vs) (h2 : aevs gl a captured.toList = some us) : GO P n o a L nx ro gl (isR (.func fn vs.toArray us.toArray) (AW.of L nx ro gl)) :=
  ⟨AOp.makeFunc ho hf h1 h2⟩
end Go.M
namespace Go.M
open Ieee
/-- The word stands for the whole number 'n'. -/
def FRep (x : Nat) (n : Int) : Prop := ∃ (s : Bool) (m : Nat) (e : Int) (k : Nat), double.read x = .number s m e ∧ e = -(k : Int) ∧ m = n.natAbs * 2 ^ k ∧ (n ≠ 0 → s = decide (n < 0))
theorem log2_mul_pow {a k : Nat} (h : 0 < a) : (a * 2 ^ k).log2 = a.log2 + k := by
  have h0 : a * 2 ^ k ≠ 0 := Nat.ne_of_gt (Nat.mul_pos h (Nat.two_pow_pos k))
  have h1 := (Nat.log2_eq_iff (n := a) (k := a.log2) (by omega)).1 rfl
  rw [Nat.log2_eq_iff h0]
  refine ⟨?_, ?_⟩
  · rw [Nat.pow_add]; exact Nat.mul_le_mul_right _ h1.1
  · rw [show a.log2 + k + 1 = a.log2 + 1 + k by omega, Nat.pow_add]; exact Nat.mul_lt_mul_of_pos_right h1.2 (Nat.two_pow_pos k)
theorem cut_exact {way : Toward} {s : Bool} {b d : Nat} (hw : way = .even ∨ way = .zero) (hb : 0 < b) : way.cut s (b * 2 ^ d) d = b := by
  have hl := log2_mul_pow (k := d) hb
  have hg : 1 <<< min d ((b * 2 ^ d).log2 + 2) = 2 ^ d := by rw [hl, Nat.min_eq_left (by omega), Nat.one_shiftLeft]
  have hp := Nat.two_pow_pos d
  unfold Toward.cut
  simp only [hg, Nat.mul_mod_left, Nat.mul_div_cancel _ hp]
  rcases hw with rfl | rfl
  · have : (2 ^ d == 2 * 0) = false := by simp
    simp [this]
  · simp
theorem read_word {s : Bool} {r : Nat} (hr : r < 2 ^ 63) : double.read (double.word s r) = (if r < 2 ^ 52 then .number s r (-1074) else if r < 2047 * 2 ^ 52 then .number s (2 ^ 52 + r % 2 ^ 52) (-1074 + (r / 2 ^ 52 - 1 : Nat)) else if r = 2047 * 2 ^ 52 then .infinity s else .nan s (r - 2047 * 2 ^ 52)) := by
  have hw : double.word s r = if s then 2 ^ 63 + r else r := rfl
  have e1 : (double.word s r / 2 ^ 63 % 2 == 1) = s := by
    rw [hw]; cases s
    · simp only [Bool.false_eq_true, if_false]; rw [Nat.div_eq_of_lt hr]; rfl
    · simp only [if_true]; rw [Nat.add_div_left _ (by decide), Nat.div_eq_of_lt hr]; rfl
  have e2 : double.word s r % 2 ^ 63 = r := by
    rw [hw]; cases s
    · simp only [Bool.false_eq_true, if_false]; exact Nat.mod_eq_of_lt hr
    · simp only [if_true]; rw [Nat.add_mod_left]; exact Nat.mod_eq_of_lt hr
  show (let neg := double.word s r / 2 ^ 63 % 2 == 1; let rung := double.word s r % 2 ^ 63; if rung < 2 ^ 52 then Datum.number neg rung (-1074) else if rung < 2047 * 2 ^ 52 then Datum.number neg (2 ^ 52 + rung % 2 ^ 52) (-1074 + (rung / 2 ^ 52 - 1 : Nat)) else if rung = 2047 * 2 ^ 52 then Datum.infinity neg else Datum.nan neg (rung - 2047 * 2 ^ 52)) = _
  simp only [e1, e2]
theorem zero_pow (k : Nat) : 0 = (0 : Int).natAbs * 2 ^ k := by rw [Int.natAbs_zero, Nat.zero_mul]
theorem FRep.write {s : Bool} {M k : Nat} {n : Int} (hM : M = n.natAbs * 2 ^ k) (hn : n.natAbs < 2 ^ 53) (hs : n ≠ 0 → s = decide (n < 0)) : FRep (double.write (.number s M (-(k : Int)))) n := by
  by_cases h0 : n = 0
  · subst h0
    have : M = 0 := by simpa using hM
    subst this
    show FRep (double.nearest s 0 _) 0
    unfold Format.nearest
    rw [if_pos rfl]
    refine ⟨s, 0, -1074, 1074, ?_, rfl, zero_pow 1074, fun h => absurd rfl h⟩
    rw [read_word (by decide)]; rfl
  · generalize ha : n.natAbs = a at hM hn
    have ha0 : 0 < a := by omega
    have hM0 : M ≠ 0 := by rw [hM]; exact Nat.ne_of_gt (Nat.mul_pos ha0 (Nat.two_pow_pos k))
    have hL := (Nat.log2_eq_iff (n := a) (k := a.log2) (by omega)).1 rfl
    have hL52 : a.log2 ≤ 52 := by
      have : a.log2 < 53 := (Nat.log2_lt (by omega)).2 hn
      omega
    obtain ⟨u, hu⟩ : ∃ u, u = 52 - a.log2 := ⟨_, rfl⟩
    have hlog : M.log2 = a.log2 + k := by rw [hM]; exact log2_mul_pow ha0
    have hlast : max (-(k : Int) + M.log2 - double.fractionBits) double.leastPlace = -(u : Int) := by
      show max (-(k : Int) + (M.log2 : Nat) - (52 : Nat)) (-1074) = _
      rw [hlog]; omega
    have hkept : Toward.even.cut s (M <<< (-(k : Int) - -(u : Int)).toNat) (-(u : Int) - -(k : Int)).toNat = a * 2 ^ u := by
      rcases Nat.le_total u k with q | q
      · have e1 : (-(k : Int) - -(u : Int)).toNat = 0 := by omega
        have e2 : (-(u : Int) - -(k : Int)).toNat = k - u := by omega
        rw [e1, e2, Nat.shiftLeft_zero, hM]
        have : a * 2 ^ k = (a * 2 ^ u) * 2 ^ (k - u) := by rw [Nat.mul_assoc, ← Nat.pow_add, show u + (k - u) = k by omega]
        rw [this]
        exact cut_exact (.inl rfl) (Nat.mul_pos ha0 (Nat.two_pow_pos u))
      · have e1 : (-(k : Int) - -(u : Int)).toNat = u - k := by omega
        have e2 : (-(u : Int) - -(k : Int)).toNat = 0 := by omega
        rw [e1, e2, hM, Nat.shiftLeft_eq]
        have : a * 2 ^ k * 2 ^ (u - k) = (a * 2 ^ u) * 2 ^ 0 := by rw [Nat.mul_assoc, ← Nat.pow_add, show k + (u - k) = u by omega, Nat.pow_zero, Nat.mul_one]
        rw [this]
        exact cut_exact (.inl rfl) (Nat.mul_pos ha0 (Nat.two_pow_pos u))
    have hlo : 2 ^ 52 ≤ a * 2 ^ u := by
      have : 2 ^ a.log2 * 2 ^ u ≤ a * 2 ^ u := Nat.mul_le_mul_right _ hL.1
      rwa [← Nat.pow_add, show a.log2 + u = 52 by omega] at this
    have hhi : a * 2 ^ u < 2 ^ 53 := by
      have : a * 2 ^ u < 2 ^ (a.log2 + 1) * 2 ^ u := Nat.mul_lt_mul_of_pos_right hL.2 (Nat.two_pow_pos u)
      rwa [← Nat.pow_add, show a.log2 + 1 + u = 53 by omega] at this
    have hr : double.write (.number s M (-(k : Int))) = double.word s ((1074 - u) * 2 ^ 52 + a * 2 ^ u) := by
      show double.nearest s M _ = _
      unfold Format.nearest
      rw [if_neg hM0]
      simp only [hlast, hkept]
      have : (-(u : Int) - double.leastPlace).toNat = 1074 - u := by show (-(u : Int) - -1074).toNat = _; omega
      rw [this]
      show double.word s (min ((1074 - u) * 2 ^ 52 + a * 2 ^ u) (2047 * 2 ^ 52)) = _
      rw [Nat.min_eq_left (by omega)]
    refine ⟨s, a * 2 ^ u, -(u : Int), u, ?_, rfl, by rw [ha], hs⟩
    rw [hr, read_word (by omega), if_neg (by omega), if_pos (by omega)]
    have e1 : ((1074 - u) * 2 ^ 52 + a * 2 ^ u) % 2 ^ 52 = a * 2 ^ u - 2 ^ 52 := by omega
    have e2 : ((1074 - u) * 2 ^ 52 + a * 2 ^ u) / 2 ^ 52 - 1 = 1074 - u := by omega
    have e3 : 2 ^ 52 + (a * 2 ^ u - 2 ^ 52) = a * 2 ^ u := by omega
    have e4 : (-1074 : Int) + ((1074 - u : Nat) : Int) = -(u : Int) := by omega
    rw [e1, e2, e3, e4]
theorem FRep.nearest {n : Int} (hn : n.natAbs < 2 ^ 53) : FRep (FloatKind.f64.nearest n) n :=
  FRep.write (k := 0) (by simp) hn (fun _ => rfl)
theorem FRep.mul {x y : Nat} {a b : Int} (hx : FRep x a) (hy : FRep y b) (h : (a * b).natAbs < 2 ^ 53) : ∃ r, floatBits .mul .f64 x y = some r ∧ FRep r (a * b) := by
  obtain ⟨s, m, e, k, h1, rfl, rfl, h4⟩ := hx
  obtain ⟨s', m', e', k', g1, rfl, rfl, g4⟩ := hy
  refine ⟨_, ?_, FRep.write (s := s ^^ s') (M := a.natAbs * 2 ^ k * (b.natAbs * 2 ^ k')) (k := k + k') ?_ h ?_⟩
  · show ((double.read x).product (double.read y)).map double.write = _
    rw [h1, g1]
    simp only [Datum.product, Option.map_some]
    rw [show -(k : Int) + -(k' : Int) = -((k + k' : Nat) : Int) by omega]
  · rw [Int.natAbs_mul, Nat.pow_add]
    exact Nat.mul_mul_mul_comm _ _ _ _
  · intro hab
    have ha : a ≠ 0 := fun e => hab (by rw [e, Int.zero_mul])
    have hb : b ≠ 0 := fun e => hab (by rw [e, Int.mul_zero])
    rw [h4 ha, g4 hb]
    rcases Int.lt_or_gt_of_ne ha with p | p <;> rcases Int.lt_or_gt_of_ne hb with q | q
    · have := Int.mul_pos_of_neg_of_neg p q; simp [p, q]; omega
    · have := Int.mul_neg_of_neg_of_pos p q; simp [p, this]; omega
    · have := Int.mul_neg_of_pos_of_neg p q; simp [q, this]; omega
    · have := Int.mul_pos p q; have h1 : ¬ a < 0 := by omega
      have h2 : ¬ b < 0 := by omega
      have h3 : ¬ a * b < 0 := by omega
      simp [h1, h2, h3]
theorem signed_rep {s : Bool} {a : Int} {k j : Nat} (hs : a ≠ 0 → s = decide (a < 0)) : signed s (a.natAbs * 2 ^ k) j = a * 2 ^ (k + j) := by
  unfold signed
  rw [Nat.shiftLeft_eq, Nat.mul_assoc, ← Nat.pow_add]
  by_cases h0 : a = 0
  · subst h0; simp
  · rw [hs h0]
    rcases Int.lt_or_gt_of_ne h0 with p | p
    · have : ((a.natAbs * 2 ^ (k + j) : Nat) : Int) = -a * 2 ^ (k + j) := by
        rw [Int.natCast_mul, Int.natCast_pow]; congr 1; omega
      simp only [p, decide_true, if_true, this]
      rw [Int.neg_mul, Int.neg_neg]
    · have : ((a.natAbs * 2 ^ (k + j) : Nat) : Int) = a * 2 ^ (k + j) := by
        rw [Int.natCast_mul, Int.natCast_pow]; congr 1; omega
      have h1 : ¬ a < 0 := by omega
      simp only [h1, decide_false, Bool.false_eq_true, if_false, this]
theorem sum_rep {s s' : Bool} {a b : Int} {k k' : Nat} (hs : a ≠ 0 → s = decide (a < 0)) (hs' : b ≠ 0 → s' = decide (b < 0)) (h : (a + b).natAbs < 2 ^ 53) :
    ∃ r, ((Datum.number s (a.natAbs * 2 ^ k) (-(k : Int))).sum (.number s' (b.natAbs * 2 ^ k') (-(k' : Int)))).map double.write = some r ∧ FRep r (a + b) := by
  have hm : min (-(k : Int)) (-(k' : Int)) = -((max k k' : Nat) : Int) := by omega
  have e1 : (-(k : Int) - -((max k k' : Nat) : Int)).toNat = max k k' - k := by omega
  have e2 : (-(k' : Int) - -((max k k' : Nat) : Int)).toNat = max k k' - k' := by omega
  have t : signed s (a.natAbs * 2 ^ k) (max k k' - k) + signed s' (b.natAbs * 2 ^ k') (max k k' - k') = (a + b) * 2 ^ max k k' := by
    rw [signed_rep hs, signed_rep hs', show k + (max k k' - k) = max k k' by omega, show k' + (max k k' - k') = max k k' by omega, Int.add_mul]
  refine ⟨_, ?_, FRep.write (s := if (a + b) * 2 ^ max k k' = 0 then s && s' else decide ((a + b) * 2 ^ max k k' < 0)) (M := ((a + b) * 2 ^ max k k').natAbs) (k := max k k') ?_ h ?_⟩
  · simp only [Datum.sum, hm, e1, e2, t, Option.map_some]
  · rw [Int.natAbs_mul, Int.natAbs_pow]; rfl
  · intro hne
    have hp : (0 : Int) < 2 ^ max k k' := Int.pow_pos (by decide)
    have : (a + b) * 2 ^ max k k' ≠ 0 := Int.mul_ne_zero hne (by omega)
    rw [if_neg this]
    rcases Int.lt_or_gt_of_ne hne with p | p
    · have := Int.mul_neg_of_neg_of_pos p hp; simp [this, p]
    · have h2 := Int.mul_pos p hp
      have h1 : ¬ (a + b) < 0 := by omega
      have h3 : ¬ (a + b) * 2 ^ max k k' < 0 := by omega
      simp [h1, h3]
theorem FRep.add {x y : Nat} {a b : Int} (hx : FRep x a) (hy : FRep y b) (h : (a + b).natAbs < 2 ^ 53) : ∃ r, floatBits .add .f64 x y = some r ∧ FRep r (a + b) := by
  obtain ⟨s, m, e, k, h1, rfl, rfl, h4⟩ := hx
  obtain ⟨s', m', e', k', g1, rfl, rfl, g4⟩ := hy
  obtain ⟨r, hr, hn⟩ := sum_rep h4 g4 h
  refine ⟨r, ?_, hn⟩
  show ((double.read x).sum (double.read y)).map double.write = _
  rw [h1, g1]; exact hr
theorem FRep.sub {x y : Nat} {a b : Int} (hx : FRep x a) (hy : FRep y b) (h : (a - b).natAbs < 2 ^ 53) : ∃ r, floatBits .sub .f64 x y = some r ∧ FRep r (a - b) := by
  obtain ⟨s, m, e, k, h1, rfl, rfl, h4⟩ := hx
  obtain ⟨s', m', e', k', g1, rfl, rfl, g4⟩ := hy
  have hb : (-b).natAbs = b.natAbs := Int.natAbs_neg b
  obtain ⟨r, hr, hn⟩ := sum_rep (s := s) (s' := !s') (a := a) (b := -b) (k := k) (k' := k') h4 (fun hne => by
    have hb0 : b ≠ 0 := by omega
    rw [g4 hb0]
    by_cases q : b < 0
    · have : ¬ -b < 0 := by omega
      simp [q]; omega
    · have : -b < 0 := by omega
      simp [q]; omega) (by rw [← Int.sub_eq_add_neg]; exact h)
  refine ⟨r, ?_, by rw [Int.sub_eq_add_neg]; exact hn⟩
  show ((double.read x).sum (double.read y).opposite).map double.write = _
  rw [h1, g1]
  rw [hb] at hr
  exact hr
theorem FRep.toInt {x : Nat} {a : Int} (hx : FRep x a) : (FloatKind.f64.decode x).toInt .zero = some a := by
  obtain ⟨s, m, e, k, h1, rfl, rfl, h4⟩ := hx
  show (double.read x).toInt .zero = _
  rw [h1]
  have e1 : (-(k : Int)).toNat = 0 := by omega
  have e2 : (- -(k : Int)).toNat = k := by omega
  simp only [Datum.toInt, Datum.integral, e1, e2, Nat.shiftLeft_zero]
  by_cases h0 : a = 0
  · subst h0
    simp [Toward.cut, signed]
  · rw [cut_exact (.inr rfl) (by omega)]
    have := signed_rep (s := s) (a := a) (k := 0) (j := 0) h4
    simp at this
    rw [this]
end Go.M
namespace Go.M
open Go.RowKit
variable {P : Program} {w0 w w' w1 w2 : World} {N n m n0 : Nat} {β β' β1 β2 : Bet} {S S' S1 S2 : Nat → Prop} {A A' A1 A2 : AW} {a a0 a1 : AEnv} {ae : Act} {Q Q' : AQ} {R : Value → AW → Prop} {o : Oper}

theorem Sim.free (h : Sim P w0 N β S A w) {k : Nat} (hN : N ≤ k) (hf : ∀ j L, β j = some L → L.blk ≠ k) (ob : Obj) : Sim P w0 N β S A (w.putObj k ob) :=
  ⟨⟨h.below.os, h.below.tape, h.below.output, by simpa [World.putObj] using h.below.size, fun j hj => (World.putObj_heap_other (by omega)).trans (h.below.block j hj)⟩, h.Nle,
    fun i x hx => let ⟨L, hb, r⟩ := h.live i x hx; ⟨L, hb, r.mono (fun _ _ => .inl rfl) (fun _ h => h) (World.putObj_heap_other (hf i L hb))⟩, h.dead, h.lt, h.inj, h.hi, h.sub, h.role, h.glob, h.gle, h.roz⟩
/-- A name whose object is given up; its block turns. -/
theorem Sim.gone (h : Sim P w0 N β S A w) {b : Nat} {L : Loc} (hro : A.ro ≤ b) (hb : β b = some L) (ob : Obj) : Sim P w0 N (fun j => if j = b then none else β j) S (A.upd b none) (w.putObj L.blk ob) :=
  (h.kill hro).free (h.hi b L hro hb) (fun j L' hj => by
    split at hj
    · cases hj
    · rename_i hne; exact fun e => h.inj b j L L' hro (fun q => hne q.symm) hb hj e.symm) ob
theorem Sim.writeObj (h : Sim P w0 N β S A w) {i : Nat} {L : Loc} (hb : β i = some L) (hro : A.ro ≤ i) (o : AObj) (ob : Obj) (hr : ORel P β S (w.putObj L.blk ob) true L o) : Sim P w0 N β S (A.upd i (some o)) (w.putObj L.blk ob) :=
  (h.write hb hro o hr rfl rfl rfl (by simp [World.putObj]) (fun k hk => World.putObj_heap_other (Ne.symm hk |> fun e => by simpa using hk))).1

/-- The round's slots: the loop's variables on top of those of the function. -/
def zipEnv : List Tmp → List Value → AEnv → AEnv
  | p :: ps, v :: vs, a => zipEnv ps vs ((p, v) :: a)
  | _, _, a => a
def zipTmps : List Tmp → List Value → Array Value → Array Value
  | p :: ps, v :: vs, t => zipTmps ps vs (t.setIfInBounds p v)
  | _, _, t => t
theorem zipTmps_eq : ∀ (ps : List Tmp) (vs : List Value) (t : Array Value), (ps.zip vs).foldl (fun t (x : Tmp × Value) => t.setIfInBounds x.1 x.2) t = zipTmps ps vs t
  | [], _, _ => rfl
  | _ :: _, [], _ => rfl
  | p :: ps, v :: vs, t => zipTmps_eq ps vs (t.setIfInBounds p v)
theorem zipTmps_size : ∀ (ps : List Tmp) (vs : List Value) (t : Array Value), (zipTmps ps vs t).size = t.size
  | [], _, _ => rfl
  | _ :: _, [], _ => rfl
  | p :: ps, v :: vs, t => by
    have := zipTmps_size ps vs (t.setIfInBounds p v)
    rw [Array.size_setIfInBounds] at this
    exact this
theorem zipEnv_get : ∀ {vs vs' : List Value} {ps : List Tmp} {tmps : Array Value} {a : AEnv}, VRs β S vs vs' → (∀ p ∈ ps, p < tmps.size) → (∀ t v, aget a t = some v → ∃ v', tmps[t]? = some v' ∧ VR β S v v') →
    ∀ t v, aget (zipEnv ps vs a) t = some v → ∃ v', (zipTmps ps vs' tmps)[t]? = some v' ∧ VR β S v v'
  | [], vs', ps, tmps, a, hv, _, ha => by
    have : vs' = [] := List.length_eq_zero_iff.1 hv.length.symm
    subst this
    cases ps <;> exact ha
  | v :: vs, [], ps, tmps, a, hv, _, _ => by have := hv.length; simp at this
  | v :: vs, v' :: vs', [], tmps, a, hv, _, ha => ha
  | v :: vs, v' :: vs', p :: ps, tmps, a, hv, hp, ha => by
    obtain ⟨h1, h2⟩ := hv.cons_inv
    have hlt := hp p (List.mem_cons_self ..)
    refine zipEnv_get (vs := vs) (vs' := vs') (ps := ps) (tmps := tmps.setIfInBounds p v') (a := (p, v) :: a) h2 (fun q hq => by rw [Array.size_setIfInBounds]; exact hp q (List.mem_cons_of_mem _ hq)) (fun t u hu => ?_)
    simp only [aget] at hu
    split at hu
    · rename_i e; subst e; cases hu
      exact ⟨v', by simp [hlt], h1⟩
    · rename_i e
      obtain ⟨u', e1, q⟩ := ha t u hu
      exact ⟨u', by rw [Array.getElem?_setIfInBounds_ne e]; exact e1, q⟩

theorem Oper.wpIn_round {r : Option Nat} {o : Oper} {ae : Act} {w w1 : World} {l : Nat} {f : FuncId} {tmps : Array Value} {assign body : Code} {K : Act → World → Prop} {Z : Exit → Act → World → Prop} (hr : (execOp ae.eval o).run P w = .ok (.round l f tmps assign body) w1)
    (hk : RoundIn (FR r) 0 P l f tmps assign body w1 fun e w'' => match e with | .returned v => K (ae.put o.dst v) w'' | _ => False) : o.wpIn (FR r) 0 P ae w K Z := by
  refine ⟨fun _ _ => trivial, ?_⟩
  rw [Oper.semAt_eq _ _ _ (not_defer hr (by simp)), hr]
  refine ⟨fun h => by simp at h, RoundIn.mono hk fun e w'' he => ?_⟩
  cases e with
  | returned v => exact he
  | panicked => exact he.elim
  | outgrown => exact he.elim

/-- A call of yield: one round of the loop. -/
theorem AOp.yield {c : Call} {t : Operand} {nm : Nat} {vs : List Value} {ps : Array Tmp} {assign body : Code} {f : FuncId} (ho : o.op = .call c) (hc : c.callee = .value t) (ht : aev A.gl a t = some (.func (.yield nm) #[] #[]))
    (ha : aevs A.gl a c.args.toList = some vs) (hob : A.objs nm = some (.loop true n0 a0 f ps assign body)) (hro : A.ro ≤ nm) (hlen : vs.length = ps.size) (hps : ∀ p ∈ ps.toList, p < n0)
    (h : AT P n0 A.next assign (zipEnv ps.toList vs a0) A (fun e a1 A1 => e = .normal ∧ A1.objs nm = some (.loop true n0 a0 f ps assign body) ∧
      AT P n0 A.next body a1 (A1.upd nm (some (.loop false n0 a0 f ps assign body))) (fun e _ A2 => (e = .normal ∧ A2.objs nm = some (.loop false n0 a0 f ps assign body) ∧ R (.bool true) (A2.upd nm (some (.loop true n0 a0 f ps assign body)))) ∨ (e = .ret ∧ A2.objs nm = some (.loop false n0 a0 f ps assign body) ∧ R (.bool false) (A2.upd nm (some (.over .ret))))))) :
    AOp P n o a A R := by
  intro r w0 N w β S ae hs he K Z hk
  have hv := aev_sound hs he ht
  have hvs := aevs_sound hs he ha
  generalize hz : ae.eval t = v' at hv
  cases hv with
  | func hne _ _ _ => exact absurd rfl (hne nm)
  | yieldD sb hb _ => obtain ⟨L, hb', _⟩ := hs.live nm _ hob; rw [hb] at hb'; cases hb'
  | @yield _ L _ _ sb hb _ =>
    obtain ⟨L', hb', hor⟩ := hs.live nm _ hob
    rw [hb] at hb'; cases hb'
    obtain ⟨tmps, D, hl, hsz, hget⟩ := hor
    have hlt := hs.lt nm _ hob
    have hargs : (c.args.map ae.eval).size = ps.size := by
      have := hvs.length
      rw [← hlen, this]; simp
    have hrun : (execOp ae.eval o).run P w = .ok (.round L.blk f ((ps.zip (c.args.map ae.eval)).foldl (fun t (p, v) => t.setIfInBounds p v) tmps) assign body) w := by
      have hy := run_yield (P := P) (args := c.args.map ae.eval) hl (by simpa using hargs)
      simp only [execOp, ho, resolve, hc, hz, Deferred.ofValue]
      simp [go_sem, invoke, hy, hz, Deferred.ofValue]
    refine Oper.wpIn_round hrun (roundIn_of_wpIn trivial ?_)
    have hfold : (ps.zip (c.args.map ae.eval)).foldl (fun t (p, v) => t.setIfInBounds p v) tmps = zipTmps ps.toList (c.args.toList.map ae.eval) tmps := by
      rw [← Array.foldl_toList, ← zipTmps_eq]; simp
    have hzip := zipEnv_get (a := a0) hvs (fun p hp => by rw [hsz]; exact hps p hp) hget
    rw [hfold]
    have her : ER n0 β S (zipEnv ps.toList vs a0) { tmps := zipTmps ps.toList (c.args.toList.map ae.eval) tmps, defers := [] } := ⟨by show (zipTmps _ _ _).size = _; rw [zipTmps_size, hsz], rfl, hzip⟩
    refine wpIn_mono (h (some L.blk) w0 N w β S _ (Nat.le_refl _) hs her) (fun e a2 w2 ⟨β1, S1, ax, A1, hx, hy, he1, hob1, hbody⟩ => ?_)
    subst he1
    have keep : ∀ {βx Sx Ax wx}, Aft P w0 N A.next β S A βx Sx Ax wx → ∀ {x}, Ax.objs nm = some x → βx nm = some L ∧ ORel P βx Sx wx (decide (Ax.ro ≤ nm)) L x := fun hx x hox => by
      obtain ⟨L1, e1, r1⟩ := hx.sim.live nm _ hox
      rcases hx.near.at_ nm hlt sb with q | q
      · rw [q, hb] at e1; cases e1; exact ⟨by rw [q, hb], r1⟩
      · rw [q] at e1; cases e1
    obtain ⟨hb1, tmps1, D1, hl1, hsz1, hget1⟩ := keep hx hob1
    have hro1 : A1.ro ≤ nm := by rw [hx.ro]; exact hro
    have hlt1 : L.blk < w2.heap.size := hx.sim.blk_lt hb1
    refine ⟨_, run_beginRound hl1 rfl, ?_⟩
    have hs2 := hx.sim.writeObj hb1 hro1 (.loop false n0 a0 f ps assign body) (.loop { state := .busy, pending := none, fn := f, tmps := tmps1, params := ps, assign := assign, body := body, defers := D1 }) ⟨tmps1, D1, World.putObj_heap_same hlt1, hsz1, hget1⟩
    refine wpIn_mono (hbody (some L.blk) w0 N _ β1 S1 a2 hx.next hs2 hy) (fun e a3 w3 ⟨β2, S2, ay, A2, gx, gy, hend⟩ => ?_)
    have hx2 : Aft P w0 N A.next β S A β2 S2 A2 w3 := ⟨gx.sim, hx.near.trans gx.near (Nat.le_refl _), gx.next, by rw [gx.ro]; exact hx.ro, by rw [gx.gl]; exact hx.gl⟩
    rcases hend with ⟨ge, hob2, hR⟩ | ⟨ge, hob2, hR⟩
    · subst ge
      obtain ⟨hb2, tmps2, D2, hl2, hsz2, hget2⟩ := keep hx2 hob2
      have hlt2 : L.blk < w3.heap.size := hx2.sim.blk_lt hb2
      have hs3 := hx2.sim.writeObj hb2 (by rw [hx2.ro]; exact hro) (.loop true n0 a0 f ps assign body) (.loop { state := .ready, pending := none, fn := f, tmps := tmps2, params := ps, assign := assign, body := body, defers := D2 }) ⟨tmps2, D2, World.putObj_heap_same hlt2, hsz2, hget2⟩
      exact ⟨_, _, run_endRound none hl2, hk _ _ _ _ _ _ hR ⟨hs3, hx2.near, hx2.next, hx2.ro, hx2.gl⟩ (.bool .nil)⟩
    · subst ge
      obtain ⟨hb2, tmps2, D2, hl2, hsz2, hget2⟩ := keep hx2 hob2
      have hlt2 : L.blk < w3.heap.size := hx2.sim.blk_lt hb2
      have hs3 := hx2.sim.writeObj hb2 (by rw [hx2.ro]; exact hro) (.over .ret) (.loop { state := .done, pending := some .ret, fn := f, tmps := tmps2, params := ps, assign := assign, body := body, defers := D2 }) ⟨_, World.putObj_heap_same hlt2, rfl, rfl⟩
      exact ⟨_, _, run_endRound (some .ret) hl2, hk _ _ _ _ _ _ hR ⟨hs3, hx2.near, hx2.next, hx2.ro, hx2.gl⟩ (.bool .nil)⟩
end Go.M
namespace Go.M
open Go.RowKit
variable {P : Program} {w0 w w' w1 w2 : World} {N n m n0 : Nat} {β β' β1 β2 : Bet} {S S' S1 S2 : Nat → Prop} {A A' A1 A2 : AW} {a a0 a1 : AEnv} {ae : Act} {Q Q' : AQ} {R : Value → AW → Prop} {o : Oper} {fn : Func}

/-- What is left of a function's code, up to its return. -/
def AF (P : Program) (n m : Nat) (fn : Func) (c : Code) (a : AEnv) (A : AW) (R : Value → AW → Prop) : Prop :=
  ∀ (w0 : World) (N : Nat) (w : World) (β : Bet) (S : Nat → Prop) (ae : Act), m ≤ A.next → Sim P w0 N β S A w → ER n β S a ae → ∀ Z : Ending → World → Prop,
    (∀ v v' w1 β1 S1 A1, R v A1 → Aft P w0 N m β S A β1 S1 A1 w1 → VR β1 S1 v v' → Z (.returned v') w1) → c.wpIn (FR none) 0 P (bodyPostM (FR none) 0 P fn Z) ae w
theorem AF.leaves {Z : Ending → World → Prop} (hz : ∀ v v' w1 β1 S1 A1, R v A1 → Aft P w0 N m β S A β1 S1 A1 w1 → VR β1 S1 v v' → Z (.returned v') w1) (hx : Aft P w0 N m β S A β1 S1 A1 w1) (hy : ER n β1 S1 a1 ae)
    (hq : ∃ v, ares P A1 a1 fn.results.toList = some v ∧ R v A1) : LeavesInM (FR none) 0 P fn ae.tmps Z ae.defers .returning w1 := by
  obtain ⟨v, e1, hr⟩ := hq
  obtain ⟨v', e2, rv⟩ := ares_sound hx.sim hy e1
  rw [hy.defers]
  exact ⟨v', e2, hz v v' w1 β1 S1 A1 hr hx rv⟩
theorem AF.of {c : Code} (h : AT P n m c a A (AEnd P fn.results.toList R)) : AF P n m fn c a A R := fun w0 N w β S ae hm hs he Z hz =>
  wpIn_mono (h none w0 N w β S ae hm hs he) (fun e ae1 w1 ⟨β1, S1, a1, A1, hx, hy, hq⟩ => by
    cases e with
    | normal => exact AF.leaves hz hx hy hq
    | ret => exact AF.leaves hz hx hy hq
    | exit id => exact hq.elim
    | goto l => exact hq.elim
    | panic ch => exact hq.elim
    | outgrown => exact hq.elim)
theorem AF.seq {x y : Code} (h : AT P n m x a A (AThen (fun a A => AF P n m fn y a A R) (AEnd P fn.results.toList R))) : AF P n m fn (.seq x y) a A R := fun w0 N w β S ae hm hs he Z hz =>
  wpIn_seq (wpIn_mono (h none w0 N w β S ae hm hs he) (fun e ae1 w1 ⟨β1, S1, a1, A1, hx, hy, hq⟩ => by
    cases e with
    | normal => exact hq w0 N w1 β1 S1 ae1 hx.next hx.sim hy Z (fun v v' w2 β2 S2 A2 hr gx rv => hz v v' w2 β2 S2 A2 hr (hx.trans gx (Nat.le_refl _)) rv)
    | ret => exact AF.leaves hz hx hy hq
    | exit id => exact hq.elim
    | goto l => exact hq.elim
    | panic ch => exact hq.elim
    | outgrown => exact hq.elim))
theorem AC.enterF {f : FuncId} {c : Code} {args : List Value} (hf : P.funcs[f]? = some fn) (hb : fn.body = some c) (hn : fn.ntmps = n) (hl : args.length ≤ n)
    (h : AF P n A.next fn c (argEnv 0 args) A R) : AC P f args A R := by
  intro w0 N w β S args' hs hv
  have hlen := hv.length
  simp only [Array.length_toList] at hlen
  refine (callsIn_wide (n := 0)).1 (callsIn_of_wp_marks (F := Fence.wide) hf hb trivial (h w0 N w β S _ (Nat.le_refl _) hs ⟨by simp [hn]; omega, rfl, fun t v ht => ?_⟩ _ (fun v v' w1 β1 S1 A1 hr hx rv => ⟨β1, S1, v, A1, hx, rv, hr⟩)))
  obtain ⟨h1, h2⟩ := aget_argEnv _ _ _ _ ht
  obtain ⟨v', e1, q⟩ := hv.get h2
  simp only [Nat.sub_zero] at e1
  have hlt := (List.getElem?_eq_some_iff.1 e1).1
  refine ⟨v', ?_, q⟩
  rw [Array.getElem?_append_left (by simpa using hlt)]
  simpa using e1

/-- Calls that are deferred already change nothing of what operations do. -/
theorem Oper.wpIn_defers {F : Fence} {k : Nat} {o : Oper} {ae : Act} {w : World} {ds : List Deferred} {K K' : Act → World → Prop} {Z Z' : Exit → Act → World → Prop}
    (hk : ∀ a w, K' a w → K { a with defers := a.defers ++ ds } w) (hz : ∀ e a w, Z' e a w → Z e { a with defers := a.defers ++ ds } w) (h : o.wpIn F k P ae w K' Z') : o.wpIn F k P { ae with defers := ae.defers ++ ds } w K Z := by
  refine ⟨h.1, ?_⟩
  have h2 := h.2
  have hgo : ∀ v w', K' (ae.put o.dst v) w' → K (({ ae with defers := ae.defers ++ ds } : Act).put o.dst v) w' := fun v w' h => by
    have := hk _ _ h
    cases ho : o.dst <;> simp only [ho] at this ⊢ <;> exact this
  show o.uponIn F k P _ K Z ((o.semAt F.round ae.eval).run P w)
  generalize (o.semAt F.round ae.eval).run P w = r at h2
  cases r with
  | ok x w' =>
    cases x <;> simp only [Oper.uponIn] at h2 ⊢ <;>
      first
        | exact hgo _ _ h2
        | exact ⟨h2.1, CallsIn.mono h2.2 (fun e w'' he => by
            cases e
            · exact hgo _ _ he
            · exact hz _ _ _ he
            · obtain ⟨a1, w1, h1⟩ := he; exact ⟨_, w1, hz _ _ _ h1⟩)⟩
        | exact ⟨h2.1, RowsIn.mono h2.2 (fun _ _ he => hgo _ _ he)⟩
        | exact ⟨h2.1, RoundIn.mono h2.2 (fun e w'' he => by
            cases e
            · exact hgo _ _ he
            · exact hz _ _ _ he
            · obtain ⟨a1, w1, h1⟩ := he; exact ⟨_, w1, hz _ _ _ h1⟩)⟩
        | (have := hk _ _ h2
           cases ho : o.dst <;> simp only [ho] at this ⊢ <;> exact this)
  | halt x w' => cases x <;> simp only [Oper.uponIn] at h2 ⊢ <;> exact hz _ _ _ h2
theorem wpListIn_defers {F : Fence} {k : Nat} {ops : Array Oper} {ds : List Deferred} {Z Z' : Exit → Act → World → Prop} (hz : ∀ e a w, Z' e a w → Z e { a with defers := a.defers ++ ds } w) :
    ∀ (l : List Oper) (ae : Act) (w : World), wpListIn F k P ops Z' l ae w → wpListIn F k P ops Z l { ae with defers := ae.defers ++ ds } w
  | [], ae, w, h => hz _ _ _ h
  | o :: l, ae, w, h => by
    unfold wpListIn at h ⊢
    split
    · rename_i q
      rw [if_pos q] at h
      exact Oper.wpIn_defers (fun a w ha => wpListIn_defers hz l a w ha) hz h
    · rename_i q
      rw [if_neg q] at h
      refine ⟨h.1, ?_⟩
      have := wpListIn_defers hz l _ _ h.2
      have hput : ({ ae with defers := ae.defers ++ ds } : Act).put o.dst undef = { ae.put o.dst undef with defers := (ae.put o.dst undef).defers ++ ds } := by cases o.dst <;> rfl
      rw [hput]; exact this

theorem AF.rangeTail {id id2 : Nat} {g : Operand} {ps : Array Tmp} {assign body gbody : Code} {l : List Oper} {gf : FuncId} {gfn : Func} {caps : Array Value}
    (hg : aev A.gl a g = some (.func (.func gf) #[] caps)) (hgf : P.funcs[gf]? = some gfn) (hgb : gfn.body = some gbody) (hgn : (gfn.name == "runtime.NumGoroutine") = false)
    (hit : ∀ f, AC P gf (.func (.yield (A.next + 1)) #[] #[] :: caps.toList) ((A.push .dfr).push (.loop true n a f ps assign body)) (fun _ A3 => A3.objs (A.next + 1) = some (.loop true n a f ps assign body) ∧ A3.objs A.next = some .dfr ∧
      AL P n (A.next + 1) l.toArray l a (A3.upd (A.next + 1) none) (fun e a1 A4 => e = .normal ∧ A4.objs A.next = some .dfr ∧ ∃ v, ares P (A4.upd A.next none) a1 fn.results.toList = some v ∧ R v (A4.upd A.next none)))) :
    AF P n m fn (.seq (.block id (.rangeFunc g ps assign body)) (.seq (.region id2 l.toArray false) .ret)) a A R := by
  intro w0 N w β S ae hm hs he Z hz
  refine wpIn_seq (wpIn_block (wpIn_rangeFunc fun f _ => ?_))
  have hs1 := hs.push .dfr (.deferred (some [])) ⟨w.heap.size, 0, 0, 0⟩ rfl (World.alloc_heap_new w _)
  have hn1 : Near A.next β S _ _ := hs1.2.1.near
  have he1 : ER n _ _ a ae := he.near hn1 hs.sub
  have hnew : (w.alloc (.deferred (some []))).heap.size = w.heap.size + 1 := World.size_alloc ..
  have hL2 := World.alloc_heap_new (w.alloc (.deferred (some []))) (.loop { state := .ready, pending := none, fn := f, tmps := ae.tmps, params := ps, assign := assign, body := body, defers := w.heap.size })
  have hext : Ext (A.next + 1) (fun j => if j = A.next then some ⟨w.heap.size, 0, 0, 0⟩ else β j) (fun i => S i ∨ i = A.next) (fun j => if j = A.next + 1 then some ⟨w.heap.size + 1, 0, 0, 0⟩ else if j = A.next then some ⟨w.heap.size, 0, 0, 0⟩ else β j) (fun i => (S i ∨ i = A.next) ∨ i = A.next + 1) :=
    ⟨fun i hi => .inl (by
      have : i ≠ A.next + 1 := by
        rcases hi with hi | hi
        · have := hs.sub i hi; omega
        · omega
      simp [this]), fun i hi => .inl hi, fun i hi => by
        rcases hi with hi | hi
        · exact .inl hi
        · exact .inr (by omega)⟩
  have he2 : ER n _ _ a ae := he1.near hext.near hs1.1.sub
  have hs2 := hs1.1.push (.loop true n a f ps assign body) (.loop { state := .ready, pending := none, fn := f, tmps := ae.tmps, params := ps, assign := assign, body := body, defers := w.heap.size }) ⟨w.heap.size + 1, 0, 0, 0⟩ hnew.symm
    ⟨ae.tmps, w.heap.size, by rw [← hnew]; exact hL2, he.size, he2.get⟩
  have hs2' : Sim P w0 N (fun j => if j = A.next + 1 then some ⟨w.heap.size + 1, 0, 0, 0⟩ else if j = A.next then some ⟨w.heap.size, 0, 0, 0⟩ else β j) (fun i => (S i ∨ i = A.next) ∨ i = A.next + 1) ((A.push .dfr).push (.loop true n a f ps assign body)) ((w.alloc (.deferred (some []))).alloc (.loop { state := .ready, pending := none, fn := f, tmps := ae.tmps, params := ps, assign := assign, body := body, defers := w.heap.size })) := hs2.1
  have hn2 : Near A.next β S (fun j => if j = A.next + 1 then some ⟨w.heap.size + 1, 0, 0, 0⟩ else if j = A.next then some ⟨w.heap.size, 0, 0, 0⟩ else β j) (fun i => (S i ∨ i = A.next) ∨ i = A.next + 1) := hn1.trans hext.near (by omega)
  have hgv := aev_sound hs he hg
  generalize hge : ae.eval g = gv at hgv
  cases hgv with
  | @func _ _ f' _ c' _ _ hne hf1 hc1 _ =>
    have hf0 : f' = #[] := by
      have := hf1.length
      simp at this
      exact Array.eq_empty_of_size_eq_zero this.symm
    subst hf0
    refine ⟨w.heap.size + 1, [{ target := .collected w.heap.size, args := #[] }], _, { target := .fn (.func gf) c', args := #[.func (.yield (w.heap.size + 1)) #[] #[]] }, ((w.alloc (.deferred (some []))).alloc (.loop { state := .ready, pending := none, fn := f, tmps := ae.tmps, params := ps, assign := assign, body := body, defers := w.heap.size })), gf, #[.func (.yield (w.heap.size + 1)) #[] #[]] ++ c', _,
      run_enterLoop_outer _ _ _ _ _, ?_, fun _ _ => trivial, ?_, fun h => by simp at h, callsIn_FR (Calls.mono (hit f w0 N _ _ _ _ hs2' ?_) ?_)⟩
    · simp only [resolve, hge]
      simp [go_sem, Deferred.ofValue]
    · have hn' : ¬ gfn.name = "runtime.NumGoroutine" := by simpa using hgn
      simp [invoke, callFunc, hgf, hn', hgb]
    · have := VRs.yield (b := A.next + 1) (L := ⟨w.heap.size + 1, 0, 0, 0⟩) (β := (fun j => if j = A.next + 1 then some ⟨w.heap.size + 1, 0, 0, 0⟩ else if j = A.next then some ⟨w.heap.size, 0, 0, 0⟩ else β j)) (S := (fun i => (S i ∨ i = A.next) ∨ i = A.next + 1)) (.inr rfl) (by simp) (hn2.VRs hs.sub hc1)
      simpa using this
    · intro e w3 he3
      cases e with
      | panicked => exact he3.elim
      | outgrown => exact he3.elim
      | returned v' =>
        obtain ⟨β3, S3, v, A3, hx, _, hob, hd, hal⟩ := he3
        obtain ⟨L3, e3, tmps3, D3, hl3, hsz3, hget3⟩ := hx.sim.live (A.next + 1) _ hob
        have hS3 : ∀ i, i < A.next + 2 → ((S i ∨ i = A.next) ∨ i = A.next + 1) → S3 i := fun i hi h => hx.near.sub i hi h
        have eL3 : L3 = ⟨w.heap.size + 1, 0, 0, 0⟩ := by
          rcases hx.near.at_ (A.next + 1) (by show A.next + 1 < A.next + 1 + 1; omega) (.inr rfl) with q | q
          · rw [q] at e3; simp at e3; exact e3.symm
          · rw [q] at e3; cases e3
        subst eL3
        have hro3 : A3.ro = A.ro := hx.ro
        have hrole := hs.role
        refine ⟨none, _, run_endLoop hl3 (by simp), ?_⟩
        have hs4 := hx.sim.gone (b := A.next + 1) (by omega) e3 (.loop { state := .exhausted, pending := none, fn := f, tmps := tmps3, params := ps, assign := assign, body := body, defers := D3 })
        have hn3 : Near A.next β3 S3 (fun j => if j = A.next + 1 then none else β3 j) S3 := ⟨fun i hi _ => by
          have : i ≠ A.next + 1 := by omega
          exact .inl (by simp [this]), fun i _ h => h, fun i _ h => h⟩
        have hn4 : Near A.next β S (fun j => if j = A.next + 1 then none else β3 j) S3 :=
          (hn2.trans hx.near (by show A.next ≤ A.next + 1 + 1; omega)).trans hn3 (Nat.le_refl _)
        have he4 : ER n (fun j => if j = A.next + 1 then none else β3 j) S3 a ae := he.near hn4 hs.sub
        have hnx : A.next + 2 ≤ A3.next := hx.next
        have hcode := hal none w0 N _ _ _ ae (by show A.next + 1 ≤ A3.next; omega) hs4 he4
        have hact : ({ ae with defers := [({ target := .collected w.heap.size, args := #[] } : Deferred)] ++ ae.defers } : Act) = { ae with defers := ae.defers ++ [({ target := .collected w.heap.size, args := #[] } : Deferred)] } := by
          rw [he.defers]; rfl
        show ((Code.region id2 l.toArray false).seq .ret).wpIn _ _ _ _ _ _
        rw [hact]
        refine wpIn_seq (wpIn_region_lit (wpListIn_defers (fun e a5 w5 hp => ?_) l ae _ hcode))
        obtain ⟨β5, S5, a5', A4, gx, gy, rfl, hd5, v5, e5, hR⟩ := hp
        refine wpIn_ret ?_
        show LeavesInM (FR none) 0 P fn a5.tmps Z (a5.defers ++ _) .returning w5
        rw [gy.defers]
        obtain ⟨L5, f5, r5⟩ := gx.sim.live A.next _ hd5
        have hLd : β3 A.next = some ⟨w.heap.size, 0, 0, 0⟩ := by
          obtain ⟨Ld, ed, _⟩ := hx.sim.live A.next _ hd
          rcases hx.near.at_ A.next (by show A.next < A.next + 1 + 1; omega) (.inl (.inr rfl)) with q | q
          · rw [q]; simp
          · rw [q] at ed; cases ed
        have eL5 : L5 = ⟨w.heap.size, 0, 0, 0⟩ := by
          rcases gx.near.at_ A.next (by omega) (hS3 A.next (by omega) (.inl (.inr rfl))) with q | q
          · rw [q] at f5; simp [hLd] at f5; exact f5.symm
          · rw [q] at f5; cases f5
        subst eL5
        have hro5 : A4.ro = A.ro := gx.ro.trans hro3
        refine ⟨by simp, .inl ⟨w.heap.size, _, rfl, run_takeDeferred r5, ?_⟩⟩
        have hs6 := gx.sim.gone (b := A.next) (by omega) f5 (.deferred none)
        have hn6 : ∀ k, Near k β5 S5 (fun j => if j = A.next then none else β5 j) S5 := fun k => ⟨fun i _ _ => by by_cases q : i = A.next <;> simp [q], fun _ _ h => h, fun _ _ h => h⟩
        obtain ⟨v6, e6, rv⟩ := ares_sound hs6 (gy.near (hn6 A4.next) gx.sim.sub) e5
        refine ⟨v6, e6, hz v5 v6 _ _ _ _ hR ⟨hs6, ?_, ?_, hro5, gx.gl.trans hx.gl⟩ rv⟩
        · exact (((Near.refl m β S).trans hn4 hm).trans gx.near (by omega)).trans (hn6 m) (Nat.le_refl _)
        · have := gx.next
          show m ≤ A4.next
          omega
end Go.M
namespace Go.M
open Go.RowKit
variable {P : Program} {w0 w w' w1 w2 : World} {N n m n0 : Nat} {β β' β1 β2 : Bet} {S S' S1 S2 : Nat → Prop} {A A' A1 A2 : AW} {a a0 a1 a2 : AEnv} {ae : Act} {Q Q' : AQ} {R : Value → AW → Prop} {L : LM} {nx ro gl : Nat}

/-- What an object behind the change of name was before it. -/
def Holds (K o : Nat) (A : AW) (j : Nat) (y : AObj) : Prop :=
  (A.objs j = some y ∧ ObjLt K y) ∨ ∃ l c e, y = .cells [.slice (some ⟨K, 0, none⟩) l c] e ∧ A.objs j = some (.cells [.slice (some ⟨o, 0, none⟩) l c] e)

theorem Sim.ren (h : Sim P w0 N β S A w) {K o : Nat} {cs : List Value} {e : TypeId} (ho : A.objs o = some (.cells cs e)) (hflat : ∃ j, noAddrs j cs = true) (hroK : A.ro ≤ K) (hKo : K ≤ o) (hr : A'.ro = A.ro) (hg : A'.gl = A.gl) (hn : A'.next = K + 1)
    (hK : A'.objs K = some (.cells cs e)) (hobj : ∀ j y, j ≠ K → A'.objs j = some y → j < K ∧ Holds K o A j y) (hglob : ∀ g, g < A'.gl → (A'.objs g).isSome = true) :
    Sim P w0 N (fun j => if j = K then β o else if (A'.objs j).isSome then β j else none) (fun j => (S j ∧ j < K) ∨ j = K) A' w := by
  obtain ⟨Lo, hbo, hro⟩ := h.live o _ ho
  have hb' : ∀ j L, j ≠ K → (if j = K then β o else if (A'.objs j).isSome then β j else none) = some L → β j = some L := fun j L hne hj => by
    rw [if_neg hne] at hj
    split at hj
    · exact hj
    · cases hj
  have hne_o : ∀ j L, j ≠ K → (if j = K then β o else if (A'.objs j).isSome then β j else none) = some L → j ≠ o := fun j L hne hj => by
    rw [if_neg hne] at hj
    split at hj
    · rename_i hs
      obtain ⟨y, hy⟩ := Option.isSome_iff_exists.1 hs
      have := (hobj j y hne hy).1
      omega
    · cases hj
  refine ⟨h.below, h.Nle, fun i x hx => ?_, fun i hi => ?_, fun i x hx => ?_, fun i j L1 L2 hi hij h1 h2 => ?_, fun i L hi hb => ?_, fun i hi => ?_, by rw [hr, hn]; omega, fun g hgl => ?_, by rw [hg, hr]; exact h.gle, fun i L hi hb => ?_⟩
  · by_cases q : i = K
    · subst q
      rw [hK] at hx; cases hx
      obtain ⟨cs', e', fz, g1, g2, g3, g4, g5⟩ := hro
      obtain ⟨jj, hj⟩ := hflat
      refine ⟨Lo, by simp [hbo], cs', e', fz, g1, g2, g3, ?_, fun _ => g5 (by simp; omega)⟩
      rw [VRs.eq_of_noAddrs g4 jj hj]
      exact VRs.refl_of_noAddrs jj _ hj
    · obtain ⟨h1, h2⟩ := hobj i x q hx
      have mono : ∀ {vs vs' : List Value}, Lt K vs → VRs β S vs vs' → VRs (fun j => if j = K then β o else if (A'.objs j).isSome then β j else none) (fun j => (S j ∧ j < K) ∨ j = K) vs vs' := fun {vs vs'} hl hv => by
        have := hl β S _ hv
        exact this.mono (fun j hj => by
          have : j ≠ K := by omega
          simp only [this, if_false]
          by_cases q : (A'.objs j).isSome <;> simp [q]) (fun _ hj => .inl hj)
      rcases h2 with ⟨h2, h3⟩ | ⟨l, c, e2, rfl, h2⟩
      · obtain ⟨L, e, r⟩ := h.live i x h2
        refine ⟨L, by simp [q, hx, e], ?_⟩
        rw [hr]
        cases x with
        | cells c e => obtain ⟨cs, e', fz, g1, g2, g3, g4, g5⟩ := r; exact ⟨cs, e', fz, g1, g2, g3, mono h3 g4, g5⟩
        | map es k => obtain ⟨es', g1, g2, g3, g4, g5⟩ := r; exact ⟨es', g1, g2, g3, g4, mono h3 g5⟩
        | iter s p => exact r
        | loop ready n a fn ps assign body => obtain ⟨tmps, D, h1, h2, h4⟩ := r; exact ⟨tmps, D, h1, h2, fun t v hv => let ⟨v', e1, q⟩ := h4 t v hv; ⟨v', e1, mono (h3 t v hv) q⟩⟩
        | dfr => exact r
        | over c => exact r
      · obtain ⟨L, e, r⟩ := h.live i _ h2
        refine ⟨L, by simp [q, hx, e], ?_⟩
        rw [hr]
        obtain ⟨cs3, e', fz, g1, g2, g3, g4, g5⟩ := r
        refine ⟨cs3, e', fz, g1, g2, g3, ?_, g5⟩
        show VRs _ _ [_] _
        generalize (cs3.toList.drop L.off).take [Value.slice (some ⟨o, 0, none⟩) l c].length = zs at g4
        cases g4 with
        | sl sb hb d f k =>
          rw [hbo] at hb; cases hb
          cases k
          exact .sl (.inr rfl) (by simp [hbo]) d f .nil
        | slD sb hb _ _ => rw [hbo] at hb; cases hb
  · by_cases q : i = K
    · subst q; rw [hK] at hi; cases hi
    · simp [q, hi]
  · rw [hn]
    by_cases q : i = K
    · omega
    · have := (hobj i x q hx).1; omega
  · by_cases q1 : i = K
    · subst q1
      simp only [if_true] at h1
      have hjK : j ≠ i := fun e => hij e.symm
      exact h.inj o j L1 L2 (by omega) (fun e => hne_o j L2 hjK h2 e.symm) h1 (hb' j L2 hjK h2)
    · by_cases q2 : j = K
      · subst q2
        simp only [if_true] at h2
        exact h.inj i o L1 L2 (hr ▸ hi) (hne_o i L1 q1 h1) (hb' i L1 q1 h1) h2
      · exact h.inj i j L1 L2 (hr ▸ hi) hij (hb' i L1 q1 h1) (hb' j L2 q2 h2)
  · by_cases q : i = K
    · subst q
      simp only [if_true] at hb
      exact h.hi o L (by omega) hb
    · exact h.hi i L (hr ▸ hi) (hb' i L q hb)
  · rw [hn]; rcases hi with hi | hi <;> omega
  · obtain ⟨hs, L, e1, e2⟩ := h.glob g (hg ▸ hgl)
    have hgle := h.gle
    have hgK : g < K := by rw [hg] at hgl; omega
    have hne : g ≠ K := by omega
    exact ⟨.inl ⟨hs, hgK⟩, L, by simp [hne, hglob g hgl, e1], e2⟩
  · by_cases q : i = K
    · rw [hr] at hi; omega
    · exact h.roz i L (hr ▸ hi) (hb' i L q hb)

/-- The loop's head: 'o' is called 'K' from here on; the slot 't' (if any) holds the slice that grows, or the object 'p' does. -/
theorem GT.ren {c : Code} (K o : Nat) {cs : List Value} {e : TypeId} {L' : LM} (ha : asub a2 a) (he : EnvLt K a2) (ho : alook L o = some (.cells cs e)) (hflat : ∃ j, noAddrs j cs = true) (hroK : Nat.ble ro K = true) (hKo : Nat.ble K o = true) (hm : Nat.ble m K = true)
    (hK : alook L' K = some (.cells cs e)) (hobj : ∀ j y, j ≠ K → alook L' j = some y → j < K ∧ Holds K o (AW.of L nx ro gl) j y) (hg : ∀ g, g < gl → (alook L' g).isSome = true)
    (ht : a1 = a2 ∨ ∃ t l k, a1 = (t, .slice (some ⟨K, 0, none⟩) l k) :: a2 ∧ aget a t = some (.slice (some ⟨o, 0, none⟩) l k))
    (h : GT P n m c a1 L' (K + 1) ro gl Q) : GT P n m c a L nx ro gl Q := by
  refine ⟨fun r w0 N w β S ae hmn hs her => ?_⟩
  have hm := Nat.le_of_ble_eq_true hm
  have hroK := Nat.le_of_ble_eq_true hroK
  have hKo := Nat.le_of_ble_eq_true hKo
  have hs' := hs.ren (A' := AW.of L' (K + 1) ro gl) ho hflat hroK hKo rfl rfl rfl hK hobj hg
  obtain ⟨Lo, hbo, _⟩ := hs.live o _ ho
  have hen : ER n (fun j => if j = K then β o else if ((AW.of L' (K + 1) ro gl).objs j).isSome then β j else none) (fun j => (S j ∧ j < K) ∨ j = K) a2 ae := by
    refine ⟨her.size, her.defers, fun t v hv => ?_⟩
    obtain ⟨v', e1, q⟩ := her.get t v (ha t v hv)
    refine ⟨v', e1, ?_⟩
    refine (he.get hv β S _ q).mono (fun j hj => ?_) (fun _ hj => .inl hj)
    have : j ≠ K := by omega
    simp only [this, if_false]
    by_cases q : ((AW.of L' (K + 1) ro gl).objs j).isSome <;> simp [q]
  have hen1 : ER n (fun j => if j = K then β o else if ((AW.of L' (K + 1) ro gl).objs j).isSome then β j else none) (fun j => (S j ∧ j < K) ∨ j = K) a1 ae := by
    rcases ht with rfl | ⟨t, l, k, rfl, ht⟩
    · exact hen
    · refine ⟨hen.size, hen.defers, fun u v hv => ?_⟩
      simp only [aget] at hv
      split at hv
      · rename_i q; subst q; cases hv
        obtain ⟨v', e1, q⟩ := her.get t _ ht
        refine ⟨v', e1, ?_⟩
        cases q with
        | sl sb hb d f k =>
          rw [hbo] at hb; cases hb
          exact .sl (.inr rfl) (by simp [hbo]) d f .nil
        | slD sb hb _ _ => rw [hbo] at hb; cases hb
      · exact hen.get u v hv
  refine wpIn_mono (h.run r w0 N w _ _ ae (by show m ≤ K + 1; omega) hs' hen1) (fun e ae1 w1 g => ?_)
  obtain ⟨β1, S1, a3, A2, hx, hy, hz⟩ := g
  refine ⟨β1, S1, a3, A2, ⟨hx.sim, ?_, hx.next, hx.ro, hx.gl⟩, hy, hz⟩
  have near1 : Near m β S (fun j => if j = K then β o else if ((AW.of L' (K + 1) ro gl).objs j).isSome then β j else none) (fun j => (S j ∧ j < K) ∨ j = K) :=
    ⟨fun i hi _ => by
      have : i ≠ K := by omega
      simp only [this, if_false]
      by_cases q : ((AW.of L' (K + 1) ro gl).objs i).isSome <;> simp [q], fun i hi hsi => .inl ⟨hsi, by omega⟩, fun i hi hsi => by
      rcases hsi with hsi | hsi
      · exact hsi.1
      · omega⟩
  exact near1.trans hx.near (Nat.le_refl _)
end Go.M
namespace Go.M
open Go.RowKit
variable {P : Program} {w0 w w' w1 w2 : World} {N n m n0 : Nat} {β β' β1 β2 : Bet} {S S' S1 S2 : Nat → Prop} {A A' A1 A2 : AW} {L : LM}
theorem Lt.yield {k b : Nat} (h : Nat.blt b k = true) : Lt k [.func (.yield b) #[] #[]] := fun β S vs' hv => by
  have h := Nat.lt_of_lt_of_le (Nat.lt_succ_self b) (Nat.le_of_ble_eq_true h)
  cases vs' with
  | nil => have := hv.length; simp at this
  | cons v' vs' =>
    have e : vs' = [] := by have := hv.length; simp at this; exact this
    subst e
    cases hv with
    | func hy _ _ _ => exact absurd rfl (hy _)
    | yield hs hb _ => exact .yield ⟨hs, h⟩ hb .nil
    | yieldD hs hb _ => exact .yieldD ⟨hs, h⟩ hb .nil
theorem Sim.smallG {ρ : Nat → Option (Nat × Nat)} {k G : Nat} (h : Sim P w0 N β S A w) (hk : ∀ j x, ρ j = some x → j < k) (hd : ∀ j, alook L j = none → ρ j = none)
    (hL : ∀ j o, alook L j = some o → j < k ∧ ∃ x, ρ j = some x ∧ objIn A x.1 x.2 o) (hgl : A.gl = G) (hG : ∀ g, g < G → ρ g = some (g, 0)) (hGk : G ≤ k) : Sim P w w.heap.size (M.small ρ k β) (fun j => j < k) (AW.of L k k G) w := by
  have s := h.small hk hd hL
  refine ⟨s.below, s.Nle, s.live, s.dead, s.lt, s.inj, s.hi, s.sub, s.role, fun g hg => ?_, hGk, s.roz⟩
  have hg : g < G := hg
  obtain ⟨_, L0, e1, e2, e3⟩ := h.glob g (by rw [hgl]; exact hg)
  have hgk : g < k := by omega
  exact ⟨hgk, ⟨L0.blk, L0.off + 0, 0, L0.tot⟩, by simp [M.small, hgk, hG g hg, e1], e2, by show L0.off + 0 = 0; omega⟩
theorem AC.pureOfG {f : FuncId} {args args2 : List Value} {R : Value → Prop} {k G : Nat} (ρ : Nat → Option (Nat × Nat)) (h : AC P f args (AW.of L k k G) (fun v _ => R v ∧ ∃ j, noAddrs j [v] = true))
    (hk : ∀ j x, ρ j = some x → j < k) (hd : ∀ j, alook L j = none → ρ j = none) (hL : ∀ j o, alook L j = some o → j < k ∧ ∃ x, ρ j = some x ∧ objIn A x.1 x.2 o) (ha : AR ρ args args2)
    (hgl : A.gl = G) (hG : ∀ g, g < G → ρ g = some (g, 0)) (hGk : G ≤ k) : AC P f args2 A (fun v A1 => R v ∧ A1 = A) := by
  intro w0 N w β S args' hs hv
  refine Calls.mono (h w w.heap.size w _ _ args' (hs.smallG hk hd hL hgl hG hGk) (ha.vrs hk hv)) fun e w1 he => ?_
  cases e with
  | returned v' =>
    obtain ⟨β1, S1, v, A1, h1, h2, hr, j, hj⟩ := he
    have q : [v'] = [v] := VRs.eq_of_noAddrs h2 j hj
    have q : v' = v := by simpa using q
    subst q
    exact ⟨β, S, v', A, ⟨hs.again h1.sim.below, .refl _ _ _, Nat.le_refl _, rfl, rfl⟩, VRs.refl_of_noAddrs j _ hj, hr, rfl⟩
  | panicked => exact he
  | outgrown => exact he
end Go.M
namespace Go.M
open Go.RowKit
variable {P : Program} {n : Nat} {A : AW} {a : AEnv} {o : Oper} {L : LM} {nx ro gl : Nat} {t t2 : TypeId} {X Y : Operand}
theorem FRep.cmul {x y z u : Nat} {a b c d : Int} (ha : FRep x a) (hb : FRep y b) (hc : FRep z c) (hd : FRep u d) (h1 : (a * c).natAbs < 2 ^ 52) (h2 : (b * d).natAbs < 2 ^ 52) (h3 : (a * d).natAbs < 2 ^ 52) (h4 : (b * c).natAbs < 2 ^ 52) :
    ∃ re im, cMulBits x y z u = some (re, im) ∧ FRep re (a * c - b * d) ∧ FRep im (a * d + b * c) := by
  obtain ⟨r1, e1, f1⟩ := ha.mul hc (by omega)
  obtain ⟨r2, e2, f2⟩ := hb.mul hd (by omega)
  obtain ⟨r3, e3, f3⟩ := f1.sub f2 (by omega)
  obtain ⟨r4, e4, f4⟩ := ha.mul hd (by omega)
  obtain ⟨r5, e5, f5⟩ := hb.mul hc (by omega)
  obtain ⟨r6, e6, f6⟩ := f4.add f5 (by omega)
  exact ⟨r3, r6, by simp [cMulBits, e1, e2, e3, e4, e5, e6], f3, f6⟩
theorem AOp.intFloat {s d : TypeId} {x : Operand} {k : IntKind} {i : Int} {u : TypeDesc} (ho : o.op = .convert s d x) (hx : aev A.gl a x = some (.int k i)) (hs : P.underlying s = some u) (hd : P.underlying d = some (.float .f64)) : AOp P n o a A (isR (.float .f64 (FloatKind.f64.nearest i)) A) :=
  .conv (kx := 64) ho hx rfl (fun w => run_convert_int_float w s d k .f64 i (by rw [hs]; rfl) hd) (fun _ _ => .float .nil)
theorem AOp.floatInt {s d : TypeId} {x : Operand} {b : Nat} {i : Int} {u : TypeDesc} (ho : o.op = .convert s d x) (hx : aev A.gl a x = some (.float .f64 b)) (hs : P.underlying s = some u) (hd : P.underlying d = some (.int .i64)) (hi : FRep b i) (hr : -9223372036854775808 ≤ i ∧ i ≤ 9223372036854775807) : AOp P n o a A (isR (.int .i64 i) A) :=
  .conv (kx := 64) ho hx rfl (fun w => run_convert_float_int w s d .f64 .i64 b i (by rw [hs]; rfl) hd (by unfold floatToIntVal; rw [hi.toInt]; exact if_pos hr)) (fun _ _ => .int .nil)
theorem AOp.cmul {x y z u re im : Nat} (ho : o.op = .binOp .mul t X Y t2) (hx : aev A.gl a X = some (.complex .f64 x y)) (hy : aev A.gl a Y = some (.complex .f64 z u)) (h : cMulBits x y z u = some (re, im)) : AOp P n o a A (isR (.complex .f64 re im) A) :=
  .bin (kx := 64) (ky := 64) ho hx hy rfl rfl (fun w => by simp [eqGuard, run_complex_mul w t x y z u re im h]) (fun _ _ => .complex .nil)
theorem AOp.cplx {c : Call} {x y : Operand} {k : FloatKind} {i j : Nat} (ho : o.op = .call c) (hc : c.callee = .builtin .complex) (ha : c.args.toList = [x, y]) (hx : aev A.gl a x = some (.float k i)) (hy : aev A.gl a y = some (.float k j)) : AOp P n o a A (isR (.complex k i j) A) :=
  .val fun w0 N w β S ae hs he => by
    have e1 : c.args = #[x, y] := by rw [← Array.toArray_toList (xs := c.args), ha]
    have ex : ae.eval x = .float k i := by have := VRs.eq_of_noAddrs (aev_sound hs he hx) 8 rfl; simpa using this
    have ey : ae.eval y = .float k j := by have := VRs.eq_of_noAddrs (aev_sound hs he hy) 8 rfl; simpa using this
    refine ⟨.complex k i j, ?_, .complex .nil⟩
    rw [run_builtin_value ho hc]
    simp only [builtin, e1, List.map_toArray, List.map_cons, List.map_nil, ex, ey]
    simp [run_complex]
theorem AOp.creal {c : Call} {x : Operand} {k : FloatKind} {i j : Nat} (ho : o.op = .call c) (hc : c.callee = .builtin .real) (ha : c.args.toList = [x]) (hx : aev A.gl a x = some (.complex k i j)) : AOp P n o a A (isR (.float k i) A) :=
  .val fun w0 N w β S ae hs he => by
    have e1 : c.args = #[x] := by rw [← Array.toArray_toList (xs := c.args), ha]
    have ex : ae.eval x = .complex k i j := by have := VRs.eq_of_noAddrs (aev_sound hs he hx) 8 rfl; simpa using this
    refine ⟨.float k i, ?_, .float .nil⟩
    rw [run_builtin_value ho hc]
    simp only [builtin, e1, List.map_toArray, List.map_cons, List.map_nil, ex]
    simp [run_real]
theorem AOp.cimag {c : Call} {x : Operand} {k : FloatKind} {i j : Nat} (ho : o.op = .call c) (hc : c.callee = .builtin .imag) (ha : c.args.toList = [x]) (hx : aev A.gl a x = some (.complex k i j)) : AOp P n o a A (isR (.float k j) A) :=
  .val fun w0 N w β S ae hs he => by
    have e1 : c.args = #[x] := by rw [← Array.toArray_toList (xs := c.args), ha]
    have ex : ae.eval x = .complex k i j := by have := VRs.eq_of_noAddrs (aev_sound hs he hx) 8 rfl; simpa using this
    refine ⟨.float k j, ?_, .float .nil⟩
    rw [run_builtin_value ho hc]
    simp only [builtin, e1, List.map_toArray, List.map_cons, List.map_nil, ex]
    simp [run_imag]
theorem GO.intFloat {s d : TypeId} {x : Operand} {k : IntKind} {i : Int} {u : TypeDesc} (ho : o.op = .convert s d x) (hx : aev gl a x = some (.int k i)) (hs : P.underlying s = some u) (hd : P.underlying d = some (.float .f64)) : GO P n o a L nx ro gl (isR (.float .f64 (FloatKind.f64.nearest i)) (AW.of L nx ro gl)) := ⟨AOp.intFloat ho hx hs hd⟩
theorem GO.floatInt {s d : TypeId} {x : Operand} {b : Nat} {i : Int} {u : TypeDesc} (ho : o.op = .convert s d x) (hx : aev gl a x = some (.float .f64 b)) (hs : P.underlying s = some u) (hd : P.underlying d = some (.int .i64)) (hi : FRep b i) (hr : -9223372036854775808 ≤ i ∧ i ≤ 9223372036854775807) : GO P n o a L nx ro gl (isR (.int .i64 i) (AW.of L nx ro gl)) := ⟨AOp.floatInt ho hx hs hd hi hr⟩
theorem GO.cmul {x y z u re im : Nat} (ho : o.op = .binOp .mul t X Y t2) (hx : aev gl a X = some (.complex .f64 x y)) (hy : aev gl a Y = some (.complex .f64 z u)) (h : cMulBits x y z u = some (re, im)) : GO P n o a L nx ro gl (isR (.complex .f64 re im) (AW.of L nx ro gl)) := ⟨AOp.cmul ho hx hy h⟩
theorem GO.cplx {c : Call} {x y : Operand} {k : FloatKind} {i j : Nat} (ho : o.op = .call c) (hc : c.callee = .builtin .complex) (ha : c.args.toList = [x, y]) (hx : aev gl a x = some (.float k i)) (hy : aev gl a y = some (.float k j)) : GO P n o a L nx ro gl (isR (.complex k i j) (AW.of L nx ro gl)) := ⟨AOp.cplx ho hc ha hx hy⟩
theorem GO.creal {c : Call} {x : Operand} {k : FloatKind} {i j : Nat} (ho : o.op = .call c) (hc : c.callee = .builtin .real) (ha : c.args.toList = [x]) (hx : aev gl a x = some (.complex k i j)) : GO P n o a L nx ro gl (isR (.float k i) (AW.of L nx ro gl)) := ⟨AOp.creal ho hc ha hx⟩
theorem GO.cimag {c : Call} {x : Operand} {k : FloatKind} {i j : Nat} (ho : o.op = .call c) (hc : c.callee = .builtin .imag) (ha : c.args.toList = [x]) (hx : aev gl a x = some (.complex k i j)) : GO P n o a L nx ro gl (isR (.float k j) (AW.of L nx ro gl)) := ⟨AOp.cimag ho hc ha hx⟩
end Go.M
namespace Go.M
open Go.RowKit
variable {P : Program} {w0 w w' w1 w2 : World} {N n m n0 : Nat} {β β' β1 β2 : Bet} {S S' S1 S2 : Nat → Prop} {A A' A1 A2 : AW} {L : LM}
/-- A call that makes one flat object: what is known of its cells is 'Φ'; the result 'v2' names it by the next name. -/
theorem AC.givesR {f : FuncId} {args args2 : List Value} {k G : Nat} {Φ : List Value → Prop} {e : TypeId} {v2 : Value} (ρ : Nat → Option (Nat × Nat))
    (h : AC P f args (AW.of L k k G) (fun v A1 => ∃ nm cs, A1.objs nm = some (.cells cs e) ∧ k ≤ nm ∧ (∃ j, noAddrs j cs = true) ∧ Φ cs ∧ AR (fun j => if j = A.next then some (nm, 0) else none) [v2] [v]))
    (hk : ∀ j x, ρ j = some x → j < k) (hd : ∀ j, alook L j = none → ρ j = none) (hL : ∀ j o, alook L j = some o → j < k ∧ ∃ x, ρ j = some x ∧ objIn A x.1 x.2 o) (ha : AR ρ args args2)
    (hgl : G = 0 ∨ (A.gl = G ∧ (∀ g, g < G → ρ g = some (g, 0)) ∧ G ≤ k)) : AC P f args2 A (fun v A1 => ∃ cs, Φ cs ∧ v = v2 ∧ A1 = A.push (.cells cs e)) := by
  intro w0 N w β S args' hs hv
  have hsm : Sim P w w.heap.size (M.small ρ k β) (fun j => j < k) (AW.of L k k G) w := by
    rcases hgl with rfl | ⟨h1, h2, h3⟩
    · exact hs.small hk hd hL
    · exact hs.smallG hk hd hL h1 h2 h3
  refine Calls.mono (h w w.heap.size w _ _ args' hsm (ha.vrs hk hv)) fun en w1 he => ?_
  cases en with
  | panicked => exact he
  | outgrown => exact he
  | returned v' =>
    obtain ⟨β1, S1, v, A1, h1, h2, nm, cs, hob, hnm, ⟨j, hj⟩, hΦ, har⟩ := he
    obtain ⟨L1, hb1, cs', e', fz, g1, g2, g3, g4, g5⟩ := h1.sim.live nm _ hob
    have hro : A1.ro ≤ nm := by rw [h1.ro]; exact hnm
    have hblk := h1.sim.hi nm L1 hro hb1
    have e4 := VRs.eq_of_noAddrs g4 j hj
    have hagain := hs.again h1.sim.below
    have hcl := hagain.claim (w' := w1) (.cells cs e) L1 (fun i L' hi => by have := hs.blk_lt hi; omega) (by have := hs.size_le; omega) hagain.below (fun _ _ _ => rfl)
      ⟨cs', e', fz, g1, g2, g3, by rw [e4]; exact VRs.refl_of_noAddrs j _ hj, fun _ => g5 (by simp [hro])⟩
    refine ⟨_, _, _, _, ⟨hcl.1, hcl.2.near, by show A.next ≤ A.next + 1; omega, rfl, rfl⟩, har.vrsTo (fun j x hx => ?_) h2, cs, hΦ, rfl, rfl⟩
    split at hx
    · rename_i q
      subst q
      cases hx
      exact ⟨rfl, by simp [hb1], fun _ => .inr rfl⟩
    · cases hx
end Go.M
