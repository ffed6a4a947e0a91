/- Part 18: the rules in the form in which they are used. -/
import Derived.Test.YtfhodefiknfccaaM17
set_option linter.unusedVariables false
set_option linter.unusedSimpArgs false
namespace Go.M
open Go.RowKit
variable {P : Program} {n m : Nat} {A A' A1 A2 A0 : AW} {a a1 a0 : AEnv} {Q Q' : AQ} {R : Value → AW → Prop} {rs : List ResultVar}
variable {ops : Array Oper} {rest : List Oper} {o : Oper} {c : Operand} {x y : Code} {p : Prop} {L L' : LM} {nx nx' ro gl : Nat}

structure GT (P : Program) (n m : Nat) (c : Code) (a : AEnv) (L : LM) (nx ro gl : Nat) (Q : AQ) : Prop where
  run : AT P n m c a (AW.of L nx ro gl) Q
structure GL (P : Program) (n m : Nat) (ops : Array Oper) (rest : List Oper) (a : AEnv) (L : LM) (nx ro gl : Nat) (Q : AQ) : Prop where
  run : AL P n m ops rest a (AW.of L nx ro gl) Q
structure GP (Q : AQ) (e : Exit) (a : AEnv) (L : LM) (nx ro gl : Nat) : Prop where
  run : Q e a (AW.of L nx ro gl)
structure GO (P : Program) (n : Nat) (o : Oper) (a : AEnv) (L : LM) (nx ro gl : Nat) (R : Value → AW → Prop) : Prop where
  run : AOp P n o a (AW.of L nx ro gl) R

/-- Then the code 'y'. -/
def GThen (P : Program) (n m ro gl : Nat) (y : Code) (Q : AQ) : AQ := AThen (fun a A => ∃ L nx, A = AW.of L nx ro gl ∧ GT P n m y a L nx ro gl Q) Q

theorem AC.go {f : FuncId} {fn : Func} {body : Code} {args : List Value} (hf : P.funcs[f]? = some fn) (hb : fn.body = some body) (hl : Nat.ble args.length fn.ntmps = true)
    (h : GT P fn.ntmps nx body (argEnv 0 args) L nx ro gl (AEnd P fn.results.toList R)) : AC P f args (AW.of L nx ro gl) R := AC.start hf hb hl h.run

theorem GT.seq (h : GT P n m x a L nx ro gl (GThen P n m ro gl y Q)) : GT P n m (.seq x y) a L nx ro gl Q :=
  ⟨AT.seq (AT.mono h.run fun e a A q => by
    cases e with
    | normal => obtain ⟨L, nx, rfl, hg⟩ := q; exact hg.run
    | exit id => exact q
    | goto l => exact q
    | ret => exact q
    | panic ch => exact q
    | outgrown => exact q)⟩
theorem GP.thenN (h : GT P n m y a L nx ro gl Q) : GP (GThen P n m ro gl y Q) .normal a L nx ro gl := ⟨⟨L, nx, rfl, h⟩⟩
theorem GP.thenR {ro' gl' : Nat} (h : GP Q .ret a L nx ro gl) : GP (GThen P n m ro' gl' y Q) .ret a L nx ro gl := ⟨h.run⟩
theorem GP.thenE {ro' gl' id : Nat} (h : GP Q (.exit id) a L nx ro gl) : GP (GThen P n m ro' gl' y Q) (.exit id) a L nx ro gl := ⟨h.run⟩
theorem GP.inN {id : Nat} (h : GP Q .normal a L nx ro gl) : GP (AIn id Q) .normal a L nx ro gl := ⟨h.run⟩
theorem GP.inR {id : Nat} (h : GP Q .ret a L nx ro gl) : GP (AIn id Q) .ret a L nx ro gl := ⟨h.run⟩
theorem GP.hit {id : Nat} (h : GP Q .normal a L nx ro gl) : GP (AIn id Q) (.exit id) a L nx ro gl := ⟨AIn.hit h.run⟩
theorem GP.miss {id id' : Nat} (hn : Nat.beq id' id = false) (h : GP Q (.exit id') a L nx ro gl) : GP (AIn id Q) (.exit id') a L nx ro gl :=
  ⟨AIn.miss (by have := Nat.ne_of_beq_eq_false hn; simpa using this) h.run⟩
theorem GP.endR1 {v : Value} (h1 : aresList P (AW.of L nx ro gl) a rs = some [v]) (h2 : R v (AW.of L nx ro gl)) : GP (AEnd P rs R) .ret a L nx ro gl := ⟨⟨v, by unfold ares; rw [h1]; rfl, h2⟩⟩
theorem GP.endR2 {v u : Value} (h1 : aresList P (AW.of L nx ro gl) a rs = some [v, u]) (h2 : R (.tuple #[v, u]) (AW.of L nx ro gl)) : GP (AEnd P rs R) .ret a L nx ro gl := ⟨⟨_, by unfold ares; rw [h1]; rfl, h2⟩⟩
theorem GP.endR3 {v u w : Value} (h1 : aresList P (AW.of L nx ro gl) a rs = some [v, u, w]) (h2 : R (.tuple #[v, u, w]) (AW.of L nx ro gl)) : GP (AEnd P rs R) .ret a L nx ro gl := ⟨⟨_, by unfold ares; rw [h1]; rfl, h2⟩⟩
theorem GP.endN1 {v : Value} (h1 : aresList P (AW.of L nx ro gl) a rs = some [v]) (h2 : R v (AW.of L nx ro gl)) : GP (AEnd P rs R) .normal a L nx ro gl := ⟨⟨v, by unfold ares; rw [h1]; rfl, h2⟩⟩
theorem GP.endN0 (h1 : aresList P (AW.of L nx ro gl) a rs = some []) (h2 : R (.tuple #[]) (AW.of L nx ro gl)) : GP (AEnd P rs R) .normal a L nx ro gl := ⟨⟨_, by unfold ares; rw [h1]; rfl, h2⟩⟩
theorem GP.endR0 (h1 : aresList P (AW.of L nx ro gl) a rs = some []) (h2 : R (.tuple #[]) (AW.of L nx ro gl)) : GP (AEnd P rs R) .ret a L nx ro gl := ⟨⟨_, by unfold ares; rw [h1]; rfl, h2⟩⟩

theorem GT.skip (h : GP Q .normal a L nx ro gl) : GT P n m .skip a L nx ro gl Q := ⟨AT.skip h.run⟩
theorem GT.ret (h : GP Q .ret a L nx ro gl) : GT P n m .ret a L nx ro gl Q := ⟨AT.ret h.run⟩
theorem GT.exit {id : Nat} (h : GP Q (.exit id) a L nx ro gl) : GT P n m (.exit id) a L nx ro gl Q := ⟨AT.exit h.run⟩
theorem GT.label {l : Nat} (h : GP Q .normal a L nx ro gl) : GT P n m (.label l) a L nx ro gl Q := ⟨AT.label h.run⟩
theorem GT.block {id : Nat} {c : Code} (h : GT P n m c a L nx ro gl (AIn id Q)) : GT P n m (.block id c) a L nx ro gl Q := ⟨AT.block h.run⟩
theorem GT.region {id : Nat} {l : List Oper} (h : GL P n m l.toArray l a L nx ro gl Q) : GT P n m (.region id l.toArray false) a L nx ro gl Q := ⟨AT.region h.run⟩
theorem GT.condT (hc : aev gl a c = some (.bool true)) (h : GT P n m x a L nx ro gl Q) : GT P n m (.cond c x y) a L nx ro gl Q := ⟨AT.cond hc (fun _ => h.run) (fun h => by cases h)⟩
theorem GT.condF (hc : aev gl a c = some (.bool false)) (h : GT P n m y a L nx ro gl Q) : GT P n m (.cond c x y) a L nx ro gl Q := ⟨AT.cond hc (fun h => by cases h) (fun _ => h.run)⟩
theorem GT.condD [Decidable p] (hc : aev gl a c = some (.bool (decide p))) (h1 : p → GT P n m x a L nx ro gl Q) (h2 : ¬p → GT P n m y a L nx ro gl Q) : GT P n m (.cond c x y) a L nx ro gl Q :=
  ⟨AT.cond hc (fun h => (h1 (of_decide_eq_true h)).run) (fun h => (h2 (of_decide_eq_false h)).run)⟩
theorem GT.condN [Decidable p] (hc : aev gl a c = some (.bool (!decide p))) (h1 : ¬p → GT P n m x a L nx ro gl Q) (h2 : p → GT P n m y a L nx ro gl Q) : GT P n m (.cond c x y) a L nx ro gl Q :=
  ⟨AT.cond hc (fun h => (h1 (by simpa using h)).run) (fun h => (h2 (by simpa using h)).run)⟩
theorem GT.condB {t : Bool} (hc : aev gl a c = some (.bool t)) (h1 : t = true → GT P n m x a L nx ro gl Q) (h2 : t = false → GT P n m y a L nx ro gl Q) : GT P n m (.cond c x y) a L nx ro gl Q :=
  ⟨AT.cond hc (fun h => (h1 h).run) (fun h => (h2 h).run)⟩

/-- So many rounds at most. -/
def GR (P : Program) (n m ro gl : Nat) (c : Code) (Q : AQ) : Nat → AEnv → LM → Nat → Prop
  | 0, _, _, _ => False
  | k + 1, a, L, nx => GT P n m c a L nx ro gl (AThen (fun a A => ∃ L nx, A = AW.of L nx ro gl ∧ GR P n m ro gl c Q k a L nx) Q)
theorem GR.rounds {c : Code} : ∀ {k : Nat} {a : AEnv} {L : LM} {nx : Nat}, GR P n m ro gl c Q k a L nx → ARounds P n m c Q k a (AW.of L nx ro gl)
  | 0, _, _, _, h => h
  | k + 1, a, L, nx, h => AT.mono (GT.run h) fun e a A q => by
    cases e with
    | normal => obtain ⟨L, nx, rfl, hg⟩ := q; exact GR.rounds hg
    | exit id => exact q
    | goto l => exact q
    | ret => exact q
    | panic ch => exact q
    | outgrown => exact q
/-- The loop, unrolled: 'k' rounds are left. -/
structure GU (P : Program) (n m ro gl : Nat) (c : Code) (Q : AQ) (k : Nat) (a : AEnv) (L : LM) (nx : Nat) : Prop where
  run : GR P n m ro gl c Q k a L nx
def GAgain (P : Program) (n m ro gl : Nat) (c : Code) (k : Nat) (Q : AQ) : AQ := AThen (fun a A => ∃ L nx, A = AW.of L nx ro gl ∧ GR P n m ro gl c Q k a L nx) Q
theorem GT.unroll {c : Code} (k : Nat) (h : GU P n m ro gl c Q k a L nx) : GT P n m (.loop c) a L nx ro gl Q := ⟨AT.rounds k h.run.rounds⟩
theorem GU.step {c : Code} {k : Nat} (h : GT P n m c a L nx ro gl (GAgain P n m ro gl c k Q)) : GU P n m ro gl c Q (k + 1) a L nx := ⟨h⟩
theorem GP.againN {c : Code} {k : Nat} (h : GU P n m ro gl c Q k a L nx) : GP (GAgain P n m ro gl c k Q) .normal a L nx ro gl := ⟨⟨L, nx, rfl, h.run⟩⟩
theorem GP.againR {ro' gl' k : Nat} {c : Code} (h : GP Q .ret a L nx ro gl) : GP (GAgain P n m ro' gl' c k Q) .ret a L nx ro gl := ⟨h.run⟩
theorem GP.againE {ro' gl' k id : Nat} {c : Code} (h : GP Q (.exit id) a L nx ro gl) : GP (GAgain P n m ro' gl' c k Q) (.exit id) a L nx ro gl := ⟨h.run⟩

/-- A loop by an invariant with a number. -/
def GInv (ro gl : Nat) (I : Nat → AEnv → LM → Nat → Prop) (k : Nat) (Q : AQ) : AQ := AThen (fun a A => ∃ k', k' < k ∧ ∃ L nx, A = AW.of L nx ro gl ∧ I k' a L nx) Q
theorem GT.loop {c : Code} (I : Nat → AEnv → LM → Nat → Prop) (k0 : Nat) (h0 : I k0 a L nx) (round : ∀ k a L nx, I k a L nx → GT P n m c a L nx ro gl (GInv ro gl I k Q)) : GT P n m (.loop c) a L nx ro gl Q :=
  ⟨AT.loop (fun k a A => ∃ L nx, A = AW.of L nx ro gl ∧ I k a L nx) k0 ⟨L, nx, rfl, h0⟩ fun k a A ⟨L, nx, hA, hI⟩ => hA ▸ (round k a L nx hI).run⟩
theorem GP.invN {I : Nat → AEnv → LM → Nat → Prop} {k : Nat} (k' : Nat) (hk : k' < k) (h : I k' a L nx) : GP (GInv ro gl I k Q) .normal a L nx ro gl := ⟨⟨k', hk, L, nx, rfl, h⟩⟩
theorem GP.invR {ro' gl' k : Nat} {I : Nat → AEnv → LM → Nat → Prop} (h : GP Q .ret a L nx ro gl) : GP (GInv ro' gl' I k Q) .ret a L nx ro gl := ⟨h.run⟩
theorem GP.invE {ro' gl' k id : Nat} {I : Nat → AEnv → LM → Nat → Prop} (h : GP Q (.exit id) a L nx ro gl) : GP (GInv ro' gl' I k Q) (.exit id) a L nx ro gl := ⟨h.run⟩

/-! ### Operations -/
theorem okD {n d : Nat} {o : Oper} (hd : o.dst = some d) (hn : Nat.ble (d + 1) n = true) : okDst n o.dst = true := by rw [hd]; simp only [okDst, decide_eq_true_eq]; exact Nat.le_of_ble_eq_true hn
theorem GL.done (h : GP Q .normal a L nx ro gl) : GL P n m ops [] a L nx ro gl Q := ⟨AL.done h.run⟩
theorem GL.v {d : Tmp} {v : Value} (hg : o.guard = none) (hd : o.dst = some d) (hn : Nat.ble (d + 1) n = true) (h : GO P n o a L nx ro gl (isR v (AW.of L' nx' ro gl))) (k : GL P n m ops rest ((d, v) :: a) L' nx' ro gl Q) : GL P n m ops (o :: rest) a L nx ro gl Q :=
  ⟨AL.op1 hg (okD hd hn) h.run (by rw [hd]; exact k.run)⟩
theorem GL.sv {d : Tmp} {v : Value} (hg : o.guard = none) (hd : o.dst = some d) (hn : Nat.ble (d + 1) n = true) (h : astep P o a L nx ro gl = some (v, L', nx')) (k : GL P n m ops rest ((d, v) :: a) L' nx' ro gl Q) : GL P n m ops (o :: rest) a L nx ro gl Q :=
  GL.v hg hd hn ⟨astep_sound h⟩ k
theorem GL.sf {d : Tmp} {v : Value} (hg : o.guard = none) (hd : o.dst = some d) (hn : Nat.ble (d + 1) n = true) (h : astepF P o a L nx ro gl = some (v, L', nx')) (k : GL P n m ops rest ((d, v) :: a) L' nx' ro gl Q) : GL P n m ops (o :: rest) a L nx ro gl Q :=
  GL.v hg hd hn ⟨astepF_sound h⟩ k
theorem GL.sn (hg : o.guard = none) (hd : o.dst = none) (h : nstep P o a L nx ro gl = some L') (k : GL P n m ops rest a L' nx ro gl Q) : GL P n m ops (o :: rest) a L nx ro gl Q :=
  ⟨AL.op1 hg (by rw [hd]; rfl) (nstep_sound h) (by rw [hd]; exact k.run)⟩
theorem GL.nf (hg : o.guard = none) (hd : o.dst = none) (h : nstepF P o a L nx ro gl = some L') (k : GL P n m ops rest a L' nx ro gl Q) : GL P n m ops (o :: rest) a L nx ro gl Q := GL.sn hg hd (nstepF_eq h) k
/-- A call, of whose outcome only a property is known. -/
theorem GL.any {d : Tmp} (hg : o.guard = none) (hd : o.dst = some d) (hn : Nat.ble (d + 1) n = true) (h : GO P n o a L nx ro gl R) (k : ∀ v A1, R v A1 → ∃ L' nx', A1 = AW.of L' nx' ro gl ∧ GL P n m ops rest ((d, v) :: a) L' nx' ro gl Q) : GL P n m ops (o :: rest) a L nx ro gl Q :=
  ⟨AL.op hg (okD hd hn) h.run fun v A1 hr => by obtain ⟨L', nx', rfl, hk⟩ := k v A1 hr; rw [hd]; exact hk.run⟩

theorem GL.unguard {dst : Option Tmp} {op : Op} {t : TypeId} {pos : String} {aft : Array Edge} {j : Nat} {b : Bool} {d : Tmp} (hj : (ops[j]?).bind (·.dst) = some d) (ha : aget a d = some (.bool b))
    (h : GL P n m ops (⟨dst, op, t, pos, aft, none⟩ :: rest) a L nx ro gl Q) : GL P n m ops (⟨dst, op, t, pos, aft, some (j, b)⟩ :: rest) a L nx ro gl Q := by
  refine ⟨fun w0 N w β S ae hm hs he => ?_⟩
  have hw : Region.wanted (⟨dst, op, t, pos, aft, some (j, b)⟩ : Oper) (yielded ops ae.tmps) = true := by simp [Region.wanted, yielded_of hj ha he]
  have := h.run w0 N w β S ae hm hs he
  unfold wpList at this ⊢
  rw [if_pos (by simp [Region.wanted])] at this
  rw [if_pos hw]
  have upon : ∀ K Z r, Oper.upon P (⟨dst, op, t, pos, aft, none⟩ : Oper) ae K Z r = Oper.upon P (⟨dst, op, t, pos, aft, some (j, b)⟩ : Oper) ae K Z r := by
    intro K Z r
    cases r with
    | ok x w' => cases x <;> rfl
    | halt x w' => cases x <;> rfl
  rcases this with h | ⟨h, hl⟩
  · left
    unfold Oper.wp at h ⊢
    rw [upon] at h
    exact h
  · exact .inr ⟨h, hl⟩
theorem GL.skip {dst : Option Tmp} {op : Op} {t : TypeId} {pos : String} {aft : Array Edge} {j e : Nat} {b : Bool} {d : Tmp} (hj : (ops[j]?).bind (·.dst) = some d) (ha : aget a d = some (.bool (!b))) (he : dst = some e) (hn : Nat.ble (e + 1) n = true)
    (h : GL P n m ops rest ((e, undef) :: a) L nx ro gl Q) : GL P n m ops (⟨dst, op, t, pos, aft, some (j, b)⟩ :: rest) a L nx ro gl Q :=
  ⟨AL.off (o := ⟨dst, op, t, pos, aft, some (j, b)⟩) rfl hj ha (okD he hn) (by rw [he]; exact h.run)⟩
theorem GL.skipU {dst : Option Tmp} {op : Op} {t : TypeId} {pos : String} {aft : Array Edge} {j e : Nat} {b : Bool} {d : Tmp} (hj : (ops[j]?).bind (·.dst) = some d) (ha : aget a d = some undef) (he : dst = some e) (hn : Nat.ble (e + 1) n = true)
    (h : GL P n m ops rest ((e, undef) :: a) L nx ro gl Q) : GL P n m ops (⟨dst, op, t, pos, aft, some (j, b)⟩ :: rest) a L nx ro gl Q := by
  refine ⟨fun w0 N w β S ae hm hs her => ?_⟩
  have hy : yielded ops ae.tmps j = none := by
    obtain ⟨v', e1, r⟩ := her.get d _ ha
    cases r
    simp [yielded, hj, e1]
  unfold wpList
  rw [if_neg (by simp [Region.wanted, hy])]
  refine h.run w0 N w β S _ hm hs ?_
  have := her.put (d := dst) (v := undef) (v' := undef) (okD (o := ⟨dst, op, t, pos, aft, some (j, b)⟩) he hn) (.tuple .nil .nil)
  rw [he] at this ⊢
  exact this
theorem ER.shadow {β : Bet} {S : Nat → Prop} {ae : Act} {d : Nat} {v : Value} (he : ER n β S a ae) (h : aget a d = some v) : ER n β S ((d, v) :: a) ae :=
  he.sub fun t u hu => by
    simp only [aget] at hu
    split at hu
    · rename_i e; subst e; cases hu; exact h
    · exact hu
theorem GL.shadow {d : Nat} {v : Value} (h : aget a d = some v) (k : GL P n m ops rest ((d, v) :: a) L nx ro gl Q) : GL P n m ops rest a L nx ro gl Q :=
  ⟨fun w0 N w β S ae hm hs he => k.run w0 N w β S ae hm hs (he.shadow h)⟩
theorem GT.shadow {d : Nat} {v : Value} {c : Code} (h : aget a d = some v) (k : GT P n m c ((d, v) :: a) L nx ro gl Q) : GT P n m c a L nx ro gl Q :=
  ⟨fun w0 N w β S ae hm hs he => k.run w0 N w β S ae hm hs (he.shadow h)⟩
/-- Fewer slots. -/
theorem GT.keep {a1 : AEnv} {c : Code} (h : asub a1 a) (k : GT P n m c a1 L nx ro gl Q) : GT P n m c a L nx ro gl Q :=
  ⟨fun w0 N w β S ae hm hs he => k.run w0 N w β S ae hm hs (he.sub h)⟩
/-- It is not known whether the guard holds: both ways; the slot that was asked is written anew. -/
theorem GL.forkD [Decidable p] {dst : Option Tmp} {op : Op} {t : TypeId} {pos : String} {aft : Array Edge} {j : Nat} {b : Bool} {d : Tmp} (hj : (ops[j]?).bind (·.dst) = some d) (ha : aget a d = some (.bool (decide p)))
    (h1 : p → GL P n m ops (⟨dst, op, t, pos, aft, some (j, b)⟩ :: rest) ((d, .bool true) :: a) L nx ro gl Q) (h2 : ¬p → GL P n m ops (⟨dst, op, t, pos, aft, some (j, b)⟩ :: rest) ((d, .bool false) :: a) L nx ro gl Q) :
    GL P n m ops (⟨dst, op, t, pos, aft, some (j, b)⟩ :: rest) a L nx ro gl Q := by
  by_cases q : p
  · exact GL.shadow (by rw [ha, decide_eq_true q]) (h1 q)
  · exact GL.shadow (by rw [ha, decide_eq_false q]) (h2 q)
theorem GL.forkN [Decidable p] {dst : Option Tmp} {op : Op} {t : TypeId} {pos : String} {aft : Array Edge} {j : Nat} {b : Bool} {d : Tmp} (hj : (ops[j]?).bind (·.dst) = some d) (ha : aget a d = some (.bool (!decide p)))
    (h1 : p → GL P n m ops (⟨dst, op, t, pos, aft, some (j, b)⟩ :: rest) ((d, .bool false) :: a) L nx ro gl Q) (h2 : ¬p → GL P n m ops (⟨dst, op, t, pos, aft, some (j, b)⟩ :: rest) ((d, .bool true) :: a) L nx ro gl Q) :
    GL P n m ops (⟨dst, op, t, pos, aft, some (j, b)⟩ :: rest) a L nx ro gl Q := by
  by_cases q : p
  · exact GL.shadow (by rw [ha, decide_eq_true q]; rfl) (h1 q)
  · exact GL.shadow (by rw [ha, decide_eq_false q]; rfl) (h2 q)
theorem GL.forkB {dst : Option Tmp} {op : Op} {t : TypeId} {pos : String} {aft : Array Edge} {j : Nat} {b u : Bool} {d : Tmp} (hj : (ops[j]?).bind (·.dst) = some d) (ha : aget a d = some (.bool u))
    (h1 : u = true → GL P n m ops (⟨dst, op, t, pos, aft, some (j, b)⟩ :: rest) ((d, .bool true) :: a) L nx ro gl Q) (h2 : u = false → GL P n m ops (⟨dst, op, t, pos, aft, some (j, b)⟩ :: rest) ((d, .bool false) :: a) L nx ro gl Q) :
    GL P n m ops (⟨dst, op, t, pos, aft, some (j, b)⟩ :: rest) a L nx ro gl Q := by
  cases u with
  | true => exact GL.shadow ha (h1 rfl)
  | false => exact GL.shadow ha (h2 rfl)

/-! ### Arithmetic, calls -/
variable {t t2 : TypeId} {X Y : Operand} {i j : Int} {k : IntKind}
theorem GO.add (ho : o.op = .binOp .add t X Y t2) (hx : aev gl a X = some (.int .i64 i)) (hy : aev gl a Y = some (.int .i64 j)) (h1 : -9223372036854775808 ≤ i + j ∧ i + j ≤ 9223372036854775807) : GO P n o a L nx ro gl (isR (.int .i64 (i + j)) (AW.of L nx ro gl)) := ⟨AOp.addI ho hx hy h1⟩
theorem GO.sub (ho : o.op = .binOp .sub t X Y t2) (hx : aev gl a X = some (.int .i64 i)) (hy : aev gl a Y = some (.int .i64 j)) (h1 : -9223372036854775808 ≤ i - j ∧ i - j ≤ 9223372036854775807) : GO P n o a L nx ro gl (isR (.int .i64 (i - j)) (AW.of L nx ro gl)) := ⟨AOp.subI ho hx hy h1⟩
theorem GO.mul (ho : o.op = .binOp .mul t X Y t2) (hx : aev gl a X = some (.int .i64 i)) (hy : aev gl a Y = some (.int .i64 j)) (h1 : -9223372036854775808 ≤ i * j ∧ i * j ≤ 9223372036854775807) : GO P n o a L nx ro gl (isR (.int .i64 (i * j)) (AW.of L nx ro gl)) := ⟨AOp.mulI ho hx hy h1⟩
theorem GO.neg (ho : o.op = .unOp .neg t X) (hx : aev gl a X = some (.int .i64 i)) (h1 : -9223372036854775808 ≤ -i ∧ -i ≤ 9223372036854775807) : GO P n o a L nx ro gl (isR (.int .i64 (-i)) (AW.of L nx ro gl)) := ⟨AOp.negI ho hx h1⟩
theorem GO.quo (ho : o.op = .binOp .quo t X Y t2) (hx : aev gl a X = some (.int .i64 i)) (hy : aev gl a Y = some (.int .i64 j)) (h1 : 0 < j) (h2 : 0 ≤ i ∧ i ≤ 9223372036854775807) : GO P n o a L nx ro gl (isR (.int .i64 (i / j)) (AW.of L nx ro gl)) := ⟨AOp.quoI ho hx hy h1 h2⟩
theorem GO.quoT (ho : o.op = .binOp .quo t X Y t2) (hx : aev gl a X = some (.int .i64 i)) (hy : aev gl a Y = some (.int .i64 j)) (h1 : 0 < j) (h2 : -9223372036854775808 ≤ i ∧ i ≤ 9223372036854775807) : GO P n o a L nx ro gl (isR (.int .i64 (i.tdiv j)) (AW.of L nx ro gl)) := ⟨AOp.quoT ho hx hy h1 h2⟩
theorem GO.rem (ho : o.op = .binOp .rem t X Y t2) (hx : aev gl a X = some (.int k i)) (hy : aev gl a Y = some (.int k j)) (h1 : 0 < j) (h2 : 0 ≤ i) : GO P n o a L nx ro gl (isR (.int k (i % j)) (AW.of L nx ro gl)) := ⟨AOp.remI ho hx hy h1 h2⟩
theorem GO.remT (ho : o.op = .binOp .rem t X Y t2) (hx : aev gl a X = some (.int k i)) (hy : aev gl a Y = some (.int k j)) (h1 : 0 < j) : GO P n o a L nx ro gl (isR (.int k (i.tmod j)) (AW.of L nx ro gl)) := ⟨AOp.remT ho hx hy h1⟩
theorem GO.conv {s d : TypeId} {k' : IntKind} (ho : o.op = .convert s d X) (hx : aev gl a X = some (.int k i)) (hs : P.underlying s = some (.int k)) (hd : P.underlying d = some (.int k')) (hw : k'.wrap i = i) : GO P n o a L nx ro gl (isR (.int k' i) (AW.of L nx ro gl)) := ⟨AOp.convI ho hx hs hd hw⟩
theorem GO.bytes {s d e : TypeId} {x : Operand} {b f l c : Nat} {ns : List Int} (ho : o.op = .convert s d x) (hx : aev gl a x = some (.slice (some ⟨b, f, none⟩) l c)) (hs : P.underlying s = some (.slice e)) (he : P.underlying e = some (.int .u8)) (hd : P.underlying d = some .string)
    (hr : (AW.of L nx ro gl).rd b f l = some (ns.map (Value.int .u8))) : GO P n o a L nx ro gl (isR (.string (bytesOf ns)) (AW.of L nx ro gl)) := ⟨AOp.bytesString ho hx hs he hd hr⟩
theorem GO.next {x : Operand} {vx v : Value} (ho : o.op = .next x true) (hx : aev gl a x = some vx) (h : anext (AW.of L nx ro gl) vx = some (v, A1)) : GO P n o a L nx ro gl (isR v A1) := ⟨AOp.next ho hx h⟩
theorem GO.call {c : Call} {f : FuncId} {fn : Func} {body : Code} {vs : List Value} (ho : o.op = .call c) (hc : c.callee = .value (.func f)) (hf : P.funcs[f]? = some fn) (hb : fn.body = some body) (hn : (fn.name == "runtime.NumGoroutine") = false)
    (ha : aevs gl a c.args.toList = some vs) (h : AC P f vs (AW.of L nx ro gl) R) : GO P n o a L nx ro gl R := ⟨AOp.call ho hc hf hb hn ha h⟩
theorem GO.callV {c : Call} {t : Operand} {f : FuncId} {fn : Func} {body : Code} {vs : List Value} {first captured : Array Value} (ho : o.op = .call c) (hc : c.callee = .value t) (ht : aev gl a t = some (.func (.func f) first captured)) (hf : P.funcs[f]? = some fn) (hb : fn.body = some body) (hn : (fn.name == "runtime.NumGoroutine") = false)
    (ha : aevs gl a c.args.toList = some vs) (h : AC P f (first.toList ++ vs ++ captured.toList) (AW.of L nx ro gl) R) : GO P n o a L nx ro gl R := ⟨AOp.callValue ho hc ht hf hb hn ha h⟩

/-! ### Places that are not numerals -/
theorem GO.indexS {len cap b f s : Nat} {e : TypeId} (ho : o.op = .indexAddr t X Y) (hx : aev gl a X = some (.slice (some ⟨b, f, none⟩) len cap)) (hy : aev gl a Y = some (.int k i)) (hu : P.underlying t = some (.slice e)) (hs : szOf P e = some s) (h : 0 ≤ i ∧ i < len) :
    GO P n o a L nx ro gl (isR (.pointer (some ⟨b, f + i.toNat * s, none⟩)) (AW.of L nx ro gl)) :=
  ⟨AOp.indexAddr ho hx hy (by unfold aindexAddr; rw [hu]; simp only [hs]; rw [if_pos h])⟩
theorem GO.indexA {len b f s : Nat} {e : TypeId} (ho : o.op = .indexAddr t X Y) (hx : aev gl a X = some (.pointer (some ⟨b, f, none⟩))) (hy : aev gl a Y = some (.int k i)) (hu : P.underlying t = some (.array len e)) (hs : szOf P e = some s) (h : 0 ≤ i ∧ i < len) :
    GO P n o a L nx ro gl (isR (.pointer (some ⟨b, f + i.toNat * s, none⟩)) (AW.of L nx ro gl)) :=
  ⟨AOp.indexAddr ho hx hy (by unfold aindexAddr; rw [hu]; simp only [hs]; rw [if_pos h])⟩
theorem GO.loadC {b f : Nat} {d : TypeDesc} {cs : List Value} {e : TypeId} {v : Value} (ho : o.op = .load t X) (hx : aev gl a X = some (.pointer (some ⟨b, f, none⟩))) (hu : P.underlying t = some d) (hd : isAggT d = false) (hb : alook L b = some (.cells cs e)) (hv : cs[f]? = some v) :
    GO P n o a L nx ro gl (isR v (AW.of L nx ro gl)) :=
  ⟨AOp.load ho hx (by
    unfold aload aloadAt
    simp only
    rw [hu]
    simp only [hd, Bool.false_eq_true, if_false]
    have hf := (List.getElem?_eq_some_iff.1 hv).1
    have hb' : (AW.of L nx ro gl).objs b = some (.cells cs e) := hb
    unfold AW.rd
    rw [hb']
    simp only
    rw [if_pos (by omega)]
    simp [List.head?_take, List.head?_drop, hv])⟩
theorem GO.loadG {b f s : Nat} {d : TypeDesc} {cs vs : List Value} {e : TypeId} (ho : o.op = .load t X) (hx : aev gl a X = some (.pointer (some ⟨b, f, none⟩))) (hu : P.underlying t = some d) (hd : isAggT d = true) (hs : szOf P t = some s) (hb : alook L b = some (.cells cs e)) (hfit : f + s ≤ cs.length) (hv : (cs.drop f).take s = vs) :
    GO P n o a L nx ro gl (isR (.agg vs.toArray) (AW.of L nx ro gl)) :=
  ⟨AOp.load ho hx (by
    unfold aload aloadAt
    simp only
    rw [hu]
    simp only [hd, if_true, hs, Option.bind_some]
    have hb' : (AW.of L nx ro gl).objs b = some (.cells cs e) := hb
    unfold AW.rd
    rw [hb']
    simp only
    rw [if_pos hfit, hv]
    rfl)⟩
theorem asub_nil : asub [] a := fun _ _ h => by cases h
theorem asub_cons {d : Nat} {v : Value} {r : AEnv} (h : aget a d = some v) (hr : asub r a) : asub ((d, v) :: r) a := fun t u hu => by
  simp only [aget] at hu
  split at hu
  · rename_i e; subst e; cases hu; exact h
  · exact hr t u hu
end Go.M
