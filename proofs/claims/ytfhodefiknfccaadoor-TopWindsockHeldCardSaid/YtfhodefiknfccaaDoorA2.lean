/- Part of the abstract machine of this claim (no condition). -/
import Derived.Deep.LoopGhost
import Derived.LoopN
import Derived.Sort.LoopGhostIn
import Derived.TacticsIn
import Derived.OrdersIn
import Derived.Laws.StructEq
import Derived.Test.YtfhodefiknfccaaDoorA1
set_option linter.unusedVariables false
set_option linter.unusedSimpArgs false
namespace Go.M
open Go.RowKit

/-! ### The environment -/
def aput (a : AEnv) : Option Tmp → Value → AEnv
  | some d, v => (d, v) :: a
  | none, _ => a
def aev (gl : Nat) (a : AEnv) : Operand → Option Value
  | .tmp t => aget a t
  | .const v => if noAddrs 64 [v] then some v else none
  | .func f => some (.func (.func f) #[] #[])
  | .global g => if g < gl then some (.pointer (some ⟨g, 0, none⟩)) else none

variable {P : Program} {w0 w w' w1 w2 : World} {N n m : Nat} {β β' β1 β2 : Bet} {S S' S1 S2 : Nat → Prop} {A A' A1 A2 : AW} {a a1 : AEnv} {ae : Act}

structure ER (n : Nat) (β : Bet) (S : Nat → Prop) (a : AEnv) (ae : Act) : Prop where
  size : ae.tmps.size = n
  defers : ae.defers = []
  get : ∀ t v, aget a t = some v → ∃ v', ae.tmps[t]? = some v' ∧ VR β S v v'

theorem aev_sound (h : Sim P w0 N β S A w) (e : ER n β S a ae) {x : Operand} {v : Value} (hx : aev A.gl a x = some v) : VR β S v (ae.eval x) := by
  cases x with
  | tmp t =>
    obtain ⟨v', e1, r⟩ := e.get t v hx
    simp [Act.eval, e1]; exact r
  | const u =>
    simp only [aev] at hx
    split at hx
    · rename_i hn; cases hx; exact VRs.refl_of_noAddrs _ _ hn
    · cases hx
  | func f => cases hx; exact .func (by simp) .nil .nil .nil
  | global g =>
    simp only [aev] at hx
    split at hx
    · rename_i hg
      cases hx
      obtain ⟨hs, L, hb, e1, e2⟩ := h.glob g hg
      have := VRs.ptr (o := 0) hs hb (.nil : VRs β S [] [])
      rw [e1, e2] at this
      exact this
    · cases hx

/-! ### Worlds one behind the other -/
structure Near (m : Nat) (β : Bet) (S : Nat → Prop) (β1 : Bet) (S1 : Nat → Prop) : Prop where
  at_ : ∀ i, i < m → S i → β1 i = β i ∨ β1 i = none
  sub : ∀ i, i < m → S i → S1 i
  new : ∀ i, i < m → S1 i → S i
theorem Near.refl (m : Nat) (β : Bet) (S : Nat → Prop) : Near m β S β S := ⟨fun _ _ _ => .inl rfl, fun _ _ h => h, fun _ _ h => h⟩
theorem Near.trans {k : Nat} (h : Near m β S β1 S1) (g : Near k β1 S1 β2 S2) (hk : m ≤ k) : Near m β S β2 S2 :=
  ⟨fun i hi hs => by
    rcases g.at_ i (by omega) (h.sub i hi hs) with e | e
    · rw [e]; exact h.at_ i hi hs
    · exact .inr e, fun i hi hs => g.sub i (by omega) (h.sub i hi hs), fun i hi hs => h.new i hi (g.new i (by omega) hs)⟩
theorem Ext.near (h : Ext m β S β1 S1) : Near m β S β1 S1 := ⟨fun i _ hs => h.at_ i hs, fun i _ hs => h.sub i hs, fun i hi hs => (h.new i hs).resolve_right (by omega)⟩

structure Aft (P : Program) (w0 : World) (N m : Nat) (β : Bet) (S : Nat → Prop) (A : AW) (β1 : Bet) (S1 : Nat → Prop) (A1 : AW) (w1 : World) : Prop where
  sim : Sim P w0 N β1 S1 A1 w1
  near : Near m β S β1 S1
  next : m ≤ A1.next
  ro : A1.ro = A.ro
  gl : A1.gl = A.gl

theorem Aft.refl (h : Sim P w0 N β S A w) (hm : m ≤ A.next) : Aft P w0 N m β S A β S A w := ⟨h, .refl _ _ _, hm, rfl, rfl⟩
theorem Aft.trans {k : Nat} (h : Aft P w0 N m β S A β1 S1 A1 w1) (g : Aft P w0 N k β1 S1 A1 β2 S2 A2 w2) (hk : m ≤ k) : Aft P w0 N m β S A β2 S2 A2 w2 :=
  ⟨g.sim, h.near.trans g.near hk, Nat.le_trans hk g.next, g.ro.trans h.ro, g.gl.trans h.gl⟩
theorem Done.aft {v v' : Value} (h : Done P w0 N β S A w v A1 v' w1) : ∃ β1 S1, Aft P w0 N A.next β S A β1 S1 A1 w1 ∧ VR β1 S1 v v' := by
  obtain ⟨β1, S1, h1, h2, _, h4, h5, h6, h7⟩ := h.out
  exact ⟨β1, S1, ⟨h1, h2.near, h5, h6, h7⟩, h4⟩

theorem Near.VRs (h : Near m β S β1 S1) (hm : ∀ i, S i → i < m) {vs vs' : List Value} (k : VRs β S vs vs') : VRs β1 S1 vs vs' :=
  k.mono (fun i hi => h.at_ i (hm i hi) hi) (fun i hi => h.sub i (hm i hi) hi)

theorem ER.near (e : ER n β S a ae) (h : Near m β S β1 S1) (hm : ∀ i, S i → i < m) : ER n β1 S1 a ae :=
  ⟨e.size, e.defers, fun t v hv => let ⟨v', e1, r⟩ := e.get t v hv; ⟨v', e1, h.VRs hm r⟩⟩

def okDst (n : Nat) : Option Tmp → Bool
  | some d => decide (d < n)
  | none => true
theorem ER.put (e : ER n β S a ae) {d : Option Tmp} (hd : okDst n d = true) {v v' : Value} (hv : VR β S v v') : ER n β S (aput a d v) (ae.put d v') := by
  cases d with
  | none => exact e
  | some d =>
    simp only [okDst, decide_eq_true_eq] at hd
    refine ⟨by simp [Act.put, e.size], e.defers, fun t u hu => ?_⟩
    simp only [aput, aget] at hu
    by_cases q : d = t
    · subst q
      simp only [if_true] at hu
      cases hu
      exact ⟨v', by simp [Act.put, e.size, hd], hv⟩
    · rw [if_neg q] at hu
      obtain ⟨u', e1, r⟩ := e.get t u hu
      exact ⟨u', by simp only [Act.put]; rw [Array.getElem?_setIfInBounds]; simp [q, e1], r⟩

/-- Fewer slots. -/
def asub (a a1 : AEnv) : Prop := ∀ t v, aget a t = some v → aget a1 t = some v
theorem ER.sub (e : ER n β S a1 ae) (h : asub a a1) : ER n β S a ae := ⟨e.size, e.defers, fun t v hv => e.get t v (h t v hv)⟩

/-! ### Postconditions -/
abbrev AQ := Exit → AEnv → AW → Prop
def Lift (P : Program) (w0 : World) (N n m : Nat) (β : Bet) (S : Nat → Prop) (A : AW) (Q : AQ) : Exit → Act → World → Prop := fun e ae w1 =>
  ∃ β1 S1 a1 A1, Aft P w0 N m β S A β1 S1 A1 w1 ∧ ER n β1 S1 a1 ae ∧ Q e a1 A1

theorem Lift.trans {k : Nat} {Q : AQ} {e : Exit} (h : Aft P w0 N m β S A β1 S1 A1 w1) (hk : m ≤ k) (g : Lift P w0 N n k β1 S1 A1 Q e ae w2) : Lift P w0 N n m β S A Q e ae w2 := by
  obtain ⟨β2, S2, a2, A2, h1, h2, h3⟩ := g
  exact ⟨β2, S2, a2, A2, h.trans h1 hk, h2, h3⟩

/-- No bound on anything; a frame of its own, or that of a round of a range over a function. -/
abbrev FR (r : Option Nat) : Fence := { fn := fun _ => True, depth := none, alive := false, round := r }
/-- A piece of code, from an environment and a memory. -/
def AT (P : Program) (n m : Nat) (c : Code) (a : AEnv) (A : AW) (Q : AQ) : Prop :=
  ∀ (r : Option Nat) (w0 : World) (N : Nat) (w : World) (β : Bet) (S : Nat → Prop) (ae : Act), m ≤ A.next → Sim P w0 N β S A w → ER n β S a ae → c.wpIn (FR r) 0 P (Lift P w0 N n m β S A Q) ae w
/-- The rest of a region. -/
def AL (P : Program) (n m : Nat) (ops : Array Oper) (rest : List Oper) (a : AEnv) (A : AW) (Q : AQ) : Prop :=
  ∀ (r : Option Nat) (w0 : World) (N : Nat) (w : World) (β : Bet) (S : Nat → Prop) (ae : Act), m ≤ A.next → Sim P w0 N β S A w → ER n β S a ae → wpListIn (FR r) 0 P ops (Lift P w0 N n m β S A Q) rest ae w
/-- One operation, that comes to one value and one memory. -/
def AOp (P : Program) (n : Nat) (o : Oper) (a : AEnv) (A : AW) (R : Value → AW → Prop) : Prop :=
  ∀ (r : Option Nat) (w0 : World) (N : Nat) (w : World) (β : Bet) (S : Nat → Prop) (ae : Act), Sim P w0 N β S A w → ER n β S a ae → ∀ (K : Act → World → Prop) (Q : Exit → Act → World → Prop),
    (∀ v v' w1 β1 S1 A1, R v A1 → Aft P w0 N A.next β S A β1 S1 A1 w1 → VR β1 S1 v v' → K (ae.put o.dst v') w1) → o.wpIn (FR r) 0 P ae w K Q
/-- A call. -/
def AC (P : Program) (f : FuncId) (args : List Value) (A : AW) (R : Value → AW → Prop) : Prop :=
  ∀ (w0 : World) (N : Nat) (w : World) (β : Bet) (S : Nat → Prop) (args' : Array Value), Sim P w0 N β S A w → VRs β S args args'.toList →
    Calls P f args' w (fun e w1 => match e with
      | .returned v' => ∃ β1 S1 v A1, Aft P w0 N A.next β S A β1 S1 A1 w1 ∧ VR β1 S1 v v' ∧ R v A1
      | _ => False)

theorem AC.mono {f : FuncId} {args : List Value} {R R' : Value → AW → Prop} (h : AC P f args A R) (hr : ∀ v A1, R v A1 → R' v A1) : AC P f args A R' :=
  fun w0 N w β S args' hs hv => Calls.mono (h w0 N w β S args' hs hv) fun e w1 he => by
    cases e with
    | returned v' => obtain ⟨β1, S1, v, A1, h1, h2, h3⟩ := he; exact ⟨β1, S1, v, A1, h1, h2, hr _ _ h3⟩
    | panicked => exact he
    | outgrown => exact he

/-! ### Rules for code -/
variable {Q Q' : AQ}
def AThen (K : AEnv → AW → Prop) (Q : AQ) : AQ
  | .normal, a, A => K a A
  | e, a, A => Q e a A
def AIn (id : Nat) (Q : AQ) : AQ
  | .exit id', a, A => if id' = id then Q .normal a A else Q (.exit id') a A
  | e, a, A => Q e a A

theorem AT.mono {c : Code} (h : AT P n m c a A Q) (hq : ∀ e a A, Q e a A → Q' e a A) : AT P n m c a A Q' :=
  fun r w0 N w β S ae hm hs he => wpIn_mono (h r w0 N w β S ae hm hs he) (fun e ae' w' ⟨β1, S1, a1, A1, x, y, z⟩ => ⟨β1, S1, a1, A1, x, y, hq _ _ _ z⟩)

theorem AT.seq {x y : Code} (h : AT P n m x a A (AThen (fun a A => AT P n m y a A Q) Q)) : AT P n m (.seq x y) a A Q :=
  fun r w0 N w β S ae hm hs he => wpIn_seq (wpIn_mono (h r w0 N w β S ae hm hs he) (fun e ae' w' ⟨β1, S1, a1, A1, hx, hy, hz⟩ => by
    cases e with
    | normal =>
      exact wpIn_mono (hz r w0 N w' β1 S1 ae' hx.next hx.sim hy) (fun _ _ _ g => Lift.trans hx (Nat.le_refl _) g)
    | exit id => exact ⟨β1, S1, a1, A1, hx, hy, hz⟩
    | goto l => exact ⟨β1, S1, a1, A1, hx, hy, hz⟩
    | ret => exact ⟨β1, S1, a1, A1, hx, hy, hz⟩
    | panic c => exact ⟨β1, S1, a1, A1, hx, hy, hz⟩
    | outgrown => exact ⟨β1, S1, a1, A1, hx, hy, hz⟩))
theorem AT.skip (h : Q .normal a A) : AT P n m .skip a A Q := fun _ _ _ _ _ _ _ hm hs he => wpIn_skip ⟨_, _, a, A, .refl hs hm, he, h⟩
theorem AT.label {l : Nat} (h : Q .normal a A) : AT P n m (.label l) a A Q := fun _ _ _ _ _ _ _ hm hs he => wpIn_label ⟨_, _, a, A, .refl hs hm, he, h⟩
theorem AT.ret (h : Q .ret a A) : AT P n m .ret a A Q := fun _ _ _ _ _ _ _ hm hs he => wpIn_ret ⟨_, _, a, A, .refl hs hm, he, h⟩
theorem AT.exit {id : Nat} (h : Q (.exit id) a A) : AT P n m (.exit id) a A Q := fun _ _ _ _ _ _ _ hm hs he => wpIn_exit ⟨_, _, a, A, .refl hs hm, he, h⟩
theorem AT.cond {c : Operand} {x y : Code} {t : Bool} (hc : aev A.gl a c = some (.bool t)) (ht : t = true → AT P n m x a A Q) (hf : t = false → AT P n m y a A Q) : AT P n m (.cond c x y) a A Q :=
  fun r w0 N w β S ae hm hs he => by
    have hv := aev_sound hs he hc
    have e : ae.eval c = .bool t := by
      generalize ae.eval c = v at hv
      cases hv; rfl
    exact wpIn_cond_split e (fun q => ht q r w0 N w β S ae hm hs he) (fun q => hf q r w0 N w β S ae hm hs he)
theorem AT.block {id : Nat} {c : Code} (h : AT P n m c a A (AIn id Q)) : AT P n m (.block id c) a A Q :=
  fun r w0 N w β S ae hm hs he => wpIn_block (wpIn_mono (h r w0 N w β S ae hm hs he) (fun e ae' w' ⟨β1, S1, a1, A1, hx, hy, hz⟩ => by
    cases e with
    | exit id' =>
      simp only [AIn] at hz
      simp only [Exit.inBlock]
      split at hz
      · rename_i q; rw [if_pos q]; exact ⟨β1, S1, a1, A1, hx, hy, hz⟩
      · rename_i q; rw [if_neg q]; exact ⟨β1, S1, a1, A1, hx, hy, hz⟩
    | normal => exact ⟨β1, S1, a1, A1, hx, hy, hz⟩
    | goto l => exact ⟨β1, S1, a1, A1, hx, hy, hz⟩
    | ret => exact ⟨β1, S1, a1, A1, hx, hy, hz⟩
    | panic c => exact ⟨β1, S1, a1, A1, hx, hy, hz⟩
    | outgrown => exact ⟨β1, S1, a1, A1, hx, hy, hz⟩))

/-- A loop, by an invariant that bears a number. -/
theorem AT.loop {c : Code} (I : Nat → AEnv → AW → Prop) (k0 : Nat) (h0 : I k0 a A)
    (round : ∀ k a A, I k a A → AT P n m c a A (AThen (fun a1 A1 => ∃ k', k' < k ∧ I k' a1 A1) Q)) : AT P n m (.loop c) a A Q :=
  fun r w0 N w β S ae hm hs he => wpIn_loop_ghost (fun k ae1 w1 => ∃ β1 S1 a1 A1, Aft P w0 N m β S A β1 S1 A1 w1 ∧ ER n β1 S1 a1 ae1 ∧ I k a1 A1) k0 ⟨β, S, a, A, .refl hs hm, he, h0⟩
    fun k ae1 w1 ⟨β1, S1, a1, A1, hx, hy, hi⟩ => wpIn_mono (round k a1 A1 hi r w0 N w1 β1 S1 ae1 hx.next hx.sim hy) (fun e ae2 w2 ⟨β2, S2, a2, A2, gx, gy, gz⟩ => by
      cases e with
      | normal => obtain ⟨k', hk, hi'⟩ := gz; exact ⟨k', hk, β2, S2, a2, A2, hx.trans gx (Nat.le_refl _), gy, hi'⟩
      | exit id => exact ⟨β2, S2, a2, A2, hx.trans gx (Nat.le_refl _), gy, gz⟩
      | goto l => exact ⟨β2, S2, a2, A2, hx.trans gx (Nat.le_refl _), gy, gz⟩
      | ret => exact ⟨β2, S2, a2, A2, hx.trans gx (Nat.le_refl _), gy, gz⟩
      | panic c => exact ⟨β2, S2, a2, A2, hx.trans gx (Nat.le_refl _), gy, gz⟩
      | outgrown => exact ⟨β2, S2, a2, A2, hx.trans gx (Nat.le_refl _), gy, gz⟩)

/-- So many rounds at most. -/
def ARounds (P : Program) (n m : Nat) (c : Code) (Q : AQ) : Nat → AEnv → AW → Prop
  | 0, _, _ => False
  | k + 1, a, A => AT P n m c a A (AThen (ARounds P n m c Q k) Q)
theorem AT.rounds {c : Code} (k : Nat) (h : ARounds P n m c Q k a A) : AT P n m (.loop c) a A Q :=
  AT.loop (ARounds P n m c Q) k h fun k a A hk => by
    cases k with
    | zero => exact hk.elim
    | succ k =>
      refine AT.mono hk fun e a1 A1 q => ?_
      cases e with
      | normal => exact ⟨k, Nat.lt_succ_self k, q⟩
      | exit id => exact q
      | goto l => exact q
      | ret => exact q
      | panic ch => exact q
      | outgrown => exact q

/-! ### Regions -/
theorem not_defer {ρ : Operand → Value} {o : Oper} {w w1 : World} {x : Next} (h : (execOp ρ o).run P w = .ok x w1) (hx : ∀ d, x ≠ .defer d) : ∀ c, o.op ≠ .defer c := by
  intro c hc
  simp only [execOp, hc] at h
  rw [Sem.run_bind] at h
  cases hq : (resolve ρ c o.type).run P w with
  | ok d w2 =>
    rw [hq] at h
    cases h
    exact hx _ rfl
  | halt d w2 => rw [hq] at h; cases h
theorem callsIn_FR {r : Option Nat} {f : FuncId} {args : Array Value} {w : World} {R : Ending → World → Prop} (h : Calls P f args w R) : CallsIn (FR r) 0 P f args w R :=
  (callsIn_wide (n := 0)).2 h
theorem Oper.wpIn_value {r : Option Nat} {o : Oper} {ae : Act} {w w1 : World} {v : Value} {K : Act → World → Prop} {Z : Exit → Act → World → Prop} (hr : (execOp ae.eval o).run P w = .ok (.value v) w1) (hk : K (ae.put o.dst v) w1) : o.wpIn (FR r) 0 P ae w K Z := by
  refine ⟨fun _ _ => trivial, ?_⟩
  rw [Oper.semAt_eq _ _ _ (not_defer hr (by simp)), hr]
  exact hk
theorem Oper.wpIn_skip' {r : Option Nat} {o : Oper} {ae : Act} {w w1 : World} {K : Act → World → Prop} {Z : Exit → Act → World → Prop} (hr : (execOp ae.eval o).run P w = .ok .skip w1) (hk : K (ae.put o.dst undef) w1) : o.wpIn (FR r) 0 P ae w K Z := by
  refine ⟨fun _ _ => trivial, ?_⟩
  rw [Oper.semAt_eq _ _ _ (not_defer hr (by simp)), hr]
  exact hk
theorem Oper.wpIn_enter {r : Option Nat} {o : Oper} {ae : Act} {w w1 : World} {f : FuncId} {args : Array Value} {K : Act → World → Prop} {Z : Exit → Act → World → Prop} (hr : (execOp ae.eval o).run P w = .ok (.enter f args) w1)
    (hk : Calls P f args w1 fun e w'' => match e with | .returned v => K (ae.put o.dst v) w'' | _ => False) : o.wpIn (FR r) 0 P ae w K Z := by
  refine ⟨fun _ _ => trivial, ?_⟩
  rw [Oper.semAt_eq _ _ _ (not_defer hr (by simp)), hr]
  refine ⟨fun h => by simp at h, callsIn_FR (Calls.mono hk fun e w'' he => ?_)⟩
  cases e with
  | returned v => exact he
  | panicked => exact he.elim
  | outgrown => exact he.elim

theorem Oper.wpIn_both {F : Fence} {k : Nat} {o : Oper} {ae : Act} {w : World} {K K' : Act → World → Prop} {Z Z' : Exit → Act → World → Prop} (hk : ∀ a w, K a w → K' a w) (hq : ∀ e a w, Z e a w → Z' e a w)
    (hh : o.wpIn F k P ae w K Z) : o.wpIn F k P ae w K' Z' := by
  refine ⟨hh.1, ?_⟩
  have h2 := hh.2
  generalize (o.semAt F.round ae.eval).run P w = r at h2 ⊢
  cases r with
  | ok x w' =>
    cases x <;> simp only [Oper.uponIn] at h2 ⊢ <;>
      first
        | exact hk _ _ h2
        | exact ⟨h2.1, CallsIn.mono h2.2 (fun e w'' he => by
            cases e
            · exact hk _ _ he
            · exact hq _ _ _ he
            · obtain ⟨a1, w1, h1⟩ := he; exact ⟨a1, w1, hq _ _ _ h1⟩)⟩
        | exact ⟨h2.1, RowsIn.mono h2.2 (fun _ _ he => hk _ _ he)⟩
        | exact ⟨h2.1, RoundIn.mono h2.2 (fun e w'' he => by
            cases e
            · exact hk _ _ he
            · exact hq _ _ _ he
            · obtain ⟨a1, w1, h1⟩ := he; exact ⟨a1, w1, hq _ _ _ h1⟩)⟩
  | halt x w' => cases x <;> simp only [Oper.uponIn] at h2 ⊢ <;> exact hq _ _ _ h2

theorem wpListIn_mono {F : Fence} {k : Nat} {ops : Array Oper} {Z Z' : Exit → Act → World → Prop} (hq : ∀ e a w, Z e a w → Z' e a w) : ∀ (l : List Oper) (ae : Act) (w : World), wpListIn F k P ops Z l ae w → wpListIn F k P ops Z' l ae w
  | [], ae, w, h => hq _ _ _ h
  | o :: l, ae, w, h => by
    unfold wpListIn at h ⊢
    split
    · rename_i q
      rw [if_pos q] at h
      exact Oper.wpIn_both (fun a w => wpListIn_mono hq l a w) hq h
    · rename_i q
      rw [if_neg q] at h
      exact ⟨h.1, wpListIn_mono hq l _ _ h.2⟩

theorem AT.region {id : Nat} {l : List Oper} (h : AL P n m l.toArray l a A Q) : AT P n m (.region id l.toArray false) a A Q :=
  fun r w0 N w β S ae hm hs he => wpIn_region_lit (h r w0 N w β S ae hm hs he)

variable {ops : Array Oper} {rest : List Oper} {o : Oper}

theorem AL.done (h : Q .normal a A) : AL P n m ops [] a A Q := fun r w0 N w β S ae hm hs he => wpListIn_nil ⟨β, S, a, A, .refl hs hm, he, h⟩

theorem AL.opAny {R : Value → AW → Prop} (hw : ∀ β S ae, ER n β S a ae → Region.wanted o (yielded ops ae.tmps) = true) (hd : okDst n o.dst = true) (h : AOp P n o a A R)
    (k : ∀ v A1, R v A1 → AL P n m ops rest (aput a o.dst v) A1 Q) : AL P n m ops (o :: rest) a A Q :=
  fun r w0 N w β S ae hm hs he => by
    unfold wpListIn
    rw [if_pos (hw _ _ _ he)]
    exact (h r w0 N w β S ae hs he _ _ fun v v' w1 β1 S1 A1 hr hx hv => by
      have := k v A1 hr r w0 N w1 β1 S1 (ae.put o.dst v') (Nat.le_trans hm hx.next) hx.sim ((he.near hx.near hs.sub).put hd hv)
      have up : Aft P w0 N m β S A β1 S1 A1 w1 := ⟨hx.sim, (Near.refl m β S).trans hx.near hm, Nat.le_trans hm hx.next, hx.ro, hx.gl⟩
      exact wpListIn_mono (fun _ _ _ g => Lift.trans up (Nat.le_refl _) g) _ _ _ this)

end Go.M
namespace Go.M
open Go.RowKit
variable {P : Program} {w0 w w' w1 w2 : World} {N n m : Nat} {β β' β1 β2 : Bet} {S S' S1 S2 : Nat → Prop} {A A' A1 A2 : AW} {a a1 : AEnv} {ae : Act} {Q Q' : AQ}
variable {ops : Array Oper} {rest : List Oper} {o : Oper} {R : Value → AW → Prop}

theorem AL.op (hg : o.guard = none) (hd : okDst n o.dst = true) (h : AOp P n o a A R) (k : ∀ v A1, R v A1 → AL P n m ops rest (aput a o.dst v) A1 Q) : AL P n m ops (o :: rest) a A Q :=
  AL.opAny (fun _ _ _ _ => by simp [Region.wanted, hg]) hd h k

theorem yielded_of {j : Nat} {d : Tmp} {t : Bool} (hj : (ops[j]?).bind (·.dst) = some d) (ha : aget a d = some (.bool t)) (he : ER n β S a ae) : yielded ops ae.tmps j = some t := by
  obtain ⟨v', e1, r⟩ := he.get d _ ha
  cases r
  simp [yielded, hj, e1]

theorem AL.guarded {j : Nat} {b t : Bool} {d : Tmp} (hg : o.guard = some (j, b)) (hj : (ops[j]?).bind (·.dst) = some d) (ha : aget a d = some (.bool t)) (hd : okDst n o.dst = true)
    (on : t = b → AOp P n o a A R ∧ ∀ v A1, R v A1 → AL P n m ops rest (aput a o.dst v) A1 Q) (off : t = !b → AL P n m ops rest (aput a o.dst undef) A Q) : AL P n m ops (o :: rest) a A Q := by
  by_cases q : t = b
  · obtain ⟨h, k⟩ := on q
    exact AL.opAny (fun β S ae he => by simp [Region.wanted, hg, yielded_of hj ha he, q]) hd h k
  · have q' : t = !b := by cases t <;> cases b <;> simp_all
    intro r w0 N w β S ae hm hs he
    unfold wpListIn
    rw [if_neg (by simp [Region.wanted, hg, yielded_of hj ha he, q])]
    exact ⟨fun _ _ => trivial, off q' r w0 N w β S _ hm hs (he.put hd (.tuple .nil .nil))⟩

/-! ### Functions -/
def argEnv : Nat → List Value → AEnv
  | _, [] => []
  | k, v :: vs => (k, v) :: argEnv (k + 1) vs
theorem aget_argEnv : ∀ (vs : List Value) (k t : Nat) (v : Value), aget (argEnv k vs) t = some v → k ≤ t ∧ vs[t - k]? = some v
  | [], _, _, _, h => by cases h
  | u :: us, k, t, v, h => by
    simp only [argEnv, aget] at h
    split at h
    · rename_i e; subst e; simp; exact Option.some.inj h
    · rename_i e
      obtain ⟨h1, h2⟩ := aget_argEnv us (k + 1) t v h
      refine ⟨by omega, ?_⟩
      have : t - k = (t - (k + 1)) + 1 := by omega
      rw [this]; simpa using h2

def ares1 (P : Program) (A : AW) (a : AEnv) : ResultVar → Option Value
  | .tmp t => aget a t
  | .cell t ty => (aget a t).bind (aload P A ty)
def aresList (P : Program) (A : AW) (a : AEnv) : List ResultVar → Option (List Value)
  | [] => some []
  | r :: rs => (ares1 P A a r).bind fun v => (aresList P A a rs).map (v :: ·)
def ares (P : Program) (A : AW) (a : AEnv) (rs : List ResultVar) : Option Value :=
  (aresList P A a rs).map fun | [v] => v | vs => .tuple vs.toArray

def resSem (tmps : Array Value) : ResultVar → Sem Value
  | .tmp t => pure (tmps.getD t undef)
  | .cell a t => do loadVar t (← asAddr (tmps.getD a undef))

theorem ares1_sound (h : Sim P w0 N β S A w) (e : ER n β S a ae) {r : ResultVar} {v : Value} (hr : ares1 P A a r = some v) : ∃ v', (resSem ae.tmps r).run P w = .ok v' w ∧ VR β S v v' := by
  cases r with
  | tmp t =>
    obtain ⟨v', e1, r⟩ := e.get t v hr
    exact ⟨v', by simp [resSem, e1], r⟩
  | cell t ty =>
    simp only [ares1] at hr
    cases ht : aget a t with
    | none => simp [ht] at hr
    | some x =>
      simp only [ht, Option.bind_some] at hr
      obtain ⟨x', e1, rx⟩ := e.get t x ht
      obtain ⟨v', hv, rv⟩ := aload_sound h rx hr
      refine ⟨v', ?_, rv⟩
      unfold aload at hr
      split at hr
      · cases rx with
        | ptr _ _ _ => simpa [resSem, e1, asAddr, Instr.loadAt, Instr.sureAddr] using hv
        | ptrD _ _ _ => simpa [resSem, e1, asAddr, Instr.loadAt, Instr.sureAddr] using hv
      · cases hr

theorem aresList_sound (h : Sim P w0 N β S A w) (e : ER n β S a ae) : ∀ {rs : List ResultVar} {vs : List Value}, aresList P A a rs = some vs → ∃ vs', (rs.mapM (resSem ae.tmps)).run P w = .ok vs' w ∧ VRs β S vs vs'
  | [], vs, hr => by cases hr; exact ⟨[], rfl, .nil⟩
  | r :: rs, vs, hr => by
    simp only [aresList] at hr
    cases h1 : ares1 P A a r with
    | none => simp [h1] at hr
    | some v =>
      simp only [h1, Option.bind_some] at hr
      cases h2 : aresList P A a rs with
      | none => simp [h2] at hr
      | some us =>
        simp only [h2, Option.map_some, Option.some.injEq] at hr
        subst hr
        obtain ⟨v', e1, r1⟩ := ares1_sound h e h1
        obtain ⟨us', e2, r2⟩ := aresList_sound h e h2
        exact ⟨v' :: us', by simp [List.mapM_cons, e1, e2], VRs.cons r1 r2⟩

theorem ares_sound (h : Sim P w0 N β S A w) (e : ER n β S a ae) {fn : Func} {v : Value} (hr : ares P A a fn.results.toList = some v) : ∃ v', (results fn ae.tmps).run P w = .ok v' w ∧ VR β S v v' := by
  unfold ares at hr
  cases h1 : aresList P A a fn.results.toList with
  | none => simp [h1] at hr
  | some vs =>
    simp only [h1, Option.map_some, Option.some.injEq] at hr
    obtain ⟨vs', e1, r1⟩ := aresList_sound h e h1
    have hrun : (results fn ae.tmps).run P w = .ok (if h : vs'.toArray.size = 1 then vs'.toArray[0] else .tuple vs'.toArray) w := by
      have e0 : results fn ae.tmps = (do let vs ← fn.results.mapM (resSem ae.tmps); pure (if h : vs.size = 1 then vs[0] else .tuple vs)) := by
        unfold results
        congr 1
      have e2 : (fn.results.mapM (resSem ae.tmps)).run P w = .ok vs'.toArray w := by
        rw [← Array.toArray_toList (xs := fn.results), List.mapM_toArray, Sem.run_map, e1]; rfl
      rw [e0, Sem.run_bind, e2]
      rfl
    refine ⟨_, hrun, ?_⟩
    subst hr
    have hl := r1.length
    match vs, vs', hl, r1 with
    | [v], [v'], _, r1 => simpa using r1
    | [], [], _, r1 => simpa using VRs.tuple (.nil : VRs β S [] []) .nil
    | a :: b :: c, a' :: b' :: c', _, r1 => simp; exact .tuple (by simpa using r1) .nil

def AEnd (P : Program) (rs : List ResultVar) (R : Value → AW → Prop) : AQ
  | .normal, a, A => ∃ v, ares P A a rs = some v ∧ R v A
  | .ret, a, A => ∃ v, ares P A a rs = some v ∧ R v A
  | _, _, _ => False

theorem AC.enter {f : FuncId} {fn : Func} {c : Code} {args : List Value} (hf : P.funcs[f]? = some fn) (hb : fn.body = some c) (hn : fn.ntmps = n) (hl : args.length ≤ n)
    (h : AT P n A.next c (argEnv 0 args) A (AEnd P fn.results.toList R)) : AC P f args A R := by
  intro w0 N w β S args' hs hv
  have hlen := hv.length
  simp only [Array.length_toList] at hlen
  refine calls_of_wp hf hb (Code.wp_mono ?_ ((wpIn_wide (n := 0)).1 (h none w0 N w β S _ (Nat.le_refl _) hs ⟨by simp [hn]; omega, rfl, fun t v ht => ?_⟩)))
  · intro e ae1 w1 ⟨β1, S1, a1, A1, hx, hy, hz⟩
    cases e with
    | normal =>
      obtain ⟨v, e1, hr⟩ := hz
      obtain ⟨v', e2, rv⟩ := ares_sound hx.sim hy e1
      exact ⟨hy.defers, v', e2, β1, S1, v, A1, hx, rv, hr⟩
    | ret =>
      obtain ⟨v, e1, hr⟩ := hz
      obtain ⟨v', e2, rv⟩ := ares_sound hx.sim hy e1
      exact ⟨hy.defers, v', e2, β1, S1, v, A1, hx, rv, hr⟩
    | exit id => exact hz.elim
    | goto l => exact hz.elim
    | panic ch => exact hz.elim
    | outgrown => exact hz.elim
  · obtain ⟨_, h2⟩ := aget_argEnv args 0 t v ht
    simp only [Nat.sub_zero] at h2
    obtain ⟨v', e, r⟩ := hv.get h2
    refine ⟨v', ?_, r⟩
    have hlt : t < args'.size := by
      have := (List.getElem?_eq_some_iff.1 h2).1
      omega
    rw [Array.getElem?_append_left hlt, ← Array.getElem?_toList, e]

/-! ### What a call leaves as it was -/
def Loc.zero (L : Loc) : Loc := { L with esz := 0 }
theorem VRs.zero {vs vs' : List Value} (h : VRs β S vs vs') : VRs (fun i => (β i).map Loc.zero) S vs vs' := by
  induction h with
  | nil => exact .nil
  | bool _ ih => exact .bool ih
  | int _ ih => exact .int ih
  | float _ ih => exact .float ih
  | complex _ ih => exact .complex ih
  | string _ ih => exact .string ih
  | ptr0 _ ih => exact .ptr0 ih
  | @ptr b o L _ _ hs hb _ ih => exact .ptr (L := L.zero) hs (by simp [hb]) ih
  | ptrD hs hb _ ih => exact .ptrD hs (by simp [hb]) ih
  | sl0 _ ih => exact .sl0 ih
  | @sl b o L _ _ _ _ _ hs hb hc ho _ ih => exact .sl (L := L.zero) hs (by simp [hb]) hc (.inr (.inl rfl)) ih
  | slD hs hb hc _ ih => exact .slD hs (by simp [hb]) hc ih
  | map0 _ ih => exact .map0 ih
  | @map b L _ _ hs hb _ ih => exact .map (L := L.zero) hs (by simp [hb]) ih
  | mapD hs hb _ ih => exact .mapD hs (by simp [hb]) ih
  | chan0 _ ih => exact .chan0 ih
  | func hy _ _ _ i1 i2 i3 => exact .func hy i1 i2 i3
  | @yield b L _ _ hs hb _ ih => exact .yield (L := L.zero) hs (by simp [hb]) ih
  | yieldD hs hb _ ih => exact .yieldD hs (by simp [hb]) ih
  | nilFunc _ ih => exact .nilFunc ih
  | nilIface _ ih => exact .nilIface ih
  | iface _ _ i1 i2 => exact .iface i1 i2
  | agg _ _ i1 i2 => exact .agg i1 i2
  | tuple _ _ i1 i2 => exact .tuple i1 i2

/-- The memory, with nothing to write. -/
def AW.shut (A : AW) : AW := { A with ro := A.next }

theorem Sim.shut (h : Sim P w0 N β S A w) : Sim P w w.heap.size (fun i => (β i).map Loc.zero) S A.shut w := by
  have old : ∀ i L, A.next ≤ i → (β i).map Loc.zero = some L → False := fun i L hi hb => by
    cases e : β i with
    | none => simp [e] at hb
    | some L0 =>
      obtain ⟨o, ho, _⟩ := h.of_live e
      have := h.lt i o ho
      omega
  refine ⟨.refl _ _, Nat.le_refl _, ?_, ?_, h.lt, fun i j L L' hi _ hb _ => (old i L hi hb).elim, fun i L hi hb => (old i L hi hb).elim, h.sub, Nat.le_refl _, ?_, Nat.le_trans h.gle h.role, ?_⟩
  · intro i o ho
    obtain ⟨L, hb, r⟩ := h.live i o ho
    have hlt := h.lt i o ho
    refine ⟨L.zero, by simp [hb], ?_⟩
    have hd : decide (A.shut.ro ≤ i) = false := by
      show decide (A.next ≤ i) = false
      simp only [decide_eq_false_iff_not]; omega
    rw [hd]
    cases o with
    | cells c e => obtain ⟨cs, e', fz, h1, h2, h3, h4, h5⟩ := r; exact ⟨cs, e', fz, h1, h2, h3, h4.zero, by simp⟩
    | map es k => obtain ⟨es', h1, h2, h3, h4, h5⟩ := r; exact ⟨es', h1, h2, h3, h4, h5.zero⟩
    | iter s p => exact r
    | loop ready n a fn ps assign body => obtain ⟨tmps, D, h1, h2, h3⟩ := r; exact ⟨tmps, D, h1, h2, fun t v hv => let ⟨v', e1, q⟩ := h3 t v hv; ⟨v', e1, q.zero⟩⟩
    | dfr => exact r
    | over c => exact r
  · intro i hi; simp [h.dead i hi]
  · intro g hg
    obtain ⟨hs, L, e1, e2, e3⟩ := h.glob g hg
    exact ⟨hs, L.zero, by simp [e1], e2, e3⟩
  · intro i L _ hb
    cases e : β i with
    | none => simp [e] at hb
    | some L0 => simp [e] at hb; subst hb; rfl

theorem Sim.again (h : Sim P w0 N β S A w) (hb : Below w.heap.size w w1) : Sim P w0 N β S A w1 := by
  refine ⟨⟨hb.os.trans h.below.os, hb.tape.trans h.below.tape, hb.output.trans h.below.output, Nat.le_trans h.below.size hb.size, fun k hk => (hb.block k (Nat.lt_of_lt_of_le hk h.size_le)).trans (h.below.block k hk)⟩, h.Nle, fun i o ho => ?_, h.dead, h.lt, h.inj, h.hi, h.sub, h.role, h.glob, h.gle, h.roz⟩
  obtain ⟨L, e, r⟩ := h.live i o ho
  exact ⟨L, e, r.mono (fun _ _ => .inl rfl) (fun _ h => h) (hb.block _ r.lt)⟩

/-- A call that may not write, and gives a value without addresses, leaves the memory as it was. -/
theorem AC.pure {f : FuncId} {args : List Value} {R : Value → Prop} (h : AC P f args A.shut (fun v _ => R v ∧ ∃ k, noAddrs k [v] = true)) : AC P f args A (fun v A1 => R v ∧ A1 = A) := by
  intro w0 N w β S args' hs hv
  refine Calls.mono (h w w.heap.size w (fun i => (β i).map Loc.zero) S args' hs.shut hv.zero) fun e w1 he => ?_
  cases e with
  | returned v' =>
    obtain ⟨β1, S1, v, A1, h1, h2, hr, k, hk⟩ := he
    have q : [v'] = [v] := VRs.eq_of_noAddrs h2 k hk
    have q : v' = v := by simpa using q
    subst q
    exact ⟨β, S, v', A, ⟨hs.again h1.sim.below, .refl _ _ _, Nat.le_refl _, rfl, rfl⟩, VRs.refl_of_noAddrs k _ hk, hr, rfl⟩
  | panicked => exact he
  | outgrown => exact he

end Go.M
namespace Go.M
open Go.RowKit
variable {P : Program} {w0 w w' w1 w2 : World} {N n m : Nat} {β β' β1 β2 : Bet} {S S' S1 S2 : Nat → Prop} {A A' A1 A2 : AW} {a a1 : AEnv} {ae : Act} {Q Q' : AQ}
variable {ops : Array Oper} {rest : List Oper} {o : Oper} {R : Value → AW → Prop}

abbrev isR (v : Value) (A1 : AW) : Value → AW → Prop := fun u B => u = v ∧ B = A1

theorem AL.op1 {v : Value} (hg : o.guard = none) (hd : okDst n o.dst = true) (h : AOp P n o a A (isR v A1)) (k : AL P n m ops rest (aput a o.dst v) A1 Q) : AL P n m ops (o :: rest) a A Q :=
  AL.op hg hd h fun _ _ ⟨e1, e2⟩ => by rw [e1, e2]; exact k
theorem AL.guarded1 {v : Value} {j : Nat} {b t : Bool} {d : Tmp} (hg : o.guard = some (j, b)) (hj : (ops[j]?).bind (·.dst) = some d) (ha : aget a d = some (.bool t)) (hd : okDst n o.dst = true)
    (on : t = b → AOp P n o a A (isR v A1)) (on2 : t = b → AL P n m ops rest (aput a o.dst v) A1 Q) (off : t = !b → AL P n m ops rest (aput a o.dst undef) A Q) : AL P n m ops (o :: rest) a A Q :=
  AL.guarded hg hj ha hd (fun q => ⟨on q, fun _ _ ⟨e1, e2⟩ => by rw [e1, e2]; exact on2 q⟩) off
theorem AL.off {j : Nat} {b : Bool} {d : Tmp} (hg : o.guard = some (j, b)) (hj : (ops[j]?).bind (·.dst) = some d) (ha : aget a d = some (.bool (!b))) (hd : okDst n o.dst = true)
    (off : AL P n m ops rest (aput a o.dst undef) A Q) : AL P n m ops (o :: rest) a A Q :=
  AL.guarded (R := fun _ _ => False) hg hj ha hd (fun q => by cases b <;> simp at q) (fun _ => off)
theorem AL.on {v : Value} {j : Nat} {b : Bool} {d : Tmp} (hg : o.guard = some (j, b)) (hj : (ops[j]?).bind (·.dst) = some d) (ha : aget a d = some (.bool b)) (hd : okDst n o.dst = true)
    (h : AOp P n o a A (isR v A1)) (k : AL P n m ops rest (aput a o.dst v) A1 Q) : AL P n m ops (o :: rest) a A Q :=
  AL.guarded1 hg hj ha hd (fun _ => h) (fun _ => k) (fun q => by cases b <;> simp at q)
theorem AL.onAny {j : Nat} {b : Bool} {d : Tmp} (hg : o.guard = some (j, b)) (hj : (ops[j]?).bind (·.dst) = some d) (ha : aget a d = some (.bool b)) (hd : okDst n o.dst = true)
    (h : AOp P n o a A R) (k : ∀ v A1, R v A1 → AL P n m ops rest (aput a o.dst v) A1 Q) : AL P n m ops (o :: rest) a A Q :=
  AL.guarded hg hj ha hd (fun _ => ⟨h, k⟩) (fun q => by cases b <;> simp at q)

theorem AOp.mono {R' : Value → AW → Prop} (h : AOp P n o a A R) (hr : ∀ v A1, R v A1 → R' v A1) : AOp P n o a A R' :=
  fun r w0 N w β S ae hs he K Z hk => h r w0 N w β S ae hs he K Z fun v v' w1 β1 S1 A1 q => hk v v' w1 β1 S1 A1 (hr _ _ q)
theorem AOp.sub (h : AOp P n o a A R) (hs : asub a a1) : AOp P n o a1 A R :=
  fun r w0 N w β S ae hs' he K Z hk => h r w0 N w β S ae hs' (he.sub hs) K Z hk

theorem AOp.of {v : Value} (h : ∀ (w0 : World) (N : Nat) (w : World) (β : Bet) (S : Nat → Prop) (ae : Act), Sim P w0 N β S A w → ER n β S a ae → ∃ v' w1, (execOp ae.eval o).run P w = .ok (.value v') w1 ∧ Done P w0 N β S A w v A1 v' w1) : AOp P n o a A (isR v A1) := by
  intro r w0 N w β S ae hs he K Z hk
  obtain ⟨v', w1, hr, hd⟩ := h w0 N w β S ae hs he
  obtain ⟨β1, S1, h1, h2⟩ := hd.aft
  refine Oper.wpIn_value hr ?_
  exact hk v v' w1 β1 S1 A1 ⟨rfl, rfl⟩ h1 h2

theorem AOp.val {v : Value} (h : ∀ (w0 : World) (N : Nat) (w : World) (β : Bet) (S : Nat → Prop) (ae : Act), Sim P w0 N β S A w → ER n β S a ae → ∃ v', (execOp ae.eval o).run P w = .ok (.value v') w ∧ VR β S v v') : AOp P n o a A (isR v A) :=
  AOp.of fun w0 N w β S ae hs he => let ⟨v', h1, h2⟩ := h w0 N w β S ae hs he; ⟨v', w, h1, .same hs h2⟩

theorem AOp.move {x : Operand} {v : Value} (ho : o.op = .move x) (hx : aev A.gl a x = some v) : AOp P n o a A (isR v A) :=
  .val fun w0 N w β S ae hs he => ⟨_, by simp [execOp, ho], aev_sound hs he hx⟩
theorem AOp.assign {x : Operand} {v : Value} (ho : o.op = .assign x) (hx : aev A.gl a x = some v) : AOp P n o a A (isR v A) :=
  .val fun w0 N w β S ae hs he => ⟨_, by simp [execOp, ho], aev_sound hs he hx⟩
theorem VR.isBool {t : Bool} {v' : Value} (h : VR β S (.bool t) v') : v' = .bool t := by cases h; rfl
theorem VR.isInt {k : IntKind} {i : Int} {v' : Value} (h : VR β S (.int k i) v') : v' = .int k i := by cases h; rfl
theorem VR.isString {s : ByteArray} {v' : Value} (h : VR β S (.string s) v') : v' = .string s := by cases h; rfl
theorem AOp.pick {c x y : Operand} {t : Bool} {v : Value} (ho : o.op = .pick c x y) (hc : aev A.gl a c = some (.bool t)) (ht : t = true → aev A.gl a x = some v) (hf : t = false → aev A.gl a y = some v) : AOp P n o a A (isR v A) :=
  .val fun w0 N w β S ae hs he => by
    have e := VR.isBool (aev_sound hs he hc)
    cases t
    · exact ⟨_, by simp [execOp, ho, e, asBool], aev_sound hs he (hf rfl)⟩
    · exact ⟨_, by simp [execOp, ho, e, asBool], aev_sound hs he (ht rfl)⟩
theorem AOp.alloc {e : TypeId} {v : Value} (ho : o.op = .alloc e) (h : aalloc P A e = some (v, A1)) : AOp P n o a A (isR v A1) :=
  .of fun w0 N w β S ae hs he => let ⟨v', w1, h1, h2⟩ := aalloc_sound hs h (.tuple #[]); ⟨v', w1, by simp [execOp, ho, h1], h2⟩
theorem AOp.box {e : TypeId} {x : Operand} {vx v : Value} (ho : o.op = .box e x) (hx : aev A.gl a x = some vx) (h : abox P A e vx = some (v, A1)) : AOp P n o a A (isR v A1) :=
  .of fun w0 N w β S ae hs he => let ⟨v', w1, h1, h2⟩ := abox_sound hs (aev_sound hs he hx) h; ⟨v', w1, by simp [execOp, ho, h1], h2⟩
theorem AOp.load {t : TypeId} {x : Operand} {vx v : Value} (ho : o.op = .load t x) (hx : aev A.gl a x = some vx) (h : aload P A t vx = some v) : AOp P n o a A (isR v A) :=
  .val fun w0 N w β S ae hs he => let ⟨v', h1, h2⟩ := aload_sound hs (aev_sound hs he hx) h; ⟨v', by simp [execOp, ho, h1], h2⟩
theorem AOp.skip (h : ∀ (w0 : World) (N : Nat) (w : World) (β : Bet) (S : Nat → Prop) (ae : Act), Sim P w0 N β S A w → ER n β S a ae → ∃ w1, (execOp ae.eval o).run P w = .ok .skip w1 ∧ Sim P w0 N β S A1 w1 ∧ A1.next = A.next ∧ A1.ro = A.ro ∧ A1.gl = A.gl) : AOp P n o a A (isR undef A1) := by
  intro r w0 N w β S ae hs he K Z hk
  obtain ⟨w1, hr, h1, e1, e2, e3⟩ := h w0 N w β S ae hs he
  refine Oper.wpIn_skip' hr ?_
  exact hk undef undef w1 β S A1 ⟨rfl, rfl⟩ ⟨h1, .refl _ _ _, by omega, e2, e3⟩ (.tuple .nil .nil)
theorem AOp.store {t : TypeId} {x y : Operand} {vx vy : Value} (ho : o.op = .store t x y) (hx : aev A.gl a x = some vx) (hy : aev A.gl a y = some vy) (h : astore P A t vy vx = some A1) : AOp P n o a A (isR undef A1) :=
  .skip fun w0 N w β S ae hs he => let ⟨w1, h1, h2, _, h3, h4, h5⟩ := astore_sound hs (aev_sound hs he hx) (aev_sound hs he hy) h; ⟨w1, by simp [execOp, ho, h1], h2, h3, h4, h5⟩
theorem AOp.field {t : TypeId} {x : Operand} {f : Nat} {vx v : Value} (ho : o.op = .field t x f) (hx : aev A.gl a x = some vx) (h : afield P t vx f = some v) : AOp P n o a A (isR v A) :=
  .val fun w0 N w β S ae hs he => let ⟨v', h1, h2⟩ := afield_sound (aev_sound hs he hx) h w; ⟨v', by simp [execOp, ho, h1], h2⟩
theorem AOp.extract {x : Operand} {i : Nat} {vx v : Value} (ho : o.op = .extract x i) (hx : aev A.gl a x = some vx) (h : aextract vx i = some v) : AOp P n o a A (isR v A) :=
  .val fun w0 N w β S ae hs he => let ⟨v', h1, h2⟩ := aextract_sound (P := P) (aev_sound hs he hx) h w; ⟨v', by simp [execOp, ho, h1], h2⟩
theorem AOp.fieldAddr {t : TypeId} {x : Operand} {f : Nat} {vx v : Value} (ho : o.op = .fieldAddr t x f) (hx : aev A.gl a x = some vx) (h : afieldAddr P t vx f = some v) : AOp P n o a A (isR v A) :=
  .val fun w0 N w β S ae hs he => let ⟨v', h1, h2⟩ := afieldAddr_sound (aev_sound hs he hx) h w; ⟨v', by simp [execOp, ho, h1], h2⟩
theorem AOp.indexAddr {t : TypeId} {x y : Operand} {vx vy v : Value} (ho : o.op = .indexAddr t x y) (hx : aev A.gl a x = some vx) (hy : aev A.gl a y = some vy) (h : aindexAddr P t vx vy = some v) : AOp P n o a A (isR v A) :=
  .val fun w0 N w β S ae hs he => let ⟨v', h1, h2⟩ := aindexAddr_sound (aev_sound hs he hx) (aev_sound hs he hy) h w; ⟨v', by simp [execOp, ho, h1], h2⟩
theorem AOp.index {t : TypeId} {x y : Operand} {vx vy v : Value} (ho : o.op = .index t x y) (hx : aev A.gl a x = some vx) (hy : aev A.gl a y = some vy) (h : aindex P t vx vy = some v) : AOp P n o a A (isR v A) :=
  .val fun w0 N w β S ae hs he => let ⟨v', h1, h2⟩ := aindex_sound (aev_sound hs he hx) (aev_sound hs he hy) h w; ⟨v', by simp [execOp, ho, h1], h2⟩

def aevO (gl : Nat) (a : AEnv) : Option Operand → Option (Option Value)
  | none => some none
  | some x => (aev gl a x).map some
theorem aevO_sound (hs : Sim P w0 N β S A w) (he : ER n β S a ae) {x : Option Operand} {v : Option Value} (hx : aevO A.gl a x = some v) : OptVR β S v (x.map ae.eval) := by
  cases x with
  | none => cases hx; exact .none
  | some x =>
    simp only [aevO] at hx
    cases h : aev A.gl a x with
    | none => simp [h] at hx
    | some u => simp [h] at hx; subst hx; exact .some (aev_sound hs he h)
theorem AOp.slice {t : TypeId} {x : Operand} {lo hi mx : Option Operand} {vx v : Value} {vl vh vm : Option Value} (ho : o.op = .slice t x lo hi mx) (hx : aev A.gl a x = some vx)
    (hl : aevO A.gl a lo = some vl) (hh : aevO A.gl a hi = some vh) (hm : aevO A.gl a mx = some vm) (h : aslice P A t vx vl vh vm = some (v, A1)) : AOp P n o a A (isR v A1) :=
  .of fun w0 N w β S ae hs he => let ⟨v', h1, h2⟩ := aslice_sound hs (aev_sound hs he hx) (aevO_sound hs he hl) (aevO_sound hs he hh) (aevO_sound hs he hm) h; ⟨v', w, by simp [execOp, ho, h1], h2⟩

/-! ### Reckoning -/
def aevs (gl : Nat) (a : AEnv) : List Operand → Option (List Value)
  | [] => some []
  | x :: xs => (aev gl a x).bind fun v => (aevs gl a xs).map (v :: ·)
theorem aevs_sound (hs : Sim P w0 N β S A w) (he : ER n β S a ae) : ∀ {xs : List Operand} {vs : List Value}, aevs A.gl a xs = some vs → VRs β S vs (xs.map ae.eval)
  | [], vs, h => by cases h; exact .nil
  | x :: xs, vs, h => by
    simp only [aevs] at h
    cases h1 : aev A.gl a x with
    | none => simp [h1] at h
    | some v =>
      simp only [h1, Option.bind_some] at h
      cases h2 : aevs A.gl a xs with
      | none => simp [h2] at h
      | some us =>
        simp only [h2, Option.map_some, Option.some.injEq] at h
        subst h
        exact VRs.cons (aev_sound hs he h1) (aevs_sound hs he h2)

/-- A reckoning on values without addresses. -/
theorem AOp.bin {op : BinOp} {t t2 : TypeId} {x y : Operand} {vx vy v : Value} {kx ky : Nat} (ho : o.op = .binOp op t x y t2) (hx : aev A.gl a x = some vx) (hy : aev A.gl a y = some vy)
    (nx : noAddrs kx [vx] = true) (ny : noAddrs ky [vy] = true) (hr : ∀ w, (do eqGuard op t x y vx vy; binOp op t vx vy : Sem Value).run P w = .ok v w) (hv : ∀ β S, VR β S v v) : AOp P n o a A (isR v A) :=
  .val fun w0 N w β S ae hs he => by
    have ex : ae.eval x = vx := by have := VRs.eq_of_noAddrs (aev_sound hs he hx) _ nx; simpa using this
    have ey : ae.eval y = vy := by have := VRs.eq_of_noAddrs (aev_sound hs he hy) _ ny; simpa using this
    refine ⟨v, ?_, hv _ _⟩
    simp only [execOp, ho, ex, ey]
    rw [Sem.run_bind, hr]
    rfl

/-- Integers. -/
def ibin (op : BinOp) (k : IntKind) (x y : Int) : Option Value :=
  match op with
  | .add => some (.int k (k.wrap (x + y)))
  | .sub => some (.int k (k.wrap (x - y)))
  | .mul => some (.int k (k.wrap (x * y)))
  | .quo => if y = 0 then none else some (.int k (k.wrap (x.tdiv y)))
  | .rem => if y = 0 then none else some (.int k (x.tmod y))
  | .eql => some (.bool (x == y))
  | .neq => some (.bool (x != y))
  | .lss => some (.bool (x < y))
  | .leq => some (.bool (x ≤ y))
  | .gtr => some (.bool (x > y))
  | .geq => some (.bool (x ≥ y))
  | _ => none
theorem ibin_run {op : BinOp} {k : IntKind} {x y : Int} {v : Value} (t : TypeId) (X Y : Operand) (h : ibin op k x y = some v) (w : World) :
    (do eqGuard op t X Y (.int k x) (.int k y); binOp op t (.int k x) (.int k y) : Sem Value).run P w = .ok v w := by
  unfold ibin at h
  cases op
  case quo =>
    by_cases q : y = 0
    · simp [q] at h
    · simp only [if_neg q, Option.some.injEq] at h; subst h; simp [eqGuard, binOp, Op.intDiv, q]
  case rem =>
    by_cases q : y = 0
    · simp [q] at h
    · simp only [if_neg q, Option.some.injEq] at h; subst h; simp [eqGuard, binOp, Op.intDiv, q]
  all_goals first
    | (simp only [Option.some.injEq] at h; subst h; simp [eqGuard, binOp, Op.intArith, Op.intCmp]; done)
    | cases h
theorem ibin_plain {op : BinOp} {k : IntKind} {x y : Int} {v : Value} (h : ibin op k x y = some v) : ∀ β S, VR β S v v := by
  unfold ibin at h
  intro β S
  cases op
  case quo =>
    by_cases q : y = 0
    · simp [q] at h
    · simp only [if_neg q, Option.some.injEq] at h; subst h; exact .int .nil
  case rem =>
    by_cases q : y = 0
    · simp [q] at h
    · simp only [if_neg q, Option.some.injEq] at h; subst h; exact .int .nil
  all_goals first
    | (simp only [Option.some.injEq] at h; subst h; exact .int .nil)
    | (simp only [Option.some.injEq] at h; subst h; exact .bool .nil)
    | cases h
theorem AOp.ibin {op : BinOp} {t t2 : TypeId} {X Y : Operand} {k : IntKind} {x y : Int} {v : Value} (ho : o.op = .binOp op t X Y t2) (hx : aev A.gl a X = some (.int k x)) (hy : aev A.gl a Y = some (.int k y)) (h : M.ibin op k x y = some v) : AOp P n o a A (isR v A) :=
  .bin (kx := 64) (ky := 64) ho hx hy rfl rfl (ibin_run t X Y h) (ibin_plain h)

theorem AOp.un {op : UnOp} {t : TypeId} {x : Operand} {vx v : Value} {kx : Nat} (ho : o.op = .unOp op t x) (hx : aev A.gl a x = some vx) (nx : noAddrs kx [vx] = true) (hr : ∀ w, (Op.unary op vx).run P w = .ok v w) (hv : ∀ β S, VR β S v v) : AOp P n o a A (isR v A) :=
  .val fun w0 N w β S ae hs he => by
    have ex : ae.eval x = vx := by have := VRs.eq_of_noAddrs (aev_sound hs he hx) _ nx; simpa using this
    exact ⟨v, by simp [execOp, ho, ex, hr], hv _ _⟩
theorem AOp.not {t : TypeId} {x : Operand} {b : Bool} (ho : o.op = .unOp .not t x) (hx : aev A.gl a x = some (.bool b)) : AOp P n o a A (isR (.bool !b) A) :=
  .un (kx := 64) ho hx rfl (fun w => by simp [Op.unary]) (fun _ _ => .bool .nil)
theorem AOp.neg {t : TypeId} {x : Operand} {k : IntKind} {i : Int} (ho : o.op = .unOp .neg t x) (hx : aev A.gl a x = some (.int k i)) : AOp P n o a A (isR (.int k (k.wrap (0 - i))) A) :=
  .un (kx := 64) ho hx rfl (fun w => by simp [Op.unary, Op.intArith]) (fun _ _ => .int .nil)
theorem AOp.conv {s d : TypeId} {x : Operand} {vx v : Value} {kx : Nat} (ho : o.op = .convert s d x) (hx : aev A.gl a x = some vx) (nx : noAddrs kx [vx] = true) (hr : ∀ w, (convert s d vx).run P w = .ok v w) (hv : ∀ β S, VR β S v v) : AOp P n o a A (isR v A) :=
  .val fun w0 N w β S ae hs he => by
    have ex : ae.eval x = vx := by have := VRs.eq_of_noAddrs (aev_sound hs he hx) _ nx; simpa using this
    exact ⟨v, by simp [execOp, ho, ex, hr], hv _ _⟩
theorem AOp.iconv {s d : TypeId} {x : Operand} {k k' : IntKind} {i : Int} (ho : o.op = .convert s d x) (hx : aev A.gl a x = some (.int k i)) (hs : P.underlying s = some (.int k)) (hd : P.underlying d = some (.int k')) : AOp P n o a A (isR (.int k' (k'.wrap i)) A) :=
  .conv (kx := 64) ho hx rfl (fun w => by simp [convert, run_underlying hs, run_underlying hd, Conv.intToInt]) (fun _ _ => .int .nil)

/-! ### Builtins -/
theorem run_builtin_value {c : Call} {b : Builtin} (ho : o.op = .call c) (hc : c.callee = .builtin b) (ρ : Operand → Value) (w : World) :
    (execOp ρ o).run P w = (builtin b c.argTypes o.type (c.args.map fun | .const _ => true | _ => false) (c.args.map ρ)).run P w := by
  simp [execOp, ho, resolve, hc, invoke]
  rfl

def alen (P : Program) (t : TypeId) (v : Value) : Option Nat :=
  match P.underlying t, v with
  | some (.slice _), .slice _ l _ => some l
  | some .string, .string s => some s.size
  | some (.array l _), _ => some l
  | _, _ => none
theorem AOp.len {c : Call} {t : TypeId} {x : Operand} {vx : Value} {l : Nat} (ho : o.op = .call c) (hc : c.callee = .builtin .len) (ha : c.args.toList = [x]) (ht : c.argTypes.toList = [t]) (hx : aev A.gl a x = some vx)
    (h : alen P t vx = some l) : AOp P n o a A (isR (.int .i64 l) A) :=
  .val fun w0 N w β S ae hs he => by
    have hv := aev_sound hs he hx
    have e1 : c.args = #[x] := by rw [← Array.toArray_toList (xs := c.args), ha]
    have e2 : c.argTypes = #[t] := by rw [← Array.toArray_toList (xs := c.argTypes), ht]
    refine ⟨.int .i64 l, ?_, .int .nil⟩
    rw [run_builtin_value ho hc]
    generalize hz : ae.eval x = v' at hv
    simp only [builtin, e1, e2, List.map_toArray, List.map_cons, List.map_nil, hz]
    unfold alen at h
    split at h
    · rename_i e b l' c' hu
      cases h
      cases hv <;> simp [Builtin.len_, run_underlying hu, goInt]
    · rename_i s hu
      cases h
      have := VR.isString hv
      subst this
      simp [Builtin.len_, run_underlying hu, goInt]
    · rename_i l' e _ hu
      cases h
      simp [Builtin.len_, run_underlying hu, goInt]
    · cases h

theorem AOp.append {c : Call} {t : TypeId} {x y : Operand} {vx vy v : Value} (ho : o.op = .call c) (hc : c.callee = .builtin .append) (ha : c.args.toList = [x, y]) (ht : c.argTypes.toList = [t, t]) (hx : aev A.gl a x = some vx) (hy : aev A.gl a y = some vy)
    (h : aappend P A t vx vy = some (v, A1)) : AOp P n o a A (isR v A1) :=
  .of fun w0 N w β S ae hs he => by
    have e1 : c.args = #[x, y] := by rw [← Array.toArray_toList (xs := c.args), ha]
    have e2 : c.argTypes = #[t, t] := by rw [← Array.toArray_toList (xs := c.argTypes), ht]
    obtain ⟨v', w1, h1, h2⟩ := aappend_sound hs (aev_sound hs he hx) (aev_sound hs he hy) h o.type
    refine ⟨v', w1, ?_, h2⟩
    rw [run_builtin_value ho hc]
    simp [builtin, e1, e2, h1]

theorem AOp.imax {c : Call} {x y : Operand} {k : IntKind} {i j : Int} (ho : o.op = .call c) (hc : c.callee = .builtin .max) (ha : c.args.toList = [x, y]) (hx : aev A.gl a x = some (.int k i)) (hy : aev A.gl a y = some (.int k j)) : AOp P n o a A (isR (.int k (max i j)) A) :=
  .val fun w0 N w β S ae hs he => by
    have e1 : c.args = #[x, y] := by rw [← Array.toArray_toList (xs := c.args), ha]
    refine ⟨.int k (max i j), ?_, .int .nil⟩
    rw [run_builtin_value ho hc]
    simp only [builtin, e1, List.map_toArray, List.map_cons, List.map_nil, VR.isInt (aev_sound hs he hx), VR.isInt (aev_sound hs he hy)]
    have : (if j > i then j else i) = Max.max i j := by split <;> omega
    simp [Builtin.max_, Builtin.max2, this]
theorem AOp.imin {c : Call} {x y : Operand} {k : IntKind} {i j : Int} (ho : o.op = .call c) (hc : c.callee = .builtin .min) (ha : c.args.toList = [x, y]) (hx : aev A.gl a x = some (.int k i)) (hy : aev A.gl a y = some (.int k j)) : AOp P n o a A (isR (.int k (min i j)) A) :=
  .val fun w0 N w β S ae hs he => by
    have e1 : c.args = #[x, y] := by rw [← Array.toArray_toList (xs := c.args), ha]
    refine ⟨.int k (min i j), ?_, .int .nil⟩
    rw [run_builtin_value ho hc]
    simp only [builtin, e1, List.map_toArray, List.map_cons, List.map_nil, VR.isInt (aev_sound hs he hx), VR.isInt (aev_sound hs he hy)]
    have : (if j < i then j else i) = Min.min i j := by split <;> omega
    simp [Builtin.min_, Builtin.min2, this]

/-! ### Calls -/
theorem AOp.call {c : Call} {f : FuncId} {fn : Func} {body : Code} {vs : List Value} (ho : o.op = .call c) (hc : c.callee = .value (.func f)) (hf : P.funcs[f]? = some fn) (hb : fn.body = some body) (hn : (fn.name == "runtime.NumGoroutine") = false)
    (ha : aevs A.gl a c.args.toList = some vs) (h : AC P f vs A R) : AOp P n o a A R := by
  intro r w0 N w β S ae hs he K Z hk
  have hn' : ¬ fn.name = "runtime.NumGoroutine" := by simpa using hn
  have hr : (execOp ae.eval o).run P w = .ok (.enter f (c.args.map ae.eval)) w := by
    simp [execOp, ho, resolve, hc, Act.eval, Deferred.ofValue, invoke, callFunc, hf, hn', hb]
  refine Oper.wpIn_enter hr ?_
  refine Calls.mono (h w0 N w β S (c.args.map ae.eval) hs (by rw [Array.toList_map]; exact aevs_sound hs he ha)) fun e w1 hq => ?_
  cases e with
  | returned v' => obtain ⟨β1, S1, v, A1, h1, h2, h3⟩ := hq; exact hk v v' w1 β1 S1 A1 h3 h1 h2
  | panicked => exact hq.elim
  | outgrown => exact hq.elim

/-- A call of a function value. -/
theorem AOp.callValue {c : Call} {t : Operand} {f : FuncId} {fn : Func} {body : Code} {vs : List Value} {first captured : Array Value} (ho : o.op = .call c) (hc : c.callee = .value t) (ht : aev A.gl a t = some (.func (.func f) first captured)) (hf : P.funcs[f]? = some fn) (hb : fn.body = some body) (hn : (fn.name == "runtime.NumGoroutine") = false)
    (ha : aevs A.gl a c.args.toList = some vs) (h : AC P f (first.toList ++ vs ++ captured.toList) A R) : AOp P n o a A R := by
  intro r w0 N w β S ae hs he K Z hk
  have hn' : ¬ fn.name = "runtime.NumGoroutine" := by simpa using hn
  have hv := aev_sound hs he ht
  have hvs := aevs_sound hs he ha
  generalize hz : ae.eval t = v' at hv
  cases hv with
  | @func _ _ f' _ c' _ _ hy h1 h2 _ =>
    have hr : (execOp ae.eval o).run P w = .ok (.enter f (f' ++ c.args.map ae.eval ++ c')) w := by
      simp [execOp, ho, resolve, hc, hz, Deferred.ofValue, invoke, callFunc, hf, hn', hb]
    refine Oper.wpIn_enter hr ?_
    refine Calls.mono (h w0 N w β S _ hs (by simpa using ((h1.append hvs).append h2))) fun e w1 hq => ?_
    cases e with
    | returned v' => obtain ⟨β1, S1, v, A1, h1, h2, h3⟩ := hq; exact hk v v' w1 β1 S1 A1 h3 h1 h2
    | panicked => exact hq.elim
    | outgrown => exact hq.elim

end Go.M
namespace Go.M
open Go.RowKit
variable {P : Program} {w0 w w' w1 w2 : World} {N n m : Nat} {β β' β1 β2 : Bet} {S S' S1 S2 : Nat → Prop} {A A' A1 A2 : AW} {a a1 : AEnv} {ae : Act} {Q Q' : AQ}
variable {ops : Array Oper} {rest : List Oper} {o : Oper} {R : Value → AW → Prop}

/-! ### Filling -/
def setAll : List Value → Nat → List Value → List Value
  | l, _, [] => l
  | l, i, v :: vs => setAll (l.set i v) (i + 1) vs
theorem VRs.setAll {c c' vs vs' : List Value} (h : VRs β S c c') (k : VRs β S vs vs') (i : Nat) : VRs β S (setAll c i vs) (setAll c' i vs') := by
  induction vs generalizing c c' vs' i with
  | nil => cases vs' with
    | nil => exact h
    | cons => have := k.length; simp at this
  | cons v vs ih => cases vs' with
    | nil => have := k.length; simp at this
    | cons v' vs' => exact ih (h.set k.cons_inv.1 i) k.cons_inv.2 (i + 1)
theorem fold_setAll (off : Nat) (vs : List Value) : ∀ (k : Nat) (cells : Array Value), ((vs.zipIdx k).foldl (fun cs (x : Value × Nat) => cs.setIfInBounds (off + x.2) x.1) cells).toList = setAll cells.toList (off + k) vs := by
  induction vs with
  | nil => intro k cells; rfl
  | cons v vs ih =>
    intro k cells
    simp only [List.zipIdx_cons, List.foldl_cons, ih, setAll]
    rw [Array.toList_setIfInBounds, Nat.add_assoc]

def afill (place : Nat → Option (Nat × Nat)) : List Value → List (Nat × Value) → Option (List Value)
  | cells, [] => some cells
  | cells, (i, v) :: rest => match place i with
    | none => none
    | some (off, size) => if v.cells.size = size ∧ off + size ≤ cells.length then afill place (setAll cells off v.cells.toList) rest else none

def VPs (β : Bet) (S : Nat → Prop) (ps ps' : List (Nat × Value)) : Prop := ps'.map (·.1) = ps.map (·.1) ∧ VRs β S (ps.map (·.2)) (ps'.map (·.2))

theorem afill_sound {place : Nat → Option (Nat × Nat)} : ∀ {ps ps' : List (Nat × Value)} {c r : List Value} {c' : Array Value}, afill place c ps = some r → VRs β S c c'.toList → VPs β S ps ps' →
    ∃ r', Instr.fill place c' ps' = some r' ∧ VRs β S r r'.toList
  | [], ps', c, r, c', h, hc, hp => by
    cases h
    have : ps' = [] := by simpa using hp.1
    subst this
    exact ⟨c', rfl, hc⟩
  | (i, v) :: ps, [], c, r, c', h, hc, hp => by have := hp.1; simp at this
  | (i, v) :: ps, (i', v') :: ps', c, r, c', h, hc, hp => by
    obtain ⟨h1, h2⟩ := hp
    simp only [List.map_cons, List.cons.injEq] at h1 h2
    obtain ⟨rfl, h1⟩ := h1
    have hv := h2.cons_inv.1
    simp only [afill] at h
    split at h
    · cases h
    · rename_i off size hpl
      split at h
      · rename_i hcnd
        have hsz := VRs.size hv
        have hl := hc.length
        simp only [Array.length_toList] at hl
        obtain ⟨r', e, hr⟩ := afill_sound (c' := v'.cells.zipIdx.foldl (fun cs (x : Value × Nat) => cs.setIfInBounds (off + x.2) x.1) c') h (by
          rw [← Array.foldl_toList, Array.toList_zipIdx, fold_setAll off v'.cells.toList 0 c']
          exact hc.setAll (VRs.cells hv) off) ⟨h1, h2.cons_inv.2⟩
        refine ⟨r', ?_, hr⟩
        simp only [Instr.fill, hpl]
        rw [if_neg (by simp; omega)]
        exact e
      · cases h

def aparts (gl : Nat) (a : AEnv) : List (Nat × Operand) → Option (List (Nat × Value))
  | [] => some []
  | (i, x) :: r => (aev gl a x).bind fun v => (aparts gl a r).map ((i, v) :: ·)
theorem aparts_sound (hs : Sim P w0 N β S A w) (he : ER n β S a ae) : ∀ {ps : List (Nat × Operand)} {vs : List (Nat × Value)}, aparts A.gl a ps = some vs → VPs β S vs (ps.map fun x => (x.1, ae.eval x.2))
  | [], vs, h => by cases h; exact ⟨rfl, .nil⟩
  | (i, x) :: ps, vs, h => by
    simp only [aparts] at h
    cases h1 : aev A.gl a x with
    | none => simp [h1] at h
    | some v =>
      simp only [h1, Option.bind_some] at h
      cases h2 : aparts A.gl a ps with
      | none => simp [h2] at h
      | some us =>
        simp only [h2, Option.map_some, Option.some.injEq] at h
        subst h
        obtain ⟨k1, k2⟩ := aparts_sound hs he h2
        exact ⟨by simp [k1], VRs.cons (aev_sound hs he h1) k2⟩

def aplaces (P : Program) : List Field → Option (List (Nat × Nat))
  | [] => some []
  | f :: fs => (szOf P f.type).bind fun s => (aplaces P fs).map ((f.offset, s) :: ·)
theorem aplaces_run : ∀ {fs : List Field} {ps : List (Nat × Nat)}, aplaces P fs = some ps → ∀ w, (fs.mapM (fun f => do pure (f.offset, ← sizeOf f.type) : Field → Sem (Nat × Nat))).run P w = .ok ps w
  | [], ps, h, w => by cases h; rfl
  | f :: fs, ps, h, w => by
    simp only [aplaces] at h
    cases h1 : szOf P f.type with
    | none => simp [h1] at h
    | some s =>
      simp only [h1, Option.bind_some] at h
      cases h2 : aplaces P fs with
      | none => simp [h2] at h
      | some qs =>
        simp only [h2, Option.map_some, Option.some.injEq] at h
        subst h
        rw [List.mapM_cons, Sem.run_bind, Sem.run_bind, run_szOf h1]
        simp only [Result.andThen_ok, Sem.run_pure, Sem.run_bind]
        rw [aplaces_run h2 w]
        rfl

/-- The cells of a fresh struct or array. -/
def zcells (P : Program) (t : TypeId) : Option (List Value) := (zeroOf P t).bind fun z => if noAddrs 64 z.cells.toList then some z.cells.toList else none
def abuild (P : Program) (t : TypeId) (parts : List (Nat × Value)) : Option Value :=
  match P.underlying t with
  | some (.struct fs) => (zcells P t).bind fun z => (aplaces P fs.toList).bind fun ps => (afill (ps[·]?) z parts).map fun c => .agg c.toArray
  | some (.array _ e) => (zcells P t).bind fun z => (szOf P e).bind fun s => (afill (fun i => some (i * s, s)) z parts).map fun c => .agg c.toArray
  | _ => none

theorem zcells_run {t : TypeId} {z : List Value} (h : zcells P t = some z) : ∃ zv : Value, zv.cells.toList = z ∧ (∀ w, (zeroValue t).run P w = .ok zv w) ∧ ∀ β S, VRs β S z z := by
  unfold zcells at h
  cases h1 : zeroOf P t with
  | none => simp [h1] at h
  | some zv =>
    simp only [h1, Option.bind_some] at h
    split at h
    · rename_i hn
      cases h
      exact ⟨zv, rfl, run_zeroOf h1, fun β S => VRs.refl_of_noAddrs _ _ hn⟩
    · cases h

theorem abuild_sound {t : TypeId} {v : Value} {ps ps' : List (Nat × Value)} (hp : VPs β S ps ps') (ha : abuild P t ps = some v) (w : World) :
    ∃ v', (Instr.build t ps'.toArray).run P w = .ok v' w ∧ VR β S v v' := by
  unfold abuild at ha
  split at ha
  · rename_i fs hu
    cases h1 : zcells P t with
    | none => simp [h1] at ha
    | some z =>
      simp only [h1, Option.bind_some] at ha
      cases h2 : aplaces P fs.toList with
      | none => simp [h2] at ha
      | some pl =>
        simp only [h2, Option.bind_some] at ha
        cases h3 : afill (pl[·]?) z ps with
        | none => simp [h3] at ha
        | some c =>
          simp only [h3, Option.map_some, Option.some.injEq] at ha
          subst ha
          obtain ⟨zv, rfl, hz, hr⟩ := zcells_run h1
          obtain ⟨r', e, rr⟩ := afill_sound h3 (hr β S) hp
          refine ⟨.agg r', ?_, .agg (by simpa using rr) .nil⟩
          have hm : (fs.mapM (fun f => do pure (f.offset, ← sizeOf f.type) : Field → Sem (Nat × Nat))).run P w = .ok pl.toArray w := by
            rw [← Array.toArray_toList (xs := fs), List.mapM_toArray, Sem.run_map, aplaces_run h2]; rfl
          simp only [Instr.build, Sem.run_bind, hz, Result.andThen_ok, run_underlying hu]
          rw [hm]
          simp [e]
  · rename_i len e hu
    cases h1 : zcells P t with
    | none => simp [h1] at ha
    | some z =>
      simp only [h1, Option.bind_some] at ha
      cases h2 : szOf P e with
      | none => simp [h2] at ha
      | some s =>
        simp only [h2, Option.bind_some] at ha
        cases h3 : afill (fun i => some (i * s, s)) z ps with
        | none => simp [h3] at ha
        | some c =>
          simp only [h3, Option.map_some, Option.some.injEq] at ha
          subst ha
          obtain ⟨zv, rfl, hz, hr⟩ := zcells_run h1
          obtain ⟨r', e1, rr⟩ := afill_sound h3 (hr β S) hp
          refine ⟨.agg r', ?_, .agg (by simpa using rr) .nil⟩
          simp [Instr.build, hz, run_underlying hu, run_szOf h2, e1]
  · cases ha

theorem AOp.build {t : TypeId} {parts : Array (Nat × Operand)} {ps : List (Nat × Value)} {v : Value} (ho : o.op = .build t parts) (hp : aparts A.gl a parts.toList = some ps) (h : abuild P t ps = some v) : AOp P n o a A (isR v A) :=
  .val fun w0 N w β S ae hs he => by
    obtain ⟨v', h1, h2⟩ := abuild_sound (aparts_sound hs he hp) h w
    refine ⟨v', ?_, h2⟩
    have e : (parts.map fun x => (x.1, ae.eval x.2)) = (parts.toList.map fun x => (x.1, ae.eval x.2)).toArray := by apply Array.ext'; simp
    simp only [execOp, ho]
    have : (Instr.build t (parts.map fun x => (x.1, ae.eval x.2))).run P w = .ok v' w := by rw [e]; exact h1
    simp [this]

/-- The zero cells of a row. -/
def zrow (P : Program) (e : TypeId) (len size : Nat) : Option (List Value) :=
  if len * size = 0 then some [] else (zcells P e).map fun z => (List.range (len * size)).map fun i => z.getD (i % z.length) default
def abuildSlice (P : Program) (A : AW) (t : TypeId) (len : Nat) (parts : List (Nat × Value)) : Option (Value × AW) :=
  match P.underlying t with
  | some (.slice e) => (szOf P e).bind fun s => (zrow P e len s).bind fun z => if len * s ≤ 16777216 then (afill (fun i => some (i * s, s)) z parts).map fun c => (.slice (some ⟨A.next, 0, none⟩) len len, A.push (.cells c e)) else none
  | _ => none

theorem zrow_run {e : TypeId} {len s : Nat} {z : List Value} (h : zrow P e len s = some z) (w : World) :
    ∃ zc : Array Value, (if len * s = 0 then Pure.pure #[] else do Pure.pure (← zeroValue e).cells : Sem (Array Value)).run P w = .ok zc w ∧ ((Array.range (len * s)).map (zc[· % zc.size]!)).toList = z ∧ ∀ β S, VRs β S z z := by
  unfold zrow at h
  split at h
  · rename_i q
    cases h
    exact ⟨#[], by simp [q], by simp [q], fun _ _ => .nil⟩
  · rename_i q
    cases h1 : zcells P e with
    | none => simp [h1] at h
    | some zz =>
      simp only [h1, Option.map_some, Option.some.injEq] at h
      obtain ⟨zv, hz0, hz, hr⟩ := zcells_run h1
      have hd : ∀ β S, VR β S (default : Value) default := fun β S => VRs.refl_of_noAddrs 8 _ rfl
      refine ⟨zv.cells, by simp [q, hz], ?_, ?_⟩
      · subst h
        simp only [Array.toList_map, Array.toList_range]
        apply List.map_congr_left
        intro i _
        have hl : zz.length = zv.cells.size := by rw [← hz0]; simp
        rw [hl]
        simp only [← hz0]
        rw [getElem!_def, List.getD_eq_getElem?_getD, Array.getElem?_toList]
        cases zv.cells[i % zv.cells.size]? <;> rfl
      · intro β S
        subst h
        refine VRs.of_get (by simp) fun i v v' h1 h2 => ?_
        simp only [List.getElem?_map, Option.map_eq_some_iff] at h1 h2
        obtain ⟨j, hj, rfl⟩ := h1
        obtain ⟨j', hj', rfl⟩ := h2
        rw [hj] at hj'; cases hj'
        exact (hr β S).getD (hd β S) _

theorem AOp.buildSlice {t : TypeId} {len : Nat} {parts : Array (Nat × Operand)} {ps : List (Nat × Value)} {v : Value} (ho : o.op = .buildSlice t len parts) (hp : aparts A.gl a parts.toList = some ps) (h : abuildSlice P A t len ps = some (v, A1)) : AOp P n o a A (isR v A1) :=
  .of fun w0 N w β S ae hs he => by
    unfold abuildSlice at h
    split at h
    · rename_i e hu
      cases h2 : szOf P e with
      | none => simp [h2] at h
      | some s =>
        simp only [h2, Option.bind_some] at h
        cases h3 : zrow P e len s with
        | none => simp [h3] at h
        | some z =>
          simp only [h3, Option.bind_some] at h
          split at h
          · rename_i hbig
            cases h4 : afill (fun i => some (i * s, s)) z ps with
            | none => simp [h4] at h
            | some c =>
              simp only [h4, Option.map_some, Option.some.injEq, Prod.mk.injEq] at h
              obtain ⟨rfl, rfl⟩ := h
              obtain ⟨zc, hz1, hz2, hz3⟩ := zrow_run h3 w
              obtain ⟨r', e1, rr⟩ := afill_sound (c' := (Array.range (len * s)).map (zc[· % zc.size]!)) h4 (by rw [hz2]; exact hz3 β S) (aparts_sound hs he hp)
              refine ⟨.slice (some ⟨w.heap.size, 0, none⟩) len len, w.alloc (.cells r' e), ?_, Done.newSlice hs rr e s h2 len⟩
              have ep : (parts.map fun x => (x.1, ae.eval x.2)) = (parts.toList.map fun x => (x.1, ae.eval x.2)).toArray := by apply Array.ext'; simp
              have e1' : Instr.fill (fun i => some (i * s, s)) ((Array.range (len * s)).map (zc[· % zc.size]!)) (parts.map fun x => (x.1, ae.eval x.2)).toList = some r' := by rw [ep]; simpa using e1
              simp only [execOp, ho]
              have : (Instr.buildSlice t len (parts.map fun x => (x.1, ae.eval x.2))).run P w = .ok (.slice (some ⟨w.heap.size, 0, none⟩) len len) (w.alloc (.cells r' e)) := by
                unfold Instr.buildSlice
                simp only [Sem.run_bind, run_underlying hu, Result.andThen_ok, run_szOf h2]
                rw [if_neg (by omega)]
                by_cases q : len * s = 0
                · simp only [q, if_true] at hz1 e1' ⊢
                  have ez : zc = #[] := by
                    have := hz1
                    simp at this
                    exact this
                  subst ez
                  rw [Sem.run_bind, Sem.run_pure, Result.andThen_ok]
                  rw [e1']
                  simp [newRow]
                · simp only [if_neg q] at hz1 ⊢
                  cases hzv : (zeroValue e).run P w with
                  | halt x w' => rw [Sem.run_bind, hzv] at hz1; simp at hz1
                  | ok zv w' =>
                    rw [Sem.run_bind, hzv] at hz1
                    simp only [Result.andThen_ok, Sem.run_pure, Result.ok.injEq] at hz1
                    obtain ⟨hz1, rfl⟩ := hz1
                    rw [Sem.run_bind, hzv, Result.andThen_ok, Sem.run_bind, Sem.run_pure, Result.andThen_ok, hz1]
                    rw [e1']
                    simp [newRow]
              simp [this]
          · cases h
    · cases h

theorem AOp.makeFunc {fn : Fn} {first captured : Array Operand} {vs us : List Value} (ho : o.op = .makeFunc fn first captured) (hf : ∀ l, fn ≠ .yield l) (h1 : aevs A.gl a first.toList = some vs) (h2 : aevs A.gl a captured.toList = some us) :
    AOp P n o a A (isR (.func fn vs.toArray us.toArray) A) :=
  .val fun w0 N w β S ae hs he => ⟨.func fn (first.map ae.eval) (captured.map ae.eval), by simp [execOp, ho, Instr.makeFunc], .func hf (by simpa using aevs_sound hs he h1) (by simpa using aevs_sound hs he h2) .nil⟩

end Go.M
namespace Go.M
open Go.RowKit
variable {P : Program} {w0 w w' w1 w2 : World} {N n m : Nat} {β β' β1 β2 : Bet} {S S' S1 S2 : Nat → Prop} {A A' A1 A2 : AW} {a a1 : AEnv} {ae : Act} {Q Q' : AQ}
variable {ops : Array Oper} {rest : List Oper} {o : Oper} {R : Value → AW → Prop}

theorem apart_exact {t : TypeId} {cs : Array Value} {off : Nat} {v : Value} (ha : apart P t cs.toList off = some v) (w : World) : (part t cs off).run P w = .ok v w := by
  unfold apart at ha
  split at ha
  · cases ha
  · rename_i d hd
    split at ha
    · rename_i hag
      cases hs : szOf P t with
      | none => simp [hs] at ha
      | some n =>
        simp only [hs, Option.map_some, Option.some.injEq] at ha
        subst ha
        have : cs.extract off (off + n) = (List.take n (List.drop off cs.toList)).toArray := by
          apply Array.ext'
          rw [Array.toList_extract, List.extract_eq_take_drop]
          simp only [List.toList_toArray, show off + n - off = n by omega]
        simp [part, run_isAgg hd, hag, run_szOf hs, this]
    · rename_i hag
      simp only [Bool.not_eq_true] at hag
      simp only [Array.getElem?_toList] at ha
      simp [part, run_isAgg hd, hag, ha]

mutual
/-- Are two values without addresses equal? (fuel: how deep) -/
def aeq (P : Program) : Nat → TypeId → Value → Value → Option Bool
  | 0, _, _, _ => none
  | d + 1, t, x, y => match P.underlying t, x, y with
    | some (.int _), .int k a, .int k' b => if k = k' then some (a == b) else none
    | some .bool, .bool a, .bool b => some (a == b)
    | some .string, .string a, .string b => some (a == b)
    | some (.struct fs), .agg xs, .agg ys => if P.stoodInHeld t then none else aeqF P d xs.toList ys.toList fs.toList
    | some (.array len e), .agg xs, .agg ys => (szOf P e).bind fun s => aeqA P d e s xs.toList ys.toList (List.range' 0 len)
    | _, _, _ => none
def aeqF (P : Program) : Nat → List Value → List Value → List Field → Option Bool
  | _, _, _, [] => some true
  | 0, _, _, _ => none
  | d + 1, xs, ys, f :: fs => if f.name ≠ "_" then match apart P f.type xs f.offset, apart P f.type ys f.offset with
    | some u, some v => (aeq P d f.type u v).bind fun r => (aeqF P d xs ys fs).map fun rs => r && rs
    | _, _ => none
    else aeqF P d xs ys fs
def aeqA (P : Program) : Nat → TypeId → Nat → List Value → List Value → List Nat → Option Bool
  | _, _, _, _, _, [] => some true
  | 0, _, _, _, _, _ => none
  | d + 1, e, s, xs, ys, i :: is => match apart P e xs (i * s), apart P e ys (i * s) with
    | some u, some v => (aeq P d e u v).bind fun r => (aeqA P d e s xs ys is).map fun rs => r && rs
    | _, _ => none
end

/-- The loop of an array's comparison. -/
def eqElems (D : Nat) (e : TypeId) (s : Nat) (xs ys : Array Value) : List Nat → Sem Bool
  | [] => pure true
  | i :: is => do
    let a ← part e xs (i * s)
    let b ← part e ys (i * s)
    let r ← Op.equalIn D e a b
    if (!r) = true then pure false else eqElems D e s xs ys is
theorem run_equalIn_array (D len s : Nat) (t e : TypeId) (xs ys : Array Value) (w : World) (ht : P.underlying t = some (.array len e)) (hs : szOf P e = some s) :
    (Op.equalIn (D + 1) t (.agg xs) (.agg ys)).run P w = (eqElems D e s xs ys (List.range' 0 len)).run P w := by
  simp only [Op.equalIn, Sem.run_bind, run_underlying ht, Result.andThen_ok, run_szOf hs]
  rw [Std.Legacy.Range.forIn_eq_forIn_range']
  simp only [Std.Legacy.Range.size, Nat.sub_zero, Nat.add_sub_cancel, Nat.div_one]
  generalize List.range' 0 len = is
  induction is generalizing w with
  | nil => simp [eqElems]
  | cons i is ih =>
    simp only [List.forIn_cons, eqElems, Sem.run_bind, Sem.run_ite]
    generalize (part e xs (i * s)).run P w = r1
    cases r1 with
    | ok a w1 =>
      simp only [Result.andThen_ok]
      generalize (part e ys (i * s)).run P w1 = r2
      cases r2 with
      | ok b w2 =>
        simp only [Result.andThen_ok]
        generalize (Op.equalIn D e a b).run P w2 = r3
        cases r3 with
        | ok r w3 =>
          cases r
          · simp only [Result.andThen_ok, Bool.not_false, if_true, Sem.run_pure]
          · simp only [Result.andThen_ok, Bool.not_true, Bool.false_eq_true, if_false, Sem.run_pure]
            exact ih w3
        | halt x w3 => simp [Result.andThen]
      | halt x w2 => simp [Result.andThen]
    | halt x w1 => simp [Result.andThen]

mutual
theorem aeq_run : ∀ (d : Nat) (t : TypeId) (x y : Value) (b : Bool), aeq P d t x y = some b → ∀ D, d ≤ D → ∀ w, (Op.equalIn D t x y).run P w = .ok b w
  | 0, _, _, _, _, h, _, _, _ => by cases h
  | d + 1, t, x, y, b, h, D, hD, w => by
    obtain ⟨D, rfl⟩ : ∃ k, D = k + 1 := ⟨D - 1, by omega⟩
    unfold aeq at h
    split at h
    · rename_i hu
      split at h
      · rename_i hk; subst hk; cases h; simp [Op.equalIn, run_underlying hu]
      · cases h
    · rename_i hu; cases h; simp [Op.equalIn, run_underlying hu]
    · rename_i hu; cases h; simp [Op.equalIn, run_underlying hu]
    · rename_i fs xs ys hu
      split at h
      · cases h
      · rename_i hst
        have hf : P.fieldsOf t = fs := by simp [Program.fieldsOf, hu]
        rw [run_equalIn_struct w D t xs ys (by rw [hf]; exact hu) (by simpa using hst), hf]
        exact aeqF_run d xs ys fs.toList b h D (by omega) w
    · rename_i len e xs ys hu
      cases hs : szOf P e with
      | none => simp [hs] at h
      | some s =>
        simp only [hs, Option.bind_some] at h
        rw [run_equalIn_array D len s t e xs ys w hu hs]
        exact aeqA_run d e s xs ys _ b h D (by omega) w
    · cases h
theorem aeqF_run : ∀ (d : Nat) (xs ys : Array Value) (fs : List Field) (b : Bool), aeqF P d xs.toList ys.toList fs = some b → ∀ D, d ≤ D → ∀ w, (Op.eqFields D xs ys fs).run P w = .ok b w
  | d, xs, ys, [], b, h, D, hD, w => by
    unfold aeqF at h
    cases h
    simp [Op.eqFields]
  | 0, _, _, f :: fs, _, h, _, _, _ => by simp [aeqF] at h
  | d + 1, xs, ys, f :: fs, b, h, D, hD, w => by
    unfold aeqF at h
    unfold Op.eqFields
    split at h
    · rename_i hn
      rw [if_pos hn]
      split at h
      · rename_i u v hu hv
        cases h1 : aeq P d f.type u v with
        | none => simp [h1] at h
        | some r =>
          simp only [h1, Option.bind_some] at h
          cases h2 : aeqF P d xs.toList ys.toList fs with
          | none => simp [h2] at h
          | some rs =>
            simp only [h2, Option.map_some, Option.some.injEq] at h
            subst h
            have e1 := aeq_run d f.type u v r h1 D (by omega) w
            have e2 := aeqF_run d xs ys fs rs h2 D (by omega) w
            simp only [Sem.run_bind, apart_exact hu w, apart_exact hv w, Result.andThen_ok, e1]
            cases r
            · simp
            · simpa using e2
      · cases h
    · rename_i hn
      rw [if_neg hn]
      exact aeqF_run d xs ys fs b h D (by omega) w
theorem aeqA_run : ∀ (d : Nat) (e : TypeId) (s : Nat) (xs ys : Array Value) (is : List Nat) (b : Bool), aeqA P d e s xs.toList ys.toList is = some b → ∀ D, d ≤ D → ∀ w, (eqElems D e s xs ys is).run P w = .ok b w
  | d, e, s, xs, ys, [], b, h, D, hD, w => by
    unfold aeqA at h
    cases h
    simp [eqElems]
  | 0, _, _, _, _, i :: is, _, h, _, _, _ => by simp [aeqA] at h
  | d + 1, e, s, xs, ys, i :: is, b, h, D, hD, w => by
    unfold aeqA at h
    unfold eqElems
    split at h
    · rename_i u v hu hv
      cases h1 : aeq P d e u v with
      | none => simp [h1] at h
      | some r =>
        simp only [h1, Option.bind_some] at h
        cases h2 : aeqA P d e s xs.toList ys.toList is with
        | none => simp [h2] at h
        | some rs =>
          simp only [h2, Option.map_some, Option.some.injEq] at h
          subst h
          have e1 := aeq_run d e u v r h1 D (by omega) w
          have e2 := aeqA_run d e s xs ys is rs h2 D (by omega) w
          simp only [Sem.run_bind, apart_exact hu w, apart_exact hv w, Result.andThen_ok, e1]
          cases r
          · simp
          · simpa using e2
    · cases h
end

theorem AOp.eqAgg {op : BinOp} {t t2 : TypeId} {x y : Operand} {xs ys : Array Value} {b : Bool} {d kx ky : Nat} (ho : o.op = .binOp op t x y t2) (hop : op = .eql ∨ op = .neq) (hx : aev A.gl a x = some (.agg xs)) (hy : aev A.gl a y = some (.agg ys))
    (nx : noAddrs kx [.agg xs] = true) (ny : noAddrs ky [.agg ys] = true) (hg : P.eqGuardType P.depth t = false) (hb : aeq P d t (.agg xs) (.agg ys) = some b) (hd : d ≤ 10000) : AOp P n o a A (isR (.bool (if op = .eql then b else !b)) A) :=
  .bin ho hx hy nx ny (fun w => by
    rcases hop with rfl | rfl
    · rw [Sem.run_bind, run_eqGuard_agg w .eql t x y xs ys hg, Result.andThen_ok, run_eql_struct, aeq_run d t _ _ b hb 10000 hd w]; simp
    · rw [Sem.run_bind, run_eqGuard_agg w .neq t x y xs ys hg, Result.andThen_ok, run_neq_struct, aeq_run d t _ _ b hb 10000 hd w]; simp) (fun _ _ => .bool .nil)

theorem AOp.eqBool {op : BinOp} {t t2 : TypeId} {x y : Operand} {b c : Bool} (ho : o.op = .binOp op t x y t2) (hop : op = .eql ∨ op = .neq) (hx : aev A.gl a x = some (.bool b)) (hy : aev A.gl a y = some (.bool c)) (hu : P.underlying t = some .bool) : AOp P n o a A (isR (.bool (if op = .eql then b == c else !(b == c))) A) :=
  .bin (kx := 64) (ky := 64) ho hx hy rfl rfl (fun w => by
    rcases hop with rfl | rfl
    · simp [eqGuard, run_eql_bool w t b c hu]
    · simp [eqGuard, run_neq_bool w t b c hu]) (fun _ _ => .bool .nil)

theorem run_equalIn_nil (D : Nat) (t e : TypeId) (p : Option Addr) (l c l' c' : Nat) (w : World) (hu : P.underlying t = some (.slice e)) : (Op.equalIn (D + 1) t (.slice p l c) (.slice none l' c')).run P w = .ok p.isNone w := by
  cases p <;> simp [Op.equalIn, run_underlying hu]
theorem run_eql_nil (t e : TypeId) (p : Option Addr) (l c l' c' : Nat) (w : World) (hu : P.underlying t = some (.slice e)) (x y : Operand) (op : BinOp) (hop : op = .eql ∨ op = .neq) :
    (do eqGuard op t x y (.slice p l c) (.slice none l' c'); binOp op t (.slice p l c) (.slice none l' c') : Sem Value).run P w = .ok (.bool (if op = .eql then p.isNone else !p.isNone)) w := by
  have h : (Op.equal t (.slice p l c) (.slice none l' c')).run P w = .ok p.isNone w := run_equalIn_nil 9999 t e p l c l' c' w hu
  have hg : (eqGuard op t x y (.slice p l c) (.slice none l' c')).run P w = .ok () w := by
    unfold eqGuard
    split <;> rfl
  rw [Sem.run_bind, hg, Result.andThen_ok]
  rcases hop with rfl | rfl
  · simp only [binOp, Sem.run_bind, h, Result.andThen_ok]; rfl
  · simp only [binOp, Sem.run_bind, h, Result.andThen_ok]; rfl

/-- A slice against nil. -/
theorem AOp.eqNil {op : BinOp} {t t2 e : TypeId} {x y : Operand} {p : Option Addr} {l c l' c' : Nat} (ho : o.op = .binOp op t x y t2) (hop : op = .eql ∨ op = .neq) (hx : aev A.gl a x = some (.slice p l c)) (hy : aev A.gl a y = some (.slice none l' c')) (hu : P.underlying t = some (.slice e)) :
    AOp P n o a A (isR (.bool (if op = .eql then p.isNone else !p.isNone)) A) :=
  .val fun w0 N w β S ae hs he => by
    have hv := aev_sound hs he hx
    have hw := aev_sound hs he hy
    refine ⟨_, ?_, .bool .nil⟩
    simp only [execOp, ho]
    generalize ae.eval x = v at hv
    generalize ae.eval y = u at hw
    cases hw
    have : (do eqGuard op t x y v (.slice none l' c'); binOp op t v (.slice none l' c') : Sem Value).run P w = .ok (.bool (if op = .eql then p.isNone else !p.isNone)) w := by
      cases hv with
      | sl0 => exact run_eql_nil t e _ _ _ _ _ w hu x y op hop
      | sl _ _ _ _ => exact run_eql_nil t e _ _ _ _ _ w hu x y op hop
      | slD _ _ _ => exact run_eql_nil t e _ _ _ _ _ w hu x y op hop
    rw [Sem.run_bind, this]
    rfl

/-! ### Strings -/
def sbin (op : BinOp) (x y : ByteArray) : Option Value :=
  match op with
  | .add => if (x.size + y.size : Nat) ≤ 9223372036854775807 then some (.string (x ++ y)) else none
  | .eql => some (.bool (x.data.toList == y.data.toList))
  | .neq => some (.bool (!(x.data.toList == y.data.toList)))
  | .lss => some (.bool (Op.bytesLess x.data.toList y.data.toList))
  | .leq => some (.bool (Op.bytesLess x.data.toList y.data.toList || x.data.toList == y.data.toList))
  | .gtr => some (.bool (!(Op.bytesLess x.data.toList y.data.toList || x.data.toList == y.data.toList)))
  | .geq => some (.bool (!(Op.bytesLess x.data.toList y.data.toList)))
  | _ => none
theorem sbin_run {op : BinOp} {x y : ByteArray} {v : Value} (t : TypeId) (X Y : Operand) (h : sbin op x y = some v) (w : World) :
    (do eqGuard op t X Y (.string x) (.string y); binOp op t (.string x) (.string y) : Sem Value).run P w = .ok v w := by
  unfold sbin at h
  cases op
  case add =>
    by_cases q : (x.size + y.size : Nat) ≤ 9223372036854775807
    · simp only [if_pos q, Option.some.injEq] at h
      subst h
      have : ¬ ((x.size + y.size : Nat) : Int) > IntKind.i64.max := by
        have e : IntKind.i64.max = 9223372036854775807 := by decide
        rw [e]; omega
      simp only [eqGuard, binOp, Op.stringOp, Sem.run_bind, Sem.run_ite]
      simp only [Bool.not_false, if_true, Sem.run_pure, Result.andThen_ok]
      rw [if_neg this]
    · simp [q] at h
  all_goals first
    | (simp only [Option.some.injEq] at h; subst h; simp [eqGuard, binOp, Op.stringOp, ByteArray.toList_eq]; done)
    | cases h
theorem sbin_plain {op : BinOp} {x y : ByteArray} {v : Value} (h : sbin op x y = some v) : ∀ β S, VR β S v v := by
  unfold sbin at h
  intro β S
  cases op
  case add =>
    by_cases q : (x.size + y.size : Nat) ≤ 9223372036854775807
    · simp only [if_pos q, Option.some.injEq] at h; subst h; exact .string .nil
    · simp [q] at h
  all_goals first
    | (simp only [Option.some.injEq] at h; subst h; exact .bool .nil)
    | cases h
theorem AOp.sbin {op : BinOp} {t t2 : TypeId} {X Y : Operand} {x y : ByteArray} {v : Value} (ho : o.op = .binOp op t X Y t2) (hx : aev A.gl a X = some (.string x)) (hy : aev A.gl a Y = some (.string y)) (h : M.sbin op x y = some v) : AOp P n o a A (isR v A) :=
  .bin (kx := 64) (ky := 64) ho hx hy rfl rfl (sbin_run t X Y h) (sbin_plain h)

/-- Bytes to a string. -/
def bytesOf (ns : List Int) : ByteArray := ns.foldl (fun r n => r.push (UInt8.ofNat n.toNat)) ByteArray.empty
theorem VRs.ints {k : IntKind} : ∀ {ns : List Int} {vs' : List Value}, VRs β S (ns.map (Value.int k)) vs' → vs' = ns.map (Value.int k)
  | [], vs', h => by cases h; rfl
  | n :: ns, [], h => by have := h.length; simp at this
  | n :: ns, v :: vs, h => by
    have h1 := VR.isInt h.cons_inv.1
    have h2 := VRs.ints h.cons_inv.2
    simp [h1, h2]
theorem AOp.bytesString {s d e : TypeId} {x : Operand} {b f l c : Nat} {ns : List Int} (ho : o.op = .convert s d x) (hx : aev A.gl a x = some (.slice (some ⟨b, f, none⟩) l c)) (hs : P.underlying s = some (.slice e)) (he : P.underlying e = some (.int .u8)) (hd : P.underlying d = some .string)
    (hr : A.rd b f l = some (ns.map (Value.int .u8))) : AOp P n o a A (isR (.string (bytesOf ns)) A) :=
  .val fun w0 N w β S ae hsim hER => by
    have hv := aev_sound hsim hER hx
    obtain ⟨L, cs', hb, hl, hvs, hc⟩ := hsim.rd hr
    refine ⟨.string (bytesOf ns), ?_, .string .nil⟩
    simp only [execOp, ho]
    generalize ae.eval x = v at hv
    have hns := VRs.ints hvs
    subst hns
    cases hv with
    | sl _ hb2 _ _ _ =>
      rw [hb] at hb2; cases hb2
      have hload := run_loadCells_list (P := P) w ⟨L.blk, L.off + f, none⟩ (ns.map (Value.int .u8)) (fun j v hv => by rw [Addr.add_mid]; exact hc j v hv)
      rw [hl] at hload
      rw [Sem.run_bind, run_convert_bytes_string w s d e _ l _ hs he hd, run_bytesToString w _ l _ ns hload]
      rfl
    | slD _ hb2 _ _ => rw [hb] at hb2; cases hb2

end Go.M
namespace Go.M
open Go.RowKit
variable {P : Program} {w0 w w' w1 w2 : World} {N n m : Nat} {β β' β1 β2 : Bet} {S S' S1 S2 : Nat → Prop} {A A' A1 A2 : AW} {a a1 : AEnv} {ae : Act} {Q Q' : AQ}
variable {ops : Array Oper} {rest : List Oper} {o : Oper} {R : Value → AW → Prop}

/-! ### Maps -/
def amakeMap (A : AW) : Value × AW := (.map (some A.next), A.push (.map [] 0))
theorem AOp.makeMap {t : TypeId} (ho : o.op = .makeMap t none) : AOp P n o a A (isR (amakeMap A).1 (amakeMap A).2) :=
  .of fun w0 N w β S ae hs he => by
    have h := hs.push (.map [] 0) (.map #[] 0) ⟨w.heap.size, 0, 0, 0⟩ rfl ⟨#[], by show (w.heap.push _)[w.heap.size]? = _; simp, rfl, rfl, ⟨1, rfl⟩, .nil⟩
    refine ⟨.map (some w.heap.size), w.alloc (.map #[] 0), by simp [execOp, ho, Instr.makeMap], ⟨⟨_, _, h.1, h.2.1, h.2.2, .map (L := ⟨w.heap.size, 0, 0, 0⟩) (.inr rfl) (by simp) .nil, by simp [amakeMap, AW.push], rfl, rfl⟩⟩⟩

def simpleKey : TypeDesc → Bool
  | .int _ | .string | .bool => true
  | _ => false
theorem run_checkKey_simple {t : TypeId} {d : TypeDesc} (hu : P.underlying t = some d) (hd : simpleKey d = true) (b : Bool) (k : Nat) (v : Value) (w : World) : (Instr.checkKey b (k + 1) t v).run P w = .ok () w := by
  cases d <;> first | (simp [simpleKey] at hd; done) | (cases v <;> simp [Instr.checkKey, run_underlying hu])

structure MRel (β : Bet) (S : Nat → Prop) (es es' : List MapEntry) : Prop where
  keys : es'.map (·.key) = es.map (·.key)
  born : es'.map (·.born) = es.map (·.born)
  vals : VRs β S (es.map (·.val)) (es'.map (·.val))

theorem findNow_rel (d : TypeDesc) (k : Value) : ∀ (es es' : List MapEntry) (i : Nat) (r : Option (Nat × Value)), MRel β S es es' → Instr.findNow d k es i = some r →
    (r = none ∧ Instr.findNow d k es' i = some none) ∨ ∃ j v v', r = some (j, v) ∧ Instr.findNow d k es' i = some (some (j, v')) ∧ VR β S v v'
  | [], es', i, r, hr, h => by
    have : es' = [] := by simpa using hr.keys
    subst this
    simp only [Instr.findNow, Option.some.injEq] at h
    exact .inl ⟨h.symm, rfl⟩
  | e :: es, [], i, r, hr, h => by have := hr.keys; simp at this
  | e :: es, e' :: es', i, r, hr, h => by
    obtain ⟨h1, h2, h3⟩ := hr
    simp only [List.map_cons, List.cons.injEq] at h1 h2 h3
    simp only [Instr.findNow] at h ⊢
    rw [h1.1]
    split at h
    · rename_i q
      simp only [Option.some.injEq] at h
      exact .inr ⟨i, e.val, e'.val, h.symm, rfl, h3.cons_inv.1⟩
    · rename_i q
      exact findNow_rel d k es es' (i + 1) r ⟨h1.2, h2.2, h3.cons_inv.2⟩ h
    · cases h

def amap (A : AW) : Value → Option (List MapEntry)
  | .map none => some []
  | .map (some b) => match A.objs b with
    | some (.map es _) => some es
    | _ => none
  | _ => none
def azero (P : Program) (t : TypeId) : Option Value := (zeroOf P t).bind fun z => if noAddrs 64 [z] then some z else none
def alookup (P : Program) (A : AW) (t : TypeId) (x k : Value) (ok : Bool) : Option Value :=
  match P.underlying t with
  | some (.map key elem) => match P.underlying key with
    | some d => if simpleKey d && noAddrs 8 [k] then (amap A x).bind fun es => match Instr.findNow d k es 0 with
      | some (some (_, v)) => some (if ok then .tuple #[v, .bool true] else v)
      | some none => (azero P elem).map fun z => if ok then .tuple #[z, .bool false] else z
      | none => none
      else none
    | none => none
  | _ => none

theorem amap_rel (h : Sim P w0 N β S A w) {x x' : Value} {es : List MapEntry} (hx : VR β S x x') (ha : amap A x = some es) :
    (x' = .map none ∧ es = []) ∨ ∃ b L clock es', x = .map (some b) ∧ x' = .map (some L.blk) ∧ β b = some L ∧ A.objs b = some (.map es clock) ∧ w.heap[L.blk]? = some (.map es' clock) ∧ MRel β S es es'.toList ∧ (∃ n, noAddrs n (es.map (·.key)) = true) := by
  unfold amap at ha
  split at ha
  · cases ha; cases hx; exact .inl ⟨rfl, rfl⟩
  · rename_i b
    split at ha
    · rename_i es' clock ho
      cases ha
      obtain ⟨L, hb, es', h1, h2, h3, h4, h5⟩ := h.live b _ ho
      cases hx with
      | map _ hb2 _ => rw [hb] at hb2; cases hb2; exact .inr ⟨b, L, clock, es', rfl, rfl, hb, ho, h1, ⟨h2, h3, h5⟩, h4⟩
      | mapD _ hb2 _ => rw [hb] at hb2; cases hb2
    · cases ha
  · cases ha

theorem lookup_run {t key elem : TypeId} {d : TypeDesc} {x k z : Value} {ok : Bool} {es : Array MapEntry} {r : Option (Nat × Value)} (ht : P.underlying t = some (.map key elem)) (hd : P.underlying key = some d) (hs : simpleKey d = true)
    (hx : (x = .map none ∧ es = #[]) ∨ ∃ b clock, x = .map (some b) ∧ (getObj b).run P w = .ok (.map es clock) w) (hf : (Instr.findKey key k es.toList).run P w = .ok r w) (hz : r = none → (zeroValue elem).run P w = .ok z w) :
    (Instr.lookup t x k ok).run P w = .ok (if ok then .tuple #[(r.map (·.2)).getD z, .bool r.isSome] else (r.map (·.2)).getD z) w := by
  rcases hx with ⟨rfl, rfl⟩ | ⟨b, clock, rfl, hg⟩
  · simp only [Instr.lookup, Sem.run_bind, run_underlying ht, Result.andThen_ok, Sem.run_pure, run_checkKey_simple hd hs, hf]
    cases r with
    | none => simp [hz rfl]
    | some u => simp
  · simp only [Instr.lookup, Sem.run_bind, run_underlying ht, Result.andThen_ok, Sem.run_pure, hg, run_checkKey_simple hd hs, hf]
    cases r with
    | none => simp [hz rfl]
    | some u => simp

theorem azero_run {t : TypeId} {z : Value} (hz : azero P t = some z) : (∀ w, (zeroValue t).run P w = .ok z w) ∧ ∀ β S, VR β S z z := by
  unfold azero at hz
  cases h2 : zeroOf P t with
  | none => simp [h2] at hz
  | some zz =>
    simp only [h2, Option.bind_some] at hz
    split at hz
    · rename_i hpl
      cases hz
      exact ⟨fun w => run_zeroOf h2 w, fun β S => VRs.refl_of_noAddrs _ _ hpl⟩
    · cases hz

theorem alookup_sound (h : Sim P w0 N β S A w) {t : TypeId} {v x x' k k' : Value} {ok : Bool} (hx : VR β S x x') (hk : VR β S k k') (ha : alookup P A t x k ok = some v) :
    ∃ v', (Instr.lookup t x' k' ok).run P w = .ok v' w ∧ VR β S v v' := by
  unfold alookup at ha
  split at ha
  case h_2 => cases ha
  rename_i key elem ht
  split at ha
  case h_2 => cases ha
  rename_i d hd
  split at ha
  case isFalse => cases ha
  rename_i hc
  simp only [Bool.and_eq_true] at hc
  have ek : k' = k := by have := VRs.eq_of_noAddrs hk _ hc.2; simpa using this
  subst ek
  cases hm : amap A x with
  | none => simp [hm] at ha
  | some es =>
    simp only [hm, Option.bind_some] at ha
    have fin : ∃ es' : Array MapEntry, MRel β S es es'.toList ∧ ((x' = .map none ∧ es' = #[]) ∨ ∃ b clock, x' = .map (some b) ∧ (getObj b).run P w = .ok (.map es' clock) w) := by
      rcases amap_rel h hx hm with ⟨rfl, rfl⟩ | ⟨b, L, clock, es', rfl, rfl, hb, ho, hg, hr, _⟩
      · exact ⟨#[], ⟨rfl, rfl, .nil⟩, .inl ⟨rfl, rfl⟩⟩
      · exact ⟨es', hr, .inr ⟨L.blk, clock, rfl, by simp [getObj, Sem.run, hg]⟩⟩
    obtain ⟨es', hr, hx'⟩ := fin
    have hf : ∀ r, Instr.findNow d k' es'.toList 0 = some r → (Instr.findKey key k' es'.toList).run P w = .ok r w := by
      intro r hr
      simp [Instr.findKey, run_underlying hd, hr]
    cases hn : Instr.findNow d k' es 0 with
    | none => simp [hn] at ha
    | some r =>
      rcases findNow_rel d k' es es'.toList 0 r hr hn with ⟨rfl, h2⟩ | ⟨j, u, u', rfl, h2, h3⟩
      · simp only [hn] at ha
        cases hz : azero P elem with
        | none => simp [hz] at ha
        | some z =>
          simp only [hz, Option.map_some, Option.some.injEq] at ha
          obtain ⟨z1, z2⟩ := azero_run hz
          refine ⟨_, lookup_run ht hd hc.1 hx' (hf _ h2) (fun _ => z1 w), ?_⟩
          subst ha
          cases ok
          · exact z2 _ _
          · exact .tuple (VRs.cons (z2 _ _) (.bool .nil)) .nil
      · simp only [hn, Option.some.injEq] at ha
        refine ⟨_, lookup_run (z := u') ht hd hc.1 hx' (hf _ h2) (by simp), ?_⟩
        subst ha
        cases ok
        · exact h3
        · exact .tuple (VRs.cons h3 (.bool .nil)) .nil

theorem AOp.lookup {t : TypeId} {x y : Operand} {ok : Bool} {vx vy v : Value} (ho : o.op = .lookup t x y ok) (hx : aev A.gl a x = some vx) (hy : aev A.gl a y = some vy) (h : alookup P A t vx vy ok = some v) : AOp P n o a A (isR v A) :=
  .val fun w0 N w β S ae hs he => let ⟨v', h1, h2⟩ := alookup_sound hs (aev_sound hs he hx) (aev_sound hs he hy) h; ⟨v', by simp [execOp, ho, h1], h2⟩

theorem noAddrs_succ : ∀ (k : Nat) (vs : List Value), noAddrs k vs = true → noAddrs (k + 1) vs = true
  | 0, _, h => by simp [noAddrs] at h
  | k + 1, [], _ => rfl
  | k + 1, v :: vs, h => by
    unfold noAddrs at h ⊢
    simp only [Bool.and_eq_true] at h ⊢
    refine ⟨?_, noAddrs_succ k vs h.2⟩
    have h1 := h.1
    split at h1 <;> first
      | exact h1
      | (exact noAddrs_succ k _ h1)
theorem noAddrs_le {k j : Nat} (h : k ≤ j) {vs : List Value} (hv : noAddrs k vs = true) : noAddrs j vs = true := by
  induction h with
  | refl => exact hv
  | step _ ih => exact noAddrs_succ _ _ ih
theorem noAddrs_cons {k : Nat} {v : Value} {vs : List Value} (h1 : noAddrs k [v] = true) (h2 : noAddrs k vs = true) : noAddrs (k + 1) (v :: vs) = true := by
  have h1 := noAddrs_succ _ _ h1
  unfold noAddrs at h1 ⊢
  simp only [Bool.and_eq_true] at h1 ⊢
  exact ⟨h1.1, h2⟩
theorem noAddrs_tail {k : Nat} {v : Value} {vs : List Value} (h : noAddrs (k + 1) (v :: vs) = true) : noAddrs k vs = true := by
  unfold noAddrs at h
  simp only [Bool.and_eq_true] at h
  exact h.2
theorem noAddrs_head {k : Nat} {v : Value} {vs : List Value} (h : noAddrs (k + 1) (v :: vs) = true) : noAddrs (k + 1) [v] = true := by
  unfold noAddrs at h ⊢
  simp only [Bool.and_eq_true] at h ⊢
  refine ⟨h.1, ?_⟩
  cases k with
  | zero => have := h.2; simp [noAddrs] at this
  | succ k => rfl
theorem noAddrs_snoc {u : Value} : ∀ (vs : List Value) (k : Nat), noAddrs k vs = true → noAddrs k [u] = true → ∃ j, noAddrs j (vs ++ [u]) = true
  | [], k, _, h => ⟨k, h⟩
  | v :: vs, 0, h, _ => by simp [noAddrs] at h
  | v :: vs, k + 1, h, hu => by
    obtain ⟨j, hj⟩ := noAddrs_snoc vs (k + 1) (noAddrs_succ _ _ (noAddrs_tail h)) hu
    exact ⟨(max j (k + 1)) + 1, noAddrs_cons (noAddrs_le (Nat.le_max_right _ _) (noAddrs_head h)) (noAddrs_le (Nat.le_max_left _ _) hj)⟩

def amapSet (es : List MapEntry) (clock : Nat) (k v : Value) : Option (Nat × Value) → AObj
  | some (i, _) => .map (es.modify i fun e => { e with key := k, val := v }) clock
  | none => .map (es ++ [{ key := k, val := v, born := clock }]) (clock + 1)
def amapUpdate (P : Program) (A : AW) (t : TypeId) (x k v : Value) : Option AW :=
  match P.underlying t, x with
  | some (.map key _), .map (some b) => match P.underlying key, A.objs b with
    | some d, some (.map es clock) => if simpleKey d && noAddrs 8 [k] && decide (A.ro ≤ b) then (Instr.findNow d k es 0).map fun r => A.upd b (some (amapSet es clock k v r)) else none
    | _, _ => none
  | _, _ => none

theorem bytes_eq {x y : ByteArray} (h : (x == y) = true) : x = y := by
  obtain ⟨⟨x⟩⟩ := x
  obtain ⟨⟨y⟩⟩ := y
  have h : ((⟨x⟩ : Array UInt8) == ⟨y⟩) = true := h
  have := eq_of_beq h
  rw [this]
theorem bytes_beq (x : ByteArray) : (x == x) = true := by
  obtain ⟨⟨x⟩⟩ := x
  show ((⟨x⟩ : Array UInt8) == ⟨x⟩) = true
  simp
theorem sameNow_eq {d : TypeDesc} {k u : Value} (h : Instr.sameNow d k u = some true) : u = k ∧ Instr.sameBits 10000 u k = true := by
  unfold Instr.sameNow at h
  split at h
  · split at h
    · rename_i hk; subst hk
      simp only [Option.some.injEq, beq_iff_eq] at h
      subst h
      exact ⟨rfl, by simp [Instr.sameBits]⟩
    · cases h
  · simp only [Option.some.injEq] at h
    have := bytes_eq h
    subst this
    exact ⟨rfl, by simp [Instr.sameBits, bytes_beq]⟩
  · simp only [Option.some.injEq, beq_iff_eq] at h
    subst h
    exact ⟨rfl, by simp [Instr.sameBits]⟩
  · cases h
theorem findNow_key (d : TypeDesc) (k : Value) : ∀ (es : List MapEntry) (i j : Nat) (v : Value), Instr.findNow d k es i = some (some (j, v)) → i ≤ j ∧ ∃ e, es[j - i]? = some e ∧ e.key = k ∧ Instr.sameBits 10000 e.key k = true
  | [], i, j, v, h => by simp [Instr.findNow] at h
  | e :: es, i, j, v, h => by
    simp only [Instr.findNow] at h
    split at h
    · rename_i q
      simp only [Option.some.injEq, Prod.mk.injEq] at h
      obtain ⟨rfl, _⟩ := h
      have := sameNow_eq q
      exact ⟨Nat.le_refl _, e, by simp, this.1, this.2⟩
    · obtain ⟨h1, e', h2, h3⟩ := findNow_key d k es (i + 1) j v h
      refine ⟨by omega, e', ?_, h3⟩
      have : j - i = (j - (i + 1)) + 1 := by omega
      rw [this]; simpa using h2
    · cases h

theorem amapUpdate_sound (h : Sim P w0 N β S A w) {t : TypeId} {x x' k k' v v' : Value} (hx : VR β S x x') (hk : VR β S k k') (hv : VR β S v v') (ha : amapUpdate P A t x k v = some A1) :
    ∃ w1, (Instr.mapUpdate t x' k' v').run P w = .ok () w1 ∧ Sim P w0 N β S A1 w1 ∧ A1.next = A.next ∧ A1.ro = A.ro ∧ A1.gl = A.gl := by
  unfold amapUpdate at ha
  split at ha
  case h_2 => cases ha
  rename_i key elem b ht
  split at ha
  case h_2 => cases ha
  rename_i d es clock hd ho
  split at ha
  case isFalse => cases ha
  rename_i hc
  simp only [Bool.and_eq_true, decide_eq_true_eq] at hc
  obtain ⟨⟨hc1, hc2⟩, hro⟩ := hc
  have ek : k' = k := by have := VRs.eq_of_noAddrs hk _ hc2; simpa using this
  subst ek
  cases hn : Instr.findNow d k' es 0 with
  | none => simp [hn] at ha
  | some r =>
    simp only [hn, Option.map_some, Option.some.injEq] at ha
    subst ha
    obtain ⟨L, hb, es', h1, h2, h3, ⟨kn, h4⟩, h5⟩ := h.live b _ ho
    have hrel : MRel β S es es'.toList := ⟨h2, h3, h5⟩
    have ex : x' = .map (some L.blk) := by
      cases hx with
      | map _ hb2 _ => rw [hb] at hb2; cases hb2; rfl
      | mapD _ hb2 _ => rw [hb] at hb2; cases hb2
    subst ex
    have hlt := (Array.getElem?_eq_some_iff.1 h1).1
    have hget : (getObj L.blk).run P w = .ok (.map es' clock) w := by simp [getObj, Sem.run, h1]
    have hset : ∀ o', (setObj L.blk o').run P w = .ok () { w with heap := w.heap.setIfInBounds L.blk o' } := by intro o'; simp [setObj, Sem.run, h1]
    have fin : ∀ (ao : AObj) (o' : Obj), ORel P β S { w with heap := w.heap.setIfInBounds L.blk o' } true L ao → Sim P w0 N β S (A.upd b (some ao)) { w with heap := w.heap.setIfInBounds L.blk o' } := by
      intro ao o' hr
      exact (h.write (w' := { w with heap := w.heap.setIfInBounds L.blk o' }) hb hro ao hr rfl rfl rfl (by simp) (fun j hj => by
        show (w.heap.setIfInBounds L.blk o')[j]? = _
        rw [Array.getElem?_setIfInBounds]; simp [Ne.symm hj])).1
    rcases findNow_rel d k' es es'.toList 0 r hrel hn with ⟨rfl, g2⟩ | ⟨j, u, u', rfl, g2, g3⟩
    · refine ⟨{ w with heap := w.heap.setIfInBounds L.blk (.map (es'.push ⟨k', v', clock⟩) (clock + 1)) }, ?_, ?_, rfl, rfl, rfl⟩
      · have hf : (Instr.findKey key k' es'.toList).run P w = .ok none w := by simp [Instr.findKey, run_underlying hd, g2]
        simp only [Instr.mapUpdate, Sem.run_bind, run_underlying ht, Result.andThen_ok, hget, run_checkKey_simple hd hc1, hf, hset]
      · refine fin _ _ ⟨es'.push ⟨k', v', clock⟩, ?_, ?_, ?_, ?_, ?_⟩
        · show (w.heap.setIfInBounds L.blk _)[L.blk]? = _
          simp [hlt]
        · simp [h2]
        · simp [h3]
        · have := noAddrs_snoc (u := k') _ (max kn 8) (noAddrs_le (Nat.le_max_left _ _) h4) (noAddrs_le (Nat.le_max_right _ _) hc2)
          simpa using this
        · simp only [List.map_append, Array.toList_push, List.map_cons, List.map_nil]
          exact h5.append hv
    · obtain ⟨e, he1, he2, he3⟩ := (findNow_key d k' es'.toList 0 j u' g2).2
      simp only [Nat.sub_zero] at he1
      refine ⟨{ w with heap := w.heap.setIfInBounds L.blk (.map (es'.modify j fun e => { e with key := k', val := v' }) clock) }, ?_, ?_, rfl, rfl, rfl⟩
      · have hf : (Instr.findKey key k' es'.toList).run P w = .ok (some (j, u')) w := by simp [Instr.findKey, run_underlying hd, g2]
        have hkey : (Instr.keyThatStays (((es'[j]?).map (·.key)).getD k') k').run P w = .ok k' w := by
          rw [Array.getElem?_toList] at he1
          simp [Instr.keyThatStays, he1, he3]
        simp only [Instr.mapUpdate, Sem.run_bind, run_underlying ht, Result.andThen_ok, hget, run_checkKey_simple hd hc1, hf, hkey, hset]
      · have hmk : ∀ (l : List MapEntry), (∀ e, l[j]? = some e → e.key = k') → (l.modify j fun e => { e with key := k', val := v' }).map (·.key) = l.map (·.key) := by
          intro l hl
          apply List.ext_getElem?
          intro i
          simp only [List.getElem?_map, List.getElem?_modify]
          by_cases q : j = i
          · subst q
            cases hq : l[j]? with
            | none => rfl
            | some e => simp [hl e hq]
          · simp [q]
        have hmk2 : ∀ (l : List MapEntry) (z : Value), (l.modify j fun e => { e with key := k', val := z }).map (·.born) = l.map (·.born) := by
          intro l z
          apply List.ext_getElem?
          intro i
          simp only [List.getElem?_map, List.getElem?_modify]
          by_cases q : j = i
          · subst q
            cases hq : l[j]? <;> simp
          · simp [q]
        have hmv : ∀ (l : List MapEntry) (z : Value), (l.modify j fun e => { e with key := k', val := z }).map (·.val) = (l.map (·.val)).set j z := by
          intro l z
          apply List.ext_getElem?
          intro i
          simp only [List.getElem?_map, List.getElem?_modify, List.getElem?_set, List.length_map]
          by_cases q : j = i
          · subst q
            cases hq : l[j]? with
            | none => simp [List.getElem?_eq_none_iff.1 hq]
            | some e => simp [(List.getElem?_eq_some_iff.1 hq).1]
          · simp [q]
        have hkeyA : ∀ e, es[j]? = some e → e.key = k' := by
          intro e0 h0
          have : (es'.toList.map (·.key))[j]? = (es.map (·.key))[j]? := by rw [h2]
          simp only [List.getElem?_map, he1, h0, Option.map_some, Option.some.injEq] at this
          rw [← this, he2]
        have hmkA : (es.modify j fun e => { e with key := k', val := v }).map (·.key) = es.map (·.key) := by
          apply List.ext_getElem?
          intro i
          simp only [List.getElem?_map, List.getElem?_modify]
          by_cases q : j = i
          · subst q
            cases hq : es[j]? with
            | none => rfl
            | some e => simp [hkeyA e hq]
          · simp [q]
        refine fin _ _ ⟨es'.modify j fun e => { e with key := k', val := v' }, ?_, ?_, ?_, ?_, ?_⟩
        · show (w.heap.setIfInBounds L.blk _)[L.blk]? = _
          simp [hlt]
        · rw [Array.toList_modify, hmk _ (fun e h => by rw [he1] at h; cases h; exact he2), hmkA, h2]
        · rw [Array.toList_modify, hmk2, hmk2, h3]
        · rw [hmkA]; exact ⟨kn, h4⟩
        · rw [Array.toList_modify, hmv, hmv]
          exact h5.set hv j

theorem AOp.mapUpdate {t : TypeId} {x y z : Operand} {vx vy vz : Value} (ho : o.op = .mapUpdate t x y z) (hx : aev A.gl a x = some vx) (hy : aev A.gl a y = some vy) (hz : aev A.gl a z = some vz) (h : amapUpdate P A t vx vy vz = some A1) : AOp P n o a A (isR undef A1) :=
  .skip fun w0 N w β S ae hs he => let ⟨w1, h1, h2, h3, h4, h5⟩ := amapUpdate_sound hs (aev_sound hs he hx) (aev_sound hs he hy) (aev_sound hs he hz) h; ⟨w1, by simp [execOp, ho, h1], h2, h3, h4, h5⟩

/-! ### Ranging over a string -/
theorem AOp.range {t : TypeId} {x : Operand} {s : ByteArray} (ho : o.op = .range t x) (hx : aev A.gl a x = some (.string s)) (hu : P.underlying t = some .string) : AOp P n o a A (isR (.pointer (some ⟨A.next, 0, none⟩)) (A.push (.iter s 0))) :=
  .of fun w0 N w β S ae hs he => by
    have e := VR.isString (aev_sound hs he hx)
    have h := hs.push (.iter s 0) (.stringIter s 0) ⟨w.heap.size, 0, 0, 0⟩ rfl ⟨rfl, by show (w.heap.push _)[w.heap.size]? = _; simp⟩
    refine ⟨.pointer (some ⟨w.heap.size, 0, none⟩), w.alloc (.stringIter s 0), by simp [execOp, ho, e, Instr.range, run_underlying hu], ⟨⟨_, _, h.1, h.2.1, h.2.2, .ptr (L := ⟨w.heap.size, 0, 0, 0⟩) (.inr rfl) (by simp) .nil, by simp [AW.push], rfl, rfl⟩⟩⟩

def anext (A : AW) : Value → Option (Value × AW)
  | .pointer (some ⟨b, 0, none⟩) => match A.objs b with
    | some (.iter s pos) => if A.ro ≤ b then if pos < s.size then some (.tuple #[.bool true, .int .i64 pos, .int .i32 (Utf8.decode s pos).1], A.upd b (some (.iter s (pos + (Utf8.decode s pos).2)))) else some (.tuple #[.bool false], A) else none
    | _ => none
  | _ => none
theorem AOp.next {x : Operand} {vx v : Value} (ho : o.op = .next x true) (hx : aev A.gl a x = some vx) (h : anext A vx = some (v, A1)) : AOp P n o a A (isR v A1) :=
  .of fun w0 N w β S ae hs he => by
    have hv := aev_sound hs he hx
    unfold anext at h
    split at h
    · rename_i b
      split at h
      · rename_i s pos hob
        split at h
        · rename_i hro
          obtain ⟨L, hb, hL0, hg⟩ := hs.live b _ hob
          have hlt := (Array.getElem?_eq_some_iff.1 hg).1
          have ex : ae.eval x = .pointer (some ⟨L.blk, 0, none⟩) := by
            generalize ae.eval x = u at hv
            cases hv with
            | ptr _ hb2 _ => rw [hb] at hb2; cases hb2; rw [hL0]
            | ptrD _ hb2 _ => rw [hb] at hb2; cases hb2
          have hget : (getObj L.blk).run P w = .ok (.stringIter s pos) w := by simp [getObj, Sem.run, hg]
          have hset : ∀ o', (setObj L.blk o').run P w = .ok () { w with heap := w.heap.setIfInBounds L.blk o' } := by intro o'; simp [setObj, Sem.run, hg]
          split at h
          · rename_i hp
            cases h
            have hw := hs.write (w' := { w with heap := w.heap.setIfInBounds L.blk (.stringIter s (pos + (Utf8.decode s pos).2)) }) hb hro (.iter s (pos + (Utf8.decode s pos).2)) ⟨hL0, by
              show (w.heap.setIfInBounds L.blk _)[L.blk]? = _
              simp [hlt]⟩ rfl rfl rfl (by simp) (fun j hj => by
                show (w.heap.setIfInBounds L.blk _)[j]? = _
                rw [Array.getElem?_setIfInBounds]; simp [Ne.symm hj])
            refine ⟨.tuple #[.bool true, .int .i64 pos, .int .i32 (Utf8.decode s pos).1], _, ?_, ⟨⟨β, S, hw.1, .refl _, hw.2, .tuple (.bool (.int (.int .nil))) .nil, Nat.le_refl _, rfl, rfl⟩⟩⟩
            simp only [execOp, ho, ex, Instr.next, Sem.run_bind, hget, Result.andThen_ok]
            simp only [if_pos hp, Sem.run_bind, hset, Result.andThen_ok, goInt]
            rfl
          · rename_i hp
            cases h
            refine ⟨.tuple #[.bool false], w, ?_, .same hs (.tuple (.bool .nil) .nil)⟩
            simp only [execOp, ho, ex, Instr.next, Sem.run_bind, hget, Result.andThen_ok]
            simp only [if_neg hp]
            rfl
        · cases h
      · cases h
    · cases h

end Go.M
