/- Part 7: the environment; what an operation, a region, a piece of code, a call does. -/
import Derived.Test.YtfhodefiknfccaaM6
import Derived.Deep.LoopGhost
import Derived.LoopN
set_option linter.unusedVariables false
set_option linter.unusedSimpArgs false
namespace Go.M
open Go.RowKit

/-! ### The environment -/
abbrev AEnv := List (Nat × Value)
def aget : AEnv → Nat → Option Value
  | [], _ => none
  | (s, v) :: r, t => if s = t then some v else aget r t
def aput (a : AEnv) : Option Tmp → Value → AEnv
  | some d, v => (d, v) :: a
  | none, _ => a
def aev (gl : Nat) (a : AEnv) : Operand → Option Value
  | .tmp t => aget a t
  | .const v => if noAddrs 64 [v] then some v else none
  | .func f => some (.func (.func f) #[] #[])
  | .global g => if g < gl then some (.pointer (some ⟨g, 0, none⟩)) else none

variable {P : Program} {w0 w w' w1 w2 : World} {N n m : Nat} {β β' β1 β2 : Bet} {S S' S1 S2 : Nat → Prop} {A A' A1 A2 : AW} {a a1 : AEnv} {ae : Act}

structure ER (n : Nat) (β : Bet) (S : Nat → Prop) (a : AEnv) (ae : Act) : Prop where
  size : ae.tmps.size = n
  defers : ae.defers = []
  get : ∀ t v, aget a t = some v → ∃ v', ae.tmps[t]? = some v' ∧ VR β S v v'

theorem aev_sound (h : Sim P w0 N β S A w) (e : ER n β S a ae) {x : Operand} {v : Value} (hx : aev A.gl a x = some v) : VR β S v (ae.eval x) := by
  cases x with
  | tmp t =>
    obtain ⟨v', e1, r⟩ := e.get t v hx
    simp [Act.eval, e1]; exact r
  | const u =>
    simp only [aev] at hx
    split at hx
    · rename_i hn; cases hx; exact VRs.refl_of_noAddrs _ _ hn
    · cases hx
  | func f => cases hx; exact .func (by simp) .nil .nil .nil
  | global g =>
    simp only [aev] at hx
    split at hx
    · rename_i hg
      cases hx
      obtain ⟨hs, L, hb, e1, e2⟩ := h.glob g hg
      have := VRs.ptr (o := 0) hs hb (.nil : VRs β S [] [])
      rw [e1, e2] at this
      exact this
    · cases hx

/-! ### Worlds one behind the other -/
structure Near (m : Nat) (β : Bet) (S : Nat → Prop) (β1 : Bet) (S1 : Nat → Prop) : Prop where
  at_ : ∀ i, i < m → S i → β1 i = β i ∨ β1 i = none
  sub : ∀ i, i < m → S i → S1 i
  new : ∀ i, i < m → S1 i → S i
theorem Near.refl (m : Nat) (β : Bet) (S : Nat → Prop) : Near m β S β S := ⟨fun _ _ _ => .inl rfl, fun _ _ h => h, fun _ _ h => h⟩
theorem Near.trans {k : Nat} (h : Near m β S β1 S1) (g : Near k β1 S1 β2 S2) (hk : m ≤ k) : Near m β S β2 S2 :=
  ⟨fun i hi hs => by
    rcases g.at_ i (by omega) (h.sub i hi hs) with e | e
    · rw [e]; exact h.at_ i hi hs
    · exact .inr e, fun i hi hs => g.sub i (by omega) (h.sub i hi hs), fun i hi hs => h.new i hi (g.new i (by omega) hs)⟩
theorem Ext.near (h : Ext m β S β1 S1) : Near m β S β1 S1 := ⟨fun i _ hs => h.at_ i hs, fun i _ hs => h.sub i hs, fun i hi hs => (h.new i hs).resolve_right (by omega)⟩

structure Aft (P : Program) (w0 : World) (N m : Nat) (β : Bet) (S : Nat → Prop) (A : AW) (β1 : Bet) (S1 : Nat → Prop) (A1 : AW) (w1 : World) : Prop where
  sim : Sim P w0 N β1 S1 A1 w1
  near : Near m β S β1 S1
  next : m ≤ A1.next
  ro : A1.ro = A.ro
  gl : A1.gl = A.gl

theorem Aft.refl (h : Sim P w0 N β S A w) (hm : m ≤ A.next) : Aft P w0 N m β S A β S A w := ⟨h, .refl _ _ _, hm, rfl, rfl⟩
theorem Aft.trans {k : Nat} (h : Aft P w0 N m β S A β1 S1 A1 w1) (g : Aft P w0 N k β1 S1 A1 β2 S2 A2 w2) (hk : m ≤ k) : Aft P w0 N m β S A β2 S2 A2 w2 :=
  ⟨g.sim, h.near.trans g.near hk, Nat.le_trans hk g.next, g.ro.trans h.ro, g.gl.trans h.gl⟩
theorem Done.aft {v v' : Value} (h : Done P w0 N β S A w v A1 v' w1) : ∃ β1 S1, Aft P w0 N A.next β S A β1 S1 A1 w1 ∧ VR β1 S1 v v' := by
  obtain ⟨β1, S1, h1, h2, _, h4, h5, h6, h7⟩ := h.out
  exact ⟨β1, S1, ⟨h1, h2.near, h5, h6, h7⟩, h4⟩

theorem Near.VRs (h : Near m β S β1 S1) (hm : ∀ i, S i → i < m) {vs vs' : List Value} (k : VRs β S vs vs') : VRs β1 S1 vs vs' :=
  k.mono (fun i hi => h.at_ i (hm i hi) hi) (fun i hi => h.sub i (hm i hi) hi)

theorem ER.near (e : ER n β S a ae) (h : Near m β S β1 S1) (hm : ∀ i, S i → i < m) : ER n β1 S1 a ae :=
  ⟨e.size, e.defers, fun t v hv => let ⟨v', e1, r⟩ := e.get t v hv; ⟨v', e1, h.VRs hm r⟩⟩

def okDst (n : Nat) : Option Tmp → Bool
  | some d => decide (d < n)
  | none => true
theorem ER.put (e : ER n β S a ae) {d : Option Tmp} (hd : okDst n d = true) {v v' : Value} (hv : VR β S v v') : ER n β S (aput a d v) (ae.put d v') := by
  cases d with
  | none => exact e
  | some d =>
    simp only [okDst, decide_eq_true_eq] at hd
    refine ⟨by simp [Act.put, e.size], e.defers, fun t u hu => ?_⟩
    simp only [aput, aget] at hu
    by_cases q : d = t
    · subst q
      simp only [if_true] at hu
      cases hu
      exact ⟨v', by simp [Act.put, e.size, hd], hv⟩
    · rw [if_neg q] at hu
      obtain ⟨u', e1, r⟩ := e.get t u hu
      exact ⟨u', by simp only [Act.put]; rw [Array.getElem?_setIfInBounds]; simp [q, e1], r⟩

/-- Fewer slots. -/
def asub (a a1 : AEnv) : Prop := ∀ t v, aget a t = some v → aget a1 t = some v
theorem ER.sub (e : ER n β S a1 ae) (h : asub a a1) : ER n β S a ae := ⟨e.size, e.defers, fun t v hv => e.get t v (h t v hv)⟩

/-! ### Postconditions -/
abbrev AQ := Exit → AEnv → AW → Prop
def Lift (P : Program) (w0 : World) (N n m : Nat) (β : Bet) (S : Nat → Prop) (A : AW) (Q : AQ) : Exit → Act → World → Prop := fun e ae w1 =>
  ∃ β1 S1 a1 A1, Aft P w0 N m β S A β1 S1 A1 w1 ∧ ER n β1 S1 a1 ae ∧ Q e a1 A1

theorem Lift.trans {k : Nat} {Q : AQ} {e : Exit} (h : Aft P w0 N m β S A β1 S1 A1 w1) (hk : m ≤ k) (g : Lift P w0 N n k β1 S1 A1 Q e ae w2) : Lift P w0 N n m β S A Q e ae w2 := by
  obtain ⟨β2, S2, a2, A2, h1, h2, h3⟩ := g
  exact ⟨β2, S2, a2, A2, h.trans h1 hk, h2, h3⟩

/-- A piece of code, from an environment and a memory. -/
def AT (P : Program) (n m : Nat) (c : Code) (a : AEnv) (A : AW) (Q : AQ) : Prop :=
  ∀ (w0 : World) (N : Nat) (w : World) (β : Bet) (S : Nat → Prop) (ae : Act), m ≤ A.next → Sim P w0 N β S A w → ER n β S a ae → c.wp P (Lift P w0 N n m β S A Q) ae w
/-- The rest of a region. -/
def AL (P : Program) (n m : Nat) (ops : Array Oper) (rest : List Oper) (a : AEnv) (A : AW) (Q : AQ) : Prop :=
  ∀ (w0 : World) (N : Nat) (w : World) (β : Bet) (S : Nat → Prop) (ae : Act), m ≤ A.next → Sim P w0 N β S A w → ER n β S a ae → wpList P ops (Lift P w0 N n m β S A Q) rest ae w
/-- One operation, that comes to one value and one memory. -/
def AOp (P : Program) (n : Nat) (o : Oper) (a : AEnv) (A : AW) (R : Value → AW → Prop) : Prop :=
  ∀ (w0 : World) (N : Nat) (w : World) (β : Bet) (S : Nat → Prop) (ae : Act), Sim P w0 N β S A w → ER n β S a ae → ∀ (K : Act → World → Prop) (Q : Exit → Act → World → Prop),
    (∀ v v' w1 β1 S1 A1, R v A1 → Aft P w0 N A.next β S A β1 S1 A1 w1 → VR β1 S1 v v' → K (ae.put o.dst v') w1) → o.wp P ae w K Q
/-- A call. -/
def AC (P : Program) (f : FuncId) (args : List Value) (A : AW) (R : Value → AW → Prop) : Prop :=
  ∀ (w0 : World) (N : Nat) (w : World) (β : Bet) (S : Nat → Prop) (args' : Array Value), Sim P w0 N β S A w → VRs β S args args'.toList →
    Calls P f args' w (fun e w1 => match e with
      | .returned v' => ∃ β1 S1 v A1, Aft P w0 N A.next β S A β1 S1 A1 w1 ∧ VR β1 S1 v v' ∧ R v A1
      | _ => False)

theorem AC.mono {f : FuncId} {args : List Value} {R R' : Value → AW → Prop} (h : AC P f args A R) (hr : ∀ v A1, R v A1 → R' v A1) : AC P f args A R' :=
  fun w0 N w β S args' hs hv => Calls.mono (h w0 N w β S args' hs hv) fun e w1 he => by
    cases e with
    | returned v' => obtain ⟨β1, S1, v, A1, h1, h2, h3⟩ := he; exact ⟨β1, S1, v, A1, h1, h2, hr _ _ h3⟩
    | panicked => exact he
    | outgrown => exact he

/-! ### Rules for code -/
variable {Q Q' : AQ}
def AThen (K : AEnv → AW → Prop) (Q : AQ) : AQ
  | .normal, a, A => K a A
  | e, a, A => Q e a A
def AIn (id : Nat) (Q : AQ) : AQ
  | .exit id', a, A => if id' = id then Q .normal a A else Q (.exit id') a A
  | e, a, A => Q e a A

theorem AT.mono {c : Code} (h : AT P n m c a A Q) (hq : ∀ e a A, Q e a A → Q' e a A) : AT P n m c a A Q' :=
  fun w0 N w β S ae hm hs he => Code.wp_mono (fun e ae' w' ⟨β1, S1, a1, A1, x, y, z⟩ => ⟨β1, S1, a1, A1, x, y, hq _ _ _ z⟩) (h w0 N w β S ae hm hs he)

theorem AT.seq {x y : Code} (h : AT P n m x a A (AThen (fun a A => AT P n m y a A Q) Q)) : AT P n m (.seq x y) a A Q :=
  fun w0 N w β S ae hm hs he => wp_seq (Code.wp_mono (fun e ae' w' ⟨β1, S1, a1, A1, hx, hy, hz⟩ => by
    cases e with
    | normal =>
      exact Code.wp_mono (fun _ _ _ g => Lift.trans hx (Nat.le_refl _) g) (hz w0 N w' β1 S1 ae' hx.next hx.sim hy)
    | exit id => exact ⟨β1, S1, a1, A1, hx, hy, hz⟩
    | goto l => exact ⟨β1, S1, a1, A1, hx, hy, hz⟩
    | ret => exact ⟨β1, S1, a1, A1, hx, hy, hz⟩
    | panic c => exact ⟨β1, S1, a1, A1, hx, hy, hz⟩
    | outgrown => exact ⟨β1, S1, a1, A1, hx, hy, hz⟩) (h w0 N w β S ae hm hs he))
theorem AT.skip (h : Q .normal a A) : AT P n m .skip a A Q := fun _ _ _ _ _ _ hm hs he => wp_skip ⟨_, _, a, A, .refl hs hm, he, h⟩
theorem AT.label {l : Nat} (h : Q .normal a A) : AT P n m (.label l) a A Q := fun _ _ _ _ _ _ hm hs he => wp_label ⟨_, _, a, A, .refl hs hm, he, h⟩
theorem AT.ret (h : Q .ret a A) : AT P n m .ret a A Q := fun _ _ _ _ _ _ hm hs he => wp_ret ⟨_, _, a, A, .refl hs hm, he, h⟩
theorem AT.exit {id : Nat} (h : Q (.exit id) a A) : AT P n m (.exit id) a A Q := fun _ _ _ _ _ _ hm hs he => wp_exit ⟨_, _, a, A, .refl hs hm, he, h⟩
theorem AT.cond {c : Operand} {x y : Code} {t : Bool} (hc : aev A.gl a c = some (.bool t)) (ht : t = true → AT P n m x a A Q) (hf : t = false → AT P n m y a A Q) : AT P n m (.cond c x y) a A Q :=
  fun w0 N w β S ae hm hs he => by
    have hv := aev_sound hs he hc
    have e : ae.eval c = .bool t := by
      generalize ae.eval c = v at hv
      cases hv; rfl
    exact wp_cond_split e (fun q => ht q w0 N w β S ae hm hs he) (fun q => hf q w0 N w β S ae hm hs he)
theorem AT.block {id : Nat} {c : Code} (h : AT P n m c a A (AIn id Q)) : AT P n m (.block id c) a A Q :=
  fun w0 N w β S ae hm hs he => wp_block (Code.wp_mono (fun e ae' w' ⟨β1, S1, a1, A1, hx, hy, hz⟩ => by
    cases e with
    | exit id' =>
      simp only [AIn] at hz
      simp only [Exit.inBlock]
      split at hz
      · rename_i q; rw [if_pos q]; exact ⟨β1, S1, a1, A1, hx, hy, hz⟩
      · rename_i q; rw [if_neg q]; exact ⟨β1, S1, a1, A1, hx, hy, hz⟩
    | normal => exact ⟨β1, S1, a1, A1, hx, hy, hz⟩
    | goto l => exact ⟨β1, S1, a1, A1, hx, hy, hz⟩
    | ret => exact ⟨β1, S1, a1, A1, hx, hy, hz⟩
    | panic c => exact ⟨β1, S1, a1, A1, hx, hy, hz⟩
    | outgrown => exact ⟨β1, S1, a1, A1, hx, hy, hz⟩) (h w0 N w β S ae hm hs he))

/-- A loop, by an invariant that bears a number. -/
theorem AT.loop {c : Code} (I : Nat → AEnv → AW → Prop) (k0 : Nat) (h0 : I k0 a A)
    (round : ∀ k a A, I k a A → AT P n m c a A (AThen (fun a1 A1 => ∃ k', k' < k ∧ I k' a1 A1) Q)) : AT P n m (.loop c) a A Q :=
  fun w0 N w β S ae hm hs he => wp_loop_ghost (fun k ae1 w1 => ∃ β1 S1 a1 A1, Aft P w0 N m β S A β1 S1 A1 w1 ∧ ER n β1 S1 a1 ae1 ∧ I k a1 A1) k0 ⟨β, S, a, A, .refl hs hm, he, h0⟩
    fun k ae1 w1 ⟨β1, S1, a1, A1, hx, hy, hi⟩ => Code.wp_mono (fun e ae2 w2 ⟨β2, S2, a2, A2, gx, gy, gz⟩ => by
      cases e with
      | normal => obtain ⟨k', hk, hi'⟩ := gz; exact ⟨k', hk, β2, S2, a2, A2, hx.trans gx (Nat.le_refl _), gy, hi'⟩
      | exit id => exact ⟨β2, S2, a2, A2, hx.trans gx (Nat.le_refl _), gy, gz⟩
      | goto l => exact ⟨β2, S2, a2, A2, hx.trans gx (Nat.le_refl _), gy, gz⟩
      | ret => exact ⟨β2, S2, a2, A2, hx.trans gx (Nat.le_refl _), gy, gz⟩
      | panic c => exact ⟨β2, S2, a2, A2, hx.trans gx (Nat.le_refl _), gy, gz⟩
      | outgrown => exact ⟨β2, S2, a2, A2, hx.trans gx (Nat.le_refl _), gy, gz⟩) (round k a1 A1 hi w0 N w1 β1 S1 ae1 hx.next hx.sim hy)

/-- So many rounds at most. -/
def ARounds (P : Program) (n m : Nat) (c : Code) (Q : AQ) : Nat → AEnv → AW → Prop
  | 0, _, _ => False
  | k + 1, a, A => AT P n m c a A (AThen (ARounds P n m c Q k) Q)
theorem AT.rounds {c : Code} (k : Nat) (h : ARounds P n m c Q k a A) : AT P n m (.loop c) a A Q :=
  AT.loop (ARounds P n m c Q) k h fun k a A hk => by
    cases k with
    | zero => exact hk.elim
    | succ k =>
      refine AT.mono hk fun e a1 A1 q => ?_
      cases e with
      | normal => exact ⟨k, Nat.lt_succ_self k, q⟩
      | exit id => exact q
      | goto l => exact q
      | ret => exact q
      | panic ch => exact q
      | outgrown => exact q

/-! ### Regions -/
theorem Oper.wp_both {o : Oper} {ae : Act} {K K' : Act → World → Prop} {Z Z' : Exit → Act → World → Prop} (hk : ∀ a w, K a w → K' a w) (hq : ∀ e a w, Z e a w → Z' e a w)
    (hh : o.wp P ae w K Z) : o.wp P ae w K' Z' := by
  unfold Oper.wp at *
  generalize (execOp ae.eval o).run P w = r at *
  cases r with
  | ok x w' =>
    cases x <;> simp only [Oper.upon] at hh ⊢ <;>
      first
        | exact hk _ _ hh
        | exact Calls.mono hh (fun e w'' he => by
            cases e
            · exact hk _ _ he
            · exact hq _ _ _ he
            · obtain ⟨a1, w1, h1⟩ := he; exact ⟨a1, w1, hq _ _ _ h1⟩)
        | exact Rows.mono hh (fun _ _ he => hk _ _ he)
  | halt x w' => cases x <;> simp only [Oper.upon] at hh ⊢ <;> exact hq _ _ _ hh

theorem wpList_mono {ops : Array Oper} {Z Z' : Exit → Act → World → Prop} (hq : ∀ e a w, Z e a w → Z' e a w) : ∀ (l : List Oper) (ae : Act) (w : World), wpList P ops Z l ae w → wpList P ops Z' l ae w
  | [], ae, w, h => hq _ _ _ h
  | o :: l, ae, w, h => by
    unfold wpList at h ⊢
    split
    · rename_i q
      rw [if_pos q] at h
      rcases h with h | ⟨h1, a1, w1, h2⟩
      · exact .inl (Oper.wp_both (fun a w => wpList_mono hq l a w) hq h)
      · exact .inr ⟨h1, a1, w1, hq _ _ _ h2⟩
    · rename_i q
      rw [if_neg q] at h
      exact wpList_mono hq l _ _ h

theorem AT.region {id : Nat} {l : List Oper} (h : AL P n m l.toArray l a A Q) : AT P n m (.region id l.toArray false) a A Q :=
  fun w0 N w β S ae hm hs he => wp_region_lit (h w0 N w β S ae hm hs he)

variable {ops : Array Oper} {rest : List Oper} {o : Oper}

theorem AL.done (h : Q .normal a A) : AL P n m ops [] a A Q := fun w0 N w β S ae hm hs he => wpList_nil ⟨β, S, a, A, .refl hs hm, he, h⟩

theorem AL.opAny {R : Value → AW → Prop} (hw : ∀ β S ae, ER n β S a ae → Region.wanted o (yielded ops ae.tmps) = true) (hd : okDst n o.dst = true) (h : AOp P n o a A R)
    (k : ∀ v A1, R v A1 → AL P n m ops rest (aput a o.dst v) A1 Q) : AL P n m ops (o :: rest) a A Q :=
  fun w0 N w β S ae hm hs he => by
    unfold wpList
    rw [if_pos (hw _ _ _ he)]
    exact .inl (h w0 N w β S ae hs he _ _ fun v v' w1 β1 S1 A1 hr hx hv => by
      have := k v A1 hr w0 N w1 β1 S1 (ae.put o.dst v') (Nat.le_trans hm hx.next) hx.sim ((he.near hx.near hs.sub).put hd hv)
      have up : Aft P w0 N m β S A β1 S1 A1 w1 := ⟨hx.sim, (Near.refl m β S).trans hx.near hm, Nat.le_trans hm hx.next, hx.ro, hx.gl⟩
      exact wpList_mono (fun _ _ _ g => Lift.trans up (Nat.le_refl _) g) _ _ _ this)

end Go.M
