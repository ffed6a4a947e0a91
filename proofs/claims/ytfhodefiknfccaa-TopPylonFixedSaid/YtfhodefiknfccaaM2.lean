/- Part 2: abstract memory, and what it says of a world. -/
import Derived.Test.YtfhodefiknfccaaM1
import Derived.Deep.MidRow
import Derived.Laws.CopyRow
set_option linter.unusedVariables false
set_option linter.unusedSimpArgs false
namespace Go.M
open Go.RowKit

inductive AObj where
  | cells (c : List Value) (e : TypeId)
  | map (es : List MapEntry) (clock : Nat)
  | iter (s : ByteArray) (pos : Nat)

/-- Abstract memory: objects by their names; the names from 'next' on are free; below 'ro': not to be written; below 'gl': the program's variables. -/
structure AW where
  objs : Nat → Option AObj
  next : Nat
  ro : Nat
  gl : Nat

def AW.push (A : AW) (o : AObj) : AW := { A with objs := fun j => if j = A.next then some o else A.objs j, next := A.next + 1 }
def AW.upd (A : AW) (i : Nat) (o : Option AObj) : AW := { A with objs := fun j => if j = i then o else A.objs j }
def AW.rd (A : AW) (b o n : Nat) : Option (List Value) :=
  match A.objs b with
  | some (.cells c _) => if o + n ≤ c.length then some ((c.drop o).take n) else none
  | _ => none
def splice (c : List Value) (o : Nat) (vs : List Value) : List Value := c.take o ++ vs ++ c.drop (o + vs.length)
def AW.put (A : AW) (b o : Nat) (vs : List Value) : Option AW :=
  match A.objs b with
  | some (.cells c e) => if A.ro ≤ b ∧ o + vs.length ≤ c.length then some (A.upd b (some (.cells (splice c o vs) e))) else none
  | _ => none

def szOf (P : Program) (t : TypeId) : Option Nat := (P.info? t).map (·.size)

/-- What an abstract object says of its block. -/
def ORel (P : Program) (β : Bet) (S : Nat → Prop) (w : World) (wr : Bool) (L : Loc) : AObj → Prop
  | .cells c e => ∃ cs e' fz, w.heap[L.blk]? = some (.cells cs e' fz) ∧ cs.size = L.tot ∧ L.off + c.length ≤ L.tot ∧ VRs β S c ((cs.toList.drop L.off).take c.length) ∧ (wr = true → fz = (0, 0) ∧ szOf P e = some L.esz)
  | .map es clock => ∃ es', w.heap[L.blk]? = some (.map es' clock) ∧ es'.toList.map (·.key) = es.map (·.key) ∧ es'.toList.map (·.born) = es.map (·.born) ∧ (∃ n, noAddrs n (es.map (·.key)) = true) ∧ VRs β S (es.map (·.val)) (es'.toList.map (·.val))
  | .iter s pos => L.off = 0 ∧ w.heap[L.blk]? = some (.stringIter s pos)

/-- The abstract memory describes the world 'w', which came out of 'w0': below the block 'N' nothing has changed. -/
structure Sim (P : Program) (w0 : World) (N : Nat) (β : Bet) (S : Nat → Prop) (A : AW) (w : World) : Prop where
  below : Below N w0 w
  Nle : N ≤ w0.heap.size
  live : ∀ i o, A.objs i = some o → ∃ L, β i = some L ∧ ORel P β S w (decide (A.ro ≤ i)) L o
  dead : ∀ i, A.objs i = none → β i = none
  lt : ∀ i o, A.objs i = some o → i < A.next
  inj : ∀ i j L L', A.ro ≤ i → i ≠ j → β i = some L → β j = some L' → L.blk ≠ L'.blk
  hi : ∀ i L, A.ro ≤ i → β i = some L → N ≤ L.blk
  sub : ∀ i, S i → i < A.next
  role : A.ro ≤ A.next
  glob : ∀ g, g < A.gl → S g ∧ ∃ L, β g = some L ∧ L.blk = g ∧ L.off = 0
  gle : A.gl ≤ A.ro
  roz : ∀ i L, i < A.ro → β i = some L → L.esz = 0

/-- Names keep their places, or are dead; new names are beyond 'n'. -/
structure Ext (n : Nat) (β : Bet) (S : Nat → Prop) (β' : Bet) (S' : Nat → Prop) : Prop where
  at_ : ∀ i, S i → β' i = β i ∨ β' i = none
  sub : ∀ i, S i → S' i
  new : ∀ i, S' i → S i ∨ n ≤ i

/-- Blocks that none of the names may write stay. -/
def Keeps (A : AW) (β : Bet) (w w' : World) : Prop := w.heap.size ≤ w'.heap.size ∧ ∀ b, b < w.heap.size → (∀ i L, A.ro ≤ i → β i = some L → L.blk ≠ b) → w'.heap[b]? = w.heap[b]?

variable {P : Program} {w0 w w' w1 : World} {N : Nat} {β β' β1 : Bet} {S S' S1 : Nat → Prop} {A A' A1 : AW}

theorem Ext.refl (n : Nat) : Ext n β S β S := ⟨fun _ _ => .inl rfl, fun _ h => h, fun _ h => .inl h⟩
theorem Ext.trans {n m : Nat} {β2 : Bet} {S2 : Nat → Prop} (h : Ext n β S β1 S1) (k : Ext m β1 S1 β2 S2) (hm : n ≤ m) : Ext n β S β2 S2 :=
  ⟨fun i hi => by
    rcases k.at_ i (h.sub i hi) with e | e
    · rw [e]; exact h.at_ i hi
    · exact .inr e, fun i hi => k.sub i (h.sub i hi), fun i hi => by
    rcases k.new i hi with e | e
    · exact h.new i e
    · exact .inr (by omega)⟩
theorem Ext.VRs {n : Nat} {vs vs' : List Value} (h : Ext n β S β1 S1) (k : VRs β S vs vs') : VRs β1 S1 vs vs' := k.mono h.at_ h.sub

theorem Keeps.refl (A : AW) (β : Bet) (w : World) : Keeps A β w w := ⟨Nat.le_refl _, fun _ _ _ => rfl⟩

theorem ORel.mono {wr : Bool} {L : Loc} {o : AObj} (h : ORel P β S w wr L o) (hβ : ∀ i, S i → β' i = β i ∨ β' i = none) (hS : ∀ i, S i → S' i) (hw : w'.heap[L.blk]? = w.heap[L.blk]?) : ORel P β' S' w' wr L o := by
  cases o with
  | cells c e => obtain ⟨cs, e', fz, h1, h2, h3, h4, h5⟩ := h; exact ⟨cs, e', fz, hw.trans h1, h2, h3, h4.mono hβ hS, h5⟩
  | map es k => obtain ⟨es', h1, h2, h3, h4, h5⟩ := h; exact ⟨es', hw.trans h1, h2, h3, h4, h5.mono hβ hS⟩
  | iter s p => exact ⟨h.1, hw.trans h.2⟩

theorem ORel.lt {wr : Bool} {L : Loc} {o : AObj} (h : ORel P β S w wr L o) : L.blk < w.heap.size := by
  cases o with
  | cells c e => obtain ⟨cs, e', fz, h1, _⟩ := h; exact (Array.getElem?_eq_some_iff.1 h1).1
  | map es k => obtain ⟨es', h1, _⟩ := h; exact (Array.getElem?_eq_some_iff.1 h1).1
  | iter s p => exact (Array.getElem?_eq_some_iff.1 h.2).1

theorem Sim.of_live (h : Sim P w0 N β S A w) {i : Nat} {L : Loc} (hb : β i = some L) : ∃ o, A.objs i = some o ∧ ORel P β S w (decide (A.ro ≤ i)) L o := by
  cases ho : A.objs i with
  | none => rw [h.dead i ho] at hb; cases hb
  | some o =>
    obtain ⟨L', e, r⟩ := h.live i o ho
    rw [hb] at e; cases e
    exact ⟨o, rfl, r⟩

theorem Sim.blk_lt (h : Sim P w0 N β S A w) {i : Nat} {L : Loc} (hb : β i = some L) : L.blk < w.heap.size := by
  obtain ⟨o, _, r⟩ := h.of_live hb
  exact r.lt

theorem Sim.size_le (h : Sim P w0 N β S A w) : N ≤ w.heap.size := Nat.le_trans h.Nle h.below.size

/-- Draws turn nothing. -/
theorem Sim.drew (h : Sim P w0 N β S A w) : Sim P w0 N β S A w.drew :=
  ⟨h.below.drew, h.Nle, fun i o ho => let ⟨L, e, r⟩ := h.live i o ho; ⟨L, e, r.mono (fun _ _ => .inl rfl) (fun _ h => h) rfl⟩, h.dead, h.lt, h.inj, h.hi, h.sub, h.role, h.glob, h.gle, h.roz⟩

/-! ### A new object -/
theorem Sim.push (h : Sim P w0 N β S A w) (o : AObj) (ob : Obj) (L : Loc) (hL : L.blk = w.heap.size)
    (hr : ORel P (fun j => if j = A.next then some L else β j) (fun i => S i ∨ i = A.next) (w.alloc ob) true L o) :
    Sim P w0 N (fun j => if j = A.next then some L else β j) (fun i => S i ∨ i = A.next) (A.push o) (w.alloc ob) ∧
    Ext A.next β S (fun j => if j = A.next then some L else β j) (fun i => S i ∨ i = A.next) ∧ Keeps A β w (w.alloc ob) := by
  have hn : A.objs A.next = none := by
    cases e : A.objs A.next with
    | none => rfl
    | some o => have := h.lt _ _ e; omega
  have hbn : β A.next = none := h.dead _ hn
  have hold : ∀ k, k < w.heap.size → (w.alloc ob).heap[k]? = w.heap[k]? := fun k hk => Below.heap_alloc w ob k hk
  refine ⟨⟨h.below.alloc h.size_le ob, h.Nle, ?_, ?_, ?_, ?_, ?_, ?_, ?_, fun g hg => by
    obtain ⟨hs, L', e1, e2⟩ := h.glob g hg
    have := h.sub g hs
    exact ⟨.inl hs, L', by rw [if_neg (by omega)]; exact e1, e2⟩, h.gle, fun i L1 hi hb => h.roz i L1 hi (by
    have := h.role
    have hne : i ≠ A.next := by simp only [AW.push] at hi; omega
    simpa [hne] using hb)⟩, ?_, ?_⟩
  · intro i oi hi
    simp only [AW.push] at hi
    by_cases e : i = A.next
    · subst e
      simp only [if_true] at hi
      cases hi
      exact ⟨L, by simp, by
        have : decide ((A.push o).ro ≤ A.next) = true := by simp [AW.push, h.role]
        rw [this]; exact hr⟩
    · rw [if_neg e] at hi
      obtain ⟨L', e1, r⟩ := h.live i oi hi
      exact ⟨L', by simp [e, e1], r.mono (fun j hj => .inl (by have := h.sub j hj; rw [if_neg (by omega)])) (fun j hj => .inl hj) (hold _ r.lt)⟩
  · intro i hi
    simp only [AW.push] at hi
    by_cases e : i = A.next
    · subst e; simp at hi
    · rw [if_neg e] at hi; simp [e, h.dead i hi]
  · intro i oi hi
    simp only [AW.push] at hi ⊢
    by_cases e : i = A.next
    · omega
    · rw [if_neg e] at hi; have := h.lt i oi hi; omega
  · intro i j L1 L2 hro hij h1 h2
    by_cases ei : i = A.next
    · subst ei
      simp only [if_true] at h1
      cases h1
      rw [if_neg (Ne.symm hij)] at h2
      have := h.blk_lt h2
      omega
    · rw [if_neg ei] at h1
      by_cases ej : j = A.next
      · subst ej
        simp only [if_true] at h2
        cases h2
        have := h.blk_lt h1
        omega
      · rw [if_neg ej] at h2
        exact h.inj i j L1 L2 hro hij h1 h2
  · intro i L1 hro h1
    by_cases ei : i = A.next
    · subst ei
      simp only [if_true] at h1
      cases h1
      have := h.size_le
      omega
    · rw [if_neg ei] at h1
      exact h.hi i L1 hro h1
  · intro i hi
    rcases hi with hi | hi
    · have := h.sub i hi; simp [AW.push]; omega
    · simp [AW.push]; omega
  · have := h.role; simp [AW.push]; omega
  · exact ⟨fun i hi => .inl (by have := h.sub i hi; rw [if_neg (by omega)]), fun i hi => .inl hi, fun i hi => by rcases hi with hi | hi; exact .inl hi; exact .inr (by omega)⟩
  · exact ⟨by simp, fun b hb _ => hold b hb⟩

/-! ### An object is written -/
theorem Sim.write (h : Sim P w0 N β S A w) {i : Nat} {L : Loc} (hb : β i = some L) (hro : A.ro ≤ i) (o : AObj) (hr : ORel P β S w' true L o)
    (hos : w'.os = w.os) (ht : w'.tape = w.tape) (hou : w'.output = w.output) (hsz : w'.heap.size = w.heap.size) (hold : ∀ k, k ≠ L.blk → w'.heap[k]? = w.heap[k]?) :
    Sim P w0 N β S (A.upd i (some o)) w' ∧ Keeps A β w w' := by
  obtain ⟨o0, ho0, _⟩ := h.of_live hb
  have hN := h.hi i L hro hb
  refine ⟨⟨⟨hos.trans h.below.os, ht.trans h.below.tape, hou.trans h.below.output, by rw [hsz]; exact h.below.size, fun k hk => (hold k (by omega)).trans (h.below.block k hk)⟩, h.Nle, ?_, ?_, ?_, h.inj, h.hi, h.sub, h.role, h.glob, h.gle, h.roz⟩, ?_⟩
  · intro j oj hj
    simp only [AW.upd] at hj
    by_cases e : j = i
    · subst e
      simp only [if_true] at hj
      cases hj
      exact ⟨L, hb, by
        have : decide ((A.upd j (some o)).ro ≤ j) = true := by simp [AW.upd, hro]
        rw [this]; exact hr⟩
    · rw [if_neg e] at hj
      obtain ⟨L', e1, r⟩ := h.live j oj hj
      exact ⟨L', e1, r.mono (fun _ _ => .inl rfl) (fun _ h => h) (hold _ (Ne.symm (h.inj i j L L' hro (Ne.symm e) hb e1)))⟩
  · intro j hj
    simp only [AW.upd] at hj
    by_cases e : j = i
    · subst e; simp at hj
    · rw [if_neg e] at hj; exact h.dead j hj
  · intro j oj hj
    simp only [AW.upd] at hj ⊢
    by_cases e : j = i
    · subst e; exact h.lt _ _ ho0
    · rw [if_neg e] at hj; exact h.lt j oj hj
  · exact ⟨by omega, fun b _ hn => hold b (Ne.symm (hn i L hro hb))⟩

theorem splice_length {c vs : List Value} {o : Nat} (h : o + vs.length ≤ c.length) : (splice c o vs).length = c.length := by
  simp [splice]; omega

theorem VRs.splice {c c' vs vs' : List Value} (h : VRs β S c c') (k : VRs β S vs vs') (o : Nat) : VRs β S (splice c o vs) (splice c' o vs') := by
  have e := k.length
  unfold M.splice
  rw [e]
  exact ((h.take o).append k).append (h.drop _)

/-- The inner part of a row. -/
theorem inner_splice (cs : List Value) (off n o : Nat) (vs : List Value) (hn : off + n ≤ cs.length) (ho : o + vs.length ≤ n) :
    ((cs.take (off + o) ++ vs ++ cs.drop (off + o + vs.length)).drop off).take n = splice ((cs.drop off).take n) o vs := by
  apply List.ext_getElem?
  intro j
  unfold splice
  simp only [List.getElem?_take, List.getElem?_drop, List.getElem?_append, List.length_append, List.length_take, List.length_drop]
  split <;> (repeat' split) <;> first
    | rfl
    | omega
    | (congr 1; omega)
    | (rw [List.getElem?_eq_none (by omega)])
    | (symm; rw [List.getElem?_eq_none (by omega)])
    | skip

end Go.M
