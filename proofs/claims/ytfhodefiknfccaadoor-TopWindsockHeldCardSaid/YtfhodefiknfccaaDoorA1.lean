/- Part of the abstract machine of this claim (no condition). -/
import Derived.WalkKit
import Derived.Deep.MidRow
import Derived.Laws.CopyRow
set_option linter.unusedVariables false
set_option linter.unusedSimpArgs false
namespace Go.M

/-- Where an abstract object lies: block, offset, the size of an element, how many cells the block has. -/
structure Loc where
  blk : Nat
  off : Nat
  esz : Nat
  tot : Nat

abbrev Bet := Nat → Option Loc

/-! ### 1. Values -/

/-- Lists of values that are alike but for addresses. -/
inductive VRs (β : Bet) (S : Nat → Prop) : List Value → List Value → Prop
  | nil : VRs β S [] []
  | bool {b vs vs'} : VRs β S vs vs' → VRs β S (.bool b :: vs) (.bool b :: vs')
  | int {k n vs vs'} : VRs β S vs vs' → VRs β S (.int k n :: vs) (.int k n :: vs')
  | float {k n vs vs'} : VRs β S vs vs' → VRs β S (.float k n :: vs) (.float k n :: vs')
  | complex {k n m vs vs'} : VRs β S vs vs' → VRs β S (.complex k n m :: vs) (.complex k n m :: vs')
  | string {s vs vs'} : VRs β S vs vs' → VRs β S (.string s :: vs) (.string s :: vs')
  | ptr0 {vs vs'} : VRs β S vs vs' → VRs β S (.pointer none :: vs) (.pointer none :: vs')
  | ptr {b o L vs vs'} : S b → β b = some L → VRs β S vs vs' → VRs β S (.pointer (some ⟨b, o, none⟩) :: vs) (.pointer (some ⟨L.blk, L.off + o, none⟩) :: vs')
  | ptrD {b o s a vs vs'} : S b → β b = none → VRs β S vs vs' → VRs β S (.pointer (some ⟨b, o, s⟩) :: vs) (.pointer (some a) :: vs')
  | sl0 {n c vs vs'} : VRs β S vs vs' → VRs β S (.slice none n c :: vs) (.slice none n c :: vs')
  | sl {b o L n c c' vs vs'} : S b → β b = some L → c ≤ c' → (c' = c ∨ L.esz = 0 ∨ L.off + o + c' * L.esz ≤ L.tot) → VRs β S vs vs' → VRs β S (.slice (some ⟨b, o, none⟩) n c :: vs) (.slice (some ⟨L.blk, L.off + o, none⟩) n c' :: vs')
  | slD {b o s a n c c' vs vs'} : S b → β b = none → c ≤ c' → VRs β S vs vs' → VRs β S (.slice (some ⟨b, o, s⟩) n c :: vs) (.slice (some a) n c' :: vs')
  | map0 {vs vs'} : VRs β S vs vs' → VRs β S (.map none :: vs) (.map none :: vs')
  | map {b L vs vs'} : S b → β b = some L → VRs β S vs vs' → VRs β S (.map (some b) :: vs) (.map (some L.blk) :: vs')
  | mapD {b r vs vs'} : S b → β b = none → VRs β S vs vs' → VRs β S (.map (some b) :: vs) (.map (some r) :: vs')
  | chan0 {vs vs'} : VRs β S vs vs' → VRs β S (.chan none :: vs) (.chan none :: vs')
  | func {fn f f' c c' vs vs'} : (∀ l, fn ≠ .yield l) → VRs β S f.toList f'.toList → VRs β S c.toList c'.toList → VRs β S vs vs' → VRs β S (.func fn f c :: vs) (.func fn f' c' :: vs')
  | yield {b L vs vs'} : S b → β b = some L → VRs β S vs vs' → VRs β S (.func (.yield b) #[] #[] :: vs) (.func (.yield L.blk) #[] #[] :: vs')
  | yieldD {b l vs vs'} : S b → β b = none → VRs β S vs vs' → VRs β S (.func (.yield b) #[] #[] :: vs) (.func (.yield l) #[] #[] :: vs')
  | nilFunc {vs vs'} : VRs β S vs vs' → VRs β S (.nilFunc :: vs) (.nilFunc :: vs')
  | nilIface {vs vs'} : VRs β S vs vs' → VRs β S (.nilIface :: vs) (.nilIface :: vs')
  | iface {t v v' vs vs'} : VRs β S [v] [v'] → VRs β S vs vs' → VRs β S (.iface t v :: vs) (.iface t v' :: vs')
  | agg {c c' vs vs'} : VRs β S c.toList c'.toList → VRs β S vs vs' → VRs β S (.agg c :: vs) (.agg c' :: vs')
  | tuple {c c' vs vs'} : VRs β S c.toList c'.toList → VRs β S vs vs' → VRs β S (.tuple c :: vs) (.tuple c' :: vs')

abbrev VR (β : Bet) (S : Nat → Prop) (v v' : Value) : Prop := VRs β S [v] [v']

variable {β β' : Bet} {S S' : Nat → Prop}

theorem VRs.cons_inv {v v' : Value} {vs vs' : List Value} (h : VRs β S (v :: vs) (v' :: vs')) : VR β S v v' ∧ VRs β S vs vs' := by
  cases h <;> refine ⟨?_, ‹_›⟩ <;> first
    | exact .bool .nil | exact .int .nil | exact .float .nil | exact .complex .nil | exact .string .nil | exact .ptr0 .nil | exact .sl0 .nil | exact .map0 .nil | exact .chan0 .nil | exact .nilFunc .nil | exact .nilIface .nil
    | exact .ptr ‹_› ‹_› .nil | exact .ptrD ‹_› ‹_› .nil | exact .sl ‹_› ‹_› ‹_› ‹_› .nil | exact .slD ‹_› ‹_› ‹_› .nil | exact .map ‹_› ‹_› .nil | exact .mapD ‹_› ‹_› .nil
    | exact .func ‹_› (by assumption) (by assumption) .nil | exact .yield ‹_› ‹_› .nil | exact .yieldD ‹_› ‹_› .nil | exact .iface (by assumption) .nil | exact .agg (by assumption) .nil | exact .tuple (by assumption) .nil

theorem VRs.cons {v v' : Value} {vs vs' : List Value} (h : VR β S v v') (k : VRs β S vs vs') : VRs β S (v :: vs) (v' :: vs') := by
  cases h <;> first
    | exact .bool k | exact .int k | exact .float k | exact .complex k | exact .string k | exact .ptr0 k | exact .sl0 k | exact .map0 k | exact .chan0 k | exact .nilFunc k | exact .nilIface k
    | exact .ptr ‹_› ‹_› k | exact .ptrD ‹_› ‹_› k | exact .sl ‹_› ‹_› ‹_› ‹_› k | exact .slD ‹_› ‹_› ‹_› k | exact .map ‹_› ‹_› k | exact .mapD ‹_› ‹_› k
    | exact .func ‹_› (by assumption) (by assumption) k | exact .yield ‹_› ‹_› k | exact .yieldD ‹_› ‹_› k | exact .iface (by assumption) k | exact .agg (by assumption) k | exact .tuple (by assumption) k

theorem VRs.length {vs vs' : List Value} (h : VRs β S vs vs') : vs.length = vs'.length := by
  induction h <;> simp_all

theorem VRs.append {vs vs' us us' : List Value} (h : VRs β S vs vs') (k : VRs β S us us') : VRs β S (vs ++ us) (vs' ++ us') := by
  induction vs generalizing vs' with
  | nil => cases vs' with
    | nil => exact k
    | cons => have := h.length; simp at this
  | cons v vs ih => cases vs' with
    | nil => have := h.length; simp at this
    | cons v' vs' => exact VRs.cons h.cons_inv.1 (ih h.cons_inv.2)

theorem VRs.take {vs vs' : List Value} (h : VRs β S vs vs') (n : Nat) : VRs β S (vs.take n) (vs'.take n) := by
  induction n generalizing vs vs' with
  | zero => exact .nil
  | succ n ih => cases vs with
    | nil => cases vs' with
      | nil => exact .nil
      | cons => have := h.length; simp at this
    | cons v vs => cases vs' with
      | nil => have := h.length; simp at this
      | cons v' vs' => exact VRs.cons h.cons_inv.1 (ih h.cons_inv.2)

theorem VRs.drop {vs vs' : List Value} (h : VRs β S vs vs') (n : Nat) : VRs β S (vs.drop n) (vs'.drop n) := by
  induction n generalizing vs vs' with
  | zero => exact h
  | succ n ih => cases vs with
    | nil => cases vs' with
      | nil => exact .nil
      | cons => have := h.length; simp at this
    | cons v vs => cases vs' with
      | nil => have := h.length; simp at this
      | cons v' vs' => exact ih h.cons_inv.2

theorem VRs.get {vs vs' : List Value} (h : VRs β S vs vs') {i : Nat} {v : Value} (hv : vs[i]? = some v) : ∃ v', vs'[i]? = some v' ∧ VR β S v v' := by
  induction vs generalizing vs' i with
  | nil => simp at hv
  | cons u us ih => cases vs' with
    | nil => have := h.length; simp at this
    | cons u' us' => cases i with
      | zero => simp at hv; subst hv; exact ⟨u', by simp, h.cons_inv.1⟩
      | succ i => simpa using ih h.cons_inv.2 (by simpa using hv)

theorem VRs.getD {vs vs' : List Value} (h : VRs β S vs vs') {d d' : Value} (hd : VR β S d d') (i : Nat) : VR β S (vs.getD i d) (vs'.getD i d') := by
  rw [List.getD_eq_getElem?_getD, List.getD_eq_getElem?_getD]
  cases hv : vs[i]? with
  | some v => obtain ⟨v', e, r⟩ := h.get hv; simp [e]; exact r
  | none =>
    have : vs'[i]? = none := by rw [List.getElem?_eq_none_iff] at hv ⊢; rw [← h.length]; exact hv
    simp [this]; exact hd

theorem VRs.of_get {vs vs' : List Value} (hl : vs.length = vs'.length) (h : ∀ (i : Nat) (v v' : Value), vs[i]? = some v → vs'[i]? = some v' → VR β S v v') : VRs β S vs vs' := by
  induction vs generalizing vs' with
  | nil => cases vs' with
    | nil => exact .nil
    | cons => simp at hl
  | cons u us ih => cases vs' with
    | nil => simp at hl
    | cons u' us' => exact VRs.cons (h 0 u u' rfl rfl) (ih (by simpa using hl) fun i v v' a b => h (i + 1) v v' (by simpa using a) (by simpa using b))

theorem VRs.set {vs vs' : List Value} (h : VRs β S vs vs') {v v' : Value} (hv : VR β S v v') (i : Nat) : VRs β S (vs.set i v) (vs'.set i v') := by
  induction vs generalizing vs' i with
  | nil => cases vs' with
    | nil => exact .nil
    | cons => have := h.length; simp at this
  | cons u us ih => cases vs' with
    | nil => have := h.length; simp at this
    | cons u' us' => cases i with
      | zero => exact VRs.cons hv h.cons_inv.2
      | succ i => exact VRs.cons h.cons_inv.1 (ih h.cons_inv.2 i)

/-- Fewer places, more names: what was alike is alike. -/
theorem VRs.mono {vs vs' : List Value} (h : VRs β S vs vs') (hβ : ∀ i, S i → β' i = β i ∨ β' i = none) (hS : ∀ i, S i → S' i) : VRs β' S' vs vs' := by
  induction h with
  | nil => exact .nil
  | bool _ ih => exact .bool ih
  | int _ ih => exact .int ih
  | float _ ih => exact .float ih
  | complex _ ih => exact .complex ih
  | string _ ih => exact .string ih
  | ptr0 _ ih => exact .ptr0 ih
  | ptr hs hb _ ih => rcases hβ _ hs with e | e
                      · exact .ptr (hS _ hs) (e.trans hb) ih
                      · exact .ptrD (hS _ hs) e ih
  | ptrD hs hb _ ih => exact .ptrD (hS _ hs) (by rcases hβ _ hs with e | e; exact e.trans hb; exact e) ih
  | sl0 _ ih => exact .sl0 ih
  | sl hs hb hc ho _ ih => rcases hβ _ hs with e | e
                           · exact .sl (hS _ hs) (e.trans hb) hc ho ih
                           · exact .slD (hS _ hs) e hc ih
  | slD hs hb hc _ ih => exact .slD (hS _ hs) (by rcases hβ _ hs with e | e; exact e.trans hb; exact e) hc ih
  | map0 _ ih => exact .map0 ih
  | map hs hb _ ih => rcases hβ _ hs with e | e
                      · exact .map (hS _ hs) (e.trans hb) ih
                      · exact .mapD (hS _ hs) e ih
  | mapD hs hb _ ih => exact .mapD (hS _ hs) (by rcases hβ _ hs with e | e; exact e.trans hb; exact e) ih
  | chan0 _ ih => exact .chan0 ih
  | func hy _ _ _ i1 i2 i3 => exact .func hy i1 i2 i3
  | yield hs hb _ ih => rcases hβ _ hs with e | e
                        · exact .yield (hS _ hs) (e.trans hb) ih
                        · exact .yieldD (hS _ hs) e ih
  | yieldD hs hb _ ih => exact .yieldD (hS _ hs) (by rcases hβ _ hs with e | e; exact e.trans hb; exact e) ih
  | nilFunc _ ih => exact .nilFunc ih
  | nilIface _ ih => exact .nilIface ih
  | iface _ _ i1 i2 => exact .iface i1 i2
  | agg _ _ i1 i2 => exact .agg i1 i2
  | tuple _ _ i1 i2 => exact .tuple i1 i2

/-- Does a list of values bear no address? (fuel: how deep) -/
def noAddrs : Nat → List Value → Bool
  | 0, _ => false
  | _ + 1, [] => true
  | n + 1, v :: vs => (match v with
    | .bool _ | .int _ _ | .float _ _ | .complex _ _ _ | .string _ | .pointer none | .slice none _ _ | .map none | .chan none | .nilFunc | .nilIface => true
    | .func (.func _) f c => f.isEmpty && c.isEmpty
    | .agg c | .tuple c => noAddrs n c.toList
    | _ => false) && noAddrs n vs

theorem VRs.eq_of_noAddrs {vs vs' : List Value} (h : VRs β S vs vs') : ∀ n, noAddrs n vs = true → vs' = vs := by
  induction h with
  | nil => intro n _; rfl
  | bool _ ih | int _ ih | float _ ih | complex _ ih | string _ ih | ptr0 _ ih | sl0 _ ih | map0 _ ih | chan0 _ ih | nilFunc _ ih | nilIface _ ih =>
    intro n hn
    cases n with
    | zero => simp [noAddrs] at hn
    | succ n => simp only [noAddrs, Bool.true_and] at hn; rw [ih n hn]
  | ptr | ptrD | sl | slD | map | mapD | yield | yieldD | iface =>
    intro n hn
    cases n with
    | zero => simp [noAddrs] at hn
    | succ n => simp [noAddrs] at hn
  | @func fn f f' c c' vs vs' hy h1 h2 _ i1 i2 i3 =>
    intro n hn
    cases n with
    | zero => simp [noAddrs] at hn
    | succ n =>
      cases fn with
      | func g =>
        simp only [noAddrs, Bool.and_eq_true, Array.isEmpty_iff] at hn
        obtain ⟨⟨rfl, rfl⟩, h3⟩ := hn
        have e1 := h1.length
        have e2 := h2.length
        simp at e1 e2
        have e1 : f' = #[] := Array.eq_empty_of_size_eq_zero e1.symm
        have e2 : c' = #[] := Array.eq_empty_of_size_eq_zero e2.symm
        rw [e1, e2, i3 n h3]
      | _ => simp [noAddrs] at hn
  | agg _ _ i1 i2 | tuple _ _ i1 i2 =>
    intro n hn
    cases n with
    | zero => simp [noAddrs] at hn
    | succ n =>
      simp only [noAddrs, Bool.and_eq_true] at hn
      rw [i2 n hn.2, Array.toList_inj.1 (i1 n hn.1)]

/-- What bears no address is like itself. -/
theorem VRs.refl_of_noAddrs : ∀ n (vs : List Value), noAddrs n vs = true → VRs β S vs vs
  | 0, _, h => by simp [noAddrs] at h
  | _ + 1, [], _ => .nil
  | n + 1, v :: vs, h => by
    simp only [noAddrs, Bool.and_eq_true] at h
    have k := VRs.refl_of_noAddrs n vs h.2
    have h1 := h.1
    split at h1 <;> first
      | exact .bool k | exact .int k | exact .float k | exact .complex k | exact .string k | exact .ptr0 k | exact .sl0 k | exact .map0 k | exact .chan0 k | exact .nilFunc k | exact .nilIface k
      | exact .agg (VRs.refl_of_noAddrs n _ h1) k | exact .tuple (VRs.refl_of_noAddrs n _ h1) k
      | (simp at h1; done)
      | (simp only [Bool.and_eq_true, Array.isEmpty_iff] at h1; obtain ⟨rfl, rfl⟩ := h1; exact .func (by simp) .nil .nil k)

end Go.M
namespace Go.M
open Go.RowKit

abbrev AEnv := List (Nat × Value)
def aget : AEnv → Nat → Option Value
  | [], _ => none
  | (s, v) :: r, t => if s = t then some v else aget r t
/-- The record of a range over a function: 'ready' between two rounds; the environment is that of the function that holds the loop, as the loop began; the block for the calls that rounds defer. -/
inductive AObj where
  | cells (c : List Value) (e : TypeId)
  | map (es : List MapEntry) (clock : Nat)
  | iter (s : ByteArray) (pos : Nat)
  | loop (ready : Bool) (n : Nat) (a : AEnv) (fn : FuncId) (ps : Array Tmp) (assign body : Code)
  | dfr
  | over (c : Code)

/-- Abstract memory: objects by their names; the names from 'next' on are free; below 'ro': not to be written; below 'gl': the program's variables. -/
structure AW where
  objs : Nat → Option AObj
  next : Nat
  ro : Nat
  gl : Nat

def AW.push (A : AW) (o : AObj) : AW := { A with objs := fun j => if j = A.next then some o else A.objs j, next := A.next + 1 }
def AW.upd (A : AW) (i : Nat) (o : Option AObj) : AW := { A with objs := fun j => if j = i then o else A.objs j }
def AW.rd (A : AW) (b o n : Nat) : Option (List Value) :=
  match A.objs b with
  | some (.cells c _) => if o + n ≤ c.length then some ((c.drop o).take n) else none
  | _ => none
def splice (c : List Value) (o : Nat) (vs : List Value) : List Value := c.take o ++ vs ++ c.drop (o + vs.length)
def AW.put (A : AW) (b o : Nat) (vs : List Value) : Option AW :=
  match A.objs b with
  | some (.cells c e) => if A.ro ≤ b ∧ o + vs.length ≤ c.length then some (A.upd b (some (.cells (splice c o vs) e))) else none
  | _ => none

def szOf (P : Program) (t : TypeId) : Option Nat := (P.info? t).map (·.size)

/-- What an abstract object says of its block. -/
def ORel (P : Program) (β : Bet) (S : Nat → Prop) (w : World) (wr : Bool) (L : Loc) : AObj → Prop
  | .cells c e => ∃ cs e' fz, w.heap[L.blk]? = some (.cells cs e' fz) ∧ cs.size = L.tot ∧ L.off + c.length ≤ L.tot ∧ VRs β S c ((cs.toList.drop L.off).take c.length) ∧ (wr = true → fz = (0, 0) ∧ szOf P e = some L.esz)
  | .map es clock => ∃ es', w.heap[L.blk]? = some (.map es' clock) ∧ es'.toList.map (·.key) = es.map (·.key) ∧ es'.toList.map (·.born) = es.map (·.born) ∧ (∃ n, noAddrs n (es.map (·.key)) = true) ∧ VRs β S (es.map (·.val)) (es'.toList.map (·.val))
  | .iter s pos => L.off = 0 ∧ w.heap[L.blk]? = some (.stringIter s pos)
  | .loop ready n a fn ps assign body => ∃ tmps D, w.heap[L.blk]? = some (.loop { state := if ready then .ready else .busy, pending := none, fn := fn, tmps := tmps, params := ps, assign := assign, body := body, defers := D }) ∧ tmps.size = n ∧
    ∀ t v, aget a t = some v → ∃ v', tmps[t]? = some v' ∧ VR β S v v'
  | .dfr => w.heap[L.blk]? = some (.deferred (some []))
  | .over c => ∃ r : Loop, w.heap[L.blk]? = some (.loop r) ∧ r.state = .done ∧ r.pending = some c

/-- The abstract memory describes the world 'w', which came out of 'w0': below the block 'N' nothing has changed. -/
structure Sim (P : Program) (w0 : World) (N : Nat) (β : Bet) (S : Nat → Prop) (A : AW) (w : World) : Prop where
  below : Below N w0 w
  Nle : N ≤ w0.heap.size
  live : ∀ i o, A.objs i = some o → ∃ L, β i = some L ∧ ORel P β S w (decide (A.ro ≤ i)) L o
  dead : ∀ i, A.objs i = none → β i = none
  lt : ∀ i o, A.objs i = some o → i < A.next
  inj : ∀ i j L L', A.ro ≤ i → i ≠ j → β i = some L → β j = some L' → L.blk ≠ L'.blk
  hi : ∀ i L, A.ro ≤ i → β i = some L → N ≤ L.blk
  sub : ∀ i, S i → i < A.next
  role : A.ro ≤ A.next
  glob : ∀ g, g < A.gl → S g ∧ ∃ L, β g = some L ∧ L.blk = g ∧ L.off = 0
  gle : A.gl ≤ A.ro
  roz : ∀ i L, i < A.ro → β i = some L → L.esz = 0

/-- Names keep their places, or are dead; new names are beyond 'n'. -/
structure Ext (n : Nat) (β : Bet) (S : Nat → Prop) (β' : Bet) (S' : Nat → Prop) : Prop where
  at_ : ∀ i, S i → β' i = β i ∨ β' i = none
  sub : ∀ i, S i → S' i
  new : ∀ i, S' i → S i ∨ n ≤ i

/-- Blocks that none of the names may write stay. -/
def Keeps (A : AW) (β : Bet) (w w' : World) : Prop := w.heap.size ≤ w'.heap.size ∧ ∀ b, b < w.heap.size → (∀ i L, A.ro ≤ i → β i = some L → L.blk ≠ b) → w'.heap[b]? = w.heap[b]?

variable {P : Program} {w0 w w' w1 : World} {N : Nat} {β β' β1 : Bet} {S S' S1 : Nat → Prop} {A A' A1 : AW}

theorem Ext.refl (n : Nat) : Ext n β S β S := ⟨fun _ _ => .inl rfl, fun _ h => h, fun _ h => .inl h⟩
theorem Ext.trans {n m : Nat} {β2 : Bet} {S2 : Nat → Prop} (h : Ext n β S β1 S1) (k : Ext m β1 S1 β2 S2) (hm : n ≤ m) : Ext n β S β2 S2 :=
  ⟨fun i hi => by
    rcases k.at_ i (h.sub i hi) with e | e
    · rw [e]; exact h.at_ i hi
    · exact .inr e, fun i hi => k.sub i (h.sub i hi), fun i hi => by
    rcases k.new i hi with e | e
    · exact h.new i e
    · exact .inr (by omega)⟩
theorem Ext.VRs {n : Nat} {vs vs' : List Value} (h : Ext n β S β1 S1) (k : VRs β S vs vs') : VRs β1 S1 vs vs' := k.mono h.at_ h.sub

theorem Keeps.refl (A : AW) (β : Bet) (w : World) : Keeps A β w w := ⟨Nat.le_refl _, fun _ _ _ => rfl⟩

theorem ORel.mono {wr : Bool} {L : Loc} {o : AObj} (h : ORel P β S w wr L o) (hβ : ∀ i, S i → β' i = β i ∨ β' i = none) (hS : ∀ i, S i → S' i) (hw : w'.heap[L.blk]? = w.heap[L.blk]?) : ORel P β' S' w' wr L o := by
  cases o with
  | cells c e => obtain ⟨cs, e', fz, h1, h2, h3, h4, h5⟩ := h; exact ⟨cs, e', fz, hw.trans h1, h2, h3, h4.mono hβ hS, h5⟩
  | map es k => obtain ⟨es', h1, h2, h3, h4, h5⟩ := h; exact ⟨es', hw.trans h1, h2, h3, h4, h5.mono hβ hS⟩
  | iter s p => exact ⟨h.1, hw.trans h.2⟩
  | loop ready n a fn ps assign body => obtain ⟨tmps, D, h1, h2, h3⟩ := h; exact ⟨tmps, D, hw.trans h1, h2, fun t v hv => let ⟨v', e1, r⟩ := h3 t v hv; ⟨v', e1, r.mono hβ hS⟩⟩
  | dfr => exact hw.trans h
  | over c => obtain ⟨r, h1, h2, h3⟩ := h; exact ⟨r, hw.trans h1, h2, h3⟩

theorem ORel.lt {wr : Bool} {L : Loc} {o : AObj} (h : ORel P β S w wr L o) : L.blk < w.heap.size := by
  cases o with
  | cells c e => obtain ⟨cs, e', fz, h1, _⟩ := h; exact (Array.getElem?_eq_some_iff.1 h1).1
  | map es k => obtain ⟨es', h1, _⟩ := h; exact (Array.getElem?_eq_some_iff.1 h1).1
  | iter s p => exact (Array.getElem?_eq_some_iff.1 h.2).1
  | loop ready n a fn ps assign body => obtain ⟨tmps, D, h1, _⟩ := h; exact (Array.getElem?_eq_some_iff.1 h1).1
  | dfr => exact (Array.getElem?_eq_some_iff.1 h).1
  | over c => obtain ⟨r, h1, _⟩ := h; exact (Array.getElem?_eq_some_iff.1 h1).1

theorem Sim.of_live (h : Sim P w0 N β S A w) {i : Nat} {L : Loc} (hb : β i = some L) : ∃ o, A.objs i = some o ∧ ORel P β S w (decide (A.ro ≤ i)) L o := by
  cases ho : A.objs i with
  | none => rw [h.dead i ho] at hb; cases hb
  | some o =>
    obtain ⟨L', e, r⟩ := h.live i o ho
    rw [hb] at e; cases e
    exact ⟨o, rfl, r⟩

theorem Sim.blk_lt (h : Sim P w0 N β S A w) {i : Nat} {L : Loc} (hb : β i = some L) : L.blk < w.heap.size := by
  obtain ⟨o, _, r⟩ := h.of_live hb
  exact r.lt

theorem Sim.size_le (h : Sim P w0 N β S A w) : N ≤ w.heap.size := Nat.le_trans h.Nle h.below.size

/-- Draws turn nothing. -/
theorem Sim.drew (h : Sim P w0 N β S A w) : Sim P w0 N β S A w.drew :=
  ⟨h.below.drew, h.Nle, fun i o ho => let ⟨L, e, r⟩ := h.live i o ho; ⟨L, e, r.mono (fun _ _ => .inl rfl) (fun _ h => h) rfl⟩, h.dead, h.lt, h.inj, h.hi, h.sub, h.role, h.glob, h.gle, h.roz⟩

/-! ### A new object -/
theorem Sim.push (h : Sim P w0 N β S A w) (o : AObj) (ob : Obj) (L : Loc) (hL : L.blk = w.heap.size)
    (hr : ORel P (fun j => if j = A.next then some L else β j) (fun i => S i ∨ i = A.next) (w.alloc ob) true L o) :
    Sim P w0 N (fun j => if j = A.next then some L else β j) (fun i => S i ∨ i = A.next) (A.push o) (w.alloc ob) ∧
    Ext A.next β S (fun j => if j = A.next then some L else β j) (fun i => S i ∨ i = A.next) ∧ Keeps A β w (w.alloc ob) := by
  have hn : A.objs A.next = none := by
    cases e : A.objs A.next with
    | none => rfl
    | some o => have := h.lt _ _ e; omega
  have hbn : β A.next = none := h.dead _ hn
  have hold : ∀ k, k < w.heap.size → (w.alloc ob).heap[k]? = w.heap[k]? := fun k hk => Below.heap_alloc w ob k hk
  refine ⟨⟨h.below.alloc h.size_le ob, h.Nle, ?_, ?_, ?_, ?_, ?_, ?_, ?_, fun g hg => by
    obtain ⟨hs, L', e1, e2⟩ := h.glob g hg
    have := h.sub g hs
    exact ⟨.inl hs, L', by rw [if_neg (by omega)]; exact e1, e2⟩, h.gle, fun i L1 hi hb => h.roz i L1 hi (by
    have := h.role
    have hne : i ≠ A.next := by simp only [AW.push] at hi; omega
    simpa [hne] using hb)⟩, ?_, ?_⟩
  · intro i oi hi
    simp only [AW.push] at hi
    by_cases e : i = A.next
    · subst e
      simp only [if_true] at hi
      cases hi
      exact ⟨L, by simp, by
        have : decide ((A.push o).ro ≤ A.next) = true := by simp [AW.push, h.role]
        rw [this]; exact hr⟩
    · rw [if_neg e] at hi
      obtain ⟨L', e1, r⟩ := h.live i oi hi
      exact ⟨L', by simp [e, e1], r.mono (fun j hj => .inl (by have := h.sub j hj; rw [if_neg (by omega)])) (fun j hj => .inl hj) (hold _ r.lt)⟩
  · intro i hi
    simp only [AW.push] at hi
    by_cases e : i = A.next
    · subst e; simp at hi
    · rw [if_neg e] at hi; simp [e, h.dead i hi]
  · intro i oi hi
    simp only [AW.push] at hi ⊢
    by_cases e : i = A.next
    · omega
    · rw [if_neg e] at hi; have := h.lt i oi hi; omega
  · intro i j L1 L2 hro hij h1 h2
    by_cases ei : i = A.next
    · subst ei
      simp only [if_true] at h1
      cases h1
      rw [if_neg (Ne.symm hij)] at h2
      have := h.blk_lt h2
      omega
    · rw [if_neg ei] at h1
      by_cases ej : j = A.next
      · subst ej
        simp only [if_true] at h2
        cases h2
        have := h.blk_lt h1
        omega
      · rw [if_neg ej] at h2
        exact h.inj i j L1 L2 hro hij h1 h2
  · intro i L1 hro h1
    by_cases ei : i = A.next
    · subst ei
      simp only [if_true] at h1
      cases h1
      have := h.size_le
      omega
    · rw [if_neg ei] at h1
      exact h.hi i L1 hro h1
  · intro i hi
    rcases hi with hi | hi
    · have := h.sub i hi; simp [AW.push]; omega
    · simp [AW.push]; omega
  · have := h.role; simp [AW.push]; omega
  · exact ⟨fun i hi => .inl (by have := h.sub i hi; rw [if_neg (by omega)]), fun i hi => .inl hi, fun i hi => by rcases hi with hi | hi; exact .inl hi; exact .inr (by omega)⟩
  · exact ⟨by simp, fun b hb _ => hold b hb⟩

/-! ### An object is written -/
theorem Sim.write (h : Sim P w0 N β S A w) {i : Nat} {L : Loc} (hb : β i = some L) (hro : A.ro ≤ i) (o : AObj) (hr : ORel P β S w' true L o)
    (hos : w'.os = w.os) (ht : w'.tape = w.tape) (hou : w'.output = w.output) (hsz : w'.heap.size = w.heap.size) (hold : ∀ k, k ≠ L.blk → w'.heap[k]? = w.heap[k]?) :
    Sim P w0 N β S (A.upd i (some o)) w' ∧ Keeps A β w w' := by
  obtain ⟨o0, ho0, _⟩ := h.of_live hb
  have hN := h.hi i L hro hb
  refine ⟨⟨⟨hos.trans h.below.os, ht.trans h.below.tape, hou.trans h.below.output, by rw [hsz]; exact h.below.size, fun k hk => (hold k (by omega)).trans (h.below.block k hk)⟩, h.Nle, ?_, ?_, ?_, h.inj, h.hi, h.sub, h.role, h.glob, h.gle, h.roz⟩, ?_⟩
  · intro j oj hj
    simp only [AW.upd] at hj
    by_cases e : j = i
    · subst e
      simp only [if_true] at hj
      cases hj
      exact ⟨L, hb, by
        have : decide ((A.upd j (some o)).ro ≤ j) = true := by simp [AW.upd, hro]
        rw [this]; exact hr⟩
    · rw [if_neg e] at hj
      obtain ⟨L', e1, r⟩ := h.live j oj hj
      exact ⟨L', e1, r.mono (fun _ _ => .inl rfl) (fun _ h => h) (hold _ (Ne.symm (h.inj i j L L' hro (Ne.symm e) hb e1)))⟩
  · intro j hj
    simp only [AW.upd] at hj
    by_cases e : j = i
    · subst e; simp at hj
    · rw [if_neg e] at hj; exact h.dead j hj
  · intro j oj hj
    simp only [AW.upd] at hj ⊢
    by_cases e : j = i
    · subst e; exact h.lt _ _ ho0
    · rw [if_neg e] at hj; exact h.lt j oj hj
  · exact ⟨by omega, fun b _ hn => hold b (Ne.symm (hn i L hro hb))⟩

theorem splice_length {c vs : List Value} {o : Nat} (h : o + vs.length ≤ c.length) : (splice c o vs).length = c.length := by
  simp [splice]; omega

theorem VRs.splice {c c' vs vs' : List Value} (h : VRs β S c c') (k : VRs β S vs vs') (o : Nat) : VRs β S (splice c o vs) (splice c' o vs') := by
  have e := k.length
  unfold M.splice
  rw [e]
  exact ((h.take o).append k).append (h.drop _)

/-- The inner part of a row. -/
theorem inner_splice (cs : List Value) (off n o : Nat) (vs : List Value) (hn : off + n ≤ cs.length) (ho : o + vs.length ≤ n) :
    ((cs.take (off + o) ++ vs ++ cs.drop (off + o + vs.length)).drop off).take n = splice ((cs.drop off).take n) o vs := by
  apply List.ext_getElem?
  intro j
  unfold splice
  simp only [List.getElem?_take, List.getElem?_drop, List.getElem?_append, List.length_append, List.length_take, List.length_drop]
  split <;> (repeat' split) <;> first
    | rfl
    | omega
    | (congr 1; omega)
    | (rw [List.getElem?_eq_none (by omega)])
    | (symm; rw [List.getElem?_eq_none (by omega)])
    | skip

end Go.M
namespace Go.M
open Go.RowKit
variable {P : Program} {w0 w w' w1 : World} {N : Nat} {β β' β1 : Bet} {S S' S1 : Nat → Prop} {A A' A1 : AW}

/-- What a reckoning that only asks the program comes to. -/
def pureVal {α : Type} (P : Program) : Sem α → Option α
  | .pure a => some a
  | .program k => pureVal P (k P)
  | _ => none

theorem pureVal_run {α : Type} {s : Sem α} {a : α} (h : pureVal P s = some a) (w : World) : s.run P w = .ok a w := by
  induction s <;> simp_all [pureVal, Sem.run]

/-- What an operation that has been carried out leaves. -/
structure Done (P : Program) (w0 : World) (N : Nat) (β : Bet) (S : Nat → Prop) (A : AW) (w : World) (v : Value) (A1 : AW) (v' : Value) (w1 : World) : Prop where
  out : ∃ β1 S1, Sim P w0 N β1 S1 A1 w1 ∧ Ext A.next β S β1 S1 ∧ Keeps A β w w1 ∧ VR β1 S1 v v' ∧ A.next ≤ A1.next ∧ A1.ro = A.ro ∧ A1.gl = A.gl

theorem Done.same (h : Sim P w0 N β S A w) {v v' : Value} (hv : VR β S v v') : Done P w0 N β S A w v A v' w :=
  ⟨⟨β, S, h, .refl _, .refl _ _ _, hv, Nat.le_refl _, rfl, rfl⟩⟩

/-! ### New cells -/
theorem Done.cells (h : Sim P w0 N β S A w) {c : List Value} {c' : Array Value} (hc : VRs β S c c'.toList) (e : TypeId) (n : Nat) (he : szOf P e = some n) :
    ∃ β1 S1, Sim P w0 N β1 S1 (A.push (.cells c e)) (w.alloc (.cells c' e)) ∧ Ext A.next β S β1 S1 ∧ Keeps A β w (w.alloc (.cells c' e)) ∧ S1 A.next ∧ β1 A.next = some ⟨w.heap.size, 0, n, c'.size⟩ := by
  have hl := hc.length
  have := h.push (.cells c e) (.cells c' e) ⟨w.heap.size, 0, n, c'.size⟩ rfl ⟨c', e, (0, 0), by show (w.heap.push _)[w.heap.size]? = _; simp, rfl, by simp at hl ⊢; omega, by
    have e1 : (List.drop 0 c'.toList).take c.length = c'.toList := by rw [List.drop_zero, hl, List.take_length]
    show VRs _ _ c ((List.drop 0 c'.toList).take c.length)
    rw [e1]
    exact hc.mono (fun i hi => .inl (by have := h.sub i hi; rw [if_neg (by omega)])) (fun i hi => .inl hi), fun _ => ⟨rfl, he⟩⟩
  exact ⟨_, _, this.1, this.2.1, this.2.2, .inr rfl, by simp⟩

theorem Done.newPtr (h : Sim P w0 N β S A w) {c : List Value} {c' : Array Value} (hc : VRs β S c c'.toList) (e : TypeId) (n : Nat) (he : szOf P e = some n) :
    Done P w0 N β S A w (.pointer (some ⟨A.next, 0, none⟩)) (A.push (.cells c e)) (.pointer (some ⟨w.heap.size, 0, none⟩)) (w.alloc (.cells c' e)) := by
  obtain ⟨β1, S1, h1, h2, h3, h4, h5⟩ := Done.cells h hc e n he
  exact ⟨⟨β1, S1, h1, h2, h3, .ptr h4 h5 .nil, by simp [AW.push], rfl, rfl⟩⟩

theorem Done.newSlice (h : Sim P w0 N β S A w) {c : List Value} {c' : Array Value} (hc : VRs β S c c'.toList) (e : TypeId) (n : Nat) (he : szOf P e = some n) (m : Nat) :
    Done P w0 N β S A w (.slice (some ⟨A.next, 0, none⟩) m m) (A.push (.cells c e)) (.slice (some ⟨w.heap.size, 0, none⟩) m m) (w.alloc (.cells c' e)) := by
  obtain ⟨β1, S1, h1, h2, h3, h4, h5⟩ := Done.cells h hc e n he
  exact ⟨⟨β1, S1, h1, h2, h3, .sl (L := ⟨w.heap.size, 0, n, c'.size⟩) h4 h5 (Nat.le_refl _) (.inl rfl) .nil, by simp [AW.push], rfl, rfl⟩⟩

/-! ### Reading -/
theorem Sim.rd (h : Sim P w0 N β S A w) {b o n : Nat} {cs : List Value} (hr : A.rd b o n = some cs) :
    ∃ L cs', β b = some L ∧ cs'.length = n ∧ VRs β S cs cs' ∧ ∀ (j : Nat) v, cs'[j]? = some v → w.cell? ⟨L.blk, L.off + o + j, none⟩ = some v := by
  unfold AW.rd at hr
  split at hr
  · rename_i c e ho
    split at hr
    · rename_i hn
      cases hr
      obtain ⟨L, hb, c', e', fz, h1, h2, h3, h4, _⟩ := h.live b _ ho
      have hl := h4.length
      simp at hl
      refine ⟨L, (((c'.toList.drop L.off).take c.length).drop o).take n, hb, by simp; omega, (h4.drop o).take n, ?_⟩
      intro j v hv
      simp only [List.getElem?_take, List.getElem?_drop] at hv
      split at hv
      · split at hv
        · simp only [World.cell?, h1]
          simp
          rw [← Array.getElem?_toList, ← hv]
          congr 1; omega
        · cases hv
      · cases hv
    · cases hr
  · cases hr

/-! ### Writing -/
theorem Sim.put (h : Sim P w0 N β S A w) {b o : Nat} {vs vs' : List Value} (hp : A.put b o vs = some A1) (hv : VRs β S vs vs') :
    ∃ L cur t, β b = some L ∧ w.heap[L.blk]? = some (.cells cur t (0, 0)) ∧ L.off + o + vs'.length ≤ cur.size ∧
      Sim P w0 N β S A1 (w.setRow L.blk (cur.toList.take (L.off + o) ++ vs' ++ cur.toList.drop (L.off + o + vs'.length)).toArray) ∧
      Keeps A β w (w.setRow L.blk (cur.toList.take (L.off + o) ++ vs' ++ cur.toList.drop (L.off + o + vs'.length)).toArray) ∧ A1.next = A.next ∧ A1.ro = A.ro ∧ A1.gl = A.gl := by
  unfold AW.put at hp
  split at hp
  · rename_i c e ho
    split at hp
    · rename_i hc
      cases hp
      obtain ⟨L, hb, cur, t, fz, h1, h2, h3, h4, h5⟩ := h.live b _ ho
      obtain ⟨rfl, hz⟩ := h5 (by simp [hc.1])
      have hl := hv.length
      have hl4 := h4.length
      simp at hl4
      have hsz : (cur.toList.take (L.off + o) ++ vs' ++ cur.toList.drop (L.off + o + vs'.length)).length = cur.size := by simp; omega
      have hset : (w.setRow L.blk (cur.toList.take (L.off + o) ++ vs' ++ cur.toList.drop (L.off + o + vs'.length)).toArray).heap[L.blk]? = some (.cells (cur.toList.take (L.off + o) ++ vs' ++ cur.toList.drop (L.off + o + vs'.length)).toArray t (0, 0)) := setRow_heap w L.blk cur _ t _ h1
      have hw := h.write (w' := w.setRow L.blk (cur.toList.take (L.off + o) ++ vs' ++ cur.toList.drop (L.off + o + vs'.length)).toArray) hb hc.1 (.cells (splice c o vs) e) ⟨_, t, (0, 0), hset, by simp at hsz ⊢; omega, by rw [splice_length hc.2]; omega, by
          rw [splice_length hc.2, List.toList_toArray, inner_splice cur.toList L.off c.length o vs' (by simp; omega) (by omega)]
          exact h4.splice hv o, fun _ => ⟨rfl, hz⟩⟩ rfl rfl rfl (by simp [World.setRow]) (fun k hk => by
          simp only [World.setRow]
          rw [Array.getElem?_modify]
          simp [Ne.symm hk])
      exact ⟨L, cur, t, hb, h1, by omega, hw.1, hw.2, rfl, rfl, rfl⟩
    · cases hp
  · cases hp

end Go.M
namespace Go.M
open Go.RowKit
variable {P : Program} {w0 w w' w1 : World} {N : Nat} {β β' β1 : Bet} {S S' S1 : Nat → Prop} {A A' A1 : AW}

theorem VRs.cells {v v' : Value} (h : VR β S v v') : VRs β S v.cells.toList v'.cells.toList := by
  cases h <;> first
    | exact .bool .nil | exact .int .nil | exact .float .nil | exact .complex .nil | exact .string .nil | exact .ptr0 .nil | exact .sl0 .nil | exact .map0 .nil | exact .chan0 .nil | exact .nilFunc .nil | exact .nilIface .nil
    | exact .ptr ‹_› ‹_› .nil | exact .ptrD ‹_› ‹_› .nil | exact .sl ‹_› ‹_› ‹_› ‹_› .nil | exact .slD ‹_› ‹_› ‹_› .nil | exact .map ‹_› ‹_› .nil | exact .mapD ‹_› ‹_› .nil
    | exact .func ‹_› (by assumption) (by assumption) .nil | exact .yield ‹_› ‹_› .nil | exact .yieldD ‹_› ‹_› .nil | exact .iface (by assumption) .nil | (show VRs β S _ _; assumption) | exact .tuple (by assumption) .nil

theorem VR.one {v v' : Value} (h : VR β S v v') : v'.oneCell' = v.oneCell' := by cases h <;> rfl
theorem VRs.one {vs vs' : List Value} (h : VRs β S vs vs') (k : vs.all (·.oneCell') = true) : ∀ v ∈ vs', v.oneCell' = true := by
  intro v hv
  obtain ⟨i, hi⟩ := List.getElem?_of_mem hv
  have hl : i < vs.length := by rw [h.length]; exact (List.getElem?_eq_some_iff.1 hi).1
  obtain ⟨v', e, r⟩ := h.get (List.getElem?_eq_getElem hl)
  rw [hi] at e; cases e
  rw [VR.one r]
  exact (List.all_eq_true.1 k) _ (List.getElem_mem hl)
theorem VRs.size {v v' : Value} (h : VR β S v v') : v'.cells.size = v.cells.size := by simpa using (VRs.cells h).length.symm

theorem run_szOf {t : TypeId} {n : Nat} (h : szOf P t = some n) (w : World) : (sizeOf t).run P w = .ok n w := by
  unfold szOf at h
  cases e : P.info? t with
  | none => simp [e] at h
  | some i => simp [e] at h; simp [sizeOf, typeInfo, e, h]

/-! ### The first kinds -/
def zeroOf (P : Program) (t : TypeId) : Option Value := (P.info? t).bind fun i => i.zero
theorem run_zeroOf {t : TypeId} {z : Value} (h : zeroOf P t = some z) (w : World) : (zeroValue t).run P w = .ok z w := by
  unfold zeroOf at h
  cases e : P.info? t with
  | none => simp [e] at h
  | some i => simp [e] at h; simp [zeroValue, typeInfo, e, h]
theorem szOf_some {t : TypeId} (h : (szOf P t).isSome = true) : ∃ n, szOf P t = some n := Option.isSome_iff_exists.1 h

def aalloc (P : Program) (A : AW) (e : TypeId) : Option (Value × AW) :=
  match zeroOf P e with
  | some z => if noAddrs 64 z.cells.toList && (szOf P e).isSome then some (.pointer (some ⟨A.next, 0, none⟩), A.push (.cells z.cells.toList e)) else none
  | none => none

theorem aalloc_sound (h : Sim P w0 N β S A w) {e : TypeId} {v : Value} (ha : aalloc P A e = some (v, A1)) (old : Value) :
    ∃ v' w1, (Instr.alloc e true old).run P w = .ok v' w1 ∧ Done P w0 N β S A w v A1 v' w1 := by
  unfold aalloc at ha
  split at ha
  · rename_i z hz
    split at ha
    · rename_i hc
      simp only [Bool.and_eq_true] at hc
      cases ha
      obtain ⟨n, hn⟩ := szOf_some hc.2
      refine ⟨_, _, ?_, Done.newPtr h (VRs.refl_of_noAddrs _ _ hc.1) e n hn⟩
      simp [Instr.alloc, run_zeroOf hz, newVar, newRow]
    · cases ha
  · cases ha

def abox (P : Program) (A : AW) (e : TypeId) (x : Value) : Option (Value × AW) :=
  if (szOf P e).isSome then some (.pointer (some ⟨A.next, 0, none⟩), A.push (.cells x.cells.toList e)) else none

theorem abox_sound (h : Sim P w0 N β S A w) {e : TypeId} {v x x' : Value} (hx : VR β S x x') (ha : abox P A e x = some (v, A1)) :
    ∃ v' w1, (Instr.box e x').run P w = .ok v' w1 ∧ Done P w0 N β S A w v A1 v' w1 := by
  unfold abox at ha
  split at ha
  · rename_i hc
    cases ha
    obtain ⟨n, hn⟩ := szOf_some hc
    refine ⟨_, _, ?_, Done.newPtr h (VRs.cells hx) e n hn⟩
    simp [Instr.box, newVar, newRow]
  · cases ha

/-! ### Load, store -/
def isAggT : TypeDesc → Bool
  | .struct _ | .array _ _ => true
  | _ => false
theorem run_isAgg {t : TypeId} {d : TypeDesc} (h : P.underlying t = some d) (w : World) : (isAgg t).run P w = .ok (isAggT d) w := by
  unfold isAgg
  rw [Sem.run_bind, run_underlying h w]
  cases d <;> rfl

def aloadAt (P : Program) (A : AW) (t : TypeId) (b o : Nat) : Option Value :=
  match P.underlying t with
  | none => none
  | some d => if isAggT d then (szOf P t).bind fun n => (A.rd b o n).map fun l => .agg l.toArray else (A.rd b o 1).bind fun l => l.head?
def aload (P : Program) (A : AW) (t : TypeId) : Value → Option Value
  | .pointer (some ⟨b, o, none⟩) => aloadAt P A t b o
  | _ => none

theorem aloadAt_sound (h : Sim P w0 N β S A w) {t : TypeId} {b o : Nat} {v : Value} (ha : aloadAt P A t b o = some v) :
    ∃ L v', β b = some L ∧ (loadVar t ⟨L.blk, L.off + o, none⟩).run P w = .ok v' w ∧ VR β S v v' := by
  unfold aloadAt at ha
  split at ha
  · cases ha
  · rename_i d hd
    split at ha
    · rename_i hag
      cases hs : szOf P t with
      | none => simp [hs] at ha
      | some n =>
        simp only [hs, Option.bind_some] at ha
        cases hr : A.rd b o n with
        | none => simp [hr] at ha
        | some cs =>
          simp only [hr, Option.map_some, Option.some.injEq] at ha
          subst ha
          obtain ⟨L, cs', hb, hl, hv, hc⟩ := h.rd hr
          refine ⟨L, .agg cs'.toArray, hb, ?_, .agg (by simpa using hv) .nil⟩
          have := run_loadCells_list (P := P) w ⟨L.blk, L.off + o, none⟩ cs' (fun j v hv => by rw [Addr.add_mid]; exact hc j v hv)
          rw [hl] at this
          simp [loadVar, run_isAgg hd, hag, run_szOf hs, this]
    · rename_i hag
      cases hr : A.rd b o 1 with
      | none => simp [hr] at ha
      | some cs =>
        simp only [hr, Option.bind_some] at ha
        obtain ⟨L, cs', hb, hl, hv, hc⟩ := h.rd hr
        match cs, ha with
        | u :: us, ha =>
          simp at ha
          subst ha
          match cs', hl with
          | [u'], _ =>
            have h0 := hc 0 u' rfl
            refine ⟨L, u', hb, ?_, hv.cons_inv.1⟩
            simp only [Bool.not_eq_true] at hag
            simp only [Nat.add_zero] at h0
            simp [loadVar, run_isAgg hd, hag, run_load, h0]

theorem aload_sound (h : Sim P w0 N β S A w) {t : TypeId} {v x x' : Value} (hx : VR β S x x') (ha : aload P A t x = some v) :
    ∃ v', (Instr.loadAt t x').run P w = .ok v' w ∧ VR β S v v' := by
  unfold aload at ha
  split at ha
  · rename_i b o
    obtain ⟨L, v', hb, hr, hv⟩ := aloadAt_sound h ha
    cases hx with
    | ptr _ hb2 _ =>
      rw [hb] at hb2; cases hb2
      exact ⟨v', by simp [Instr.loadAt, Instr.sureAddr, hr], hv⟩
    | ptrD _ hb2 _ => rw [hb] at hb2; cases hb2
  · cases ha

def astore (P : Program) (A : AW) (t : TypeId) (v : Value) : Value → Option AW
  | .pointer (some ⟨b, o, none⟩) => if szOf P t = some v.cells.size ∧ v.cells.toList.all (·.oneCell') = true then A.put b o v.cells.toList else none
  | _ => none

theorem astore_sound (h : Sim P w0 N β S A w) {t : TypeId} {v v' x x' : Value} (hx : VR β S x x') (hv : VR β S v v') (ha : astore P A t v x = some A1) :
    ∃ w1, (Instr.storeAt t x' v').run P w = .ok () w1 ∧ Sim P w0 N β S A1 w1 ∧ Keeps A β w w1 ∧ A1.next = A.next ∧ A1.ro = A.ro ∧ A1.gl = A.gl := by
  unfold astore at ha
  split at ha
  · rename_i b o
    split at ha
    · rename_i hc
      obtain ⟨L, cur, ty, hb, hg, hl, hs, hk, e1, e2, e3⟩ := h.put ha (VRs.cells hv)
      have hst := run_storeCells_at P L.blk (L.off + o) ty v'.cells.toList 0 cur w hg (by simpa using hl) (VRs.one (VRs.cells hv) hc.2)
      have hz := hc.1
      rw [← VRs.size hv] at hz
      cases hx with
      | ptr _ hb2 _ =>
        rw [hb] at hb2; cases hb2
        refine ⟨_, ?_, hs, hk, e1, e2, e3⟩
        simp only [Nat.add_zero] at hst
        simp [Instr.storeAt, Instr.sureAddr, storeVar, run_szOf hz, hst]
      | ptrD _ hb2 _ => rw [hb] at hb2; cases hb2
    · cases ha
  · cases ha

/-! ### Parts -/
def apart (P : Program) (t : TypeId) (cs : List Value) (off : Nat) : Option Value :=
  match P.underlying t with
  | none => none
  | some d => if isAggT d then (szOf P t).map fun n => .agg ((cs.drop off).take n).toArray else cs[off]?

theorem apart_sound {t : TypeId} {cs : List Value} {cs' : Array Value} {off : Nat} {v : Value} (hc : VRs β S cs cs'.toList) (ha : apart P t cs off = some v) (w : World) :
    ∃ v', (part t cs' off).run P w = .ok v' w ∧ VR β S v v' := by
  unfold apart at ha
  split at ha
  · cases ha
  · rename_i d hd
    split at ha
    · rename_i hag
      cases hs : szOf P t with
      | none => simp [hs] at ha
      | some n =>
        simp only [hs, Option.map_some, Option.some.injEq] at ha
        subst ha
        refine ⟨.agg (cs'.extract off (off + n)), by simp [part, run_isAgg hd, hag, run_szOf hs], .agg ?_ .nil⟩
        rw [Array.toList_extract, List.extract_eq_take_drop]
        simp only [List.toList_toArray, show off + n - off = n by omega]
        exact (hc.drop off).take n
    · rename_i hag
      obtain ⟨v', e, r⟩ := hc.get ha
      refine ⟨v', ?_, r⟩
      simp only [Bool.not_eq_true] at hag
      simp only [Array.getElem?_toList] at e
      simp [part, run_isAgg hd, hag, e]

def afield (P : Program) (t : TypeId) (x : Value) (f : Nat) : Option Value :=
  match P.underlying t, x with
  | some (.struct fs), .agg cs => match fs[f]? with
    | some fd => apart P fd.type cs.toList fd.offset
    | none => none
  | _, _ => none

theorem afield_sound {t : TypeId} {v x x' : Value} {f : Nat} (hx : VR β S x x') (ha : afield P t x f = some v) (w : World) :
    ∃ v', (Instr.field t x' f).run P w = .ok v' w ∧ VR β S v v' := by
  unfold afield at ha
  split at ha
  · rename_i fs cs hu
    split at ha
    · rename_i fd hf
      cases hx with
      | agg hc _ =>
        obtain ⟨v', hr, hv⟩ := apart_sound hc ha w
        exact ⟨v', by simp [Instr.field, run_underlying hu, hf, asAgg, hr], hv⟩
    · cases ha
  · cases ha

def aextract (x : Value) (i : Nat) : Option Value :=
  match x with
  | .tuple vs => vs.toList[i]?
  | _ => none
theorem aextract_sound {v x x' : Value} {i : Nat} (hx : VR β S x x') (ha : aextract x i = some v) (w : World) :
    ∃ v', (Instr.extract x' i).run P w = .ok v' w ∧ VR β S v v' := by
  unfold aextract at ha
  split at ha
  · cases hx with
    | tuple hc _ =>
      obtain ⟨v', e, r⟩ := hc.get ha
      simp only [Array.getElem?_toList] at e
      exact ⟨v', by simp [Instr.extract, e], r⟩
  · cases ha

/-! ### Addresses -/
def afieldAddr (P : Program) (s : TypeId) (x : Value) (f : Nat) : Option Value :=
  match P.underlying s, x with
  | some (.struct fs), .pointer (some ⟨b, o, none⟩) => match fs[f]? with
    | some fd => match szOf P fd.type with
      | some (_ + 1) => some (.pointer (some ⟨b, o + fd.offset, none⟩))
      | _ => none
    | none => none
  | _, _ => none

theorem VR.add {b o n : Nat} {x' : Value} (hx : VR β S (.pointer (some ⟨b, o, none⟩)) x') :
    ∃ a, x' = .pointer (some a) ∧ VR β S (.pointer (some ⟨b, o + n, none⟩)) (.pointer (some (a.add n))) := by
  cases hx with
  | ptr hs hb _ => exact ⟨_, rfl, by rw [Addr.add_mid, Nat.add_assoc]; exact .ptr hs hb .nil⟩
  | ptrD hs hb _ => exact ⟨_, rfl, .ptrD hs hb .nil⟩

theorem afieldAddr_sound {s : TypeId} {v x x' : Value} {f : Nat} (hx : VR β S x x') (ha : afieldAddr P s x f = some v) (w : World) :
    ∃ v', (Instr.fieldAt s x' f).run P w = .ok v' w ∧ VR β S v v' := by
  unfold afieldAddr at ha
  split at ha
  · rename_i fs b o hu
    split at ha
    · rename_i fd hf
      split at ha
      · rename_i n hn
        cases ha
        obtain ⟨a, rfl, hv⟩ := VR.add (n := fd.offset) hx
        exact ⟨_, by simp [Instr.fieldAt, run_underlying hu, hf, Instr.sureAddr, fieldPlace, run_szOf hn], hv⟩
      · cases ha
    · cases ha
  · cases ha

def aindexAddr (P : Program) (t : TypeId) (x i : Value) : Option Value :=
  match P.underlying t, x, i with
  | some (.array len e), .pointer (some ⟨b, o, none⟩), .int _ i => match szOf P e with
    | some n => if 0 ≤ i ∧ i < len then some (.pointer (some ⟨b, o + i.toNat * n, none⟩)) else none
    | none => none
  | some (.slice e), .slice (some ⟨b, o, none⟩) len _, .int _ i => match szOf P e with
    | some n => if 0 ≤ i ∧ i < len then some (.pointer (some ⟨b, o + i.toNat * n, none⟩)) else none
    | none => none
  | _, _, _ => none

theorem aindexAddr_sound {t : TypeId} {v x x' i i' : Value} (hx : VR β S x x') (hi : VR β S i i') (ha : aindexAddr P t x i = some v) (w : World) :
    ∃ v', (Instr.indexAt t x' i').run P w = .ok v' w ∧ VR β S v v' := by
  unfold aindexAddr at ha
  split at ha
  · rename_i len e b o k i hu
    split at ha
    · rename_i n hn
      split at ha
      · rename_i hc
        cases ha
        cases hi
        obtain ⟨a, rfl, hv⟩ := VR.add (n := i.toNat * n) hx
        exact ⟨_, by simp [Instr.indexAt, asIntOf, run_underlying hu, Instr.sureAddr, hc.1, hc.2, run_szOf hn], hv⟩
      · cases ha
    · cases ha
  · rename_i e b o len c k i hu
    split at ha
    · rename_i n hn
      split at ha
      · rename_i hc
        cases ha
        cases hi
        cases hx with
        | sl hs hb _ _ _ => exact ⟨_, by simp [Instr.indexAt, asIntOf, run_underlying hu, hc.1, hc.2, run_szOf hn, Addr.add_mid]; rfl, by rw [Nat.add_assoc]; exact .ptr hs hb .nil⟩
        | slD hs hb _ _ => exact ⟨_, by simp [Instr.indexAt, asIntOf, run_underlying hu, hc.1, hc.2, run_szOf hn]; rfl, .ptrD hs hb .nil⟩
      · cases ha
    · cases ha
  · cases ha

def aindex (P : Program) (t : TypeId) (x i : Value) : Option Value :=
  match P.underlying t, x, i with
  | some (.array len e), .agg cs, .int _ i => match szOf P e with
    | some n => if 0 ≤ i ∧ i < len then apart P e cs.toList (i.toNat * n) else none
    | none => none
  | some .string, .string s, .int _ i => if 0 ≤ i then match s.data.toList[i.toNat]? with
    | some b => some (.int .u8 b.toNat)
    | none => none else none
  | _, _, _ => none

theorem aindex_sound {t : TypeId} {v x x' i i' : Value} (hx : VR β S x x') (hi : VR β S i i') (ha : aindex P t x i = some v) (w : World) :
    ∃ v', (Instr.index t x' i').run P w = .ok v' w ∧ VR β S v v' := by
  unfold aindex at ha
  split at ha
  · rename_i len e cs k i hu
    split at ha
    · rename_i n hn
      split at ha
      · rename_i hc
        cases hi
        cases hx with
        | agg hcs _ =>
          obtain ⟨v', hr, hv⟩ := apart_sound hcs ha w
          exact ⟨v', by simp [Instr.index, asIntOf, run_underlying hu, hc.1, hc.2, run_szOf hn, hr], hv⟩
      · cases ha
    · cases ha
  · rename_i s k i hu
    split at ha
    · rename_i h0
      split at ha
      · rename_i b hb
        cases ha
        cases hi
        cases hx
        refine ⟨.int .u8 b.toNat, ?_, .int .nil⟩
        have e : s[i.toNat]? = some b := by
          obtain ⟨hl, hg⟩ := List.getElem?_eq_some_iff.1 hb
          have hl' : i.toNat < s.size := by simpa using hl
          rw [getElem?_pos s i.toNat hl', ← hg]
          rfl
        simp [Instr.index, asIntOf, run_underlying hu, h0, e]
      · cases ha
    · cases ha
  · cases ha

end Go.M
namespace Go.M
open Go.RowKit
variable {P : Program} {w0 w w' w1 : World} {N : Nat} {β β' β1 : Bet} {S S' S1 : Nat → Prop} {A A' A1 : AW}

theorem Sim.kill (h : Sim P w0 N β S A w) {b : Nat} (hro : A.ro ≤ b) : Sim P w0 N (fun j => if j = b then none else β j) S (A.upd b none) w := by
  have hat : ∀ i, S i → (if i = b then none else β i) = β i ∨ (if i = b then (none : Option Loc) else β i) = none := fun i _ => by
    by_cases e : i = b
    · right; simp [e]
    · left; simp [e]
  refine ⟨h.below, h.Nle, ?_, ?_, ?_, ?_, ?_, h.sub, h.role, ?_, h.gle, fun i L hi hb => h.roz i L hi (by
    have hne : i ≠ b := by simp only [AW.upd] at hi; omega
    simpa [hne] using hb)⟩
  · intro i o hi
    simp only [AW.upd] at hi
    by_cases e : i = b
    · subst e; simp at hi
    · rw [if_neg e] at hi
      obtain ⟨L, e1, r⟩ := h.live i o hi
      exact ⟨L, by simp [e, e1], r.mono hat (fun _ h => h) rfl⟩
  · intro i hi
    simp only [AW.upd] at hi
    by_cases e : i = b
    · simp [e]
    · rw [if_neg e] at hi; simp [e, h.dead i hi]
  · intro i o hi
    simp only [AW.upd] at hi ⊢
    by_cases e : i = b
    · subst e; simp at hi
    · rw [if_neg e] at hi; exact h.lt i o hi
  · intro i j L L' hr hij h1 h2
    by_cases ei : i = b
    · simp [ei] at h1
    · by_cases ej : j = b
      · simp [ej] at h2
      · rw [if_neg ei] at h1; rw [if_neg ej] at h2; exact h.inj i j L L' hr hij h1 h2
  · intro i L hr h1
    by_cases ei : i = b
    · simp [ei] at h1
    · rw [if_neg ei] at h1; exact h.hi i L hr h1
  · intro g hg
    obtain ⟨hs, L, e1, e2⟩ := h.glob g hg
    have := h.gle
    exact ⟨hs, L, by rw [if_neg (by simp only [AW.upd] at hg; omega)]; exact e1, e2⟩

/-- A new object in a block that nobody has. -/
theorem Sim.claim (h : Sim P w0 N β S A w) (o : AObj) (L : Loc) (hfree : ∀ j L', β j = some L' → L'.blk ≠ L.blk) (hN : N ≤ L.blk) (hbel : Below N w0 w')
    (hold : ∀ k, k < w.heap.size → k ≠ L.blk → w'.heap[k]? = w.heap[k]?)
    (hr : ORel P (fun j => if j = A.next then some L else β j) (fun i => S i ∨ i = A.next) w' true L o) :
    Sim P w0 N (fun j => if j = A.next then some L else β j) (fun i => S i ∨ i = A.next) (A.push o) w' ∧
    Ext A.next β S (fun j => if j = A.next then some L else β j) (fun i => S i ∨ i = A.next) := by
  have hn : A.objs A.next = none := by
    cases e : A.objs A.next with
    | none => rfl
    | some o => have := h.lt _ _ e; omega
  refine ⟨⟨hbel, h.Nle, ?_, ?_, ?_, ?_, ?_, ?_, ?_, fun g hg => by
    obtain ⟨hs, L', e1, e2⟩ := h.glob g hg
    have := h.sub g hs
    exact ⟨.inl hs, L', by rw [if_neg (by omega)]; exact e1, e2⟩, h.gle, fun i L1 hi hb => h.roz i L1 hi (by
    have := h.role
    have hne : i ≠ A.next := by simp only [AW.push] at hi; omega
    simpa [hne] using hb)⟩, ?_⟩
  · intro i oi hi
    simp only [AW.push] at hi
    by_cases e : i = A.next
    · subst e
      simp only [if_true] at hi
      cases hi
      exact ⟨L, by simp, by
        have : decide ((A.push o).ro ≤ A.next) = true := by simp [AW.push, h.role]
        rw [this]; exact hr⟩
    · rw [if_neg e] at hi
      obtain ⟨L', e1, r⟩ := h.live i oi hi
      exact ⟨L', by simp [e, e1], r.mono (fun j hj => .inl (by have := h.sub j hj; rw [if_neg (by omega)])) (fun j hj => .inl hj) (hold _ r.lt (hfree i L' e1))⟩
  · intro i hi
    simp only [AW.push] at hi
    by_cases e : i = A.next
    · subst e; simp at hi
    · rw [if_neg e] at hi; simp [e, h.dead i hi]
  · intro i oi hi
    simp only [AW.push] at hi ⊢
    by_cases e : i = A.next
    · omega
    · rw [if_neg e] at hi; have := h.lt i oi hi; omega
  · intro i j L1 L2 hro hij h1 h2
    by_cases ei : i = A.next
    · subst ei
      simp only [if_true] at h1
      cases h1
      rw [if_neg (Ne.symm hij)] at h2
      exact (hfree j L2 h2).symm
    · rw [if_neg ei] at h1
      by_cases ej : j = A.next
      · subst ej
        simp only [if_true] at h2
        cases h2
        exact hfree i L1 h1
      · rw [if_neg ej] at h2
        exact h.inj i j L1 L2 hro hij h1 h2
  · intro i L1 hro h1
    by_cases ei : i = A.next
    · subst ei
      simp only [if_true] at h1
      cases h1
      exact hN
    · rw [if_neg ei] at h1
      exact h.hi i L1 hro h1
  · intro i hi
    rcases hi with hi | hi
    · have := h.sub i hi; simp [AW.push]; omega
    · simp [AW.push]; omega
  · have := h.role; simp [AW.push]; omega
  · exact ⟨fun i hi => .inl (by have := h.sub i hi; rw [if_neg (by omega)]), fun i hi => .inl hi, fun i hi => by rcases hi with hi | hi; exact .inl hi; exact .inr (by omega)⟩

/-- The cells that a slice gives. -/
def asrc (A : AW) (size : Nat) : Value → Option (Nat × List Value)
  | .slice none m _ => if m = 0 then some (0, []) else none
  | .slice (some ⟨b, o, none⟩) m _ => if m = 0 then some (0, []) else (A.rd b o (m * size)).map fun l => (m, l)
  | .slice (some _) m _ => if m = 0 then some (0, []) else none
  | _ => none

theorem asrc_sound (h : Sim P w0 N β S A w) {size m : Nat} {x x' : Value} {ys : List Value} (hx : VR β S x x') (ha : asrc A size x = some (m, ys)) :
    ∃ ys', VRs β S ys ys' ∧ ys'.length = m * size ∧ (∃ p c, x' = .slice p m c ∧ (∀ a, p = some a → ∀ (j : Nat) u, ys'[j]? = some u → w.cell? (a.add j) = some u) ∧ (p = none → m = 0)) := by
  unfold asrc at ha
  split at ha
  · rename_i n c
    split at ha
    · rename_i hn
      cases ha
      subst hn
      cases hx
      exact ⟨[], .nil, by simp, none, c, rfl, by simp, fun _ => rfl⟩
    · cases ha
  · rename_i b o n c
    split at ha
    · rename_i hn
      cases ha
      subst hn
      cases hx with
      | sl _ _ _ _ _ => exact ⟨[], .nil, by simp, _, _, rfl, by simp, fun _ => rfl⟩
      | slD _ _ _ _ => exact ⟨[], .nil, by simp, _, _, rfl, by simp, fun _ => rfl⟩
    · cases hr : A.rd b o (n * size) with
      | none => simp [hr] at ha
      | some l =>
        simp only [hr, Option.map_some, Option.some.injEq, Prod.mk.injEq] at ha
        obtain ⟨rfl, rfl⟩ := ha
        obtain ⟨L, cs', hb, hl, hv, hc⟩ := h.rd hr
        cases hx with
        | sl _ hb2 _ _ _ =>
          rw [hb] at hb2; cases hb2
          exact ⟨cs', hv, hl, _, _, rfl, fun a e j u hu => by cases e; rw [Addr.add_mid]; exact hc j u hu, by simp⟩
        | slD _ hb2 _ _ => rw [hb] at hb2; cases hb2
  · rename_i a n c hne
    split at ha
    · rename_i hn
      cases ha
      subst hn
      cases hx with
      | sl _ _ _ _ _ => exact ⟨[], .nil, by simp, _, _, rfl, by simp, fun _ => rfl⟩
      | slD _ _ _ _ => exact ⟨[], .nil, by simp, _, _, rfl, by simp, fun _ => rfl⟩
    · cases ha
  · cases ha

def aappend (P : Program) (A : AW) (t : TypeId) (s x : Value) : Option (Value × AW) :=
  match P.underlying t with
  | some (.slice e) => match P.info? e with
    | some i => match i.zero with
      | some z => match s with
        | .slice base n c => match asrc A i.size x with
          | some (m, ys) =>
            if z.cells.size = i.size ∧ 0 < i.size ∧ ys.all (·.oneCell') = true then
              if n + m ≤ c then
                if m = 0 then some (.slice base n c, A) else
                match base with
                | some ⟨b, o, none⟩ => (A.put b (o + n * i.size) ys).map fun A1 => (.slice base (n + m) c, A1)
                | _ => none
              else if 0 < m ∧ n + m ≤ 140737488355328 ∧ (n + m) * i.bytes ≤ 140737488355328 then
                match base with
                | none => if n = 0 ∧ c = 0 then some (.slice (some ⟨A.next, 0, none⟩) (n + m) (n + m), A.push (.cells ys e)) else none
                | some ⟨b, o, none⟩ => match A.rd b o (n * i.size), A.objs b with
                  | some olds, some (.cells _ e0) => if A.ro ≤ b ∧ szOf P e0 = some i.size then some (.slice (some ⟨A.next, 0, none⟩) (n + m) (n + m), (A.upd b none).push (.cells (olds ++ ys) e)) else none
                  | _, _ => none
                | _ => none
              else none
            else none
          | none => none
        | _ => none
      | none => none
    | none => none
  | _ => none

theorem Sim.pushRest (h : Sim P w0 N β S A w) {c c' rest : List Value} (hc : VRs β S c c') {e : TypeId} {n : Nat} (he : szOf P e = some n) :
    ∃ β1 S1, Sim P w0 N β1 S1 (A.push (.cells c e)) (w.alloc (.cells (c' ++ rest).toArray e)) ∧ Ext A.next β S β1 S1 ∧ Keeps A β w (w.alloc (.cells (c' ++ rest).toArray e)) ∧ S1 A.next ∧ β1 A.next = some ⟨w.heap.size, 0, n, (c' ++ rest).length⟩ := by
  have hl := hc.length
  have := h.push (.cells c e) (.cells (c' ++ rest).toArray e) ⟨w.heap.size, 0, n, (c' ++ rest).length⟩ rfl ⟨(c' ++ rest).toArray, e, (0, 0), by show (w.heap.push _)[w.heap.size]? = _; simp, by simp, by simp; omega, by
    show VRs _ _ c ((List.drop 0 (c' ++ rest)).take c.length)
    rw [List.drop_zero, hl, List.take_left]
    exact hc.mono (fun i hi => .inl (by have := h.sub i hi; rw [if_neg (by omega)])) (fun i hi => .inl hi), fun _ => ⟨rfl, he⟩⟩
  exact ⟨_, _, this.1, this.2.1, this.2.2, .inr rfl, by simp⟩

theorem list_grow (cs ys : List Value) (k p : Nat) (h : k + p ≤ cs.length) :
    ((cs.take (k + p) ++ ys ++ cs.drop (k + p + ys.length)).drop k).take (p + ys.length) = (cs.drop k).take p ++ ys := by
  have e1 : (cs.take (k + p)).drop k = (cs.drop k).take p := by rw [List.drop_take]; congr 1; omega
  rw [List.append_assoc, List.drop_append_of_le_length (by simp; omega), e1, ← List.append_assoc]
  rw [List.take_append_of_le_length (by simp; omega)]
  rw [List.take_of_length_le (by simp; omega)]

theorem list_inner (cs : List Value) (k len o p : Nat) (h : o + p ≤ len) : (((cs.drop k).take len).drop o).take p = (cs.drop (k + o)).take p := by
  rw [List.drop_take, List.take_take, List.drop_drop]
  congr 1
  omega

theorem aappend_sound (h : Sim P w0 N β S A w) {t : TypeId} {v s s' x x' : Value} (hs : VR β S s s') (hx : VR β S x x') (ha : aappend P A t s x = some (v, A1)) (ty : TypeId) :
    ∃ v' w1, (Builtin.append_ #[t, t] ty #[s', x']).run P w = .ok v' w1 ∧ Done P w0 N β S A w v A1 v' w1 := by
  unfold aappend at ha
  split at ha
  case h_2 => cases ha
  rename_i e ht
  split at ha
  case h_2 => cases ha
  rename_i i hi
  split at ha
  case h_2 => cases ha
  rename_i z hz
  split at ha
  case h_2 => cases ha
  rename_i base n c
  split at ha
  case h_2 => cases ha
  rename_i m ys hsrc
  split at ha
  case isFalse => cases ha
  rename_i hc
  obtain ⟨hzs, hsz, hone⟩ := hc
  obtain ⟨ys', hys, hyl, p, cx, rfl, hcells, hp0⟩ := asrc_sound h hx hsrc
  have hone' := VRs.one hys hone
  split at ha
  · rename_i hroom
    split at ha
    · -- nothing is appended
      rename_i hm
      cases ha
      subst hm
      have hy0 : ys' = [] := List.eq_nil_of_length_eq_zero (by simpa using hyl)
      have run : ∀ base' c', c ≤ c' → (Builtin.append_ #[t, t] ty #[.slice base' n c', .slice p 0 cx]).run P w = .ok (.slice base' n c') w := by
        intro base' c' hcc
        have hn : n ≤ c' := by omega
        cases p <;> cases base' <;> simp [Builtin.append_, run_underlying ht, sizeOf, typeInfo, hi, Builtin.lenOf, Builtin.firstCells, loadCells, loadCellsFrom, hn, storeCells]
      cases hs with
      | sl0 => exact ⟨_, w, run _ _ (Nat.le_refl _), Done.same h (.sl0 .nil)⟩
      | sl a b d f => exact ⟨_, w, run _ _ d, Done.same h (.sl a b d f .nil)⟩
      | slD a b d => exact ⟨_, w, run _ _ d, Done.same h (.slD a b d .nil)⟩
    · -- there is room, for all to see
      rename_i hm
      split at ha
      case h_2 => cases ha
      rename_i b o
      cases hput : A.put b (o + n * i.size) ys with
      | none => simp [hput] at ha
      | some A2 =>
        simp only [hput, Option.map_some, Option.some.injEq, Prod.mk.injEq] at ha
        obtain ⟨rfl, rfl⟩ := ha
        obtain ⟨L, cur, tt, hb, hg, hl, hsim, hk, e1, e2, e3⟩ := h.put hput hys
        cases p with
        | none => exact absurd (hp0 rfl) hm
        | some a =>
          have hf := run_firstCells_some (P := P) w i.size m a m cx ys' hyl (hcells a rfl)
          have hst := run_storeCells_at P L.blk (L.off + o + n * i.size) tt ys' 0 cur w hg (by omega) hone'
          rw [Nat.add_zero] at hst
          have run : ∀ c', c ≤ c' → (Builtin.append_ #[t, t] ty #[.slice (some ⟨L.blk, L.off + o, none⟩) n c', .slice (some a) m cx]).run P w = .ok (.slice (some ⟨L.blk, L.off + o, none⟩) (n + m) c')
              (w.setRow L.blk (cur.toList.take (L.off + (o + n * i.size)) ++ ys' ++ cur.toList.drop (L.off + (o + n * i.size) + ys'.length)).toArray) := by
            intro c' hcc
            have hroom' : n + m ≤ c' := by omega
            have ea : L.off + (o + n * i.size) = L.off + o + n * i.size := by omega
            simp [Builtin.append_, run_underlying ht, sizeOf, typeInfo, hi, Builtin.lenOf, hroom', hf, Addr.add_mid, hst, ea]
          cases hs with
          | sl sa sb d f =>
            rw [hb] at sb; cases sb
            exact ⟨_, _, run _ d, ⟨⟨β, S, hsim, .refl _, hk, .sl sa hb d f .nil, by omega, e2, e3⟩⟩⟩
          | slD _ sb _ => rw [hb] at sb; cases sb
  · -- it may grow
    rename_i hroom
    split at ha
    case isFalse => cases ha
    rename_i hfit
    obtain ⟨hm, hmax, hby⟩ := hfit
    have hml : n + m ≤ maxLen := by unfold maxLen; omega
    cases p with
    | none => exact absurd (hp0 rfl) (by omega)
    | some a =>
      split at ha
      · split at ha
        · rename_i hn
          cases ha
          cases hs
          obtain ⟨rfl, rfl⟩ := hn
          have hr := run_append_nil (P := P) w t ty e i z ht hi hz a m cx ys' hyl (hcells a rfl) hm (by omega) (by have q := hby; rw [Nat.zero_add] at q; omega)
          have hge := grownCap_ge w m 0 e
          obtain ⟨β1, S1, k1, k2, k3, k4, k5⟩ := h.drew.pushRest (rest := (Builtin.zeroCells z.cells (grownCap w m 0 e - m)).toList) hys (by simp [szOf, hi] : szOf P e = some i.size)
          rw [Nat.zero_add]
          refine ⟨_, _, hr, ⟨⟨β1, S1, ?_, k2, ?_, .sl (L := ⟨w.heap.size, 0, i.size, _⟩) k4 k5 hge (.inr (.inr ?_)) .nil, by simp [AW.push], rfl, rfl⟩⟩⟩
          · have : (ys' ++ (Builtin.zeroCells z.cells (grownCap w m 0 e - m)).toList).toArray = ys'.toArray ++ Builtin.zeroCells z.cells (grownCap w m 0 e - m) := by apply Array.ext'; simp
            rw [this] at k1
            exact k1
          · have : (ys' ++ (Builtin.zeroCells z.cells (grownCap w m 0 e - m)).toList).toArray = ys'.toArray ++ Builtin.zeroCells z.cells (grownCap w m 0 e - m) := by apply Array.ext'; simp
            rw [this] at k3
            exact k3
          · have := size_zeroCells z.cells (grownCap w m 0 e - m)
            simp only [List.length_append, Array.length_toList, this, hzs, hyl, ← Nat.add_mul]
            have e2 : m + (grownCap w m 0 e - m) = grownCap w m 0 e := by omega
            rw [e2]; simp
        · cases ha
      · rename_i b o
        split at ha
        case h_2 => cases ha
        rename_i olds c0 e0 hrd hob
        split at ha
        case isFalse => cases ha
        rename_i hro
        cases ha
        obtain ⟨hro, hz0⟩ := hro
        obtain ⟨L, hb, cs, e', fz, hg, htot, hofs, hvr, hwr⟩ := h.live b _ hob
        obtain ⟨rfl, hez⟩ := hwr (by simp [hro])
        rw [hz0] at hez
        have hesz : L.esz = i.size := (Option.some.inj hez).symm
        have hol : o + n * i.size ≤ c0.length ∧ olds = (c0.drop o).take (n * i.size) := by
          simp only [AW.rd, hob] at hrd
          split at hrd
          · rename_i hh; exact ⟨hh, (Option.some.inj hrd).symm⟩
          · cases hrd
        have holdv : VRs β S olds ((cs.toList.drop (L.off + o)).take (n * i.size)) := by
          rw [hol.2, ← list_inner cs.toList L.off c0.length o (n * i.size) hol.1]
          exact (hvr.drop o).take _
        have hcsl : cs.toList.length = L.tot := by simpa using htot
        have elen : (olds ++ ys).length = n * i.size + ys'.length := by
          have q := (holdv.append hys).length
          rw [List.length_append (as := List.take _ _), List.length_take, List.length_drop, hcsl] at q
          rw [q]
          have := hol.1
          omega
        have hsz : szOf P e = some i.size := by simp [szOf, hi]
        have hkill := h.kill (b := b) hro
        have hat : ∀ j, S j → (if j = b then none else β j) = β j ∨ (if j = b then (none : Option Loc) else β j) = none := fun j _ => by
          by_cases q : j = b
          · right; simp [q]
          · left; simp [q]
        have hallv := (holdv.append hys).mono hat (fun _ h => h)
        have hextk : Ext A.next β S (fun j => if j = b then none else β j) S := ⟨hat, fun _ h => h, fun _ h => .inl h⟩
        cases hs with
        | slD _ sb _ => rw [hb] at sb; cases sb
        | @sl _ _ _ _ _ c' _ _ sa sb d f =>
          rw [hb] at sb; cases sb
          by_cases hin : n + m ≤ c'
          · -- in place
            have hroom2 : L.off + o + c' * i.size ≤ L.tot := by
              rcases f with f | f | f
              · omega
              · omega
              · rw [hesz] at f; exact f
            have hmul : (n + m) * i.size ≤ c' * i.size := Nat.mul_le_mul_right _ hin
            have hmul2 : (n + m) * i.size = n * i.size + m * i.size := Nat.add_mul _ _ _
            have hf := run_firstCells_some (P := P) w i.size m a m cx ys' hyl (hcells a rfl)
            have hst := run_storeCells_at P L.blk (L.off + o + n * i.size) e' ys' 0 cs w hg (by omega) hone'
            rw [Nat.add_zero] at hst
            have run : (Builtin.append_ #[t, t] ty #[.slice (some ⟨L.blk, L.off + o, none⟩) n c', .slice (some a) m cx]).run P w = .ok (.slice (some ⟨L.blk, L.off + o, none⟩) (n + m) c')
                (w.setRow L.blk (cs.toList.take (L.off + o + n * i.size) ++ ys' ++ cs.toList.drop (L.off + o + n * i.size + ys'.length)).toArray) := by
              simp [Builtin.append_, run_underlying ht, sizeOf, typeInfo, hi, Builtin.lenOf, hin, hf, Addr.add_mid, hst]
            have hlen : (cs.toList.take (L.off + o + n * i.size) ++ ys' ++ cs.toList.drop (L.off + o + n * i.size + ys'.length)).length = L.tot := by simp; omega
            have hset : (w.setRow L.blk (cs.toList.take (L.off + o + n * i.size) ++ ys' ++ cs.toList.drop (L.off + o + n * i.size + ys'.length)).toArray).heap[L.blk]? = some (.cells (cs.toList.take (L.off + o + n * i.size) ++ ys' ++ cs.toList.drop (L.off + o + n * i.size + ys'.length)).toArray e' (0, 0)) := setRow_heap w L.blk cs _ e' _ hg
            have hother : ∀ k, k ≠ L.blk → (w.setRow L.blk (cs.toList.take (L.off + o + n * i.size) ++ ys' ++ cs.toList.drop (L.off + o + n * i.size + ys'.length)).toArray).heap[k]? = w.heap[k]? := fun k hk => setRow_other w L.blk k _ hk
            have hNL := h.hi b L hro hb
            have hcl := hkill.claim (w' := w.setRow L.blk (cs.toList.take (L.off + o + n * i.size) ++ ys' ++ cs.toList.drop (L.off + o + n * i.size + ys'.length)).toArray) (.cells (olds ++ ys) e) ⟨L.blk, L.off + o, i.size, L.tot⟩
              (fun j L' hj => by
                by_cases q : j = b
                · simp [q] at hj
                · rw [if_neg q] at hj; exact (h.inj b j L L' hro (Ne.symm q) hb hj).symm)
              hNL ⟨h.below.os, h.below.tape, h.below.output, by simpa [World.setRow] using h.below.size, fun k hk => (hother k (by omega)).trans (h.below.block k hk)⟩
              (fun k _ hk => hother k hk)
              ⟨_, e', (0, 0), hset, by simpa using hlen, by rw [elen]; show L.off + o + _ ≤ L.tot; omega, by
                rw [elen, List.toList_toArray, list_grow cs.toList ys' (L.off + o) (n * i.size) (by omega)]
                exact hallv.mono (fun j hj => .inl (by have := h.sub j hj; exact if_neg (show ¬ j = A.next by omega))) (fun j hj => .inl hj), fun _ => ⟨rfl, hsz⟩⟩
            refine ⟨_, _, run, ⟨⟨_, _, hcl.1, hextk.trans hcl.2 (Nat.le_refl _), ⟨by simp [World.setRow], fun k _ hn => hother k (Ne.symm (hn b L hro hb))⟩, .sl (L := ⟨L.blk, L.off + o, i.size, L.tot⟩) (.inr rfl) (by simp [AW.upd]) hin (.inr (.inr (by simpa using hroom2))) .nil, by simp [AW.push, AW.upd], rfl, rfl⟩⟩⟩
          · -- in a new row
            obtain ⟨L2, cs', hb2, hl2, hv2, hc2⟩ := h.rd hrd
            rw [hb] at hb2; cases hb2
            have hr := run_append_grow (P := P) w t ty e i z ht hi hz ⟨L.blk, L.off + o, none⟩ n c' cs' hl2 (fun j u hu => by rw [Addr.add_mid]; exact hc2 j u hu) a m cx ys' hyl (hcells a rfl) (by omega) (by omega) (growslice_fits (by omega) hby)
            have hge := grownCap_ge w (n + m) c' e
            obtain ⟨β1, S1, k1, k2, k3, k4, k5⟩ := hkill.drew.pushRest (rest := (Builtin.zeroCells z.cells (grownCap w (n + m) c' e - (n + m))).toList) ((hv2.append hys).mono hat (fun _ h => h)) hsz
            have earr : ((cs' ++ ys') ++ (Builtin.zeroCells z.cells (grownCap w (n + m) c' e - (n + m))).toList).toArray = cs'.toArray ++ ys'.toArray ++ Builtin.zeroCells z.cells (grownCap w (n + m) c' e - (n + m)) := by apply Array.ext'; simp
            rw [earr] at k1 k3
            refine ⟨_, _, hr, ⟨⟨β1, S1, k1, hextk.trans k2 (Nat.le_refl _), ⟨k3.1, fun k hk hn => k3.2 k hk (fun j Lj hj1 hj2 => by
              by_cases q : j = b
              · simp [q] at hj2
              · simp only [if_neg q] at hj2; exact hn j Lj hj1 hj2)⟩, .sl (L := ⟨w.heap.size, 0, i.size, _⟩) k4 k5 hge (.inr (.inr ?_)) .nil, by simp [AW.push, AW.upd], rfl, rfl⟩⟩⟩
            have hz2 := size_zeroCells z.cells (grownCap w (n + m) c' e - (n + m))
            have e2 : n + m + (grownCap w (n + m) c' e - (n + m)) = grownCap w (n + m) c' e := by omega
            simp only [List.length_append, Array.length_toList, hz2, hzs, hyl, hl2, ← Nat.add_mul, e2]
            simp
      · cases ha

end Go.M
namespace Go.M
open Go.RowKit
variable {P : Program} {w0 w w' w1 : World} {N : Nat} {β β' β1 : Bet} {S S' S1 : Nat → Prop} {A A' A1 : AW}

/-! ### A dead name -/
def AW.burn (A : AW) : AW := { A with next := A.next + 1 }
theorem Sim.burn (h : Sim P w0 N β S A w) : Sim P w0 N β (fun i => S i ∨ i = A.next) A.burn w ∧ Ext A.next β S β (fun i => S i ∨ i = A.next) ∧ β A.next = none := by
  have hn : A.objs A.next = none := by
    cases e : A.objs A.next with
    | none => rfl
    | some o => have := h.lt _ _ e; omega
  refine ⟨⟨h.below, h.Nle, fun i o hi => ?_, h.dead, fun i o hi => ?_, h.inj, h.hi, fun i hi => ?_, ?_, fun g hg => ⟨.inl (h.glob g hg).1, (h.glob g hg).2⟩, h.gle, h.roz⟩, ⟨fun _ _ => .inl rfl, fun _ h => .inl h, fun i hi => by rcases hi with hi | hi; exact .inl hi; exact .inr (by omega)⟩, h.dead _ hn⟩
  · obtain ⟨L, e, r⟩ := h.live i o hi
    exact ⟨L, e, r.mono (fun _ _ => .inl rfl) (fun _ h => .inl h) rfl⟩
  · have := h.lt i o hi; simp [AW.burn]; omega
  · rcases hi with hi | hi
    · have := h.sub i hi; simp [AW.burn]; omega
    · simp [AW.burn]; omega
  · have := h.role; simp [AW.burn]; omega

/-! ### Slicing -/
def abound (x : Value) (y : Nat) : Option Nat :=
  match x with
  | .int _ i => if 0 ≤ i ∧ i ≤ y then some i.toNat else none
  | _ => none
theorem abound_eq {x x' : Value} {y n : Nat} (hx : VR β S x x') (h : abound x y = some n) : x' = x := by
  unfold abound at h
  split at h
  · cases hx; rfl
  · cases h
theorem run_abound {x : Value} {y y' n : Nat} (h : abound x y = some n) (hy : y ≤ y') (c : BoundsCode) (w : World) : (Instr.sliceBound x y' c).run P w = .ok n w := by
  unfold abound at h
  split at h
  · split at h
    · rename_i hc
      cases h
      have : 0 ≤ ‹Int› ∧ ‹Int› ≤ (y' : Int) := ⟨hc.1, by omega⟩
      simp [Instr.sliceBound, asIntOf, this]
    · cases h
  · cases h

def amx (cap : Nat) : Option Value → Option Nat
  | some v => abound v cap
  | none => some cap
def ahi (len m : Nat) : Option Value → Option Value → Option Nat
  | some v, _ => abound v m
  | none, none => some len
  | none, some _ => none
def alo (h : Nat) : Option Value → Option Nat
  | some v => abound v h
  | none => some 0
def abounds (len cap : Nat) (lo hi mx : Option Value) : Option (Nat × Nat × Nat) :=
  (amx cap mx).bind fun m => (ahi len m hi mx).bind fun h => (alo h lo).bind fun l => some (l, h, m)

/-- Bounds that are alike. -/
inductive OptVR (β : Bet) (S : Nat → Prop) : Option Value → Option Value → Prop
  | none : OptVR β S none none
  | some {v v'} : VR β S v v' → OptVR β S (some v) (some v')

theorem abounds_run {len cap cap' l h m : Nat} {lo hi mx lo' hi' mx' : Option Value} (h1 : OptVR β S lo lo') (h2 : OptVR β S hi hi') (h3 : OptVR β S mx mx') (ha : abounds len cap lo hi mx = some (l, h, m)) (hc : cap ≤ cap') (b : Bool) (w : World) :
    (Instr.sliceBounds b len cap' lo' hi' mx').run P w = .ok (l, h, if mx.isSome then m else cap') w ∧ (mx = none → m = cap) ∧ m ≤ cap ∧ (hi.isSome → h ≤ m) ∧ (lo.isSome → l ≤ h) ∧ (lo = none → l = 0) := by
  unfold abounds at ha
  cases hm : amx cap mx with
  | none => simp [hm] at ha
  | some m0 =>
    simp only [hm, Option.bind_some] at ha
    cases hh : ahi len m0 hi mx with
    | none => simp [hh] at ha
    | some h0 =>
      simp only [hh, Option.bind_some] at ha
      cases hl : alo h0 lo with
      | none => simp [hl] at ha
      | some l0 =>
        simp only [hl, Option.bind_some, Option.some.injEq, Prod.mk.injEq] at ha
        obtain ⟨rfl, rfl, rfl⟩ := ha
        have bl : ∀ {x : Value} {y n : Nat}, abound x y = some n → n ≤ y := by
          intro x y n hx
          unfold abound at hx
          split at hx
          · split at hx
            · cases hx; omega
            · cases hx
          · cases hx
        cases h3 with
        | none =>
          simp only [amx, Option.some.injEq] at hm
          subst hm
          cases h2 with
          | none =>
            simp only [ahi, Option.some.injEq] at hh
            subst hh
            cases h1 with
            | none => simp only [alo, Option.some.injEq] at hl; subst hl; exact ⟨by simp [Instr.sliceBounds], fun _ => rfl, Nat.le_refl _, by simp, by simp, fun _ => rfl⟩
            | some hv => have e := abound_eq hv hl; subst e; exact ⟨by simp [Instr.sliceBounds, run_abound hl (Nat.le_refl _)], fun _ => rfl, Nat.le_refl _, by simp, fun _ => bl hl, by simp⟩
          | some hv2 =>
            have e2 := abound_eq hv2 hh
            subst e2
            have hb := bl hh
            cases h1 with
            | none => simp only [alo, Option.some.injEq] at hl; subst hl; exact ⟨by simp [Instr.sliceBounds, run_abound hh hc], fun _ => rfl, Nat.le_refl _, fun _ => hb, by simp, fun _ => rfl⟩
            | some hv => have e := abound_eq hv hl; subst e; exact ⟨by simp [Instr.sliceBounds, run_abound hh hc, run_abound hl (Nat.le_refl _)], fun _ => rfl, Nat.le_refl _, fun _ => hb, fun _ => bl hl, by simp⟩
        | some hv3 =>
          have e3 := abound_eq hv3 hm
          subst e3
          have hb3 := bl hm
          cases h2 with
          | none => simp [ahi] at hh
          | some hv2 =>
            have e2 := abound_eq hv2 hh
            subst e2
            have hb := bl hh
            cases h1 with
            | none => simp only [alo, Option.some.injEq] at hl; subst hl; exact ⟨by simp [Instr.sliceBounds, run_abound hm hc, run_abound hh (Nat.le_refl _)], by simp, hb3, fun _ => hb, by simp, fun _ => rfl⟩
            | some hv => have e := abound_eq hv hl; subst e; exact ⟨by simp [Instr.sliceBounds, run_abound hm hc, run_abound hh (Nat.le_refl _), run_abound hl (Nat.le_refl _)], by simp, hb3, fun _ => hb, fun _ => bl hl, by simp⟩

theorem abound_le {x : Value} {y n : Nat} (hx : abound x y = some n) : n ≤ y := by
  unfold abound at hx
  split at hx
  · split at hx
    · cases hx; omega
    · cases hx
  · cases hx
theorem abounds_lo {len cap l h m : Nat} {lo hi : Option Value} (ha : abounds len cap lo hi none = some (l, h, m)) (hlc : len ≤ cap) : l ≤ cap := by
  unfold abounds at ha
  simp only [amx, Option.bind_some] at ha
  cases hh : ahi len cap hi none with
  | none => simp [hh] at ha
  | some h0 =>
    simp only [hh, Option.bind_some] at ha
    cases hl : alo h0 lo with
    | none => simp [hl] at ha
    | some l0 =>
      simp only [hl, Option.bind_some, Option.some.injEq, Prod.mk.injEq] at ha
      obtain ⟨rfl, rfl, rfl⟩ := ha
      have b1 : h0 ≤ cap := by
        cases hi with
        | none => simp [ahi] at hh; omega
        | some v => exact abound_le hh
      cases lo with
      | none => simp [alo] at hl; omega
      | some v => have := abound_le hl; omega

/-- Does a slice of the block bear elements of this size? -/
def okEsz (P : Program) (A : AW) (b size : Nat) : Bool :=
  match A.objs b with
  | some (.cells _ e0) => decide (b < A.ro) || decide (szOf P e0 = some size)
  | none => true
  | _ => false

def aslice (P : Program) (A : AW) (t : TypeId) (x : Value) (lo hi mx : Option Value) : Option (Value × AW) :=
  match P.underlying t, x with
  | some .string, .string s => match abounds s.size s.size lo hi none, mx with
    | some (l, h, _), none => some (.string (s.extract l h), A)
    | _, _ => none
  | some (.slice e), .slice base n c => match abounds n c lo hi mx, szOf P e, decide (n ≤ c) with
    | some (l, h, m), some size, true => match base with
      | none => some (.slice none (h - l) (m - l), A)
      | some ⟨b, o, none⟩ =>
        if m = l then some (.slice (some ⟨A.next, 0, none⟩) (h - l) (m - l), A.burn) else
        if okEsz P A b size then some (.slice (some ⟨b, o + l * size, none⟩) (h - l) (m - l), A) else none
      | _ => none
    | _, _, _ => none
  | some (.array n e), .pointer (some ⟨b, o, none⟩) => match abounds n n lo hi mx, szOf P e with
    | some (l, h, m), some size => some (.slice (some (if m = l then ⟨b, o, none⟩ else ⟨b, o + l * size, none⟩)) (h - l) (m - l), A)
    | _, _ => none
  | _, _ => none

theorem aslice_sound (h : Sim P w0 N β S A w) {t : TypeId} {v x x' : Value} {lo hi mx lo' hi' mx' : Option Value} (hx : VR β S x x') (h1 : OptVR β S lo lo') (h2 : OptVR β S hi hi') (h3 : OptVR β S mx mx') (ha : aslice P A t x lo hi mx = some (v, A1)) :
    ∃ v', (Instr.sliceAt t x' lo' hi' mx').run P w = .ok v' w ∧ Done P w0 N β S A w v A1 v' w := by
  unfold aslice at ha
  split at ha
  · rename_i s hu
    split at ha
    · rename_i l hh m hb
      cases ha
      cases hx
      cases h3
      obtain ⟨hr, _⟩ := abounds_run (P := P) h1 h2 .none hb (Nat.le_refl _) false w
      refine ⟨_, ?_, Done.same h (.string .nil)⟩
      simp [Instr.sliceAt, Instr.slice, run_underlying hu, hr]
    · cases ha
  · rename_i e base n c hu
    split at ha
    case h_2 => cases ha
    rename_i l hh m size hb hs hnc
    have hnc := of_decide_eq_true hnc
    split at ha
    · cases ha
      cases hx
      obtain ⟨hr, hm, _⟩ := abounds_run (P := P) h1 h2 h3 hb (Nat.le_refl _) true w
      refine ⟨_, ?_, Done.same h (.sl0 .nil)⟩
      have em : (if mx.isSome = true then m else c) = m := by
        cases mx with
        | none => simp [hm rfl]
        | some _ => simp
      rw [em] at hr
      simp [Instr.sliceAt, Instr.slice, run_underlying hu, hr, run_szOf hs]
    · rename_i b o
      have key : ∀ a' c', c ≤ c' → x' = .slice (some a') n c' →
          (Instr.sliceAt t x' lo' hi' mx').run P w = .ok (.slice (if (if mx.isSome = true then m else c') = l then some a' else some (a'.add (l * size))) (hh - l) ((if mx.isSome = true then m else c') - l)) w := by
        intro a' c' hc e
        obtain ⟨hr, _⟩ := abounds_run (P := P) h1 h2 h3 hb hc true w
        subst e
        simp [Instr.sliceAt, Instr.slice, run_underlying hu, hr, run_szOf hs]
      have hshape : ∃ a' c', c ≤ c' ∧ x' = .slice (some a') n c' := by
        cases hx with
        | sl _ _ d _ _ => exact ⟨_, _, d, rfl⟩
        | slD _ _ d _ => exact ⟨_, _, d, rfl⟩
      obtain ⟨_, hm, hmc, hhm, hlh, hl0⟩ := abounds_run (P := P) (cap' := c) h1 h2 h3 hb (Nat.le_refl _) true w
      split at ha
      · rename_i hml
        cases ha
        obtain ⟨a', c', hc, e⟩ := hshape
        obtain ⟨s1, s2, s3⟩ := h.burn
        have hk := key a' c' hc e
        have hle : m ≤ (if mx.isSome = true then m else c') := by
          cases mx with
          | none => simp [hm rfl]; exact hc
          | some _ => simp
        by_cases q : (if mx.isSome = true then m else c') = l
        · rw [if_pos q] at hk
          exact ⟨_, hk, ⟨⟨β, _, s1, s2, .refl _ _ _, .slD (.inr rfl) s3 (by omega) .nil, by simp [AW.burn], rfl, rfl⟩⟩⟩
        · rw [if_neg q] at hk
          exact ⟨_, hk, ⟨⟨β, _, s1, s2, .refl _ _ _, .slD (.inr rfl) s3 (by omega) .nil, by simp [AW.burn], rfl, rfl⟩⟩⟩
      · rename_i hml
        split at ha
        case isFalse => cases ha
        rename_i hok
        cases ha
        cases hx with
        | @sl _ _ L _ _ c' _ _ sa sb d f =>
          have hk := key _ c' d rfl
          have hle : m ≤ (if mx.isSome = true then m else c') := by
            cases mx with
            | none => simp [hm rfl]; exact d
            | some _ => simp
          have q : ¬ (if mx.isSome = true then m else c') = l := by
            cases mx with
            | none =>
              simp only [Option.isSome_none, Bool.false_eq_true, if_false] at hle ⊢
              intro e
              have := hm rfl
              have : l ≤ c := abounds_lo hb hnc
              omega
            | some _ => simpa using hml
          rw [if_neg q] at hk
          refine ⟨_, hk, Done.same h ?_⟩
          rw [Addr.add_mid, Nat.add_assoc]
          refine .sl sa sb (by omega) ?_ .nil
          cases mx with
          | some _ => left; simp
          | none =>
            have := hm rfl
            simp only [Option.isSome_none, Bool.false_eq_true, if_false]
            rcases f with f | f | f
            · left; omega
            · right; left; exact f
            · obtain ⟨ob, hob, hor⟩ := h.of_live sb
              by_cases hro : b < A.ro
              · right; left; exact h.roz b L hro sb
              · cases ob with
                | cells c0 e0 =>
                  obtain ⟨_, _, _, _, _, _, _, hwr⟩ := hor
                  have hz := (hwr (by simp; omega)).2
                  simp only [okEsz, hob, hro, decide_false, Bool.false_or, decide_eq_true_eq] at hok
                  rw [hz] at hok
                  have hes : L.esz = size := Option.some.inj hok
                  right; right
                  rw [hes] at f ⊢
                  have hlc : l ≤ c' := Nat.le_trans (abounds_lo hb hnc) d
                  have : l * size + (c' - l) * size = c' * size := by rw [← Nat.add_mul]; congr 1; omega
                  omega
                | map es k => simp [okEsz, hob] at hok
                | iter s p => simp [okEsz, hob] at hok
                | loop => simp [okEsz, hob] at hok
                | dfr => simp [okEsz, hob] at hok
                | over => simp [okEsz, hob] at hok
        | @slD _ _ _ a1 _ _ c1 _ _ sa sb d =>
          have hk := key _ _ d rfl
          have hle : m ≤ (if mx.isSome = true then m else c1) := by
            cases mx with
            | none => simp [hm rfl]; exact d
            | some _ => simp
          by_cases q : (if mx.isSome = true then m else c1) = l
          · rw [if_pos q] at hk; exact ⟨_, hk, Done.same h (.slD sa sb (by omega) .nil)⟩
          · rw [if_neg q] at hk; exact ⟨_, hk, Done.same h (.slD sa sb (by omega) .nil)⟩
    · cases ha
  · rename_i n e b o hu
    split at ha
    case h_2 => cases ha
    rename_i l hh m size hb hs
    cases ha
    obtain ⟨hr, hm, _⟩ := abounds_run (P := P) h1 h2 h3 hb (Nat.le_refl _) false w
    have em : (if mx.isSome = true then m else n) = m := by
      cases mx with
      | none => simp [hm rfl]
      | some _ => simp
    rw [em] at hr
    obtain ⟨a, rfl, hv⟩ := VR.add (n := l * size) hx
    refine ⟨.slice (some (if m = l then a else a.add (l * size))) (hh - l) (m - l), by simp [Instr.sliceAt, run_underlying hu, Instr.sureAddr, hr, run_szOf hs], Done.same h ?_⟩
    by_cases q : m = l
    · simp only [if_pos q]
      cases hx with
      | ptr sa sb _ => exact .sl sa sb (Nat.le_refl _) (.inl rfl) .nil
      | ptrD sa sb _ => exact .slD sa sb (Nat.le_refl _) .nil
    · simp only [if_neg q]
      cases hx with
      | ptr sa sb _ => rw [Addr.add_mid, Nat.add_assoc]; exact .sl sa sb (Nat.le_refl _) (.inl rfl) .nil
      | ptrD sa sb _ => exact .slD sa sb (Nat.le_refl _) .nil
  · cases ha

end Go.M
