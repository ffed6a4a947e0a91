/- An interpreter over abstract memory, and what it says of the machine: part 1: values, relation, abstract memory. -/
import Derived.WalkKit
set_option linter.unusedVariables false
set_option linter.unusedSimpArgs false
namespace Go.M

/-- Where an abstract object lies: block, offset, the size of an element, how many cells the block has. -/
structure Loc where
  blk : Nat
  off : Nat
  esz : Nat
  tot : Nat

abbrev Bet := Nat → Option Loc

/-! ### 1. Values -/

/-- Lists of values that are alike but for addresses. -/
inductive VRs (β : Bet) (S : Nat → Prop) : List Value → List Value → Prop
  | nil : VRs β S [] []
  | bool {b vs vs'} : VRs β S vs vs' → VRs β S (.bool b :: vs) (.bool b :: vs')
  | int {k n vs vs'} : VRs β S vs vs' → VRs β S (.int k n :: vs) (.int k n :: vs')
  | float {k n vs vs'} : VRs β S vs vs' → VRs β S (.float k n :: vs) (.float k n :: vs')
  | complex {k n m vs vs'} : VRs β S vs vs' → VRs β S (.complex k n m :: vs) (.complex k n m :: vs')
  | string {s vs vs'} : VRs β S vs vs' → VRs β S (.string s :: vs) (.string s :: vs')
  | ptr0 {vs vs'} : VRs β S vs vs' → VRs β S (.pointer none :: vs) (.pointer none :: vs')
  | ptr {b o L vs vs'} : S b → β b = some L → VRs β S vs vs' → VRs β S (.pointer (some ⟨b, o, none⟩) :: vs) (.pointer (some ⟨L.blk, L.off + o, none⟩) :: vs')
  | ptrD {b o s a vs vs'} : S b → β b = none → VRs β S vs vs' → VRs β S (.pointer (some ⟨b, o, s⟩) :: vs) (.pointer (some a) :: vs')
  | sl0 {n c vs vs'} : VRs β S vs vs' → VRs β S (.slice none n c :: vs) (.slice none n c :: vs')
  | sl {b o L n c c' vs vs'} : S b → β b = some L → c ≤ c' → (c' = c ∨ L.esz = 0 ∨ L.off + o + c' * L.esz ≤ L.tot) → VRs β S vs vs' → VRs β S (.slice (some ⟨b, o, none⟩) n c :: vs) (.slice (some ⟨L.blk, L.off + o, none⟩) n c' :: vs')
  | slD {b o s a n c c' vs vs'} : S b → β b = none → c ≤ c' → VRs β S vs vs' → VRs β S (.slice (some ⟨b, o, s⟩) n c :: vs) (.slice (some a) n c' :: vs')
  | map0 {vs vs'} : VRs β S vs vs' → VRs β S (.map none :: vs) (.map none :: vs')
  | map {b L vs vs'} : S b → β b = some L → VRs β S vs vs' → VRs β S (.map (some b) :: vs) (.map (some L.blk) :: vs')
  | mapD {b r vs vs'} : S b → β b = none → VRs β S vs vs' → VRs β S (.map (some b) :: vs) (.map (some r) :: vs')
  | chan0 {vs vs'} : VRs β S vs vs' → VRs β S (.chan none :: vs) (.chan none :: vs')
  | func {fn f f' c c' vs vs'} : (∀ l, fn ≠ .yield l) → VRs β S f.toList f'.toList → VRs β S c.toList c'.toList → VRs β S vs vs' → VRs β S (.func fn f c :: vs) (.func fn f' c' :: vs')
  | yield {b L vs vs'} : S b → β b = some L → VRs β S vs vs' → VRs β S (.func (.yield b) #[] #[] :: vs) (.func (.yield L.blk) #[] #[] :: vs')
  | yieldD {b l vs vs'} : S b → β b = none → VRs β S vs vs' → VRs β S (.func (.yield b) #[] #[] :: vs) (.func (.yield l) #[] #[] :: vs')
  | nilFunc {vs vs'} : VRs β S vs vs' → VRs β S (.nilFunc :: vs) (.nilFunc :: vs')
  | nilIface {vs vs'} : VRs β S vs vs' → VRs β S (.nilIface :: vs) (.nilIface :: vs')
  | iface {t v v' vs vs'} : VRs β S [v] [v'] → VRs β S vs vs' → VRs β S (.iface t v :: vs) (.iface t v' :: vs')
  | agg {c c' vs vs'} : VRs β S c.toList c'.toList → VRs β S vs vs' → VRs β S (.agg c :: vs) (.agg c' :: vs')
  | tuple {c c' vs vs'} : VRs β S c.toList c'.toList → VRs β S vs vs' → VRs β S (.tuple c :: vs) (.tuple c' :: vs')

abbrev VR (β : Bet) (S : Nat → Prop) (v v' : Value) : Prop := VRs β S [v] [v']

variable {β β' : Bet} {S S' : Nat → Prop}

theorem VRs.cons_inv {v v' : Value} {vs vs' : List Value} (h : VRs β S (v :: vs) (v' :: vs')) : VR β S v v' ∧ VRs β S vs vs' := by
  cases h <;> refine ⟨?_, ‹_›⟩ <;> first
    | exact .bool .nil | exact .int .nil | exact .float .nil | exact .complex .nil | exact .string .nil | exact .ptr0 .nil | exact .sl0 .nil | exact .map0 .nil | exact .chan0 .nil | exact .nilFunc .nil | exact .nilIface .nil
    | exact .ptr ‹_› ‹_› .nil | exact .ptrD ‹_› ‹_› .nil | exact .sl ‹_› ‹_› ‹_› ‹_› .nil | exact .slD ‹_› ‹_› ‹_› .nil | exact .map ‹_› ‹_› .nil | exact .mapD ‹_› ‹_› .nil
    | exact .func ‹_› (by assumption) (by assumption) .nil | exact .yield ‹_› ‹_› .nil | exact .yieldD ‹_› ‹_› .nil | exact .iface (by assumption) .nil | exact .agg (by assumption) .nil | exact .tuple (by assumption) .nil

theorem VRs.cons {v v' : Value} {vs vs' : List Value} (h : VR β S v v') (k : VRs β S vs vs') : VRs β S (v :: vs) (v' :: vs') := by
  cases h <;> first
    | exact .bool k | exact .int k | exact .float k | exact .complex k | exact .string k | exact .ptr0 k | exact .sl0 k | exact .map0 k | exact .chan0 k | exact .nilFunc k | exact .nilIface k
    | exact .ptr ‹_› ‹_› k | exact .ptrD ‹_› ‹_› k | exact .sl ‹_› ‹_› ‹_› ‹_› k | exact .slD ‹_› ‹_› ‹_› k | exact .map ‹_› ‹_› k | exact .mapD ‹_› ‹_› k
    | exact .func ‹_› (by assumption) (by assumption) k | exact .yield ‹_› ‹_› k | exact .yieldD ‹_› ‹_› k | exact .iface (by assumption) k | exact .agg (by assumption) k | exact .tuple (by assumption) k

theorem VRs.length {vs vs' : List Value} (h : VRs β S vs vs') : vs.length = vs'.length := by
  induction h <;> simp_all

theorem VRs.append {vs vs' us us' : List Value} (h : VRs β S vs vs') (k : VRs β S us us') : VRs β S (vs ++ us) (vs' ++ us') := by
  induction vs generalizing vs' with
  | nil => cases vs' with
    | nil => exact k
    | cons => have := h.length; simp at this
  | cons v vs ih => cases vs' with
    | nil => have := h.length; simp at this
    | cons v' vs' => exact VRs.cons h.cons_inv.1 (ih h.cons_inv.2)

theorem VRs.take {vs vs' : List Value} (h : VRs β S vs vs') (n : Nat) : VRs β S (vs.take n) (vs'.take n) := by
  induction n generalizing vs vs' with
  | zero => exact .nil
  | succ n ih => cases vs with
    | nil => cases vs' with
      | nil => exact .nil
      | cons => have := h.length; simp at this
    | cons v vs => cases vs' with
      | nil => have := h.length; simp at this
      | cons v' vs' => exact VRs.cons h.cons_inv.1 (ih h.cons_inv.2)

theorem VRs.drop {vs vs' : List Value} (h : VRs β S vs vs') (n : Nat) : VRs β S (vs.drop n) (vs'.drop n) := by
  induction n generalizing vs vs' with
  | zero => exact h
  | succ n ih => cases vs with
    | nil => cases vs' with
      | nil => exact .nil
      | cons => have := h.length; simp at this
    | cons v vs => cases vs' with
      | nil => have := h.length; simp at this
      | cons v' vs' => exact ih h.cons_inv.2

theorem VRs.get {vs vs' : List Value} (h : VRs β S vs vs') {i : Nat} {v : Value} (hv : vs[i]? = some v) : ∃ v', vs'[i]? = some v' ∧ VR β S v v' := by
  induction vs generalizing vs' i with
  | nil => simp at hv
  | cons u us ih => cases vs' with
    | nil => have := h.length; simp at this
    | cons u' us' => cases i with
      | zero => simp at hv; subst hv; exact ⟨u', by simp, h.cons_inv.1⟩
      | succ i => simpa using ih h.cons_inv.2 (by simpa using hv)

theorem VRs.getD {vs vs' : List Value} (h : VRs β S vs vs') {d d' : Value} (hd : VR β S d d') (i : Nat) : VR β S (vs.getD i d) (vs'.getD i d') := by
  rw [List.getD_eq_getElem?_getD, List.getD_eq_getElem?_getD]
  cases hv : vs[i]? with
  | some v => obtain ⟨v', e, r⟩ := h.get hv; simp [e]; exact r
  | none =>
    have : vs'[i]? = none := by rw [List.getElem?_eq_none_iff] at hv ⊢; rw [← h.length]; exact hv
    simp [this]; exact hd

theorem VRs.of_get {vs vs' : List Value} (hl : vs.length = vs'.length) (h : ∀ (i : Nat) (v v' : Value), vs[i]? = some v → vs'[i]? = some v' → VR β S v v') : VRs β S vs vs' := by
  induction vs generalizing vs' with
  | nil => cases vs' with
    | nil => exact .nil
    | cons => simp at hl
  | cons u us ih => cases vs' with
    | nil => simp at hl
    | cons u' us' => exact VRs.cons (h 0 u u' rfl rfl) (ih (by simpa using hl) fun i v v' a b => h (i + 1) v v' (by simpa using a) (by simpa using b))

theorem VRs.set {vs vs' : List Value} (h : VRs β S vs vs') {v v' : Value} (hv : VR β S v v') (i : Nat) : VRs β S (vs.set i v) (vs'.set i v') := by
  induction vs generalizing vs' i with
  | nil => cases vs' with
    | nil => exact .nil
    | cons => have := h.length; simp at this
  | cons u us ih => cases vs' with
    | nil => have := h.length; simp at this
    | cons u' us' => cases i with
      | zero => exact VRs.cons hv h.cons_inv.2
      | succ i => exact VRs.cons h.cons_inv.1 (ih h.cons_inv.2 i)

/-- Fewer places, more names: what was alike is alike. -/
theorem VRs.mono {vs vs' : List Value} (h : VRs β S vs vs') (hβ : ∀ i, S i → β' i = β i ∨ β' i = none) (hS : ∀ i, S i → S' i) : VRs β' S' vs vs' := by
  induction h with
  | nil => exact .nil
  | bool _ ih => exact .bool ih
  | int _ ih => exact .int ih
  | float _ ih => exact .float ih
  | complex _ ih => exact .complex ih
  | string _ ih => exact .string ih
  | ptr0 _ ih => exact .ptr0 ih
  | ptr hs hb _ ih => rcases hβ _ hs with e | e
                      · exact .ptr (hS _ hs) (e.trans hb) ih
                      · exact .ptrD (hS _ hs) e ih
  | ptrD hs hb _ ih => exact .ptrD (hS _ hs) (by rcases hβ _ hs with e | e; exact e.trans hb; exact e) ih
  | sl0 _ ih => exact .sl0 ih
  | sl hs hb hc ho _ ih => rcases hβ _ hs with e | e
                           · exact .sl (hS _ hs) (e.trans hb) hc ho ih
                           · exact .slD (hS _ hs) e hc ih
  | slD hs hb hc _ ih => exact .slD (hS _ hs) (by rcases hβ _ hs with e | e; exact e.trans hb; exact e) hc ih
  | map0 _ ih => exact .map0 ih
  | map hs hb _ ih => rcases hβ _ hs with e | e
                      · exact .map (hS _ hs) (e.trans hb) ih
                      · exact .mapD (hS _ hs) e ih
  | mapD hs hb _ ih => exact .mapD (hS _ hs) (by rcases hβ _ hs with e | e; exact e.trans hb; exact e) ih
  | chan0 _ ih => exact .chan0 ih
  | func hy _ _ _ i1 i2 i3 => exact .func hy i1 i2 i3
  | yield hs hb _ ih => rcases hβ _ hs with e | e
                        · exact .yield (hS _ hs) (e.trans hb) ih
                        · exact .yieldD (hS _ hs) e ih
  | yieldD hs hb _ ih => exact .yieldD (hS _ hs) (by rcases hβ _ hs with e | e; exact e.trans hb; exact e) ih
  | nilFunc _ ih => exact .nilFunc ih
  | nilIface _ ih => exact .nilIface ih
  | iface _ _ i1 i2 => exact .iface i1 i2
  | agg _ _ i1 i2 => exact .agg i1 i2
  | tuple _ _ i1 i2 => exact .tuple i1 i2

/-- Does a list of values bear no address? (fuel: how deep) -/
def noAddrs : Nat → List Value → Bool
  | 0, _ => false
  | _ + 1, [] => true
  | n + 1, v :: vs => (match v with
    | .bool _ | .int _ _ | .float _ _ | .complex _ _ _ | .string _ | .pointer none | .slice none _ _ | .map none | .chan none | .nilFunc | .nilIface => true
    | .func (.func _) f c => f.isEmpty && c.isEmpty
    | .agg c | .tuple c => noAddrs n c.toList
    | _ => false) && noAddrs n vs

theorem VRs.eq_of_noAddrs {vs vs' : List Value} (h : VRs β S vs vs') : ∀ n, noAddrs n vs = true → vs' = vs := by
  induction h with
  | nil => intro n _; rfl
  | bool _ ih | int _ ih | float _ ih | complex _ ih | string _ ih | ptr0 _ ih | sl0 _ ih | map0 _ ih | chan0 _ ih | nilFunc _ ih | nilIface _ ih =>
    intro n hn
    cases n with
    | zero => simp [noAddrs] at hn
    | succ n => simp only [noAddrs, Bool.true_and] at hn; rw [ih n hn]
  | ptr | ptrD | sl | slD | map | mapD | yield | yieldD | iface =>
    intro n hn
    cases n with
    | zero => simp [noAddrs] at hn
    | succ n => simp [noAddrs] at hn
  | @func fn f f' c c' vs vs' hy h1 h2 _ i1 i2 i3 =>
    intro n hn
    cases n with
    | zero => simp [noAddrs] at hn
    | succ n =>
      cases fn with
      | func g =>
        simp only [noAddrs, Bool.and_eq_true, Array.isEmpty_iff] at hn
        obtain ⟨⟨rfl, rfl⟩, h3⟩ := hn
        have e1 := h1.length
        have e2 := h2.length
        simp at e1 e2
        have e1 : f' = #[] := Array.eq_empty_of_size_eq_zero e1.symm
        have e2 : c' = #[] := Array.eq_empty_of_size_eq_zero e2.symm
        rw [e1, e2, i3 n h3]
      | _ => simp [noAddrs] at hn
  | agg _ _ i1 i2 | tuple _ _ i1 i2 =>
    intro n hn
    cases n with
    | zero => simp [noAddrs] at hn
    | succ n =>
      simp only [noAddrs, Bool.and_eq_true] at hn
      rw [i2 n hn.2, Array.toList_inj.1 (i1 n hn.1)]

/-- What bears no address is like itself. -/
theorem VRs.refl_of_noAddrs : ∀ n (vs : List Value), noAddrs n vs = true → VRs β S vs vs
  | 0, _, h => by simp [noAddrs] at h
  | _ + 1, [], _ => .nil
  | n + 1, v :: vs, h => by
    simp only [noAddrs, Bool.and_eq_true] at h
    have k := VRs.refl_of_noAddrs n vs h.2
    have h1 := h.1
    split at h1 <;> first
      | exact .bool k | exact .int k | exact .float k | exact .complex k | exact .string k | exact .ptr0 k | exact .sl0 k | exact .map0 k | exact .chan0 k | exact .nilFunc k | exact .nilIface k
      | exact .agg (VRs.refl_of_noAddrs n _ h1) k | exact .tuple (VRs.refl_of_noAddrs n _ h1) k
      | (simp at h1; done)
      | (simp only [Bool.and_eq_true, Array.isEmpty_iff] at h1; obtain ⟨rfl, rfl⟩ := h1; exact .func (by simp) .nil .nil k)

end Go.M
