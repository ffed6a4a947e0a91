/- Part 3: single operations. -/
import Derived.Test.YtfhodefiknfccaaM2
set_option linter.unusedVariables false
set_option linter.unusedSimpArgs false
namespace Go.M
open Go.RowKit
variable {P : Program} {w0 w w' w1 : World} {N : Nat} {β β' β1 : Bet} {S S' S1 : Nat → Prop} {A A' A1 : AW}

/-- What a reckoning that only asks the program comes to. -/
def pureVal {α : Type} (P : Program) : Sem α → Option α
  | .pure a => some a
  | .program k => pureVal P (k P)
  | _ => none

theorem pureVal_run {α : Type} {s : Sem α} {a : α} (h : pureVal P s = some a) (w : World) : s.run P w = .ok a w := by
  induction s <;> simp_all [pureVal, Sem.run]

/-- What an operation that has been carried out leaves. -/
structure Done (P : Program) (w0 : World) (N : Nat) (β : Bet) (S : Nat → Prop) (A : AW) (w : World) (v : Value) (A1 : AW) (v' : Value) (w1 : World) : Prop where
  out : ∃ β1 S1, Sim P w0 N β1 S1 A1 w1 ∧ Ext A.next β S β1 S1 ∧ Keeps A β w w1 ∧ VR β1 S1 v v' ∧ A.next ≤ A1.next ∧ A1.ro = A.ro ∧ A1.gl = A.gl

theorem Done.same (h : Sim P w0 N β S A w) {v v' : Value} (hv : VR β S v v') : Done P w0 N β S A w v A v' w :=
  ⟨⟨β, S, h, .refl _, .refl _ _ _, hv, Nat.le_refl _, rfl, rfl⟩⟩

/-! ### New cells -/
theorem Done.cells (h : Sim P w0 N β S A w) {c : List Value} {c' : Array Value} (hc : VRs β S c c'.toList) (e : TypeId) (n : Nat) (he : szOf P e = some n) :
    ∃ β1 S1, Sim P w0 N β1 S1 (A.push (.cells c e)) (w.alloc (.cells c' e)) ∧ Ext A.next β S β1 S1 ∧ Keeps A β w (w.alloc (.cells c' e)) ∧ S1 A.next ∧ β1 A.next = some ⟨w.heap.size, 0, n, c'.size⟩ := by
  have hl := hc.length
  have := h.push (.cells c e) (.cells c' e) ⟨w.heap.size, 0, n, c'.size⟩ rfl ⟨c', e, (0, 0), by show (w.heap.push _)[w.heap.size]? = _; simp, rfl, by simp at hl ⊢; omega, by
    have e1 : (List.drop 0 c'.toList).take c.length = c'.toList := by rw [List.drop_zero, hl, List.take_length]
    show VRs _ _ c ((List.drop 0 c'.toList).take c.length)
    rw [e1]
    exact hc.mono (fun i hi => .inl (by have := h.sub i hi; rw [if_neg (by omega)])) (fun i hi => .inl hi), fun _ => ⟨rfl, he⟩⟩
  exact ⟨_, _, this.1, this.2.1, this.2.2, .inr rfl, by simp⟩

theorem Done.newPtr (h : Sim P w0 N β S A w) {c : List Value} {c' : Array Value} (hc : VRs β S c c'.toList) (e : TypeId) (n : Nat) (he : szOf P e = some n) :
    Done P w0 N β S A w (.pointer (some ⟨A.next, 0, none⟩)) (A.push (.cells c e)) (.pointer (some ⟨w.heap.size, 0, none⟩)) (w.alloc (.cells c' e)) := by
  obtain ⟨β1, S1, h1, h2, h3, h4, h5⟩ := Done.cells h hc e n he
  exact ⟨⟨β1, S1, h1, h2, h3, .ptr h4 h5 .nil, by simp [AW.push], rfl, rfl⟩⟩

theorem Done.newSlice (h : Sim P w0 N β S A w) {c : List Value} {c' : Array Value} (hc : VRs β S c c'.toList) (e : TypeId) (n : Nat) (he : szOf P e = some n) (m : Nat) :
    Done P w0 N β S A w (.slice (some ⟨A.next, 0, none⟩) m m) (A.push (.cells c e)) (.slice (some ⟨w.heap.size, 0, none⟩) m m) (w.alloc (.cells c' e)) := by
  obtain ⟨β1, S1, h1, h2, h3, h4, h5⟩ := Done.cells h hc e n he
  exact ⟨⟨β1, S1, h1, h2, h3, .sl (L := ⟨w.heap.size, 0, n, c'.size⟩) h4 h5 (Nat.le_refl _) (.inl rfl) .nil, by simp [AW.push], rfl, rfl⟩⟩

/-! ### Reading -/
theorem Sim.rd (h : Sim P w0 N β S A w) {b o n : Nat} {cs : List Value} (hr : A.rd b o n = some cs) :
    ∃ L cs', β b = some L ∧ cs'.length = n ∧ VRs β S cs cs' ∧ ∀ (j : Nat) v, cs'[j]? = some v → w.cell? ⟨L.blk, L.off + o + j, none⟩ = some v := by
  unfold AW.rd at hr
  split at hr
  · rename_i c e ho
    split at hr
    · rename_i hn
      cases hr
      obtain ⟨L, hb, c', e', fz, h1, h2, h3, h4, _⟩ := h.live b _ ho
      have hl := h4.length
      simp at hl
      refine ⟨L, (((c'.toList.drop L.off).take c.length).drop o).take n, hb, by simp; omega, (h4.drop o).take n, ?_⟩
      intro j v hv
      simp only [List.getElem?_take, List.getElem?_drop] at hv
      split at hv
      · split at hv
        · simp only [World.cell?, h1]
          simp
          rw [← Array.getElem?_toList, ← hv]
          congr 1; omega
        · cases hv
      · cases hv
    · cases hr
  · cases hr

/-! ### Writing -/
theorem Sim.put (h : Sim P w0 N β S A w) {b o : Nat} {vs vs' : List Value} (hp : A.put b o vs = some A1) (hv : VRs β S vs vs') :
    ∃ L cur t, β b = some L ∧ w.heap[L.blk]? = some (.cells cur t (0, 0)) ∧ L.off + o + vs'.length ≤ cur.size ∧
      Sim P w0 N β S A1 (w.setRow L.blk (cur.toList.take (L.off + o) ++ vs' ++ cur.toList.drop (L.off + o + vs'.length)).toArray) ∧
      Keeps A β w (w.setRow L.blk (cur.toList.take (L.off + o) ++ vs' ++ cur.toList.drop (L.off + o + vs'.length)).toArray) ∧ A1.next = A.next ∧ A1.ro = A.ro ∧ A1.gl = A.gl := by
  unfold AW.put at hp
  split at hp
  · rename_i c e ho
    split at hp
    · rename_i hc
      cases hp
      obtain ⟨L, hb, cur, t, fz, h1, h2, h3, h4, h5⟩ := h.live b _ ho
      obtain ⟨rfl, hz⟩ := h5 (by simp [hc.1])
      have hl := hv.length
      have hl4 := h4.length
      simp at hl4
      have hsz : (cur.toList.take (L.off + o) ++ vs' ++ cur.toList.drop (L.off + o + vs'.length)).length = cur.size := by simp; omega
      have hset : (w.setRow L.blk (cur.toList.take (L.off + o) ++ vs' ++ cur.toList.drop (L.off + o + vs'.length)).toArray).heap[L.blk]? = some (.cells (cur.toList.take (L.off + o) ++ vs' ++ cur.toList.drop (L.off + o + vs'.length)).toArray t (0, 0)) := setRow_heap w L.blk cur _ t _ h1
      have hw := h.write (w' := w.setRow L.blk (cur.toList.take (L.off + o) ++ vs' ++ cur.toList.drop (L.off + o + vs'.length)).toArray) hb hc.1 (.cells (splice c o vs) e) ⟨_, t, (0, 0), hset, by simp at hsz ⊢; omega, by rw [splice_length hc.2]; omega, by
          rw [splice_length hc.2, List.toList_toArray, inner_splice cur.toList L.off c.length o vs' (by simp; omega) (by omega)]
          exact h4.splice hv o, fun _ => ⟨rfl, hz⟩⟩ rfl rfl rfl (by simp [World.setRow]) (fun k hk => by
          simp only [World.setRow]
          rw [Array.getElem?_modify]
          simp [Ne.symm hk])
      exact ⟨L, cur, t, hb, h1, by omega, hw.1, hw.2, rfl, rfl, rfl⟩
    · cases hp
  · cases hp

end Go.M
