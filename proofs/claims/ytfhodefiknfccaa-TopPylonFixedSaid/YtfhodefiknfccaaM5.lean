/- Part 5: append. -/
import Derived.Test.YtfhodefiknfccaaM4
set_option linter.unusedVariables false
set_option linter.unusedSimpArgs false
namespace Go.M
open Go.RowKit
variable {P : Program} {w0 w w' w1 : World} {N : Nat} {β β' β1 : Bet} {S S' S1 : Nat → Prop} {A A' A1 : AW}

theorem Sim.kill (h : Sim P w0 N β S A w) {b : Nat} (hro : A.ro ≤ b) : Sim P w0 N (fun j => if j = b then none else β j) S (A.upd b none) w := by
  have hat : ∀ i, S i → (if i = b then none else β i) = β i ∨ (if i = b then (none : Option Loc) else β i) = none := fun i _ => by
    by_cases e : i = b
    · right; simp [e]
    · left; simp [e]
  refine ⟨h.below, h.Nle, ?_, ?_, ?_, ?_, ?_, h.sub, h.role, ?_, h.gle, fun i L hi hb => h.roz i L hi (by
    have hne : i ≠ b := by simp only [AW.upd] at hi; omega
    simpa [hne] using hb)⟩
  · intro i o hi
    simp only [AW.upd] at hi
    by_cases e : i = b
    · subst e; simp at hi
    · rw [if_neg e] at hi
      obtain ⟨L, e1, r⟩ := h.live i o hi
      exact ⟨L, by simp [e, e1], r.mono hat (fun _ h => h) rfl⟩
  · intro i hi
    simp only [AW.upd] at hi
    by_cases e : i = b
    · simp [e]
    · rw [if_neg e] at hi; simp [e, h.dead i hi]
  · intro i o hi
    simp only [AW.upd] at hi ⊢
    by_cases e : i = b
    · subst e; simp at hi
    · rw [if_neg e] at hi; exact h.lt i o hi
  · intro i j L L' hr hij h1 h2
    by_cases ei : i = b
    · simp [ei] at h1
    · by_cases ej : j = b
      · simp [ej] at h2
      · rw [if_neg ei] at h1; rw [if_neg ej] at h2; exact h.inj i j L L' hr hij h1 h2
  · intro i L hr h1
    by_cases ei : i = b
    · simp [ei] at h1
    · rw [if_neg ei] at h1; exact h.hi i L hr h1
  · intro g hg
    obtain ⟨hs, L, e1, e2⟩ := h.glob g hg
    have := h.gle
    exact ⟨hs, L, by rw [if_neg (by simp only [AW.upd] at hg; omega)]; exact e1, e2⟩

/-- A new object in a block that nobody has. -/
theorem Sim.claim (h : Sim P w0 N β S A w) (o : AObj) (L : Loc) (hfree : ∀ j L', β j = some L' → L'.blk ≠ L.blk) (hN : N ≤ L.blk) (hbel : Below N w0 w')
    (hold : ∀ k, k < w.heap.size → k ≠ L.blk → w'.heap[k]? = w.heap[k]?)
    (hr : ORel P (fun j => if j = A.next then some L else β j) (fun i => S i ∨ i = A.next) w' true L o) :
    Sim P w0 N (fun j => if j = A.next then some L else β j) (fun i => S i ∨ i = A.next) (A.push o) w' ∧
    Ext A.next β S (fun j => if j = A.next then some L else β j) (fun i => S i ∨ i = A.next) := by
  have hn : A.objs A.next = none := by
    cases e : A.objs A.next with
    | none => rfl
    | some o => have := h.lt _ _ e; omega
  refine ⟨⟨hbel, h.Nle, ?_, ?_, ?_, ?_, ?_, ?_, ?_, fun g hg => by
    obtain ⟨hs, L', e1, e2⟩ := h.glob g hg
    have := h.sub g hs
    exact ⟨.inl hs, L', by rw [if_neg (by omega)]; exact e1, e2⟩, h.gle, fun i L1 hi hb => h.roz i L1 hi (by
    have := h.role
    have hne : i ≠ A.next := by simp only [AW.push] at hi; omega
    simpa [hne] using hb)⟩, ?_⟩
  · intro i oi hi
    simp only [AW.push] at hi
    by_cases e : i = A.next
    · subst e
      simp only [if_true] at hi
      cases hi
      exact ⟨L, by simp, by
        have : decide ((A.push o).ro ≤ A.next) = true := by simp [AW.push, h.role]
        rw [this]; exact hr⟩
    · rw [if_neg e] at hi
      obtain ⟨L', e1, r⟩ := h.live i oi hi
      exact ⟨L', by simp [e, e1], r.mono (fun j hj => .inl (by have := h.sub j hj; rw [if_neg (by omega)])) (fun j hj => .inl hj) (hold _ r.lt (hfree i L' e1))⟩
  · intro i hi
    simp only [AW.push] at hi
    by_cases e : i = A.next
    · subst e; simp at hi
    · rw [if_neg e] at hi; simp [e, h.dead i hi]
  · intro i oi hi
    simp only [AW.push] at hi ⊢
    by_cases e : i = A.next
    · omega
    · rw [if_neg e] at hi; have := h.lt i oi hi; omega
  · intro i j L1 L2 hro hij h1 h2
    by_cases ei : i = A.next
    · subst ei
      simp only [if_true] at h1
      cases h1
      rw [if_neg (Ne.symm hij)] at h2
      exact (hfree j L2 h2).symm
    · rw [if_neg ei] at h1
      by_cases ej : j = A.next
      · subst ej
        simp only [if_true] at h2
        cases h2
        exact hfree i L1 h1
      · rw [if_neg ej] at h2
        exact h.inj i j L1 L2 hro hij h1 h2
  · intro i L1 hro h1
    by_cases ei : i = A.next
    · subst ei
      simp only [if_true] at h1
      cases h1
      exact hN
    · rw [if_neg ei] at h1
      exact h.hi i L1 hro h1
  · intro i hi
    rcases hi with hi | hi
    · have := h.sub i hi; simp [AW.push]; omega
    · simp [AW.push]; omega
  · have := h.role; simp [AW.push]; omega
  · exact ⟨fun i hi => .inl (by have := h.sub i hi; rw [if_neg (by omega)]), fun i hi => .inl hi, fun i hi => by rcases hi with hi | hi; exact .inl hi; exact .inr (by omega)⟩

/-- The cells that a slice gives. -/
def asrc (A : AW) (size : Nat) : Value → Option (Nat × List Value)
  | .slice none m _ => if m = 0 then some (0, []) else none
  | .slice (some ⟨b, o, none⟩) m _ => if m = 0 then some (0, []) else (A.rd b o (m * size)).map fun l => (m, l)
  | .slice (some _) m _ => if m = 0 then some (0, []) else none
  | _ => none

theorem asrc_sound (h : Sim P w0 N β S A w) {size m : Nat} {x x' : Value} {ys : List Value} (hx : VR β S x x') (ha : asrc A size x = some (m, ys)) :
    ∃ ys', VRs β S ys ys' ∧ ys'.length = m * size ∧ (∃ p c, x' = .slice p m c ∧ (∀ a, p = some a → ∀ (j : Nat) u, ys'[j]? = some u → w.cell? (a.add j) = some u) ∧ (p = none → m = 0)) := by
  unfold asrc at ha
  split at ha
  · rename_i n c
    split at ha
    · rename_i hn
      cases ha
      subst hn
      cases hx
      exact ⟨[], .nil, by simp, none, c, rfl, by simp, fun _ => rfl⟩
    · cases ha
  · rename_i b o n c
    split at ha
    · rename_i hn
      cases ha
      subst hn
      cases hx with
      | sl _ _ _ _ _ => exact ⟨[], .nil, by simp, _, _, rfl, by simp, fun _ => rfl⟩
      | slD _ _ _ _ => exact ⟨[], .nil, by simp, _, _, rfl, by simp, fun _ => rfl⟩
    · cases hr : A.rd b o (n * size) with
      | none => simp [hr] at ha
      | some l =>
        simp only [hr, Option.map_some, Option.some.injEq, Prod.mk.injEq] at ha
        obtain ⟨rfl, rfl⟩ := ha
        obtain ⟨L, cs', hb, hl, hv, hc⟩ := h.rd hr
        cases hx with
        | sl _ hb2 _ _ _ =>
          rw [hb] at hb2; cases hb2
          exact ⟨cs', hv, hl, _, _, rfl, fun a e j u hu => by cases e; rw [Addr.add_mid]; exact hc j u hu, by simp⟩
        | slD _ hb2 _ _ => rw [hb] at hb2; cases hb2
  · rename_i a n c hne
    split at ha
    · rename_i hn
      cases ha
      subst hn
      cases hx with
      | sl _ _ _ _ _ => exact ⟨[], .nil, by simp, _, _, rfl, by simp, fun _ => rfl⟩
      | slD _ _ _ _ => exact ⟨[], .nil, by simp, _, _, rfl, by simp, fun _ => rfl⟩
    · cases ha
  · cases ha

def aappend (P : Program) (A : AW) (t : TypeId) (s x : Value) : Option (Value × AW) :=
  match P.underlying t with
  | some (.slice e) => match P.info? e with
    | some i => match i.zero with
      | some z => match s with
        | .slice base n c => match asrc A i.size x with
          | some (m, ys) =>
            if z.cells.size = i.size ∧ 0 < i.size ∧ ys.all (·.oneCell') = true then
              if n + m ≤ c then
                if m = 0 then some (.slice base n c, A) else
                match base with
                | some ⟨b, o, none⟩ => (A.put b (o + n * i.size) ys).map fun A1 => (.slice base (n + m) c, A1)
                | _ => none
              else if 0 < m ∧ n + m ≤ 140737488355328 ∧ (n + m) * i.bytes ≤ 140737488355328 then
                match base with
                | none => if n = 0 ∧ c = 0 then some (.slice (some ⟨A.next, 0, none⟩) (n + m) (n + m), A.push (.cells ys e)) else none
                | some ⟨b, o, none⟩ => match A.rd b o (n * i.size), A.objs b with
                  | some olds, some (.cells _ e0) => if A.ro ≤ b ∧ szOf P e0 = some i.size then some (.slice (some ⟨A.next, 0, none⟩) (n + m) (n + m), (A.upd b none).push (.cells (olds ++ ys) e)) else none
                  | _, _ => none
                | _ => none
              else none
            else none
          | none => none
        | _ => none
      | none => none
    | none => none
  | _ => none

theorem Sim.pushRest (h : Sim P w0 N β S A w) {c c' rest : List Value} (hc : VRs β S c c') {e : TypeId} {n : Nat} (he : szOf P e = some n) :
    ∃ β1 S1, Sim P w0 N β1 S1 (A.push (.cells c e)) (w.alloc (.cells (c' ++ rest).toArray e)) ∧ Ext A.next β S β1 S1 ∧ Keeps A β w (w.alloc (.cells (c' ++ rest).toArray e)) ∧ S1 A.next ∧ β1 A.next = some ⟨w.heap.size, 0, n, (c' ++ rest).length⟩ := by
  have hl := hc.length
  have := h.push (.cells c e) (.cells (c' ++ rest).toArray e) ⟨w.heap.size, 0, n, (c' ++ rest).length⟩ rfl ⟨(c' ++ rest).toArray, e, (0, 0), by show (w.heap.push _)[w.heap.size]? = _; simp, by simp, by simp; omega, by
    show VRs _ _ c ((List.drop 0 (c' ++ rest)).take c.length)
    rw [List.drop_zero, hl, List.take_left]
    exact hc.mono (fun i hi => .inl (by have := h.sub i hi; rw [if_neg (by omega)])) (fun i hi => .inl hi), fun _ => ⟨rfl, he⟩⟩
  exact ⟨_, _, this.1, this.2.1, this.2.2, .inr rfl, by simp⟩

theorem list_grow (cs ys : List Value) (k p : Nat) (h : k + p ≤ cs.length) :
    ((cs.take (k + p) ++ ys ++ cs.drop (k + p + ys.length)).drop k).take (p + ys.length) = (cs.drop k).take p ++ ys := by
  have e1 : (cs.take (k + p)).drop k = (cs.drop k).take p := by rw [List.drop_take]; congr 1; omega
  rw [List.append_assoc, List.drop_append_of_le_length (by simp; omega), e1, ← List.append_assoc]
  rw [List.take_append_of_le_length (by simp; omega)]
  rw [List.take_of_length_le (by simp; omega)]

theorem list_inner (cs : List Value) (k len o p : Nat) (h : o + p ≤ len) : (((cs.drop k).take len).drop o).take p = (cs.drop (k + o)).take p := by
  rw [List.drop_take, List.take_take, List.drop_drop]
  congr 1
  omega

theorem aappend_sound (h : Sim P w0 N β S A w) {t : TypeId} {v s s' x x' : Value} (hs : VR β S s s') (hx : VR β S x x') (ha : aappend P A t s x = some (v, A1)) (ty : TypeId) :
    ∃ v' w1, (Builtin.append_ #[t, t] ty #[s', x']).run P w = .ok v' w1 ∧ Done P w0 N β S A w v A1 v' w1 := by
  unfold aappend at ha
  split at ha
  case h_2 => cases ha
  rename_i e ht
  split at ha
  case h_2 => cases ha
  rename_i i hi
  split at ha
  case h_2 => cases ha
  rename_i z hz
  split at ha
  case h_2 => cases ha
  rename_i base n c
  split at ha
  case h_2 => cases ha
  rename_i m ys hsrc
  split at ha
  case isFalse => cases ha
  rename_i hc
  obtain ⟨hzs, hsz, hone⟩ := hc
  obtain ⟨ys', hys, hyl, p, cx, rfl, hcells, hp0⟩ := asrc_sound h hx hsrc
  have hone' := VRs.one hys hone
  split at ha
  · rename_i hroom
    split at ha
    · -- nothing is appended
      rename_i hm
      cases ha
      subst hm
      have hy0 : ys' = [] := List.eq_nil_of_length_eq_zero (by simpa using hyl)
      have run : ∀ base' c', c ≤ c' → (Builtin.append_ #[t, t] ty #[.slice base' n c', .slice p 0 cx]).run P w = .ok (.slice base' n c') w := by
        intro base' c' hcc
        have hn : n ≤ c' := by omega
        cases p <;> cases base' <;> simp [Builtin.append_, run_underlying ht, sizeOf, typeInfo, hi, Builtin.lenOf, Builtin.firstCells, loadCells, loadCellsFrom, hn, storeCells]
      cases hs with
      | sl0 => exact ⟨_, w, run _ _ (Nat.le_refl _), Done.same h (.sl0 .nil)⟩
      | sl a b d f => exact ⟨_, w, run _ _ d, Done.same h (.sl a b d f .nil)⟩
      | slD a b d => exact ⟨_, w, run _ _ d, Done.same h (.slD a b d .nil)⟩
    · -- there is room, for all to see
      rename_i hm
      split at ha
      case h_2 => cases ha
      rename_i b o
      cases hput : A.put b (o + n * i.size) ys with
      | none => simp [hput] at ha
      | some A2 =>
        simp only [hput, Option.map_some, Option.some.injEq, Prod.mk.injEq] at ha
        obtain ⟨rfl, rfl⟩ := ha
        obtain ⟨L, cur, tt, hb, hg, hl, hsim, hk, e1, e2, e3⟩ := h.put hput hys
        cases p with
        | none => exact absurd (hp0 rfl) hm
        | some a =>
          have hf := run_firstCells_some (P := P) w i.size m a m cx ys' hyl (hcells a rfl)
          have hst := run_storeCells_at P L.blk (L.off + o + n * i.size) tt ys' 0 cur w hg (by omega) hone'
          rw [Nat.add_zero] at hst
          have run : ∀ c', c ≤ c' → (Builtin.append_ #[t, t] ty #[.slice (some ⟨L.blk, L.off + o, none⟩) n c', .slice (some a) m cx]).run P w = .ok (.slice (some ⟨L.blk, L.off + o, none⟩) (n + m) c')
              (w.setRow L.blk (cur.toList.take (L.off + (o + n * i.size)) ++ ys' ++ cur.toList.drop (L.off + (o + n * i.size) + ys'.length)).toArray) := by
            intro c' hcc
            have hroom' : n + m ≤ c' := by omega
            have ea : L.off + (o + n * i.size) = L.off + o + n * i.size := by omega
            simp [Builtin.append_, run_underlying ht, sizeOf, typeInfo, hi, Builtin.lenOf, hroom', hf, Addr.add_mid, hst, ea]
          cases hs with
          | sl sa sb d f =>
            rw [hb] at sb; cases sb
            exact ⟨_, _, run _ d, ⟨⟨β, S, hsim, .refl _, hk, .sl sa hb d f .nil, by omega, e2, e3⟩⟩⟩
          | slD _ sb _ => rw [hb] at sb; cases sb
  · -- it may grow
    rename_i hroom
    split at ha
    case isFalse => cases ha
    rename_i hfit
    obtain ⟨hm, hmax, hby⟩ := hfit
    have hml : n + m ≤ maxLen := by unfold maxLen; omega
    cases p with
    | none => exact absurd (hp0 rfl) (by omega)
    | some a =>
      split at ha
      · split at ha
        · rename_i hn
          cases ha
          cases hs
          obtain ⟨rfl, rfl⟩ := hn
          have hr := run_append_nil (P := P) w t ty e i z ht hi hz a m cx ys' hyl (hcells a rfl) hm (by omega) (by have q := hby; rw [Nat.zero_add] at q; omega)
          have hge := grownCap_ge w m 0 e
          obtain ⟨β1, S1, k1, k2, k3, k4, k5⟩ := h.drew.pushRest (rest := (Builtin.zeroCells z.cells (grownCap w m 0 e - m)).toList) hys (by simp [szOf, hi] : szOf P e = some i.size)
          rw [Nat.zero_add]
          refine ⟨_, _, hr, ⟨⟨β1, S1, ?_, k2, ?_, .sl (L := ⟨w.heap.size, 0, i.size, _⟩) k4 k5 hge (.inr (.inr ?_)) .nil, by simp [AW.push], rfl, rfl⟩⟩⟩
          · have : (ys' ++ (Builtin.zeroCells z.cells (grownCap w m 0 e - m)).toList).toArray = ys'.toArray ++ Builtin.zeroCells z.cells (grownCap w m 0 e - m) := by apply Array.ext'; simp
            rw [this] at k1
            exact k1
          · have : (ys' ++ (Builtin.zeroCells z.cells (grownCap w m 0 e - m)).toList).toArray = ys'.toArray ++ Builtin.zeroCells z.cells (grownCap w m 0 e - m) := by apply Array.ext'; simp
            rw [this] at k3
            exact k3
          · have := size_zeroCells z.cells (grownCap w m 0 e - m)
            simp only [List.length_append, Array.length_toList, this, hzs, hyl, ← Nat.add_mul]
            have e2 : m + (grownCap w m 0 e - m) = grownCap w m 0 e := by omega
            rw [e2]; simp
        · cases ha
      · rename_i b o
        split at ha
        case h_2 => cases ha
        rename_i olds c0 e0 hrd hob
        split at ha
        case isFalse => cases ha
        rename_i hro
        cases ha
        obtain ⟨hro, hz0⟩ := hro
        obtain ⟨L, hb, cs, e', fz, hg, htot, hofs, hvr, hwr⟩ := h.live b _ hob
        obtain ⟨rfl, hez⟩ := hwr (by simp [hro])
        rw [hz0] at hez
        have hesz : L.esz = i.size := (Option.some.inj hez).symm
        have hol : o + n * i.size ≤ c0.length ∧ olds = (c0.drop o).take (n * i.size) := by
          simp only [AW.rd, hob] at hrd
          split at hrd
          · rename_i hh; exact ⟨hh, (Option.some.inj hrd).symm⟩
          · cases hrd
        have holdv : VRs β S olds ((cs.toList.drop (L.off + o)).take (n * i.size)) := by
          rw [hol.2, ← list_inner cs.toList L.off c0.length o (n * i.size) hol.1]
          exact (hvr.drop o).take _
        have hcsl : cs.toList.length = L.tot := by simpa using htot
        have elen : (olds ++ ys).length = n * i.size + ys'.length := by
          have q := (holdv.append hys).length
          rw [List.length_append (as := List.take _ _), List.length_take, List.length_drop, hcsl] at q
          rw [q]
          have := hol.1
          omega
        have hsz : szOf P e = some i.size := by simp [szOf, hi]
        have hkill := h.kill (b := b) hro
        have hat : ∀ j, S j → (if j = b then none else β j) = β j ∨ (if j = b then (none : Option Loc) else β j) = none := fun j _ => by
          by_cases q : j = b
          · right; simp [q]
          · left; simp [q]
        have hallv := (holdv.append hys).mono hat (fun _ h => h)
        have hextk : Ext A.next β S (fun j => if j = b then none else β j) S := ⟨hat, fun _ h => h, fun _ h => .inl h⟩
        cases hs with
        | slD _ sb _ => rw [hb] at sb; cases sb
        | @sl _ _ _ _ _ c' _ _ sa sb d f =>
          rw [hb] at sb; cases sb
          by_cases hin : n + m ≤ c'
          · -- in place
            have hroom2 : L.off + o + c' * i.size ≤ L.tot := by
              rcases f with f | f | f
              · omega
              · omega
              · rw [hesz] at f; exact f
            have hmul : (n + m) * i.size ≤ c' * i.size := Nat.mul_le_mul_right _ hin
            have hmul2 : (n + m) * i.size = n * i.size + m * i.size := Nat.add_mul _ _ _
            have hf := run_firstCells_some (P := P) w i.size m a m cx ys' hyl (hcells a rfl)
            have hst := run_storeCells_at P L.blk (L.off + o + n * i.size) e' ys' 0 cs w hg (by omega) hone'
            rw [Nat.add_zero] at hst
            have run : (Builtin.append_ #[t, t] ty #[.slice (some ⟨L.blk, L.off + o, none⟩) n c', .slice (some a) m cx]).run P w = .ok (.slice (some ⟨L.blk, L.off + o, none⟩) (n + m) c')
                (w.setRow L.blk (cs.toList.take (L.off + o + n * i.size) ++ ys' ++ cs.toList.drop (L.off + o + n * i.size + ys'.length)).toArray) := by
              simp [Builtin.append_, run_underlying ht, sizeOf, typeInfo, hi, Builtin.lenOf, hin, hf, Addr.add_mid, hst]
            have hlen : (cs.toList.take (L.off + o + n * i.size) ++ ys' ++ cs.toList.drop (L.off + o + n * i.size + ys'.length)).length = L.tot := by simp; omega
            have hset : (w.setRow L.blk (cs.toList.take (L.off + o + n * i.size) ++ ys' ++ cs.toList.drop (L.off + o + n * i.size + ys'.length)).toArray).heap[L.blk]? = some (.cells (cs.toList.take (L.off + o + n * i.size) ++ ys' ++ cs.toList.drop (L.off + o + n * i.size + ys'.length)).toArray e' (0, 0)) := setRow_heap w L.blk cs _ e' _ hg
            have hother : ∀ k, k ≠ L.blk → (w.setRow L.blk (cs.toList.take (L.off + o + n * i.size) ++ ys' ++ cs.toList.drop (L.off + o + n * i.size + ys'.length)).toArray).heap[k]? = w.heap[k]? := fun k hk => setRow_other w L.blk k _ hk
            have hNL := h.hi b L hro hb
            have hcl := hkill.claim (w' := w.setRow L.blk (cs.toList.take (L.off + o + n * i.size) ++ ys' ++ cs.toList.drop (L.off + o + n * i.size + ys'.length)).toArray) (.cells (olds ++ ys) e) ⟨L.blk, L.off + o, i.size, L.tot⟩
              (fun j L' hj => by
                by_cases q : j = b
                · simp [q] at hj
                · rw [if_neg q] at hj; exact (h.inj b j L L' hro (Ne.symm q) hb hj).symm)
              hNL ⟨h.below.os, h.below.tape, h.below.output, by simpa [World.setRow] using h.below.size, fun k hk => (hother k (by omega)).trans (h.below.block k hk)⟩
              (fun k _ hk => hother k hk)
              ⟨_, e', (0, 0), hset, by simpa using hlen, by rw [elen]; show L.off + o + _ ≤ L.tot; omega, by
                rw [elen, List.toList_toArray, list_grow cs.toList ys' (L.off + o) (n * i.size) (by omega)]
                exact hallv.mono (fun j hj => .inl (by have := h.sub j hj; exact if_neg (show ¬ j = A.next by omega))) (fun j hj => .inl hj), fun _ => ⟨rfl, hsz⟩⟩
            refine ⟨_, _, run, ⟨⟨_, _, hcl.1, hextk.trans hcl.2 (Nat.le_refl _), ⟨by simp [World.setRow], fun k _ hn => hother k (Ne.symm (hn b L hro hb))⟩, .sl (L := ⟨L.blk, L.off + o, i.size, L.tot⟩) (.inr rfl) (by simp [AW.upd]) hin (.inr (.inr (by simpa using hroom2))) .nil, by simp [AW.push, AW.upd], rfl, rfl⟩⟩⟩
          · -- in a new row
            obtain ⟨L2, cs', hb2, hl2, hv2, hc2⟩ := h.rd hrd
            rw [hb] at hb2; cases hb2
            have hr := run_append_grow (P := P) w t ty e i z ht hi hz ⟨L.blk, L.off + o, none⟩ n c' cs' hl2 (fun j u hu => by rw [Addr.add_mid]; exact hc2 j u hu) a m cx ys' hyl (hcells a rfl) (by omega) (by omega) (growslice_fits (by omega) hby)
            have hge := grownCap_ge w (n + m) c' e
            obtain ⟨β1, S1, k1, k2, k3, k4, k5⟩ := hkill.drew.pushRest (rest := (Builtin.zeroCells z.cells (grownCap w (n + m) c' e - (n + m))).toList) ((hv2.append hys).mono hat (fun _ h => h)) hsz
            have earr : ((cs' ++ ys') ++ (Builtin.zeroCells z.cells (grownCap w (n + m) c' e - (n + m))).toList).toArray = cs'.toArray ++ ys'.toArray ++ Builtin.zeroCells z.cells (grownCap w (n + m) c' e - (n + m)) := by apply Array.ext'; simp
            rw [earr] at k1 k3
            refine ⟨_, _, hr, ⟨⟨β1, S1, k1, hextk.trans k2 (Nat.le_refl _), ⟨k3.1, fun k hk hn => k3.2 k hk (fun j Lj hj1 hj2 => by
              by_cases q : j = b
              · simp [q] at hj2
              · simp only [if_neg q] at hj2; exact hn j Lj hj1 hj2)⟩, .sl (L := ⟨w.heap.size, 0, i.size, _⟩) k4 k5 hge (.inr (.inr ?_)) .nil, by simp [AW.push, AW.upd], rfl, rfl⟩⟩⟩
            have hz2 := size_zeroCells z.cells (grownCap w (n + m) c' e - (n + m))
            have e2 : n + m + (grownCap w (n + m) c' e - (n + m)) = grownCap w (n + m) c' e := by omega
            simp only [List.length_append, Array.length_toList, hz2, hzs, hyl, hl2, ← Nat.add_mul, e2]
            simp
      · cases ha

end Go.M
