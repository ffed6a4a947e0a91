/- Part 12: maps; ranging over a string; clear; copy. -/
import Derived.Test.YtfhodefiknfccaaM11
set_option linter.unusedVariables false
set_option linter.unusedSimpArgs false
namespace Go.M
open Go.RowKit
variable {P : Program} {w0 w w' w1 w2 : World} {N n m : Nat} {β β' β1 β2 : Bet} {S S' S1 S2 : Nat → Prop} {A A' A1 A2 : AW} {a a1 : AEnv} {ae : Act} {Q Q' : AQ}
variable {ops : Array Oper} {rest : List Oper} {o : Oper} {R : Value → AW → Prop}

/-! ### Maps -/
def amakeMap (A : AW) : Value × AW := (.map (some A.next), A.push (.map [] 0))
theorem AOp.makeMap {t : TypeId} (ho : o.op = .makeMap t none) : AOp P n o a A (isR (amakeMap A).1 (amakeMap A).2) :=
  .of fun w0 N w β S ae hs he => by
    have h := hs.push (.map [] 0) (.map #[] 0) ⟨w.heap.size, 0, 0, 0⟩ rfl ⟨#[], by show (w.heap.push _)[w.heap.size]? = _; simp, rfl, rfl, ⟨1, rfl⟩, .nil⟩
    refine ⟨.map (some w.heap.size), w.alloc (.map #[] 0), by simp [execOp, ho, Instr.makeMap], ⟨⟨_, _, h.1, h.2.1, h.2.2, .map (L := ⟨w.heap.size, 0, 0, 0⟩) (.inr rfl) (by simp) .nil, by simp [amakeMap, AW.push], rfl, rfl⟩⟩⟩

def simpleKey : TypeDesc → Bool
  | .int _ | .string | .bool => true
  | _ => false
theorem run_checkKey_simple {t : TypeId} {d : TypeDesc} (hu : P.underlying t = some d) (hd : simpleKey d = true) (b : Bool) (k : Nat) (v : Value) (w : World) : (Instr.checkKey b (k + 1) t v).run P w = .ok () w := by
  cases d <;> first | (simp [simpleKey] at hd; done) | (cases v <;> simp [Instr.checkKey, run_underlying hu])

structure MRel (β : Bet) (S : Nat → Prop) (es es' : List MapEntry) : Prop where
  keys : es'.map (·.key) = es.map (·.key)
  born : es'.map (·.born) = es.map (·.born)
  vals : VRs β S (es.map (·.val)) (es'.map (·.val))

theorem findNow_rel (d : TypeDesc) (k : Value) : ∀ (es es' : List MapEntry) (i : Nat) (r : Option (Nat × Value)), MRel β S es es' → Instr.findNow d k es i = some r →
    (r = none ∧ Instr.findNow d k es' i = some none) ∨ ∃ j v v', r = some (j, v) ∧ Instr.findNow d k es' i = some (some (j, v')) ∧ VR β S v v'
  | [], es', i, r, hr, h => by
    have : es' = [] := by simpa using hr.keys
    subst this
    simp only [Instr.findNow, Option.some.injEq] at h
    exact .inl ⟨h.symm, rfl⟩
  | e :: es, [], i, r, hr, h => by have := hr.keys; simp at this
  | e :: es, e' :: es', i, r, hr, h => by
    obtain ⟨h1, h2, h3⟩ := hr
    simp only [List.map_cons, List.cons.injEq] at h1 h2 h3
    simp only [Instr.findNow] at h ⊢
    rw [h1.1]
    split at h
    · rename_i q
      simp only [Option.some.injEq] at h
      exact .inr ⟨i, e.val, e'.val, h.symm, rfl, h3.cons_inv.1⟩
    · rename_i q
      exact findNow_rel d k es es' (i + 1) r ⟨h1.2, h2.2, h3.cons_inv.2⟩ h
    · cases h

def amap (A : AW) : Value → Option (List MapEntry)
  | .map none => some []
  | .map (some b) => match A.objs b with
    | some (.map es _) => some es
    | _ => none
  | _ => none
def azero (P : Program) (t : TypeId) : Option Value := (zeroOf P t).bind fun z => if noAddrs 64 [z] then some z else none
def alookup (P : Program) (A : AW) (t : TypeId) (x k : Value) (ok : Bool) : Option Value :=
  match P.underlying t with
  | some (.map key elem) => match P.underlying key with
    | some d => if simpleKey d && noAddrs 8 [k] then (amap A x).bind fun es => match Instr.findNow d k es 0 with
      | some (some (_, v)) => some (if ok then .tuple #[v, .bool true] else v)
      | some none => (azero P elem).map fun z => if ok then .tuple #[z, .bool false] else z
      | none => none
      else none
    | none => none
  | _ => none

theorem amap_rel (h : Sim P w0 N β S A w) {x x' : Value} {es : List MapEntry} (hx : VR β S x x') (ha : amap A x = some es) :
    (x' = .map none ∧ es = []) ∨ ∃ b L clock es', x = .map (some b) ∧ x' = .map (some L.blk) ∧ β b = some L ∧ A.objs b = some (.map es clock) ∧ w.heap[L.blk]? = some (.map es' clock) ∧ MRel β S es es'.toList ∧ (∃ n, noAddrs n (es.map (·.key)) = true) := by
  unfold amap at ha
  split at ha
  · cases ha; cases hx; exact .inl ⟨rfl, rfl⟩
  · rename_i b
    split at ha
    · rename_i es' clock ho
      cases ha
      obtain ⟨L, hb, es', h1, h2, h3, h4, h5⟩ := h.live b _ ho
      cases hx with
      | map _ hb2 _ => rw [hb] at hb2; cases hb2; exact .inr ⟨b, L, clock, es', rfl, rfl, hb, ho, h1, ⟨h2, h3, h5⟩, h4⟩
      | mapD _ hb2 _ => rw [hb] at hb2; cases hb2
    · cases ha
  · cases ha

theorem lookup_run {t key elem : TypeId} {d : TypeDesc} {x k z : Value} {ok : Bool} {es : Array MapEntry} {r : Option (Nat × Value)} (ht : P.underlying t = some (.map key elem)) (hd : P.underlying key = some d) (hs : simpleKey d = true)
    (hx : (x = .map none ∧ es = #[]) ∨ ∃ b clock, x = .map (some b) ∧ (getObj b).run P w = .ok (.map es clock) w) (hf : (Instr.findKey key k es.toList).run P w = .ok r w) (hz : r = none → (zeroValue elem).run P w = .ok z w) :
    (Instr.lookup t x k ok).run P w = .ok (if ok then .tuple #[(r.map (·.2)).getD z, .bool r.isSome] else (r.map (·.2)).getD z) w := by
  rcases hx with ⟨rfl, rfl⟩ | ⟨b, clock, rfl, hg⟩
  · simp only [Instr.lookup, Sem.run_bind, run_underlying ht, Result.andThen_ok, Sem.run_pure, run_checkKey_simple hd hs, hf]
    cases r with
    | none => simp [hz rfl]
    | some u => simp
  · simp only [Instr.lookup, Sem.run_bind, run_underlying ht, Result.andThen_ok, Sem.run_pure, hg, run_checkKey_simple hd hs, hf]
    cases r with
    | none => simp [hz rfl]
    | some u => simp

theorem azero_run {t : TypeId} {z : Value} (hz : azero P t = some z) : (∀ w, (zeroValue t).run P w = .ok z w) ∧ ∀ β S, VR β S z z := by
  unfold azero at hz
  cases h2 : zeroOf P t with
  | none => simp [h2] at hz
  | some zz =>
    simp only [h2, Option.bind_some] at hz
    split at hz
    · rename_i hpl
      cases hz
      exact ⟨fun w => run_zeroOf h2 w, fun β S => VRs.refl_of_noAddrs _ _ hpl⟩
    · cases hz

theorem alookup_sound (h : Sim P w0 N β S A w) {t : TypeId} {v x x' k k' : Value} {ok : Bool} (hx : VR β S x x') (hk : VR β S k k') (ha : alookup P A t x k ok = some v) :
    ∃ v', (Instr.lookup t x' k' ok).run P w = .ok v' w ∧ VR β S v v' := by
  unfold alookup at ha
  split at ha
  case h_2 => cases ha
  rename_i key elem ht
  split at ha
  case h_2 => cases ha
  rename_i d hd
  split at ha
  case isFalse => cases ha
  rename_i hc
  simp only [Bool.and_eq_true] at hc
  have ek : k' = k := by have := VRs.eq_of_noAddrs hk _ hc.2; simpa using this
  subst ek
  cases hm : amap A x with
  | none => simp [hm] at ha
  | some es =>
    simp only [hm, Option.bind_some] at ha
    have fin : ∃ es' : Array MapEntry, MRel β S es es'.toList ∧ ((x' = .map none ∧ es' = #[]) ∨ ∃ b clock, x' = .map (some b) ∧ (getObj b).run P w = .ok (.map es' clock) w) := by
      rcases amap_rel h hx hm with ⟨rfl, rfl⟩ | ⟨b, L, clock, es', rfl, rfl, hb, ho, hg, hr, _⟩
      · exact ⟨#[], ⟨rfl, rfl, .nil⟩, .inl ⟨rfl, rfl⟩⟩
      · exact ⟨es', hr, .inr ⟨L.blk, clock, rfl, by simp [getObj, Sem.run, hg]⟩⟩
    obtain ⟨es', hr, hx'⟩ := fin
    have hf : ∀ r, Instr.findNow d k' es'.toList 0 = some r → (Instr.findKey key k' es'.toList).run P w = .ok r w := by
      intro r hr
      simp [Instr.findKey, run_underlying hd, hr]
    cases hn : Instr.findNow d k' es 0 with
    | none => simp [hn] at ha
    | some r =>
      rcases findNow_rel d k' es es'.toList 0 r hr hn with ⟨rfl, h2⟩ | ⟨j, u, u', rfl, h2, h3⟩
      · simp only [hn] at ha
        cases hz : azero P elem with
        | none => simp [hz] at ha
        | some z =>
          simp only [hz, Option.map_some, Option.some.injEq] at ha
          obtain ⟨z1, z2⟩ := azero_run hz
          refine ⟨_, lookup_run ht hd hc.1 hx' (hf _ h2) (fun _ => z1 w), ?_⟩
          subst ha
          cases ok
          · exact z2 _ _
          · exact .tuple (VRs.cons (z2 _ _) (.bool .nil)) .nil
      · simp only [hn, Option.some.injEq] at ha
        refine ⟨_, lookup_run (z := u') ht hd hc.1 hx' (hf _ h2) (by simp), ?_⟩
        subst ha
        cases ok
        · exact h3
        · exact .tuple (VRs.cons h3 (.bool .nil)) .nil

theorem AOp.lookup {t : TypeId} {x y : Operand} {ok : Bool} {vx vy v : Value} (ho : o.op = .lookup t x y ok) (hx : aev A.gl a x = some vx) (hy : aev A.gl a y = some vy) (h : alookup P A t vx vy ok = some v) : AOp P n o a A (isR v A) :=
  .val fun w0 N w β S ae hs he => let ⟨v', h1, h2⟩ := alookup_sound hs (aev_sound hs he hx) (aev_sound hs he hy) h; ⟨v', by simp [execOp, ho, h1], h2⟩

theorem noAddrs_succ : ∀ (k : Nat) (vs : List Value), noAddrs k vs = true → noAddrs (k + 1) vs = true
  | 0, _, h => by simp [noAddrs] at h
  | k + 1, [], _ => rfl
  | k + 1, v :: vs, h => by
    unfold noAddrs at h ⊢
    simp only [Bool.and_eq_true] at h ⊢
    refine ⟨?_, noAddrs_succ k vs h.2⟩
    have h1 := h.1
    split at h1 <;> first
      | exact h1
      | (exact noAddrs_succ k _ h1)
theorem noAddrs_le {k j : Nat} (h : k ≤ j) {vs : List Value} (hv : noAddrs k vs = true) : noAddrs j vs = true := by
  induction h with
  | refl => exact hv
  | step _ ih => exact noAddrs_succ _ _ ih
theorem noAddrs_cons {k : Nat} {v : Value} {vs : List Value} (h1 : noAddrs k [v] = true) (h2 : noAddrs k vs = true) : noAddrs (k + 1) (v :: vs) = true := by
  have h1 := noAddrs_succ _ _ h1
  unfold noAddrs at h1 ⊢
  simp only [Bool.and_eq_true] at h1 ⊢
  exact ⟨h1.1, h2⟩
theorem noAddrs_tail {k : Nat} {v : Value} {vs : List Value} (h : noAddrs (k + 1) (v :: vs) = true) : noAddrs k vs = true := by
  unfold noAddrs at h
  simp only [Bool.and_eq_true] at h
  exact h.2
theorem noAddrs_head {k : Nat} {v : Value} {vs : List Value} (h : noAddrs (k + 1) (v :: vs) = true) : noAddrs (k + 1) [v] = true := by
  unfold noAddrs at h ⊢
  simp only [Bool.and_eq_true] at h ⊢
  refine ⟨h.1, ?_⟩
  cases k with
  | zero => have := h.2; simp [noAddrs] at this
  | succ k => rfl
theorem noAddrs_snoc {u : Value} : ∀ (vs : List Value) (k : Nat), noAddrs k vs = true → noAddrs k [u] = true → ∃ j, noAddrs j (vs ++ [u]) = true
  | [], k, _, h => ⟨k, h⟩
  | v :: vs, 0, h, _ => by simp [noAddrs] at h
  | v :: vs, k + 1, h, hu => by
    obtain ⟨j, hj⟩ := noAddrs_snoc vs (k + 1) (noAddrs_succ _ _ (noAddrs_tail h)) hu
    exact ⟨(max j (k + 1)) + 1, noAddrs_cons (noAddrs_le (Nat.le_max_right _ _) (noAddrs_head h)) (noAddrs_le (Nat.le_max_left _ _) hj)⟩

def amapSet (es : List MapEntry) (clock : Nat) (k v : Value) : Option (Nat × Value) → AObj
  | some (i, _) => .map (es.modify i fun e => { e with key := k, val := v }) clock
  | none => .map (es ++ [{ key := k, val := v, born := clock }]) (clock + 1)
def amapUpdate (P : Program) (A : AW) (t : TypeId) (x k v : Value) : Option AW :=
  match P.underlying t, x with
  | some (.map key _), .map (some b) => match P.underlying key, A.objs b with
    | some d, some (.map es clock) => if simpleKey d && noAddrs 8 [k] && decide (A.ro ≤ b) then (Instr.findNow d k es 0).map fun r => A.upd b (some (amapSet es clock k v r)) else none
    | _, _ => none
  | _, _ => none

theorem bytes_eq {x y : ByteArray} (h : (x == y) = true) : x = y := by
  obtain ⟨⟨x⟩⟩ := x
  obtain ⟨⟨y⟩⟩ := y
  have h : ((⟨x⟩ : Array UInt8) == ⟨y⟩) = true := h
  have := eq_of_beq h
  rw [this]
theorem bytes_beq (x : ByteArray) : (x == x) = true := by
  obtain ⟨⟨x⟩⟩ := x
  show ((⟨x⟩ : Array UInt8) == ⟨x⟩) = true
  simp
theorem sameNow_eq {d : TypeDesc} {k u : Value} (h : Instr.sameNow d k u = some true) : u = k ∧ Instr.sameBits 10000 u k = true := by
  unfold Instr.sameNow at h
  split at h
  · split at h
    · rename_i hk; subst hk
      simp only [Option.some.injEq, beq_iff_eq] at h
      subst h
      exact ⟨rfl, by simp [Instr.sameBits]⟩
    · cases h
  · simp only [Option.some.injEq] at h
    have := bytes_eq h
    subst this
    exact ⟨rfl, by simp [Instr.sameBits, bytes_beq]⟩
  · simp only [Option.some.injEq, beq_iff_eq] at h
    subst h
    exact ⟨rfl, by simp [Instr.sameBits]⟩
  · cases h
theorem findNow_key (d : TypeDesc) (k : Value) : ∀ (es : List MapEntry) (i j : Nat) (v : Value), Instr.findNow d k es i = some (some (j, v)) → i ≤ j ∧ ∃ e, es[j - i]? = some e ∧ e.key = k ∧ Instr.sameBits 10000 e.key k = true
  | [], i, j, v, h => by simp [Instr.findNow] at h
  | e :: es, i, j, v, h => by
    simp only [Instr.findNow] at h
    split at h
    · rename_i q
      simp only [Option.some.injEq, Prod.mk.injEq] at h
      obtain ⟨rfl, _⟩ := h
      have := sameNow_eq q
      exact ⟨Nat.le_refl _, e, by simp, this.1, this.2⟩
    · obtain ⟨h1, e', h2, h3⟩ := findNow_key d k es (i + 1) j v h
      refine ⟨by omega, e', ?_, h3⟩
      have : j - i = (j - (i + 1)) + 1 := by omega
      rw [this]; simpa using h2
    · cases h

theorem amapUpdate_sound (h : Sim P w0 N β S A w) {t : TypeId} {x x' k k' v v' : Value} (hx : VR β S x x') (hk : VR β S k k') (hv : VR β S v v') (ha : amapUpdate P A t x k v = some A1) :
    ∃ w1, (Instr.mapUpdate t x' k' v').run P w = .ok () w1 ∧ Sim P w0 N β S A1 w1 ∧ A1.next = A.next ∧ A1.ro = A.ro ∧ A1.gl = A.gl := by
  unfold amapUpdate at ha
  split at ha
  case h_2 => cases ha
  rename_i key elem b ht
  split at ha
  case h_2 => cases ha
  rename_i d es clock hd ho
  split at ha
  case isFalse => cases ha
  rename_i hc
  simp only [Bool.and_eq_true, decide_eq_true_eq] at hc
  obtain ⟨⟨hc1, hc2⟩, hro⟩ := hc
  have ek : k' = k := by have := VRs.eq_of_noAddrs hk _ hc2; simpa using this
  subst ek
  cases hn : Instr.findNow d k' es 0 with
  | none => simp [hn] at ha
  | some r =>
    simp only [hn, Option.map_some, Option.some.injEq] at ha
    subst ha
    obtain ⟨L, hb, es', h1, h2, h3, ⟨kn, h4⟩, h5⟩ := h.live b _ ho
    have hrel : MRel β S es es'.toList := ⟨h2, h3, h5⟩
    have ex : x' = .map (some L.blk) := by
      cases hx with
      | map _ hb2 _ => rw [hb] at hb2; cases hb2; rfl
      | mapD _ hb2 _ => rw [hb] at hb2; cases hb2
    subst ex
    have hlt := (Array.getElem?_eq_some_iff.1 h1).1
    have hget : (getObj L.blk).run P w = .ok (.map es' clock) w := by simp [getObj, Sem.run, h1]
    have hset : ∀ o', (setObj L.blk o').run P w = .ok () { w with heap := w.heap.setIfInBounds L.blk o' } := by intro o'; simp [setObj, Sem.run, h1]
    have fin : ∀ (ao : AObj) (o' : Obj), ORel P β S { w with heap := w.heap.setIfInBounds L.blk o' } true L ao → Sim P w0 N β S (A.upd b (some ao)) { w with heap := w.heap.setIfInBounds L.blk o' } := by
      intro ao o' hr
      exact (h.write (w' := { w with heap := w.heap.setIfInBounds L.blk o' }) hb hro ao hr rfl rfl rfl (by simp) (fun j hj => by
        show (w.heap.setIfInBounds L.blk o')[j]? = _
        rw [Array.getElem?_setIfInBounds]; simp [Ne.symm hj])).1
    rcases findNow_rel d k' es es'.toList 0 r hrel hn with ⟨rfl, g2⟩ | ⟨j, u, u', rfl, g2, g3⟩
    · refine ⟨{ w with heap := w.heap.setIfInBounds L.blk (.map (es'.push ⟨k', v', clock⟩) (clock + 1)) }, ?_, ?_, rfl, rfl, rfl⟩
      · have hf : (Instr.findKey key k' es'.toList).run P w = .ok none w := by simp [Instr.findKey, run_underlying hd, g2]
        simp only [Instr.mapUpdate, Sem.run_bind, run_underlying ht, Result.andThen_ok, hget, run_checkKey_simple hd hc1, hf, hset]
      · refine fin _ _ ⟨es'.push ⟨k', v', clock⟩, ?_, ?_, ?_, ?_, ?_⟩
        · show (w.heap.setIfInBounds L.blk _)[L.blk]? = _
          simp [hlt]
        · simp [h2]
        · simp [h3]
        · have := noAddrs_snoc (u := k') _ (max kn 8) (noAddrs_le (Nat.le_max_left _ _) h4) (noAddrs_le (Nat.le_max_right _ _) hc2)
          simpa using this
        · simp only [List.map_append, Array.toList_push, List.map_cons, List.map_nil]
          exact h5.append hv
    · obtain ⟨e, he1, he2, he3⟩ := (findNow_key d k' es'.toList 0 j u' g2).2
      simp only [Nat.sub_zero] at he1
      refine ⟨{ w with heap := w.heap.setIfInBounds L.blk (.map (es'.modify j fun e => { e with key := k', val := v' }) clock) }, ?_, ?_, rfl, rfl, rfl⟩
      · have hf : (Instr.findKey key k' es'.toList).run P w = .ok (some (j, u')) w := by simp [Instr.findKey, run_underlying hd, g2]
        have hkey : (Instr.keyThatStays (((es'[j]?).map (·.key)).getD k') k').run P w = .ok k' w := by
          rw [Array.getElem?_toList] at he1
          simp [Instr.keyThatStays, he1, he3]
        simp only [Instr.mapUpdate, Sem.run_bind, run_underlying ht, Result.andThen_ok, hget, run_checkKey_simple hd hc1, hf, hkey, hset]
      · have hmk : ∀ (l : List MapEntry), (∀ e, l[j]? = some e → e.key = k') → (l.modify j fun e => { e with key := k', val := v' }).map (·.key) = l.map (·.key) := by
          intro l hl
          apply List.ext_getElem?
          intro i
          simp only [List.getElem?_map, List.getElem?_modify]
          by_cases q : j = i
          · subst q
            cases hq : l[j]? with
            | none => rfl
            | some e => simp [hl e hq]
          · simp [q]
        have hmk2 : ∀ (l : List MapEntry) (z : Value), (l.modify j fun e => { e with key := k', val := z }).map (·.born) = l.map (·.born) := by
          intro l z
          apply List.ext_getElem?
          intro i
          simp only [List.getElem?_map, List.getElem?_modify]
          by_cases q : j = i
          · subst q
            cases hq : l[j]? <;> simp
          · simp [q]
        have hmv : ∀ (l : List MapEntry) (z : Value), (l.modify j fun e => { e with key := k', val := z }).map (·.val) = (l.map (·.val)).set j z := by
          intro l z
          apply List.ext_getElem?
          intro i
          simp only [List.getElem?_map, List.getElem?_modify, List.getElem?_set, List.length_map]
          by_cases q : j = i
          · subst q
            cases hq : l[j]? with
            | none => simp [List.getElem?_eq_none_iff.1 hq]
            | some e => simp [(List.getElem?_eq_some_iff.1 hq).1]
          · simp [q]
        have hkeyA : ∀ e, es[j]? = some e → e.key = k' := by
          intro e0 h0
          have : (es'.toList.map (·.key))[j]? = (es.map (·.key))[j]? := by rw [h2]
          simp only [List.getElem?_map, he1, h0, Option.map_some, Option.some.injEq] at this
          rw [← this, he2]
        have hmkA : (es.modify j fun e => { e with key := k', val := v }).map (·.key) = es.map (·.key) := by
          apply List.ext_getElem?
          intro i
          simp only [List.getElem?_map, List.getElem?_modify]
          by_cases q : j = i
          · subst q
            cases hq : es[j]? with
            | none => rfl
            | some e => simp [hkeyA e hq]
          · simp [q]
        refine fin _ _ ⟨es'.modify j fun e => { e with key := k', val := v' }, ?_, ?_, ?_, ?_, ?_⟩
        · show (w.heap.setIfInBounds L.blk _)[L.blk]? = _
          simp [hlt]
        · rw [Array.toList_modify, hmk _ (fun e h => by rw [he1] at h; cases h; exact he2), hmkA, h2]
        · rw [Array.toList_modify, hmk2, hmk2, h3]
        · rw [hmkA]; exact ⟨kn, h4⟩
        · rw [Array.toList_modify, hmv, hmv]
          exact h5.set hv j

theorem AOp.mapUpdate {t : TypeId} {x y z : Operand} {vx vy vz : Value} (ho : o.op = .mapUpdate t x y z) (hx : aev A.gl a x = some vx) (hy : aev A.gl a y = some vy) (hz : aev A.gl a z = some vz) (h : amapUpdate P A t vx vy vz = some A1) : AOp P n o a A (isR undef A1) :=
  .skip fun w0 N w β S ae hs he => let ⟨w1, h1, h2, h3, h4, h5⟩ := amapUpdate_sound hs (aev_sound hs he hx) (aev_sound hs he hy) (aev_sound hs he hz) h; ⟨w1, by simp [execOp, ho, h1], h2, h3, h4, h5⟩

/-! ### Ranging over a string -/
theorem AOp.range {t : TypeId} {x : Operand} {s : ByteArray} (ho : o.op = .range t x) (hx : aev A.gl a x = some (.string s)) (hu : P.underlying t = some .string) : AOp P n o a A (isR (.pointer (some ⟨A.next, 0, none⟩)) (A.push (.iter s 0))) :=
  .of fun w0 N w β S ae hs he => by
    have e := VR.isString (aev_sound hs he hx)
    have h := hs.push (.iter s 0) (.stringIter s 0) ⟨w.heap.size, 0, 0, 0⟩ rfl ⟨rfl, by show (w.heap.push _)[w.heap.size]? = _; simp⟩
    refine ⟨.pointer (some ⟨w.heap.size, 0, none⟩), w.alloc (.stringIter s 0), by simp [execOp, ho, e, Instr.range, run_underlying hu], ⟨⟨_, _, h.1, h.2.1, h.2.2, .ptr (L := ⟨w.heap.size, 0, 0, 0⟩) (.inr rfl) (by simp) .nil, by simp [AW.push], rfl, rfl⟩⟩⟩

def anext (A : AW) : Value → Option (Value × AW)
  | .pointer (some ⟨b, 0, none⟩) => match A.objs b with
    | some (.iter s pos) => if A.ro ≤ b then if pos < s.size then some (.tuple #[.bool true, .int .i64 pos, .int .i32 (Utf8.decode s pos).1], A.upd b (some (.iter s (pos + (Utf8.decode s pos).2)))) else some (.tuple #[.bool false], A) else none
    | _ => none
  | _ => none
theorem AOp.next {x : Operand} {vx v : Value} (ho : o.op = .next x true) (hx : aev A.gl a x = some vx) (h : anext A vx = some (v, A1)) : AOp P n o a A (isR v A1) :=
  .of fun w0 N w β S ae hs he => by
    have hv := aev_sound hs he hx
    unfold anext at h
    split at h
    · rename_i b
      split at h
      · rename_i s pos hob
        split at h
        · rename_i hro
          obtain ⟨L, hb, hL0, hg⟩ := hs.live b _ hob
          have hlt := (Array.getElem?_eq_some_iff.1 hg).1
          have ex : ae.eval x = .pointer (some ⟨L.blk, 0, none⟩) := by
            generalize ae.eval x = u at hv
            cases hv with
            | ptr _ hb2 _ => rw [hb] at hb2; cases hb2; rw [hL0]
            | ptrD _ hb2 _ => rw [hb] at hb2; cases hb2
          have hget : (getObj L.blk).run P w = .ok (.stringIter s pos) w := by simp [getObj, Sem.run, hg]
          have hset : ∀ o', (setObj L.blk o').run P w = .ok () { w with heap := w.heap.setIfInBounds L.blk o' } := by intro o'; simp [setObj, Sem.run, hg]
          split at h
          · rename_i hp
            cases h
            have hw := hs.write (w' := { w with heap := w.heap.setIfInBounds L.blk (.stringIter s (pos + (Utf8.decode s pos).2)) }) hb hro (.iter s (pos + (Utf8.decode s pos).2)) ⟨hL0, by
              show (w.heap.setIfInBounds L.blk _)[L.blk]? = _
              simp [hlt]⟩ rfl rfl rfl (by simp) (fun j hj => by
                show (w.heap.setIfInBounds L.blk _)[j]? = _
                rw [Array.getElem?_setIfInBounds]; simp [Ne.symm hj])
            refine ⟨.tuple #[.bool true, .int .i64 pos, .int .i32 (Utf8.decode s pos).1], _, ?_, ⟨⟨β, S, hw.1, .refl _, hw.2, .tuple (.bool (.int (.int .nil))) .nil, Nat.le_refl _, rfl, rfl⟩⟩⟩
            simp only [execOp, ho, ex, Instr.next, Sem.run_bind, hget, Result.andThen_ok]
            simp only [if_pos hp, Sem.run_bind, hset, Result.andThen_ok, goInt]
            rfl
          · rename_i hp
            cases h
            refine ⟨.tuple #[.bool false], w, ?_, .same hs (.tuple (.bool .nil) .nil)⟩
            simp only [execOp, ho, ex, Instr.next, Sem.run_bind, hget, Result.andThen_ok]
            simp only [if_neg hp]
            rfl
        · cases h
      · cases h
    · cases h

end Go.M
