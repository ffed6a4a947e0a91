/- Part 10: literals; functions as values; equality; strings. -/
import Derived.Test.YtfhodefiknfccaaM9
import Derived.Laws.StructEq
set_option linter.unusedVariables false
set_option linter.unusedSimpArgs false
namespace Go.M
open Go.RowKit
variable {P : Program} {w0 w w' w1 w2 : World} {N n m : Nat} {β β' β1 β2 : Bet} {S S' S1 S2 : Nat → Prop} {A A' A1 A2 : AW} {a a1 : AEnv} {ae : Act} {Q Q' : AQ}
variable {ops : Array Oper} {rest : List Oper} {o : Oper} {R : Value → AW → Prop}

/-! ### Filling -/
def setAll : List Value → Nat → List Value → List Value
  | l, _, [] => l
  | l, i, v :: vs => setAll (l.set i v) (i + 1) vs
theorem VRs.setAll {c c' vs vs' : List Value} (h : VRs β S c c') (k : VRs β S vs vs') (i : Nat) : VRs β S (setAll c i vs) (setAll c' i vs') := by
  induction vs generalizing c c' vs' i with
  | nil => cases vs' with
    | nil => exact h
    | cons => have := k.length; simp at this
  | cons v vs ih => cases vs' with
    | nil => have := k.length; simp at this
    | cons v' vs' => exact ih (h.set k.cons_inv.1 i) k.cons_inv.2 (i + 1)
theorem fold_setAll (off : Nat) (vs : List Value) : ∀ (k : Nat) (cells : Array Value), ((vs.zipIdx k).foldl (fun cs (x : Value × Nat) => cs.setIfInBounds (off + x.2) x.1) cells).toList = setAll cells.toList (off + k) vs := by
  induction vs with
  | nil => intro k cells; rfl
  | cons v vs ih =>
    intro k cells
    simp only [List.zipIdx_cons, List.foldl_cons, ih, setAll]
    rw [Array.toList_setIfInBounds, Nat.add_assoc]

def afill (place : Nat → Option (Nat × Nat)) : List Value → List (Nat × Value) → Option (List Value)
  | cells, [] => some cells
  | cells, (i, v) :: rest => match place i with
    | none => none
    | some (off, size) => if v.cells.size = size ∧ off + size ≤ cells.length then afill place (setAll cells off v.cells.toList) rest else none

def VPs (β : Bet) (S : Nat → Prop) (ps ps' : List (Nat × Value)) : Prop := ps'.map (·.1) = ps.map (·.1) ∧ VRs β S (ps.map (·.2)) (ps'.map (·.2))

theorem afill_sound {place : Nat → Option (Nat × Nat)} : ∀ {ps ps' : List (Nat × Value)} {c r : List Value} {c' : Array Value}, afill place c ps = some r → VRs β S c c'.toList → VPs β S ps ps' →
    ∃ r', Instr.fill place c' ps' = some r' ∧ VRs β S r r'.toList
  | [], ps', c, r, c', h, hc, hp => by
    cases h
    have : ps' = [] := by simpa using hp.1
    subst this
    exact ⟨c', rfl, hc⟩
  | (i, v) :: ps, [], c, r, c', h, hc, hp => by have := hp.1; simp at this
  | (i, v) :: ps, (i', v') :: ps', c, r, c', h, hc, hp => by
    obtain ⟨h1, h2⟩ := hp
    simp only [List.map_cons, List.cons.injEq] at h1 h2
    obtain ⟨rfl, h1⟩ := h1
    have hv := h2.cons_inv.1
    simp only [afill] at h
    split at h
    · cases h
    · rename_i off size hpl
      split at h
      · rename_i hcnd
        have hsz := VRs.size hv
        have hl := hc.length
        simp only [Array.length_toList] at hl
        obtain ⟨r', e, hr⟩ := afill_sound (c' := v'.cells.zipIdx.foldl (fun cs (x : Value × Nat) => cs.setIfInBounds (off + x.2) x.1) c') h (by
          rw [← Array.foldl_toList, Array.toList_zipIdx, fold_setAll off v'.cells.toList 0 c']
          exact hc.setAll (VRs.cells hv) off) ⟨h1, h2.cons_inv.2⟩
        refine ⟨r', ?_, hr⟩
        simp only [Instr.fill, hpl]
        rw [if_neg (by simp; omega)]
        exact e
      · cases h

def aparts (gl : Nat) (a : AEnv) : List (Nat × Operand) → Option (List (Nat × Value))
  | [] => some []
  | (i, x) :: r => (aev gl a x).bind fun v => (aparts gl a r).map ((i, v) :: ·)
theorem aparts_sound (hs : Sim P w0 N β S A w) (he : ER n β S a ae) : ∀ {ps : List (Nat × Operand)} {vs : List (Nat × Value)}, aparts A.gl a ps = some vs → VPs β S vs (ps.map fun x => (x.1, ae.eval x.2))
  | [], vs, h => by cases h; exact ⟨rfl, .nil⟩
  | (i, x) :: ps, vs, h => by
    simp only [aparts] at h
    cases h1 : aev A.gl a x with
    | none => simp [h1] at h
    | some v =>
      simp only [h1, Option.bind_some] at h
      cases h2 : aparts A.gl a ps with
      | none => simp [h2] at h
      | some us =>
        simp only [h2, Option.map_some, Option.some.injEq] at h
        subst h
        obtain ⟨k1, k2⟩ := aparts_sound hs he h2
        exact ⟨by simp [k1], VRs.cons (aev_sound hs he h1) k2⟩

def aplaces (P : Program) : List Field → Option (List (Nat × Nat))
  | [] => some []
  | f :: fs => (szOf P f.type).bind fun s => (aplaces P fs).map ((f.offset, s) :: ·)
theorem aplaces_run : ∀ {fs : List Field} {ps : List (Nat × Nat)}, aplaces P fs = some ps → ∀ w, (fs.mapM (fun f => do pure (f.offset, ← sizeOf f.type) : Field → Sem (Nat × Nat))).run P w = .ok ps w
  | [], ps, h, w => by cases h; rfl
  | f :: fs, ps, h, w => by
    simp only [aplaces] at h
    cases h1 : szOf P f.type with
    | none => simp [h1] at h
    | some s =>
      simp only [h1, Option.bind_some] at h
      cases h2 : aplaces P fs with
      | none => simp [h2] at h
      | some qs =>
        simp only [h2, Option.map_some, Option.some.injEq] at h
        subst h
        rw [List.mapM_cons, Sem.run_bind, Sem.run_bind, run_szOf h1]
        simp only [Result.andThen_ok, Sem.run_pure, Sem.run_bind]
        rw [aplaces_run h2 w]
        rfl

/-- The cells of a fresh struct or array. -/
def zcells (P : Program) (t : TypeId) : Option (List Value) := (zeroOf P t).bind fun z => if noAddrs 64 z.cells.toList then some z.cells.toList else none
def abuild (P : Program) (t : TypeId) (parts : List (Nat × Value)) : Option Value :=
  match P.underlying t with
  | some (.struct fs) => (zcells P t).bind fun z => (aplaces P fs.toList).bind fun ps => (afill (ps[·]?) z parts).map fun c => .agg c.toArray
  | some (.array _ e) => (zcells P t).bind fun z => (szOf P e).bind fun s => (afill (fun i => some (i * s, s)) z parts).map fun c => .agg c.toArray
  | _ => none

theorem zcells_run {t : TypeId} {z : List Value} (h : zcells P t = some z) : ∃ zv : Value, zv.cells.toList = z ∧ (∀ w, (zeroValue t).run P w = .ok zv w) ∧ ∀ β S, VRs β S z z := by
  unfold zcells at h
  cases h1 : zeroOf P t with
  | none => simp [h1] at h
  | some zv =>
    simp only [h1, Option.bind_some] at h
    split at h
    · rename_i hn
      cases h
      exact ⟨zv, rfl, run_zeroOf h1, fun β S => VRs.refl_of_noAddrs _ _ hn⟩
    · cases h

theorem abuild_sound {t : TypeId} {v : Value} {ps ps' : List (Nat × Value)} (hp : VPs β S ps ps') (ha : abuild P t ps = some v) (w : World) :
    ∃ v', (Instr.build t ps'.toArray).run P w = .ok v' w ∧ VR β S v v' := by
  unfold abuild at ha
  split at ha
  · rename_i fs hu
    cases h1 : zcells P t with
    | none => simp [h1] at ha
    | some z =>
      simp only [h1, Option.bind_some] at ha
      cases h2 : aplaces P fs.toList with
      | none => simp [h2] at ha
      | some pl =>
        simp only [h2, Option.bind_some] at ha
        cases h3 : afill (pl[·]?) z ps with
        | none => simp [h3] at ha
        | some c =>
          simp only [h3, Option.map_some, Option.some.injEq] at ha
          subst ha
          obtain ⟨zv, rfl, hz, hr⟩ := zcells_run h1
          obtain ⟨r', e, rr⟩ := afill_sound h3 (hr β S) hp
          refine ⟨.agg r', ?_, .agg (by simpa using rr) .nil⟩
          have hm : (fs.mapM (fun f => do pure (f.offset, ← sizeOf f.type) : Field → Sem (Nat × Nat))).run P w = .ok pl.toArray w := by
            rw [← Array.toArray_toList (xs := fs), List.mapM_toArray, Sem.run_map, aplaces_run h2]; rfl
          simp only [Instr.build, Sem.run_bind, hz, Result.andThen_ok, run_underlying hu]
          rw [hm]
          simp [e]
  · rename_i len e hu
    cases h1 : zcells P t with
    | none => simp [h1] at ha
    | some z =>
      simp only [h1, Option.bind_some] at ha
      cases h2 : szOf P e with
      | none => simp [h2] at ha
      | some s =>
        simp only [h2, Option.bind_some] at ha
        cases h3 : afill (fun i => some (i * s, s)) z ps with
        | none => simp [h3] at ha
        | some c =>
          simp only [h3, Option.map_some, Option.some.injEq] at ha
          subst ha
          obtain ⟨zv, rfl, hz, hr⟩ := zcells_run h1
          obtain ⟨r', e1, rr⟩ := afill_sound h3 (hr β S) hp
          refine ⟨.agg r', ?_, .agg (by simpa using rr) .nil⟩
          simp [Instr.build, hz, run_underlying hu, run_szOf h2, e1]
  · cases ha

theorem AOp.build {t : TypeId} {parts : Array (Nat × Operand)} {ps : List (Nat × Value)} {v : Value} (ho : o.op = .build t parts) (hp : aparts A.gl a parts.toList = some ps) (h : abuild P t ps = some v) : AOp P n o a A (isR v A) :=
  .val fun w0 N w β S ae hs he => by
    obtain ⟨v', h1, h2⟩ := abuild_sound (aparts_sound hs he hp) h w
    refine ⟨v', ?_, h2⟩
    have e : (parts.map fun x => (x.1, ae.eval x.2)) = (parts.toList.map fun x => (x.1, ae.eval x.2)).toArray := by apply Array.ext'; simp
    simp only [execOp, ho]
    have : (Instr.build t (parts.map fun x => (x.1, ae.eval x.2))).run P w = .ok v' w := by rw [e]; exact h1
    simp [this]

/-- The zero cells of a row. -/
def zrow (P : Program) (e : TypeId) (len size : Nat) : Option (List Value) :=
  if len * size = 0 then some [] else (zcells P e).map fun z => (List.range (len * size)).map fun i => z.getD (i % z.length) default
def abuildSlice (P : Program) (A : AW) (t : TypeId) (len : Nat) (parts : List (Nat × Value)) : Option (Value × AW) :=
  match P.underlying t with
  | some (.slice e) => (szOf P e).bind fun s => (zrow P e len s).bind fun z => if len * s ≤ 16777216 then (afill (fun i => some (i * s, s)) z parts).map fun c => (.slice (some ⟨A.next, 0, none⟩) len len, A.push (.cells c e)) else none
  | _ => none

theorem zrow_run {e : TypeId} {len s : Nat} {z : List Value} (h : zrow P e len s = some z) (w : World) :
    ∃ zc : Array Value, (if len * s = 0 then Pure.pure #[] else do Pure.pure (← zeroValue e).cells : Sem (Array Value)).run P w = .ok zc w ∧ ((Array.range (len * s)).map (zc[· % zc.size]!)).toList = z ∧ ∀ β S, VRs β S z z := by
  unfold zrow at h
  split at h
  · rename_i q
    cases h
    exact ⟨#[], by simp [q], by simp [q], fun _ _ => .nil⟩
  · rename_i q
    cases h1 : zcells P e with
    | none => simp [h1] at h
    | some zz =>
      simp only [h1, Option.map_some, Option.some.injEq] at h
      obtain ⟨zv, hz0, hz, hr⟩ := zcells_run h1
      have hd : ∀ β S, VR β S (default : Value) default := fun β S => VRs.refl_of_noAddrs 8 _ rfl
      refine ⟨zv.cells, by simp [q, hz], ?_, ?_⟩
      · subst h
        simp only [Array.toList_map, Array.toList_range]
        apply List.map_congr_left
        intro i _
        have hl : zz.length = zv.cells.size := by rw [← hz0]; simp
        rw [hl]
        simp only [← hz0]
        rw [getElem!_def, List.getD_eq_getElem?_getD, Array.getElem?_toList]
        cases zv.cells[i % zv.cells.size]? <;> rfl
      · intro β S
        subst h
        refine VRs.of_get (by simp) fun i v v' h1 h2 => ?_
        simp only [List.getElem?_map, Option.map_eq_some_iff] at h1 h2
        obtain ⟨j, hj, rfl⟩ := h1
        obtain ⟨j', hj', rfl⟩ := h2
        rw [hj] at hj'; cases hj'
        exact (hr β S).getD (hd β S) _

theorem AOp.buildSlice {t : TypeId} {len : Nat} {parts : Array (Nat × Operand)} {ps : List (Nat × Value)} {v : Value} (ho : o.op = .buildSlice t len parts) (hp : aparts A.gl a parts.toList = some ps) (h : abuildSlice P A t len ps = some (v, A1)) : AOp P n o a A (isR v A1) :=
  .of fun w0 N w β S ae hs he => by
    unfold abuildSlice at h
    split at h
    · rename_i e hu
      cases h2 : szOf P e with
      | none => simp [h2] at h
      | some s =>
        simp only [h2, Option.bind_some] at h
        cases h3 : zrow P e len s with
        | none => simp [h3] at h
        | some z =>
          simp only [h3, Option.bind_some] at h
          split at h
          · rename_i hbig
            cases h4 : afill (fun i => some (i * s, s)) z ps with
            | none => simp [h4] at h
            | some c =>
              simp only [h4, Option.map_some, Option.some.injEq, Prod.mk.injEq] at h
              obtain ⟨rfl, rfl⟩ := h
              obtain ⟨zc, hz1, hz2, hz3⟩ := zrow_run h3 w
              obtain ⟨r', e1, rr⟩ := afill_sound (c' := (Array.range (len * s)).map (zc[· % zc.size]!)) h4 (by rw [hz2]; exact hz3 β S) (aparts_sound hs he hp)
              refine ⟨.slice (some ⟨w.heap.size, 0, none⟩) len len, w.alloc (.cells r' e), ?_, Done.newSlice hs rr e s h2 len⟩
              have ep : (parts.map fun x => (x.1, ae.eval x.2)) = (parts.toList.map fun x => (x.1, ae.eval x.2)).toArray := by apply Array.ext'; simp
              have e1' : Instr.fill (fun i => some (i * s, s)) ((Array.range (len * s)).map (zc[· % zc.size]!)) (parts.map fun x => (x.1, ae.eval x.2)).toList = some r' := by rw [ep]; simpa using e1
              simp only [execOp, ho]
              have : (Instr.buildSlice t len (parts.map fun x => (x.1, ae.eval x.2))).run P w = .ok (.slice (some ⟨w.heap.size, 0, none⟩) len len) (w.alloc (.cells r' e)) := by
                unfold Instr.buildSlice
                simp only [Sem.run_bind, run_underlying hu, Result.andThen_ok, run_szOf h2]
                rw [if_neg (by omega)]
                by_cases q : len * s = 0
                · simp only [q, if_true] at hz1 e1' ⊢
                  have ez : zc = #[] := by
                    have := hz1
                    simp at this
                    exact this
                  subst ez
                  rw [Sem.run_bind, Sem.run_pure, Result.andThen_ok]
                  rw [e1']
                  simp [newRow]
                · simp only [if_neg q] at hz1 ⊢
                  cases hzv : (zeroValue e).run P w with
                  | halt x w' => rw [Sem.run_bind, hzv] at hz1; simp at hz1
                  | ok zv w' =>
                    rw [Sem.run_bind, hzv] at hz1
                    simp only [Result.andThen_ok, Sem.run_pure, Result.ok.injEq] at hz1
                    obtain ⟨hz1, rfl⟩ := hz1
                    rw [Sem.run_bind, hzv, Result.andThen_ok, Sem.run_bind, Sem.run_pure, Result.andThen_ok, hz1]
                    rw [e1']
                    simp [newRow]
              simp [this]
          · cases h
    · cases h

theorem AOp.makeFunc {fn : Fn} {first captured : Array Operand} {vs us : List Value} (ho : o.op = .makeFunc fn first captured) (hf : ∀ l, fn ≠ .yield l) (h1 : aevs A.gl a first.toList = some vs) (h2 : aevs A.gl a captured.toList = some us) :
    AOp P n o a A (isR (.func fn vs.toArray us.toArray) A) :=
  .val fun w0 N w β S ae hs he => ⟨.func fn (first.map ae.eval) (captured.map ae.eval), by simp [execOp, ho, Instr.makeFunc], .func hf (by simpa using aevs_sound hs he h1) (by simpa using aevs_sound hs he h2) .nil⟩

end Go.M
