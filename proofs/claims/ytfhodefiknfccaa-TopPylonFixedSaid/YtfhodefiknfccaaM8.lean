/- Part 8: guards, calls, functions; a call that leaves the memory as it was. -/
import Derived.Test.YtfhodefiknfccaaM7
set_option linter.unusedVariables false
set_option linter.unusedSimpArgs false
namespace Go.M
open Go.RowKit
variable {P : Program} {w0 w w' w1 w2 : World} {N n m : Nat} {β β' β1 β2 : Bet} {S S' S1 S2 : Nat → Prop} {A A' A1 A2 : AW} {a a1 : AEnv} {ae : Act} {Q Q' : AQ}
variable {ops : Array Oper} {rest : List Oper} {o : Oper} {R : Value → AW → Prop}

theorem AL.op (hg : o.guard = none) (hd : okDst n o.dst = true) (h : AOp P n o a A R) (k : ∀ v A1, R v A1 → AL P n m ops rest (aput a o.dst v) A1 Q) : AL P n m ops (o :: rest) a A Q :=
  AL.opAny (fun _ _ _ _ => by simp [Region.wanted, hg]) hd h k

theorem yielded_of {j : Nat} {d : Tmp} {t : Bool} (hj : (ops[j]?).bind (·.dst) = some d) (ha : aget a d = some (.bool t)) (he : ER n β S a ae) : yielded ops ae.tmps j = some t := by
  obtain ⟨v', e1, r⟩ := he.get d _ ha
  cases r
  simp [yielded, hj, e1]

theorem AL.guarded {j : Nat} {b t : Bool} {d : Tmp} (hg : o.guard = some (j, b)) (hj : (ops[j]?).bind (·.dst) = some d) (ha : aget a d = some (.bool t)) (hd : okDst n o.dst = true)
    (on : t = b → AOp P n o a A R ∧ ∀ v A1, R v A1 → AL P n m ops rest (aput a o.dst v) A1 Q) (off : t = !b → AL P n m ops rest (aput a o.dst undef) A Q) : AL P n m ops (o :: rest) a A Q := by
  by_cases q : t = b
  · obtain ⟨h, k⟩ := on q
    exact AL.opAny (fun β S ae he => by simp [Region.wanted, hg, yielded_of hj ha he, q]) hd h k
  · have q' : t = !b := by cases t <;> cases b <;> simp_all
    intro w0 N w β S ae hm hs he
    unfold wpList
    rw [if_neg (by simp [Region.wanted, hg, yielded_of hj ha he, q])]
    exact off q' w0 N w β S _ hm hs (he.put hd (.tuple .nil .nil))

/-! ### Functions -/
def argEnv : Nat → List Value → AEnv
  | _, [] => []
  | k, v :: vs => (k, v) :: argEnv (k + 1) vs
theorem aget_argEnv : ∀ (vs : List Value) (k t : Nat) (v : Value), aget (argEnv k vs) t = some v → k ≤ t ∧ vs[t - k]? = some v
  | [], _, _, _, h => by cases h
  | u :: us, k, t, v, h => by
    simp only [argEnv, aget] at h
    split at h
    · rename_i e; subst e; simp; exact Option.some.inj h
    · rename_i e
      obtain ⟨h1, h2⟩ := aget_argEnv us (k + 1) t v h
      refine ⟨by omega, ?_⟩
      have : t - k = (t - (k + 1)) + 1 := by omega
      rw [this]; simpa using h2

def ares1 (P : Program) (A : AW) (a : AEnv) : ResultVar → Option Value
  | .tmp t => aget a t
  | .cell t ty => (aget a t).bind (aload P A ty)
def aresList (P : Program) (A : AW) (a : AEnv) : List ResultVar → Option (List Value)
  | [] => some []
  | r :: rs => (ares1 P A a r).bind fun v => (aresList P A a rs).map (v :: ·)
def ares (P : Program) (A : AW) (a : AEnv) (rs : List ResultVar) : Option Value :=
  (aresList P A a rs).map fun | [v] => v | vs => .tuple vs.toArray

def resSem (tmps : Array Value) : ResultVar → Sem Value
  | .tmp t => pure (tmps.getD t undef)
  | .cell a t => do loadVar t (← asAddr (tmps.getD a undef))

theorem ares1_sound (h : Sim P w0 N β S A w) (e : ER n β S a ae) {r : ResultVar} {v : Value} (hr : ares1 P A a r = some v) : ∃ v', (resSem ae.tmps r).run P w = .ok v' w ∧ VR β S v v' := by
  cases r with
  | tmp t =>
    obtain ⟨v', e1, r⟩ := e.get t v hr
    exact ⟨v', by simp [resSem, e1], r⟩
  | cell t ty =>
    simp only [ares1] at hr
    cases ht : aget a t with
    | none => simp [ht] at hr
    | some x =>
      simp only [ht, Option.bind_some] at hr
      obtain ⟨x', e1, rx⟩ := e.get t x ht
      obtain ⟨v', hv, rv⟩ := aload_sound h rx hr
      refine ⟨v', ?_, rv⟩
      unfold aload at hr
      split at hr
      · cases rx with
        | ptr _ _ _ => simpa [resSem, e1, asAddr, Instr.loadAt, Instr.sureAddr] using hv
        | ptrD _ _ _ => simpa [resSem, e1, asAddr, Instr.loadAt, Instr.sureAddr] using hv
      · cases hr

theorem aresList_sound (h : Sim P w0 N β S A w) (e : ER n β S a ae) : ∀ {rs : List ResultVar} {vs : List Value}, aresList P A a rs = some vs → ∃ vs', (rs.mapM (resSem ae.tmps)).run P w = .ok vs' w ∧ VRs β S vs vs'
  | [], vs, hr => by cases hr; exact ⟨[], rfl, .nil⟩
  | r :: rs, vs, hr => by
    simp only [aresList] at hr
    cases h1 : ares1 P A a r with
    | none => simp [h1] at hr
    | some v =>
      simp only [h1, Option.bind_some] at hr
      cases h2 : aresList P A a rs with
      | none => simp [h2] at hr
      | some us =>
        simp only [h2, Option.map_some, Option.some.injEq] at hr
        subst hr
        obtain ⟨v', e1, r1⟩ := ares1_sound h e h1
        obtain ⟨us', e2, r2⟩ := aresList_sound h e h2
        exact ⟨v' :: us', by simp [List.mapM_cons, e1, e2], VRs.cons r1 r2⟩

theorem ares_sound (h : Sim P w0 N β S A w) (e : ER n β S a ae) {fn : Func} {v : Value} (hr : ares P A a fn.results.toList = some v) : ∃ v', (results fn ae.tmps).run P w = .ok v' w ∧ VR β S v v' := by
  unfold ares at hr
  cases h1 : aresList P A a fn.results.toList with
  | none => simp [h1] at hr
  | some vs =>
    simp only [h1, Option.map_some, Option.some.injEq] at hr
    obtain ⟨vs', e1, r1⟩ := aresList_sound h e h1
    have hrun : (results fn ae.tmps).run P w = .ok (if h : vs'.toArray.size = 1 then vs'.toArray[0] else .tuple vs'.toArray) w := by
      have e0 : results fn ae.tmps = (do let vs ← fn.results.mapM (resSem ae.tmps); pure (if h : vs.size = 1 then vs[0] else .tuple vs)) := by
        unfold results
        congr 1
      have e2 : (fn.results.mapM (resSem ae.tmps)).run P w = .ok vs'.toArray w := by
        rw [← Array.toArray_toList (xs := fn.results), List.mapM_toArray, Sem.run_map, e1]; rfl
      rw [e0, Sem.run_bind, e2]
      rfl
    refine ⟨_, hrun, ?_⟩
    subst hr
    have hl := r1.length
    match vs, vs', hl, r1 with
    | [v], [v'], _, r1 => simpa using r1
    | [], [], _, r1 => simpa using VRs.tuple (.nil : VRs β S [] []) .nil
    | a :: b :: c, a' :: b' :: c', _, r1 => simp; exact .tuple (by simpa using r1) .nil

def AEnd (P : Program) (rs : List ResultVar) (R : Value → AW → Prop) : AQ
  | .normal, a, A => ∃ v, ares P A a rs = some v ∧ R v A
  | .ret, a, A => ∃ v, ares P A a rs = some v ∧ R v A
  | _, _, _ => False

theorem AC.enter {f : FuncId} {fn : Func} {c : Code} {args : List Value} (hf : P.funcs[f]? = some fn) (hb : fn.body = some c) (hn : fn.ntmps = n) (hl : args.length ≤ n)
    (h : AT P n A.next c (argEnv 0 args) A (AEnd P fn.results.toList R)) : AC P f args A R := by
  intro w0 N w β S args' hs hv
  have hlen := hv.length
  simp only [Array.length_toList] at hlen
  refine calls_of_wp hf hb (Code.wp_mono ?_ (h w0 N w β S _ (Nat.le_refl _) hs ⟨by simp [hn]; omega, rfl, fun t v ht => ?_⟩))
  · intro e ae1 w1 ⟨β1, S1, a1, A1, hx, hy, hz⟩
    cases e with
    | normal =>
      obtain ⟨v, e1, hr⟩ := hz
      obtain ⟨v', e2, rv⟩ := ares_sound hx.sim hy e1
      exact ⟨hy.defers, v', e2, β1, S1, v, A1, hx, rv, hr⟩
    | ret =>
      obtain ⟨v, e1, hr⟩ := hz
      obtain ⟨v', e2, rv⟩ := ares_sound hx.sim hy e1
      exact ⟨hy.defers, v', e2, β1, S1, v, A1, hx, rv, hr⟩
    | exit id => exact hz.elim
    | goto l => exact hz.elim
    | panic ch => exact hz.elim
    | outgrown => exact hz.elim
  · obtain ⟨_, h2⟩ := aget_argEnv args 0 t v ht
    simp only [Nat.sub_zero] at h2
    obtain ⟨v', e, r⟩ := hv.get h2
    refine ⟨v', ?_, r⟩
    have hlt : t < args'.size := by
      have := (List.getElem?_eq_some_iff.1 h2).1
      omega
    rw [Array.getElem?_append_left hlt, ← Array.getElem?_toList, e]

/-! ### What a call leaves as it was -/
def Loc.zero (L : Loc) : Loc := { L with esz := 0 }
theorem VRs.zero {vs vs' : List Value} (h : VRs β S vs vs') : VRs (fun i => (β i).map Loc.zero) S vs vs' := by
  induction h with
  | nil => exact .nil
  | bool _ ih => exact .bool ih
  | int _ ih => exact .int ih
  | float _ ih => exact .float ih
  | complex _ ih => exact .complex ih
  | string _ ih => exact .string ih
  | ptr0 _ ih => exact .ptr0 ih
  | @ptr b o L _ _ hs hb _ ih => exact .ptr (L := L.zero) hs (by simp [hb]) ih
  | ptrD hs hb _ ih => exact .ptrD hs (by simp [hb]) ih
  | sl0 _ ih => exact .sl0 ih
  | @sl b o L _ _ _ _ _ hs hb hc ho _ ih => exact .sl (L := L.zero) hs (by simp [hb]) hc (.inr (.inl rfl)) ih
  | slD hs hb hc _ ih => exact .slD hs (by simp [hb]) hc ih
  | map0 _ ih => exact .map0 ih
  | @map b L _ _ hs hb _ ih => exact .map (L := L.zero) hs (by simp [hb]) ih
  | mapD hs hb _ ih => exact .mapD hs (by simp [hb]) ih
  | chan0 _ ih => exact .chan0 ih
  | func hy _ _ _ i1 i2 i3 => exact .func hy i1 i2 i3
  | @yield b L _ _ hs hb _ ih => exact .yield (L := L.zero) hs (by simp [hb]) ih
  | yieldD hs hb _ ih => exact .yieldD hs (by simp [hb]) ih
  | nilFunc _ ih => exact .nilFunc ih
  | nilIface _ ih => exact .nilIface ih
  | iface _ _ i1 i2 => exact .iface i1 i2
  | agg _ _ i1 i2 => exact .agg i1 i2
  | tuple _ _ i1 i2 => exact .tuple i1 i2

/-- The memory, with nothing to write. -/
def AW.shut (A : AW) : AW := { A with ro := A.next }

theorem Sim.shut (h : Sim P w0 N β S A w) : Sim P w w.heap.size (fun i => (β i).map Loc.zero) S A.shut w := by
  have old : ∀ i L, A.next ≤ i → (β i).map Loc.zero = some L → False := fun i L hi hb => by
    cases e : β i with
    | none => simp [e] at hb
    | some L0 =>
      obtain ⟨o, ho, _⟩ := h.of_live e
      have := h.lt i o ho
      omega
  refine ⟨.refl _ _, Nat.le_refl _, ?_, ?_, h.lt, fun i j L L' hi _ hb _ => (old i L hi hb).elim, fun i L hi hb => (old i L hi hb).elim, h.sub, Nat.le_refl _, ?_, Nat.le_trans h.gle h.role, ?_⟩
  · intro i o ho
    obtain ⟨L, hb, r⟩ := h.live i o ho
    have hlt := h.lt i o ho
    refine ⟨L.zero, by simp [hb], ?_⟩
    have hd : decide (A.shut.ro ≤ i) = false := by
      show decide (A.next ≤ i) = false
      simp only [decide_eq_false_iff_not]; omega
    rw [hd]
    cases o with
    | cells c e => obtain ⟨cs, e', fz, h1, h2, h3, h4, h5⟩ := r; exact ⟨cs, e', fz, h1, h2, h3, h4.zero, by simp⟩
    | map es k => obtain ⟨es', h1, h2, h3, h4, h5⟩ := r; exact ⟨es', h1, h2, h3, h4, h5.zero⟩
    | iter s p => exact r
  · intro i hi; simp [h.dead i hi]
  · intro g hg
    obtain ⟨hs, L, e1, e2, e3⟩ := h.glob g hg
    exact ⟨hs, L.zero, by simp [e1], e2, e3⟩
  · intro i L _ hb
    cases e : β i with
    | none => simp [e] at hb
    | some L0 => simp [e] at hb; subst hb; rfl

theorem Sim.again (h : Sim P w0 N β S A w) (hb : Below w.heap.size w w1) : Sim P w0 N β S A w1 := by
  refine ⟨⟨hb.os.trans h.below.os, hb.tape.trans h.below.tape, hb.output.trans h.below.output, Nat.le_trans h.below.size hb.size, fun k hk => (hb.block k (Nat.lt_of_lt_of_le hk h.size_le)).trans (h.below.block k hk)⟩, h.Nle, fun i o ho => ?_, h.dead, h.lt, h.inj, h.hi, h.sub, h.role, h.glob, h.gle, h.roz⟩
  obtain ⟨L, e, r⟩ := h.live i o ho
  exact ⟨L, e, r.mono (fun _ _ => .inl rfl) (fun _ h => h) (hb.block _ r.lt)⟩

/-- A call that may not write, and gives a value without addresses, leaves the memory as it was. -/
theorem AC.pure {f : FuncId} {args : List Value} {R : Value → Prop} (h : AC P f args A.shut (fun v _ => R v ∧ ∃ k, noAddrs k [v] = true)) : AC P f args A (fun v A1 => R v ∧ A1 = A) := by
  intro w0 N w β S args' hs hv
  refine Calls.mono (h w w.heap.size w (fun i => (β i).map Loc.zero) S args' hs.shut hv.zero) fun e w1 he => ?_
  cases e with
  | returned v' =>
    obtain ⟨β1, S1, v, A1, h1, h2, hr, k, hk⟩ := he
    have q : [v'] = [v] := VRs.eq_of_noAddrs h2 k hk
    have q : v' = v := by simpa using q
    subst q
    exact ⟨β, S, v', A, ⟨hs.again h1.sim.below, .refl _ _ _, Nat.le_refl _, rfl, rfl⟩, VRs.refl_of_noAddrs k _ hk, hr, rfl⟩
  | panicked => exact he
  | outgrown => exact he

end Go.M
