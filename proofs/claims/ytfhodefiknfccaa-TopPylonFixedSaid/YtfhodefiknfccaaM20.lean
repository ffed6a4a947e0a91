/- Part 20: names anew; calls that give a slice. -/
import Derived.Test.YtfhodefiknfccaaM19
set_option linter.unusedVariables false
set_option linter.unusedSimpArgs false
namespace Go.M
open Go.RowKit
variable {P : Program} {w0 w w' w1 w2 : World} {N n m : Nat} {β β' β1 β2 : Bet} {S S' S1 S2 : Nat → Prop} {A A' A1 A2 A0 : AW} {a a1 a0 : AEnv} {ae : Act} {Q Q' : AQ} {L L' : LM} {nx nx' ro gl k : Nat}

/-- All addresses of these values are below 'k'. -/
def Lt (k : Nat) (vs : List Value) : Prop := ∀ (β : Bet) (S : Nat → Prop) (vs' : List Value), VRs β S vs vs' → VRs β (fun i => S i ∧ i < k) vs vs'
theorem Lt.flat {j : Nat} {vs : List Value} (h : noAddrs j vs = true) : Lt k vs := fun β S vs' hv => by
  have e := VRs.eq_of_noAddrs hv j h
  subst e
  exact VRs.refl_of_noAddrs j _ h
theorem Lt.nil : Lt k [] := fun β S vs' hv => by cases hv; exact .nil
theorem Lt.cons {v : Value} {vs : List Value} (h1 : Lt k [v]) (h2 : Lt k vs) : Lt k (v :: vs) := fun β S vs' hv => by
  cases vs' with
  | nil => have := hv.length; simp at this
  | cons v' vs' => exact VRs.cons (h1 β S [v'] hv.cons_inv.1) (h2 β S vs' hv.cons_inv.2)
theorem Lt.ptr {b o : Nat} (h : Nat.blt b k = true) : Lt k [.pointer (some ⟨b, o, none⟩)] := fun β S vs' hv => by
  have h := Nat.lt_of_lt_of_le (Nat.lt_succ_self b) (Nat.le_of_ble_eq_true h)
  cases vs' with
  | nil => have := hv.length; simp at this
  | cons v' vs' =>
    have e : vs' = [] := by have := hv.length; simp at this; exact this
    subst e
    cases hv with
    | ptr hs hb _ => exact .ptr ⟨hs, h⟩ hb .nil
    | ptrD hs hb _ => exact .ptrD ⟨hs, h⟩ hb .nil
theorem Lt.sl {b o l c : Nat} (h : Nat.blt b k = true) : Lt k [.slice (some ⟨b, o, none⟩) l c] := fun β S vs' hv => by
  have h := Nat.lt_of_lt_of_le (Nat.lt_succ_self b) (Nat.le_of_ble_eq_true h)
  cases vs' with
  | nil => have := hv.length; simp at this
  | cons v' vs' =>
    have e : vs' = [] := by have := hv.length; simp at this; exact this
    subst e
    cases hv with
    | sl hs hb h1 h2 _ => exact .sl ⟨hs, h⟩ hb h1 h2 .nil
    | slD hs hb h1 _ => exact .slD ⟨hs, h⟩ hb h1 .nil
theorem Lt.map {b : Nat} (h : Nat.blt b k = true) : Lt k [.map (some b)] := fun β S vs' hv => by
  have h := Nat.lt_of_lt_of_le (Nat.lt_succ_self b) (Nat.le_of_ble_eq_true h)
  cases vs' with
  | nil => have := hv.length; simp at this
  | cons v' vs' =>
    have e : vs' = [] := by have := hv.length; simp at this; exact this
    subst e
    cases hv with
    | map hs hb _ => exact .map ⟨hs, h⟩ hb .nil
    | mapD hs hb _ => exact .mapD ⟨hs, h⟩ hb .nil
theorem Lt.func {fn : Fn} {f c : Array Value} (h1 : Lt k f.toList) (h2 : Lt k c.toList) (hf : ∀ l, fn ≠ .yield l) : Lt k [.func fn f c] := fun β S vs' hv => by
  cases vs' with
  | nil => have := hv.length; simp at this
  | cons v' vs' =>
    have e : vs' = [] := by have := hv.length; simp at this; exact this
    subst e
    cases hv with
    | func hy g1 g2 _ => exact .func hy (h1 β S _ g1) (h2 β S _ g2) .nil
    | yield _ _ _ => exact absurd rfl (hf _)
    | yieldD _ _ _ => exact absurd rfl (hf _)
theorem Lt.agg {c : Array Value} (h : Lt k c.toList) : Lt k [.agg c] := fun β S vs' hv => by
  cases vs' with
  | nil => have := hv.length; simp at this
  | cons v' vs' =>
    have e : vs' = [] := by have := hv.length; simp at this; exact this
    subst e
    cases hv with
    | agg g _ => exact .agg (h β S _ g) .nil

/-- An object that only points below 'k'. -/
def ObjLt (k : Nat) : AObj → Prop
  | .cells c _ => Lt k c
  | .map es _ => Lt k (es.map (·.val))
  | .iter _ _ => True

theorem Sim.reset (h : Sim P w0 N β S A w) (hr : A'.ro = A.ro) (hg : A'.gl = A.gl) (hrk : A'.ro ≤ A'.next)
    (hsub : ∀ j o, A'.objs j = some o → A.objs j = some o ∧ j < A'.next ∧ ObjLt A'.next o) (hglob : ∀ g, g < A'.gl → (A'.objs g).isSome = true) :
    Sim P w0 N (fun j => if (A'.objs j).isSome then β j else none) (fun j => S j ∧ j < A'.next) A' w := by
  have hb' : ∀ j L, (if (A'.objs j).isSome then β j else none) = some L → β j = some L := fun j L hj => by
    split at hj
    · exact hj
    · cases hj
  refine ⟨h.below, h.Nle, fun i o ho => ?_, fun i hi => by simp [hi], fun i o ho => (hsub i o ho).2.1, fun i j L1 L2 hi hij h1 h2 => h.inj i j L1 L2 (hr ▸ hi) hij (hb' i L1 h1) (hb' j L2 h2),
    fun i L hi hb => h.hi i L (hr ▸ hi) (hb' i L hb), fun i hi => hi.2, hrk, fun g hgl => ?_, by rw [hg, hr]; exact h.gle, fun i L hi hb => h.roz i L (hr ▸ hi) (hb' i L hb)⟩
  · obtain ⟨h1, h2, h3⟩ := hsub i o ho
    obtain ⟨L, e, r⟩ := h.live i o h1
    refine ⟨L, by simp [ho, e], ?_⟩
    have mono : ∀ {vs vs' : List Value}, Lt A'.next vs → VRs β S vs vs' → VRs (fun j => if (A'.objs j).isSome then β j else none) (fun j => S j ∧ j < A'.next) vs vs' := fun hl hv =>
      (hl β S _ hv).mono (fun j _ => by by_cases q : (A'.objs j).isSome <;> simp [q]) (fun _ hj => hj)
    rw [hr]
    cases o with
    | cells c e => obtain ⟨cs, e', fz, g1, g2, g3, g4, g5⟩ := r; exact ⟨cs, e', fz, g1, g2, g3, mono h3 g4, g5⟩
    | map es k => obtain ⟨es', g1, g2, g3, g4, g5⟩ := r; exact ⟨es', g1, g2, g3, g4, mono h3 g5⟩
    | iter s p => exact r
  · obtain ⟨hs, L, e1, e2⟩ := h.glob g (hg ▸ hgl)
    have := hglob g hgl
    have hlt := (hsub g _ (Option.eq_some_of_isSome this)).2.1
    exact ⟨⟨hs, hlt⟩, L, by simp [this, e1], e2⟩

/-- Parts of the memory. -/
def subm (L' L : LM) : Prop := ∀ j o, alook L' j = some o → alook L j = some o
theorem subm_nil : subm [] L := fun _ _ h => by cases h
theorem subm_cons {d : Nat} {v : AObj} {r : LM} (h : alook L d = some v) (hr : subm r L) : subm ((d, v) :: r) L := fun t u hu => by
  simp only [alook] at hu
  split at hu
  · rename_i e; subst e; cases hu; exact h
  · exact hr t u hu
/-- All objects are below 'k', and point below it. -/
inductive Under (k : Nat) : LM → Prop
  | nil : Under k []
  | cons {j : Nat} {o : AObj} {r : LM} : Nat.blt j k = true → ObjLt k o → Under k r → Under k ((j, o) :: r)
theorem Under.look {L : LM} (h : Under k L) : ∀ j o, alook L j = some o → j < k ∧ ObjLt k o := by
  induction h with
  | nil => intro j o ho; cases ho
  | @cons i x r hb hx _ ih =>
    intro j o ho
    simp only [alook] at ho
    split at ho
    · rename_i e; subst e; cases ho; exact ⟨Nat.lt_of_lt_of_le (Nat.lt_succ_self _) (Nat.le_of_ble_eq_true hb), hx⟩
    · exact ih j o ho
inductive EnvLt (k : Nat) : AEnv → Prop
  | nil : EnvLt k []
  | cons {t : Nat} {v : Value} {r : AEnv} : Lt k [v] → EnvLt k r → EnvLt k ((t, v) :: r)
theorem EnvLt.get {a : AEnv} (h : EnvLt k a) : ∀ {t : Nat} {v : Value}, aget a t = some v → Lt k [v] := by
  induction h with
  | nil => intro t v hv; cases hv
  | cons h1 _ ih =>
    intro t v hv
    simp only [aget] at hv
    split at hv
    · cases hv; exact h1
    · exact ih hv

/-- Names anew: what is left of the environment and of the memory has names below 'k'. -/
theorem GT.reset {c : Code} (k : Nat) (ha : asub a1 a) (hL : subm L' L) (hk : k ≤ nx) (hm : Nat.ble m k = true) (hro : Nat.ble ro k = true) (hu : Under k L') (he : EnvLt k a1) (hg : ∀ g, g < gl → (alook L' g).isSome = true)
    (h : GT P n m c a1 L' k ro gl Q) : GT P n m c a L nx ro gl Q := by
  refine ⟨fun w0 N w β S ae hmn hs her => ?_⟩
  have hm := Nat.le_of_ble_eq_true hm
  have hro := Nat.le_of_ble_eq_true hro
  have hs' := hs.reset (A' := AW.of L' k ro gl) rfl rfl hro (fun j o ho => ⟨hL j o ho, hu.look j o ho⟩) hg
  refine Code.wp_mono (fun e ae1 w1 g => ?_) (h.run w0 N w _ _ ae hm hs' ?_)
  · obtain ⟨β1, S1, a2, A2, hx, hy, hz⟩ := g
    refine ⟨β1, S1, a2, A2, ⟨hx.sim, ?_, hx.next, hx.ro, hx.gl⟩, hy, hz⟩
    have near1 : Near m β S (fun j => if ((AW.of L' k ro gl).objs j).isSome then β j else none) (fun j => S j ∧ j < (AW.of L' k ro gl).next) :=
      ⟨fun i _ _ => by by_cases q : ((AW.of L' k ro gl).objs i).isSome <;> simp [q], fun i hi hsi => ⟨hsi, by show i < k; omega⟩, fun i _ hsi => hsi.1⟩
    exact near1.trans hx.near (Nat.le_refl _)
  · refine ⟨her.size, her.defers, fun t v hv => ?_⟩
    obtain ⟨v', e1, r⟩ := her.get t v (ha t v hv)
    refine ⟨v', e1, ?_⟩
    exact (he.get hv β S _ r).mono (fun j _ => by by_cases q : ((AW.of L' k ro gl).objs j).isSome <;> simp [q]) (fun _ hj => hj)

/-- A call that gives a slice of its own. -/
theorem AC.gives {f : FuncId} {args args2 : List Value} {k len cap : Nat} {cs : List Value} {e : TypeId} (ρ : Nat → Option (Nat × Nat))
    (h : AC P f args (AW.of L k k 0) (fun v A1 => ∃ nm, v = .slice (some ⟨nm, 0, none⟩) len cap ∧ A1.objs nm = some (.cells cs e) ∧ k ≤ nm)) (hcs : ∃ j, noAddrs j cs = true)
    (hk : ∀ j x, ρ j = some x → j < k) (hd : ∀ j, alook L j = none → ρ j = none) (hL : ∀ j o, alook L j = some o → j < k ∧ ∃ x, ρ j = some x ∧ objIn A x.1 x.2 o) (ha : AR ρ args args2) :
    AC P f args2 A (isR (.slice (some ⟨A.next, 0, none⟩) len cap) (A.push (.cells cs e))) := by
  intro w0 N w β S args' hs hv
  refine Calls.mono (h w w.heap.size w _ _ args' (hs.small hk hd hL) (ha.vrs hk hv)) fun en w1 he => ?_
  cases en with
  | panicked => exact he
  | outgrown => exact he
  | returned v' =>
    obtain ⟨β1, S1, v, A1, h1, h2, nm, rfl, hob, hnm⟩ := he
    obtain ⟨L1, hb1, cs', e', fz, g1, g2, g3, g4, g5⟩ := h1.sim.live nm _ hob
    have hro : A1.ro ≤ nm := by rw [h1.ro]; exact hnm
    have hblk := h1.sim.hi nm L1 hro hb1
    obtain ⟨j, hj⟩ := hcs
    have e4 := VRs.eq_of_noAddrs g4 j hj
    have hagain := hs.again h1.sim.below
    have hcl := hagain.claim (w' := w1) (.cells cs e) L1 (fun i L' hi => by have := hs.blk_lt hi; omega) (by have := hs.size_le; omega) hagain.below (fun _ _ _ => rfl)
      ⟨cs', e', fz, g1, g2, g3, by rw [e4]; exact VRs.refl_of_noAddrs j _ hj, fun _ => g5 (by simp [hro])⟩
    refine ⟨_, _, _, _, ⟨hcl.1, hcl.2.near, by show A.next ≤ A.next + 1; omega, rfl, rfl⟩, ?_, rfl, rfl⟩
    cases h2 with
    | sl sa sb d f =>
      rw [hb1] at sb; cases sb
      exact .sl (.inr rfl) (by simp) d f .nil
    | slD sa sb d => rw [hb1] at sb; cases sb
theorem GO.push {o : Oper} {v : Value} {x : AObj} (h : GO P n o a L nx ro gl (isR v ((AW.of L nx ro gl).push x))) : GO P n o a L nx ro gl (isR v (AW.of ((nx, x) :: L) (nx + 1) ro gl)) := by
  rw [AW.of_push] at h; exact h
/-- One object, of which a call makes a slice of its own. -/
theorem AC.gives1 {f : FuncId} {args args2 : List Value} {x : AObj} {b g len cap : Nat} {cs : List Value} {e : TypeId}
    (h : AC P f args (AW.of [(0, x)] 1 1 0) (fun v A1 => ∃ nm, v = .slice (some ⟨nm, 0, none⟩) len cap ∧ A1.objs nm = some (.cells cs e) ∧ 1 ≤ nm)) (hcs : ∃ j, noAddrs j cs = true) (ho : objIn A b g x)
    (ha : AR (fun j => if j = 0 then some (b, g) else none) args args2) : AC P f args2 A (isR (.slice (some ⟨A.next, 0, none⟩) len cap) (A.push (.cells cs e))) :=
  AC.gives (L := [(0, x)]) (k := 1) (fun j => if j = 0 then some (b, g) else none) h hcs (fun j x hx => by split at hx <;> simp_all) (fun j hj => by
      by_cases q : j = 0
      · subst q; simp [alook] at hj
      · simp [q])
    (fun j o' ho' => by
      simp only [alook] at ho'
      split at ho'
      · rename_i e; subst e; cases ho'; exact ⟨by omega, (b, g), by simp, ho⟩
      · cases ho') ha
theorem GO.eq {o : Oper} {t t2 : TypeId} {X Y : Operand} {xs ys : Array Value} {b : Bool} {d : Nat} (ho : o.op = .binOp .eql t X Y t2) (hx : aev gl a X = some (.agg xs)) (hy : aev gl a Y = some (.agg ys)) (nx : noAddrs 64 [.agg xs] = true) (ny : noAddrs 64 [.agg ys] = true)
    (hg : P.eqGuardType P.depth t = false) (hb : aeq P d t (.agg xs) (.agg ys) = some b) (hd : Nat.ble d 10000 = true) : GO P n o a L nx' ro gl (isR (.bool b) (AW.of L nx' ro gl)) :=
  ⟨by have := AOp.eqAgg (P := P) (n := n) (A := AW.of L nx' ro gl) ho (.inl rfl) hx hy nx ny hg hb (Nat.le_of_ble_eq_true hd); simpa using this⟩
theorem GO.ne {o : Oper} {t t2 : TypeId} {X Y : Operand} {xs ys : Array Value} {b : Bool} {d : Nat} (ho : o.op = .binOp .neq t X Y t2) (hx : aev gl a X = some (.agg xs)) (hy : aev gl a Y = some (.agg ys)) (nx : noAddrs 64 [.agg xs] = true) (ny : noAddrs 64 [.agg ys] = true)
    (hg : P.eqGuardType P.depth t = false) (hb : aeq P d t (.agg xs) (.agg ys) = some b) (hd : Nat.ble d 10000 = true) : GO P n o a L nx' ro gl (isR (.bool (!b)) (AW.of L nx' ro gl)) :=
  ⟨by have := AOp.eqAgg (P := P) (n := n) (A := AW.of L nx' ro gl) ho (.inr rfl) hx hy nx ny hg hb (Nat.le_of_ble_eq_true hd); simpa using this⟩
end Go.M
