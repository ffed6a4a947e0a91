/- Part 15: memory as a list; contracts in a small memory, carried to any. -/
import Derived.Test.YtfhodefiknfccaaM14
set_option linter.unusedVariables false
set_option linter.unusedSimpArgs false
namespace Go.M
open Go.RowKit
variable {P : Program} {w0 w w' w1 w2 : World} {N n m : Nat} {β β' β1 β2 : Bet} {S S' S1 S2 : Nat → Prop} {A A' A1 A2 A0 : AW} {a a1 a0 : AEnv} {ae : Act} {Q Q' : AQ}

def alook : List (Nat × AObj) → Nat → Option AObj
  | [], _ => none
  | (s, o) :: r, t => if s = t then some o else alook r t
def AW.of (L : List (Nat × AObj)) (nx ro gl : Nat) : AW := ⟨alook L, nx, ro, gl⟩
theorem AW.of_push {L : List (Nat × AObj)} {nx ro gl : Nat} (o : AObj) : (AW.of L nx ro gl).push o = AW.of ((nx, o) :: L) (nx + 1) ro gl := by
  simp only [AW.push, AW.of, AW.mk.injEq, and_true]
  funext j
  simp only [alook, eq_comm]
def aset : List (Nat × AObj) → Nat → AObj → List (Nat × AObj)
  | [], j, o => [(j, o)]
  | (s, x) :: r, j, o => if s = j then (s, o) :: r else (s, x) :: aset r j o
theorem alook_aset : ∀ (L : List (Nat × AObj)) (j : Nat) (o : AObj) (i : Nat), alook (aset L j o) i = if i = j then some o else alook L i
  | [], j, o, i => by simp only [aset, alook, eq_comm]
  | (s, x) :: r, j, o, i => by
    simp only [aset]
    split
    · rename_i e; subst e
      simp only [alook]
      by_cases q : s = i
      · subst q; simp
      · simp [q, Ne.symm q]
    · rename_i e
      simp only [alook, alook_aset r j o i]
      by_cases q : s = i
      · subst q; simp [e]
      · simp [q]
theorem AW.of_upd {L : List (Nat × AObj)} {nx ro gl : Nat} (j : Nat) (o : AObj) : (AW.of L nx ro gl).upd j (some o) = AW.of (aset L j o) nx ro gl := by
  simp only [AW.upd, AW.of, AW.mk.injEq, and_true]
  funext i
  rw [alook_aset]

/-! ### Contracts, carried to any memory -/
/-- Arguments alike but for the names of what they point to. -/
inductive AR (ρ : Nat → Option (Nat × Nat)) : List Value → List Value → Prop
  | nil : AR ρ [] []
  | flat {v vs vs'} {k : Nat} : noAddrs k [v] = true → AR ρ vs vs' → AR ρ (v :: vs) (v :: vs')
  | ptr {j b f g h vs vs'} : ρ j = some (b, f) → h = f + g → AR ρ vs vs' → AR ρ (.pointer (some ⟨j, g, none⟩) :: vs) (.pointer (some ⟨b, h, none⟩) :: vs')
  | sl {j b f g h n c vs vs'} : ρ j = some (b, f) → h = f + g → AR ρ vs vs' → AR ρ (.slice (some ⟨j, g, none⟩) n c :: vs) (.slice (some ⟨b, h, none⟩) n c :: vs')
  | map {j b f vs vs'} : ρ j = some (b, f) → AR ρ vs vs' → AR ρ (.map (some j) :: vs) (.map (some b) :: vs')

def objIn (A : AW) (b f : Nat) : AObj → Prop
  | .cells c _ => A.rd b f c.length = some c ∧ ∃ n, noAddrs n c = true
  | .map es k => A.objs b = some (.map es k) ∧ ∃ n, noAddrs n (es.map (·.val)) = true
  | .iter _ _ => False

def small (ρ : Nat → Option (Nat × Nat)) (k : Nat) (β : Bet) : Bet := fun j => if j < k then (ρ j).bind fun x => (β x.1).map fun L => ⟨L.blk, L.off + x.2, 0, L.tot⟩ else none

theorem AR.vrs {ρ : Nat → Option (Nat × Nat)} {k : Nat} {vs us : List Value} (h : AR ρ vs us) (hk : ∀ j x, ρ j = some x → j < k) : ∀ {vs' : List Value}, VRs β S us vs' → VRs (small ρ k β) (fun j => j < k) vs vs' := by
  induction h with
  | nil => intro vs' hv; cases hv; exact .nil
  | @flat v vs us kk hn _ ih =>
    intro vs' hv
    cases vs' with
    | nil => have := hv.length; simp at this
    | cons v' vs' =>
      have e : v' = v := by have := VRs.eq_of_noAddrs hv.cons_inv.1 kk hn; simpa using this
      subst e
      exact VRs.cons (VRs.refl_of_noAddrs kk _ hn) (ih hv.cons_inv.2)
  | @ptr j b f g h vs us hr he _ ih =>
    intro vs' hv
    have hj := hk j _ hr
    cases hv with
    | @ptr _ _ L _ _ hs hb hv =>
      have : small ρ k β j = some ⟨L.blk, L.off + f, 0, L.tot⟩ := by simp [small, hj, hr, hb]
      have q := VRs.ptr (S := fun j => j < k) (o := g) hj this (ih hv)
      rw [he, ← Nat.add_assoc]; exact q
    | ptrD hs hb hv => exact .ptrD hj (by simp [small, hj, hr, hb]) (ih hv)
  | @sl j b f g h n c vs us hr he _ ih =>
    intro vs' hv
    have hj := hk j _ hr
    cases hv with
    | @sl _ _ L _ _ _ _ _ hs hb hc ho hv =>
      have : small ρ k β j = some ⟨L.blk, L.off + f, 0, L.tot⟩ := by simp [small, hj, hr, hb]
      have q := VRs.sl (S := fun j => j < k) (o := g) (n := n) hj this hc (.inr (.inl rfl)) (ih hv)
      rw [he, ← Nat.add_assoc]; exact q
    | slD hs hb hc hv => exact .slD hj (by simp [small, hj, hr, hb]) hc (ih hv)
  | @map j b f vs us hr _ ih =>
    intro vs' hv
    have hj := hk j _ hr
    cases hv with
    | @map _ L _ _ hs hb hv =>
      have : small ρ k β j = some ⟨L.blk, L.off + f, 0, L.tot⟩ := by simp [small, hj, hr, hb]
      exact VRs.map (S := fun j => j < k) (L := ⟨L.blk, L.off + f, 0, L.tot⟩) hj this (ih hv)
    | mapD hs hb hv => exact .mapD hj (by simp [small, hj, hr, hb]) (ih hv)

theorem Sim.small {ρ : Nat → Option (Nat × Nat)} {k : Nat} {L : List (Nat × AObj)} (h : Sim P w0 N β S A w) (hk : ∀ j x, ρ j = some x → j < k) (hd : ∀ j, alook L j = none → ρ j = none)
    (hL : ∀ j o, alook L j = some o → j < k ∧ ∃ x, ρ j = some x ∧ objIn A x.1 x.2 o) : Sim P w w.heap.size (small ρ k β) (fun j => j < k) (AW.of L k k 0) w := by
  have hlt : ∀ j L', M.small ρ k β j = some L' → j < k := fun j L' hj => by
    unfold M.small at hj
    split at hj
    · assumption
    · cases hj
  refine ⟨.refl _ _, Nat.le_refl _, ?_, fun j hj => ?_, fun j o ho => (hL j o ho).1, fun i j L1 L2 hi _ hb _ => ?_, fun i L1 hi hb => ?_, fun j hj => hj, Nat.le_refl _, fun g hg => ?_, Nat.zero_le _, fun j L1 _ hb => ?_⟩
  · intro j o ho
    obtain ⟨hj, ⟨b, f⟩, hr, hin⟩ := hL j o ho
    have hdec : decide ((AW.of L k k 0).ro ≤ j) = false := by
      show decide (k ≤ j) = false
      simp only [decide_eq_false_iff_not]; omega
    rw [hdec]
    cases o with
    | cells c e =>
      obtain ⟨h1, nn, h2⟩ := hin
      unfold AW.rd at h1
      split at h1
      · rename_i c0 e0 hob
        split at h1
        · rename_i hfit
          simp only [Option.some.injEq] at h1
          obtain ⟨L0, hb, cs, e', fz, g1, g2, g3, g4, _⟩ := h.live b _ hob
          refine ⟨⟨L0.blk, L0.off + f, 0, L0.tot⟩, by simp [M.small, hj, hr, hb], cs, e', fz, g1, g2, by show L0.off + f + c.length ≤ L0.tot; omega, ?_, by simp⟩
          have hc : VRs β S c ((cs.toList.drop (L0.off + f)).take c.length) := by
            rw [← list_inner cs.toList L0.off c0.length f c.length hfit]
            have := (g4.drop f).take c.length
            rw [h1] at this
            exact this
          have e1 := VRs.eq_of_noAddrs hc nn h2
          show VRs _ _ c ((cs.toList.drop (L0.off + f)).take c.length)
          rw [e1]
          exact VRs.refl_of_noAddrs nn _ h2
        · cases h1
      · cases h1
    | map es kk =>
      obtain ⟨h1, nn, h2⟩ := hin
      obtain ⟨L0, hb, es', g1, g2, g3, g4, g5⟩ := h.live b _ h1
      refine ⟨⟨L0.blk, L0.off + f, 0, L0.tot⟩, by simp [M.small, hj, hr, hb], es', g1, g2, g3, g4, ?_⟩
      rw [VRs.eq_of_noAddrs g5 nn h2]
      exact VRs.refl_of_noAddrs nn _ h2
    | iter s p => exact hin.elim
  · have := hd j hj
    simp [M.small, this]
  · have := hlt i L1 hb
    exact absurd hi (by show ¬ k ≤ i; omega)
  · have := hlt i L1 hb
    exact absurd hi (by show ¬ k ≤ i; omega)
  · exact absurd hg (by show ¬ g < 0; omega)
  · unfold M.small at hb
    split at hb
    · cases hr : ρ j with
      | none => simp [hr] at hb
      | some x =>
        simp only [hr, Option.bind_some] at hb
        cases hx : β x.1 with
        | none => simp [hx] at hb
        | some L0 => simp [hx] at hb; subst hb; rfl
    · cases hb

/-- A contract in a small memory, for a value without addresses. -/
theorem AC.pureOf {f : FuncId} {args args2 : List Value} {R : Value → Prop} {L : List (Nat × AObj)} {k : Nat} (ρ : Nat → Option (Nat × Nat)) (h : AC P f args (AW.of L k k 0) (fun v _ => R v ∧ ∃ j, noAddrs j [v] = true))
    (hk : ∀ j x, ρ j = some x → j < k) (hd : ∀ j, alook L j = none → ρ j = none) (hL : ∀ j o, alook L j = some o → j < k ∧ ∃ x, ρ j = some x ∧ objIn A x.1 x.2 o) (ha : AR ρ args args2) :
    AC P f args2 A (fun v A1 => R v ∧ A1 = A) := by
  intro w0 N w β S args' hs hv
  refine Calls.mono (h w w.heap.size w _ _ args' (hs.small hk hd hL) (ha.vrs hk hv)) fun e w1 he => ?_
  cases e with
  | returned v' =>
    obtain ⟨β1, S1, v, A1, h1, h2, hr, j, hj⟩ := he
    have q : [v'] = [v] := VRs.eq_of_noAddrs h2 j hj
    have q : v' = v := by simpa using q
    subst q
    exact ⟨β, S, v', A, ⟨hs.again h1.sim.below, .refl _ _ _, Nat.le_refl _, rfl, rfl⟩, VRs.refl_of_noAddrs j _ hj, hr, rfl⟩
  | panicked => exact he
  | outgrown => exact he

/-- Without objects. -/
theorem AC.pure0 {f : FuncId} {args : List Value} {R : Value → Prop} (h : AC P f args (AW.of [] 0 0 0) (fun v _ => R v ∧ ∃ j, noAddrs j [v] = true)) (ha : AR (fun _ => none) args args) : AC P f args A (fun v A1 => R v ∧ A1 = A) :=
  AC.pureOf (fun _ => none) h (by simp) (by simp) (by simp [alook]) ha
theorem AC.is0 {f : FuncId} {args : List Value} {v : Value} (h : AC P f args (AW.of [] 0 0 0) (fun u _ => u = v)) (hv : ∃ j, noAddrs j [v] = true) (ha : AR (fun _ => none) args args) : AC P f args A (isR v A) :=
  AC.pure0 (h.mono fun u _ e => ⟨e, e ▸ hv⟩) ha
/-- One object: a slice's or a pointer's. -/
theorem AC.is1 {f : FuncId} {args args2 : List Value} {v : Value} {o : AObj} {b g : Nat} (h : AC P f args (AW.of [(0, o)] 1 1 0) (fun u _ => u = v)) (hv : ∃ j, noAddrs j [v] = true) (ho : objIn A b g o) (ha : AR (fun j => if j = 0 then some (b, g) else none) args args2) : AC P f args2 A (isR v A) :=
  AC.pureOf (R := fun u => u = v) (fun j => if j = 0 then some (b, g) else none) (h.mono fun u _ e => ⟨e, e ▸ hv⟩) (fun j x hx => by split at hx <;> simp_all) (fun j hj => by
      by_cases q : j = 0
      · subst q; simp [alook] at hj
      · simp [q])
    (fun j o' ho' => by
      simp only [alook] at ho'
      split at ho'
      · rename_i e; subst e; cases ho'; exact ⟨by omega, (b, g), by simp, ho⟩
      · cases ho') ha

end Go.M
