/- Part of the abstract machine of this claim (no condition). -/
import Derived.Test.YtfhodefiknfccaaDoorA7
set_option linter.unusedVariables false
set_option linter.unusedSimpArgs false
namespace Go.M
open Go.RowKit
variable {P : Program} {w0 w w' w1 w2 : World} {N n m : Nat} {β β' β1 β2 : Bet} {S S' S1 S2 : Nat → Prop} {A A' A1 A2 B : AW} {L X : LM} {nx ro gl k : Nat} {a : AEnv} {o : Oper}
theorem AC.burn {f : FuncId} {args : List Value} {v : Value} (h : AC P f args A (isR v B)) : AC P f args A (isR v B.burn) :=
  fun w0 N w β S args' hs hv => Calls.mono (h w0 N w β S args' hs hv) fun e w1 he => by
    cases e with
    | panicked => exact he
    | outgrown => exact he
    | returned v' =>
      obtain ⟨β1, S1, u, A1, hx, hy, rfl, rfl⟩ := he
      have hb := hx.sim.burn
      refine ⟨β1, _, _, _, ⟨hb.1, hx.near.trans hb.2.1.near hx.next, Nat.le_succ_of_le hx.next, hx.ro, hx.gl⟩, ?_, rfl, rfl⟩
      exact VRs.mono hy (fun _ _ => .inl rfl) (fun _ h => .inl h)
/-- So many objects, and the next name so much behind. -/
def AW.pad (A : AW) (n q : Nat) (F : Nat → AObj) : AW := { A with objs := fun j => if A.next ≤ j ∧ j < A.next + n then some (F (j - A.next)) else A.objs j, next := A.next + q }
theorem AC.padTo {f : FuncId} {args : List Value} {v : Value} {q : Nat} {F : Nat → AObj} (h : AC P f args A (isR v (A.pushF n F))) (hq : n ≤ q) : AC P f args A (isR v (A.pad n q F)) := by
  obtain ⟨d, rfl⟩ : ∃ d, q = n + d := ⟨q - n, by omega⟩
  clear hq
  induction d with
  | zero => exact h
  | succ d ih => exact AC.burn ih
/-- No names from k on. -/
def Bel (k : Nat) (L : LM) : Prop := ∀ j, k ≤ j → alook L j = none
theorem ltN : Bel k [] := fun _ _ => rfl
theorem ltc {i : Nat} {y : AObj} (h : Nat.blt i k = true) (hr : Bel k L) : Bel k ((i, y) :: L) := fun j hj => by
  have h : i < k := Nat.le_of_ble_eq_true h
  simp only [alook]
  rw [if_neg (by omega)]
  exact hr j hj
theorem ltS {i : Nat} {y : AObj} (h : Nat.blt i k = true) (hr : Bel k L) : Bel k (aset L i y) := fun j hj => by
  have h : i < k := Nat.le_of_ble_eq_true h
  rw [alook_aset, if_neg (by omega)]
  exact hr j hj
theorem ltE {i : Nat} (hr : Bel k L) : Bel k (aerase L i) := fun j hj => by
  rw [alook_aerase]
  split
  · rfl
  · exact hr j hj
theorem ltA (h : Bel k L) (hr : Bel k X) : Bel k (L ++ X) := fun j hj => by rw [alook_app, h j hj, hr j hj]; rfl
theorem ltF {F : Nat → AObj} {b m : Nat} (h : b + m ≤ k) (hr : Bel k X) : Bel k (famB F b m ++ X) := fun j hj => by
  rw [famB_look, if_neg (by omega)]
  exact hr j hj
theorem ltU {p : AObj → Prop} (h : ∀ j y, alook L j = some y → j < k ∧ p y) : Bel k L := fun j hj => by
  cases e : alook L j with
  | none => rfl
  | some y => have := (h j y e).1; omega
theorem Bel.mono {k' : Nat} (h : Bel k L) (hk : k ≤ k') : Bel k' L := fun j hj => h j (by omega)
theorem of_pad {q : Nat} {F : Nat → AObj} (h : Bel nx L) : (AW.of L nx ro gl).pad n q F = AW.of (L ++ (famB F nx n ++ [])) (nx + q) ro gl := by
  have e : ∀ j, alook (L ++ (famB F nx n ++ [])) j = if nx ≤ j ∧ j < nx + n then some (F (j - nx)) else alook L j := fun j => by
    rw [alook_app, famB_look]
    by_cases c : nx ≤ j ∧ j < nx + n
    · rw [if_pos c, if_pos c, h j c.1]; rfl
    · rw [if_neg c, if_neg c]
      cases alook L j <;> rfl
  unfold AW.pad
  simp only [AW.of, AW.mk.injEq, and_true]
  funext j
  rw [e]
  rfl
theorem GO.padT {q : Nat} {F : Nat → AObj} {v : Value} (hL : Bel nx L) (h : GO P n o a L nx ro gl (isR v ((AW.of L nx ro gl).pad m q F))) : GO P n o a L nx ro gl (isR v (AW.of (L ++ (famB F nx m ++ [])) (nx + q) ro gl)) := by
  rw [of_pad hL] at h; exact h
theorem subm_app {M : LM} (h : subm M L) : subm M (L ++ X) := fun j y hy => app_old (h j y hy)
theorem app_fam {F : Nat → AObj} {b m i : Nat} (h : Bel b L) (hi : i < m) : alook (L ++ (famB F b m ++ X)) (b + i) = some (F i) := by
  rw [alook_app, h _ (by omega), famB_look, if_pos (by omega), show b + i - b = i by omega]; rfl
end Go.M
namespace Go.M
open Go.RowKit
variable {P : Program} {w0 w w' w1 w2 : World} {N n m : Nat} {β β' β1 β2 : Bet} {S S' S1 S2 : Nat → Prop} {A A' A1 A2 : AW} {L X : LM} {nx ro gl : Nat}
/-- So many names at once, not all of which have an object. -/
def AW.pushO (A : AW) (n : Nat) (F : Nat → Option AObj) : AW := { A with objs := fun j => if A.next ≤ j ∧ j < A.next + n then F (j - A.next) else A.objs j, next := A.next + n }
def rhoP (N n : Nat) (F : Nat → Option AObj) (ν : Nat → Nat) : Nat → Option Nat := fun j => if N ≤ j ∧ j < N + n ∧ (F (j - N)).isSome = true then some (ν (j - N)) else none
theorem rhoP_at {N n i : Nat} {F : Nat → Option AObj} {ν : Nat → Nat} (h : i < n) (hF : (F i).isSome = true) : rhoP N n F ν (N + i) = some (ν i) := by
  unfold rhoP
  rw [show N + i - N = i by omega, if_pos ⟨by omega, by omega, hF⟩]
theorem AC.givesO {f : FuncId} {args args2 : List Value} {k G : Nat} {Φ : Value → Nat → (Nat → Option AObj) → Prop} {ρ : Nat → Option (Nat × Nat)} (s : SmallX A L k G ρ)
    (h : AC P f args (AW.of L k k G) (fun v A1 => ∃ n F ν v2, Φ v2 n F ∧ (∀ i, i < n → (F i).isSome = true → k ≤ ν i) ∧ (∀ i j, i < n → j < n → (F i).isSome = true → (F j).isSome = true → ν i = ν j → i = j) ∧ (∀ i y, i < n → F i = some y → ∃ x, A1.objs (ν i) = some x ∧ ORn (rhoP A.next n F ν) y x) ∧ Rn (rhoP A.next n F ν) [v2] [v])) (ha : AR ρ args args2) :
    AC P f args2 A (fun v A1 => ∃ n F, Φ v n F ∧ A1 = A.pushO n F) := by
  intro w0 N w β S args' hs hv
  refine Calls.mono (h w w.heap.size w _ _ args' (hs.smallX s) (ha.vrs s.hk hv)) fun en w1 he => ?_
  cases en with
  | panicked => exact he
  | outgrown => exact he
  | returned v' =>
    obtain ⟨β1, S1, v, A1, h1, h2, n, F, ν, v2, hΦ, hν, hinj, hF, hv2⟩ := he
    have hagain := hs.again h1.sim.below
    have hro : ∀ i, i < n → (F i).isSome = true → A1.ro ≤ ν i := fun i hi hf => by rw [h1.ro]; exact hν i hi hf
    have hB : ∀ j, (A.next ≤ j ∧ j < A.next + n) → (if A.next ≤ j ∧ j < A.next + n then (if (F (j - A.next)).isSome = true then β1 (ν (j - A.next)) else none) else β j) = if (F (j - A.next)).isSome = true then β1 (ν (j - A.next)) else none := fun j q => if_pos q
    have hρ : ∀ j i, rhoP A.next n F ν j = some i → (fun j => if A.next ≤ j ∧ j < A.next + n then (if (F (j - A.next)).isSome = true then β1 (ν (j - A.next)) else none) else β j) j = β1 i ∧ (S1 i → (fun j => S j ∨ (A.next ≤ j ∧ j < A.next + n)) j) := fun j i hj => by
      unfold rhoP at hj
      split at hj
      · rename_i q; cases hj
        refine ⟨?_, fun _ => .inr ⟨q.1, q.2.1⟩⟩
        show (if A.next ≤ j ∧ j < A.next + n then (if (F (j - A.next)).isSome = true then β1 (ν (j - A.next)) else none) else β j) = _
        rw [if_pos ⟨q.1, q.2.1⟩, if_pos q.2.2]
      · cases hj
    have hnew : ∀ j L', A.next ≤ j ∧ j < A.next + n → (F (j - A.next)).isSome = true → β1 (ν (j - A.next)) = some L' → w.heap.size ≤ L'.blk := fun j L' hj hf hb => h1.sim.hi _ L' (hro _ (by omega) hf) hb
    have hsim : Sim P w0 N (fun j => if A.next ≤ j ∧ j < A.next + n then (if (F (j - A.next)).isSome = true then β1 (ν (j - A.next)) else none) else β j) (fun j => S j ∨ (A.next ≤ j ∧ j < A.next + n)) (A.pushO n F) w1 := by
      refine ⟨hagain.below, hs.Nle, fun j y hy => ?_, fun j hj => ?_, fun j y hy => ?_, fun j j' L1 L2 hj hne hb1 hb2 => ?_, fun j L' hj hb => ?_, fun j hj => ?_, ?_, fun g hg => ?_, hs.gle, fun j L' hj hb => ?_⟩
      · simp only [AW.pushO] at hy
        split at hy
        · rename_i q
          obtain ⟨x, hx, ho⟩ := hF (j - A.next) y (by omega) hy
          have hf : (F (j - A.next)).isSome = true := by rw [hy]; rfl
          obtain ⟨Lc, hb, r⟩ := h1.sim.live _ x hx
          have hd : decide (A1.ro ≤ ν (j - A.next)) = true := by simp [hro (j - A.next) (by omega) hf]
          have hd2 : decide ((A.pushO n F).ro ≤ j) = true := by
            have := hs.role
            have q := q.1
            exact decide_eq_true (show A.ro ≤ j by omega)
          rw [hd] at r
          rw [hd2]
          refine ⟨Lc, ?_, ORel.rn ho hρ r⟩
          show (if A.next ≤ j ∧ j < A.next + n then (if (F (j - A.next)).isSome = true then β1 (ν (j - A.next)) else none) else β j) = _
          rw [if_pos q, if_pos hf, hb]
        · rename_i q
          obtain ⟨Lc, hb, r⟩ := hagain.live j y hy
          refine ⟨Lc, ?_, r.mono (fun i hi => .inl ?_) (fun i hi => .inl hi) rfl⟩
          · show (if A.next ≤ j ∧ j < A.next + n then (if (F (j - A.next)).isSome = true then β1 (ν (j - A.next)) else none) else β j) = _
            rw [if_neg q, hb]
          · have := hs.sub i hi
            rw [if_neg (by omega)]
      · simp only [AW.pushO] at hj
        split at hj
        · rename_i q
          show (if A.next ≤ j ∧ j < A.next + n then (if (F (j - A.next)).isSome = true then β1 (ν (j - A.next)) else none) else β j) = _
          rw [if_pos q, if_neg (by rw [hj]; simp)]
        · rename_i q
          show (if A.next ≤ j ∧ j < A.next + n then (if (F (j - A.next)).isSome = true then β1 (ν (j - A.next)) else none) else β j) = _
          rw [if_neg q]
          exact hs.dead j hj
      · simp only [AW.pushO] at hy
        show j < A.next + n
        split at hy
        · omega
        · have := hs.lt j y hy; omega
      · by_cases q1 : A.next ≤ j ∧ j < A.next + n
        · rw [if_pos q1] at hb1
          split at hb1
          · rename_i f1
            have b1 := hnew j L1 q1 f1 hb1
            by_cases q2 : A.next ≤ j' ∧ j' < A.next + n
            · rw [if_pos q2] at hb2
              split at hb2
              · rename_i f2
                exact h1.sim.inj _ _ L1 L2 (hro _ (by omega) f1) (fun e => hne (by have := hinj _ _ (by omega) (by omega) f1 f2 e; omega)) hb1 hb2
              · cases hb2
            · rw [if_neg q2] at hb2
              have := hs.blk_lt hb2
              omega
          · cases hb1
        · rw [if_neg q1] at hb1
          have b1 := hs.blk_lt hb1
          by_cases q2 : A.next ≤ j' ∧ j' < A.next + n
          · rw [if_pos q2] at hb2
            split at hb2
            · rename_i f2
              have := hnew j' L2 q2 f2 hb2
              omega
            · cases hb2
          · rw [if_neg q2] at hb2
            exact hs.inj j j' L1 L2 hj hne hb1 hb2
      · split at hb
        · rename_i q
          split at hb
          · rename_i f1
            have := hnew j L' q f1 hb
            have := hs.size_le
            omega
          · cases hb
        · exact hs.hi j L' hj hb
      · show j < A.next + n
        rcases hj with hj | hj
        · have := hs.sub j hj; omega
        · omega
      · have := hs.role
        show A.ro ≤ A.next + n; omega
      · obtain ⟨g1, Lg, g2, g3⟩ := hs.glob g hg
        have := hs.sub g g1
        refine ⟨.inl g1, Lg, ?_, g3⟩
        rw [if_neg (by omega)]; exact g2
      · have hj' : j < A.ro := hj
        have := hs.role
        rw [if_neg (by omega)] at hb
        exact hs.roz j L' hj hb
    refine ⟨_, _, v2, _, ⟨hsim, ⟨fun i hi hsi => .inl (if_neg (by omega)), fun i hi hsi => .inl hsi, fun i hi hsi => by rcases hsi with q | q; exact q; omega⟩, by show A.next ≤ A.next + n; omega, rfl, rfl⟩, hv2 β1 S1 _ _ _ hρ h2, n, F, hΦ, rfl⟩
/-- The names that have an object, as a list. -/
def famO (F : Nat → Option AObj) (nx : Nat) : Nat → LM
  | 0 => []
  | m + 1 => match F m with
    | some y => (nx + m, y) :: famO F nx m
    | none => famO F nx m
theorem famO_look (F : Nat → Option AObj) (nx : Nat) (L : LM) : ∀ (m j : Nat), (∀ j, nx ≤ j → alook L j = none) → alook (famO F nx m ++ L) j = if nx ≤ j ∧ j < nx + m then F (j - nx) else alook L j
  | 0, j, _ => by simp only [famO, List.nil_append]; rw [if_neg (by omega)]
  | m + 1, j, h => by
    have ih := famO_look F nx L m j h
    cases hF : F m with
    | none =>
      have : famO F nx (m + 1) = famO F nx m := by simp only [famO, hF]
      rw [this, ih]
      by_cases q2 : nx ≤ j ∧ j < nx + m
      · rw [if_pos q2, if_pos (by omega)]
      · rw [if_neg q2]
        by_cases q3 : j = nx + m
        · subst q3
          rw [if_pos (by omega), show nx + m - nx = m by omega, hF, h _ (by omega)]
        · rw [if_neg (by omega)]
    | some y =>
      have : famO F nx (m + 1) = (nx + m, y) :: famO F nx m := by simp only [famO, hF]
      rw [this]
      simp only [List.cons_append, alook]
      by_cases q : nx + m = j
      · rw [if_pos q, if_pos (by omega)]; subst q; rw [show nx + m - nx = m by omega, hF]
      · rw [if_neg q, ih]
        by_cases q2 : nx ≤ j ∧ j < nx + m
        · rw [if_pos q2, if_pos (by omega)]
        · rw [if_neg q2, if_neg (by omega)]
theorem of_pushO {m : Nat} {F : Nat → Option AObj} (h : Bel nx L) : (AW.of L nx ro gl).pushO m F = AW.of (L ++ (famO F nx m ++ [])) (nx + m) ro gl := by
  have e : ∀ j, alook (L ++ (famO F nx m ++ [])) j = if nx ≤ j ∧ j < nx + m then F (j - nx) else alook L j := fun j => by
    rw [alook_app, famO_look F nx [] m j (fun _ _ => rfl)]
    by_cases c : nx ≤ j ∧ j < nx + m
    · rw [if_pos c, if_pos c, h j c.1]; rfl
    · rw [if_neg c, if_neg c]
      cases alook L j <;> rfl
  unfold AW.pushO
  simp only [AW.of, AW.mk.injEq, and_true]
  funext j
  rw [e]
  rfl
end Go.M
namespace Go.M
open Go.RowKit
variable {P : Program} {w0 w w' w1 w2 : World} {N n m n0 : Nat} {β β' β1 β2 : Bet} {S S' S1 S2 : Nat → Prop} {A A' A1 A2 : AW} {L : LM}
theorem AC.isE {f : FuncId} {v : Value} {b : Option Addr} {c : Nat} (hn : AC P f [.slice none 0 c] (AW.of [] 0 0 0) (fun u _ => u = v)) (hd : AC P f [.slice (some ⟨0, 0, none⟩) 0 c] (AW.of [] 1 1 0) (fun u _ => u = v)) (hv : ∃ j, noAddrs j [v] = true) :
    AC P f [.slice b 0 c] A (isR v A) := by
  obtain ⟨j, hj⟩ := hv
  have done : ∀ {w0 : World} {N : Nat} {w w1 : World} {β : Bet} {S : Nat → Prop} {βx : Bet} {Sx : Nat → Prop} {B : AW} {v' : Value}, Sim P w0 N β S A w → (∃ β1 S1 u A1, Aft P w w.heap.size B.next βx Sx B β1 S1 A1 w1 ∧ VR β1 S1 u v' ∧ u = v) →
      ∃ β1 S1 u A1, Aft P w0 N A.next β S A β1 S1 A1 w1 ∧ VR β1 S1 u v' ∧ isR v A u A1 := by
    intro w0 N w w1 β S βx Sx B v' hs ⟨β1, S1, u, A1, h1, h2, hu⟩
    subst hu
    have q : [v'] = [u] := VRs.eq_of_noAddrs h2 j hj
    have q : v' = u := by simpa using q
    subst q
    exact ⟨_, _, _, A, ⟨hs.again h1.sim.below, .refl _ _ _, Nat.le_refl _, rfl, rfl⟩, VRs.refl_of_noAddrs j _ hj, rfl, rfl⟩
  intro w0 N w β S args' hs hargs
  have s1 : Sim P w w.heap.size (M.small (fun _ => none) 1 β) (fun j => j < 1) (AW.of [] 1 1 0) w := hs.small (by simp) (by simp) (by simp [alook])
  have s0 : Sim P w w.heap.size (M.small (fun _ => none) 0 β) (fun j => j < 0) (AW.of [] 0 0 0) w := hs.small (by simp) (by simp) (by simp [alook])
  have e1 : M.small (fun _ => none) 1 β 0 = none := by simp [M.small]
  generalize hl : args'.toList = as at hargs
  have h1 : ∀ {x : Addr} {c' : Nat}, c ≤ c' → as = [.slice (some x) 0 c'] → VRs (M.small (fun _ => none) 1 β) (fun j => j < 1) [.slice (some ⟨0, 0, none⟩) 0 c] args'.toList := fun hc e => by
    rw [hl, e]
    exact .slD (by decide) e1 hc .nil
  cases hargs with
  | sl0 hr =>
    cases hr
    refine Calls.mono (hn w w.heap.size w _ _ args' s0 (by rw [hl]; exact .sl0 .nil)) fun en w1 he => ?_
    cases en with
    | panicked => exact he
    | outgrown => exact he
    | returned v' => exact done hs he
  | sl _ _ hc _ hr =>
    cases hr
    refine Calls.mono (hd w w.heap.size w _ _ args' s1 (h1 hc rfl)) fun en w1 he => ?_
    cases en with
    | panicked => exact he
    | outgrown => exact he
    | returned v' => exact done hs he
  | slD _ _ hc hr =>
    cases hr
    refine Calls.mono (hd w w.heap.size w _ _ args' s1 (h1 hc rfl)) fun en w1 he => ?_
    cases en with
    | panicked => exact he
    | outgrown => exact he
    | returned v' => exact done hs he
/-- A small memory some of whose names may lie nowhere. -/
structure SmallD (A : AW) (L : LM) (k G : Nat) (ρ : Nat → Option (Nat × Nat)) : Prop where
  hk : ∀ j x, ρ j = some x → j < k
  hd : ∀ j, alook L j = none → ρ j = none ∨ ∃ x, ρ j = some x ∧ A.objs x.1 = none
  hL : ∀ j o, alook L j = some o → j < k ∧ ∃ x, ρ j = some x ∧ objX ρ A x.1 x.2 o
  hgl : G ≤ A.gl
  hG : ∀ g, g < G → ρ g = some (g, 0)
  hGk : G ≤ k
theorem Sim.smallD {ρ : Nat → Option (Nat × Nat)} {k G : Nat} (h : Sim P w0 N β S A w) (s : SmallD A L k G ρ) : Sim P w w.heap.size (M.small ρ k β) (fun j => j < k) (AW.of L k k G) w := by
  have hlt : ∀ j L', M.small ρ k β j = some L' → j < k := fun j L' hj => by
    unfold M.small at hj
    split at hj
    · assumption
    · cases hj
  refine ⟨.refl _ _, Nat.le_refl _, ?_, fun j hj => ?_, fun j o ho => (s.hL j o ho).1, fun i j L1 L2 hi _ hb _ => ?_, fun i L1 hi hb => ?_, fun j hj => hj, Nat.le_refl _, fun g hg => ?_, s.hGk, fun j L1 _ hb => ?_⟩
  · intro j o ho
    obtain ⟨hj, ⟨b, f⟩, hr, hin⟩ := s.hL j o ho
    have hdec : decide ((AW.of L k k G).ro ≤ j) = false := by
      show decide (k ≤ j) = false
      simp only [decide_eq_false_iff_not]; omega
    rw [hdec]
    cases o with
    | cells c e =>
      obtain ⟨c2, h1, har⟩ := hin
      unfold AW.rd at h1
      split at h1
      · rename_i c0 e0 hob
        split at h1
        · rename_i hfit
          simp only [Option.some.injEq] at h1
          obtain ⟨L0, hb, cs, e', fz, g1, g2, g3, g4, _⟩ := h.live b _ hob
          have hc : VRs β S c2 ((cs.toList.drop (L0.off + f)).take c.length) := by
            rw [← list_inner cs.toList L0.off c0.length f c.length hfit]
            have := (g4.drop f).take c.length
            rw [h1] at this
            exact this
          exact ⟨⟨L0.blk, L0.off + f, 0, L0.tot⟩, by simp [M.small, hj, hr, hb], cs, e', fz, g1, g2, by show L0.off + f + c.length ≤ L0.tot; omega, har.vrs s.hk hc, by simp⟩
        · cases h1
      · cases h1
    | map es kk => exact hin.elim
    | iter s p => exact hin.elim
    | loop => exact hin.elim
    | dfr => exact hin.elim
    | over => exact hin.elim
  · rcases s.hd j hj with e | ⟨x, e, hx⟩
    · simp [M.small, e]
    · simp [M.small, e, h.dead x.1 hx]
  · have := hlt i L1 hb
    have hi : k ≤ i := hi
    omega
  · have := hlt i L1 hb
    have hi : k ≤ i := hi
    omega
  · have hg : g < G := hg
    obtain ⟨_, L0, e1, e2, e3⟩ := h.glob g (Nat.lt_of_lt_of_le hg s.hgl)
    have hgk : g < k := Nat.lt_of_lt_of_le hg s.hGk
    exact ⟨hgk, ⟨L0.blk, L0.off + 0, 0, L0.tot⟩, by simp [M.small, hgk, s.hG g hg, e1], e2, by show L0.off + 0 = 0; omega⟩
  · unfold M.small at hb
    split at hb
    · cases hρ : ρ j with
      | none => simp [hρ] at hb
      | some x =>
        cases hβ : β x.1 with
        | none => simp [hρ, hβ] at hb
        | some L' => simp [hρ, hβ] at hb; subst hb; rfl
    · cases hb
theorem AC.pureD {f : FuncId} {args args2 : List Value} {R : Value → Prop} {k G : Nat} {ρ : Nat → Option (Nat × Nat)} (s : SmallD A L k G ρ) (h : AC P f args (AW.of L k k G) (fun v _ => R v ∧ ∃ j, noAddrs j [v] = true)) (ha : AR ρ args args2) :
    AC P f args2 A (fun v A1 => R v ∧ A1 = A) := by
  intro w0 N w β S args' hs hv
  refine Calls.mono (h w w.heap.size w _ _ args' (hs.smallD s) (ha.vrs s.hk hv)) fun e w1 he => ?_
  cases e with
  | returned v' =>
    obtain ⟨β1, S1, v, A1, h1, h2, hr, j, hj⟩ := he
    have q : [v'] = [v] := VRs.eq_of_noAddrs h2 j hj
    have q : v' = v := by simpa using q
    subst q
    exact ⟨β, S, v', A, ⟨hs.again h1.sim.below, .refl _ _ _, Nat.le_refl _, rfl, rfl⟩, VRs.refl_of_noAddrs j _ hj, hr, rfl⟩
  | panicked => exact he
  | outgrown => exact he
theorem SmallX.toD {k G : Nat} {ρ : Nat → Option (Nat × Nat)} (s : SmallX A L k G ρ) : SmallD A L k G ρ := ⟨s.hk, fun j hj => .inl (s.hd j hj), s.hL, s.hgl, s.hG, s.hGk⟩
end Go.M
namespace Go.M
open Go.RowKit
section
variable {P : Program} {n : Nat} {a : AEnv} {o : Oper} {L : LM} {nx ro gl : Nat} {t t2 : TypeId} {X Y : Operand}
def shrI (k : IntKind) (x y : Int) : Int := x.fdiv (2 ^ (min y.toNat k.bits))
def andI (k : IntKind) (x y : Int) : Int := k.wrap ((BitVec.ofInt k.bits x) &&& (BitVec.ofInt k.bits y)).toNat
theorem GO.shr {k yk : IntKind} {x y : Int} (ho : o.op = .binOp .shr t X Y t2) (hx : aev gl a X = some (.int k x)) (hy : aev gl a Y = some (.int yk y)) (h : 0 ≤ y) : GO P n o a L nx ro gl (isR (.int k (shrI k x y)) (AW.of L nx ro gl)) :=
  ⟨AOp.bin (kx := 64) (ky := 64) ho hx hy rfl rfl (fun w => by
    have : ¬ y < 0 := by omega
    simp [eqGuard, binOp, Op.shift, shrI, this]) (fun _ _ => .int .nil)⟩
theorem GO.andB {k : IntKind} {x y : Int} (ho : o.op = .binOp .and t X Y t2) (hx : aev gl a X = some (.int k x)) (hy : aev gl a Y = some (.int k y)) : GO P n o a L nx ro gl (isR (.int k (andI k x y)) (AW.of L nx ro gl)) :=
  ⟨AOp.bin (kx := 64) (ky := 64) ho hx hy rfl rfl (fun w => by simp [eqGuard, binOp, Op.intBits, andI]) (fun _ _ => .int .nil)⟩
theorem GO.elemA {e : TypeId} {d : TypeDesc} {vs : Array Value} {len : Nat} {i : Int} {k : IntKind} {v : Value} (ho : o.op = .index t X Y) (hx : aev gl a X = some (.agg vs)) (hy : aev gl a Y = some (.int k i)) (hu : P.underlying t = some (.array len e)) (hs : szOf P e = some 1) (hd : P.underlying e = some d) (hna : isAggT d = false)
    (h : 0 ≤ i ∧ i < len) (hv : vs.toList[i.toNat]? = some v) : GO P n o a L nx ro gl (isR v (AW.of L nx ro gl)) :=
  ⟨AOp.index ho hx hy (by
    unfold aindex
    rw [hu]
    simp only [hs]
    rw [if_pos h, Nat.mul_one]
    unfold apart
    rw [hd]
    simp only [hna]
    exact hv)⟩
end
variable {P : Program} {w0 w w' w1 w2 : World} {N n m n0 : Nat} {β β' β1 β2 : Bet} {S S' S1 S2 : Nat → Prop} {A A' A1 A2 : AW} {L : LM}
theorem AC.givesM {f : FuncId} {args args2 : List Value} {k G : Nat} {Φ : List Value → Prop} {e : TypeId} {v2 : Value} {ρ : Nat → Option (Nat × Nat)} (s : SmallD A L k G ρ)
    (h : AC P f args (AW.of L k k G) (fun v A1 => ∃ nm cs, A1.objs nm = some (.cells cs e) ∧ k ≤ nm ∧ (∃ j, noAddrs j cs = true) ∧ Φ cs ∧ AR (fun j => if j = A.next then some (nm, 0) else none) [v2] [v])) (ha : AR ρ args args2) :
    AC P f args2 A (fun v A1 => ∃ cs, Φ cs ∧ v = v2 ∧ A1 = A.push (.cells cs e)) := by
  intro w0 N w β S args' hs hv
  refine Calls.mono (h w w.heap.size w _ _ args' (hs.smallD s) (ha.vrs s.hk hv)) fun en w1 he => ?_
  cases en with
  | panicked => exact he
  | outgrown => exact he
  | returned v' =>
    obtain ⟨β1, S1, v, A1, h1, h2, nm, cs, hob, hnm, ⟨j, hj⟩, hΦ, har⟩ := he
    obtain ⟨L1, hb1, cs', e', fz, g1, g2, g3, g4, g5⟩ := h1.sim.live nm _ hob
    have hro : A1.ro ≤ nm := by rw [h1.ro]; exact hnm
    have hblk := h1.sim.hi nm L1 hro hb1
    have e4 := VRs.eq_of_noAddrs g4 j hj
    have hagain := hs.again h1.sim.below
    have hcl := hagain.claim (w' := w1) (.cells cs e) L1 (fun i L' hi => by have := hs.blk_lt hi; omega) (by have := hs.size_le; omega) hagain.below (fun _ _ _ => rfl)
      ⟨cs', e', fz, g1, g2, g3, by rw [e4]; exact VRs.refl_of_noAddrs j _ hj, fun _ => g5 (by simp [hro])⟩
    refine ⟨_, _, _, _, ⟨hcl.1, hcl.2.near, by show A.next ≤ A.next + 1; omega, rfl, rfl⟩, har.vrsTo (fun j x hx => ?_) h2, cs, hΦ, rfl, rfl⟩
    split at hx
    · rename_i q
      subst q
      cases hx
      exact ⟨rfl, by simp [hb1], fun _ => .inr rfl⟩
    · cases hx
theorem onto_old {k b f j : Nat} {ρ : Nat → Option (Nat × Nat)} {x : Nat × Nat} (hk : ∀ j x, ρ j = some x → j < k) (h : ρ j = some x) : onto k b f ρ j = some x := by
  have := hk j x h
  unfold onto
  rw [if_neg (by omega)]; exact h
theorem SmallD.cons {A : AW} {L : LM} {k G b f : Nat} {ρ : Nat → Option (Nat × Nat)} {o : AObj} (s : SmallD A L k G ρ) (ho : objX (onto k b f ρ) A b f o) : SmallD A ((k, o) :: L) (k + 1) G (onto k b f ρ) := by
  have hm : ∀ j x, ρ j = some x → onto k b f ρ j = some x := fun j x h => onto_old s.hk h
  refine ⟨fun j x hx => ?_, fun j hj => ?_, fun j y hy => ?_, s.hgl, fun g hg => hm g _ (s.hG g hg), Nat.le_succ_of_le s.hGk⟩
  · unfold onto at hx
    split at hx
    · omega
    · have := s.hk j x hx; omega
  · simp only [alook] at hj
    split at hj
    · cases hj
    · rename_i q
      have hne : ¬ j = k := fun e => q e.symm
      rcases s.hd j hj with e | ⟨x, e, hx⟩
      · left; unfold onto; rw [if_neg hne]; exact e
      · right; exact ⟨x, by unfold onto; rw [if_neg hne]; exact e, hx⟩
  · simp only [alook] at hy
    split at hy
    · rename_i q
      subst q; cases hy
      exact ⟨by omega, (b, f), by unfold onto; rw [if_pos rfl], ho⟩
    · obtain ⟨h1, x, h2, h3⟩ := s.hL j y hy
      exact ⟨by omega, x, hm j x h2, h3.mono hm⟩
/-- A name that nothing lies at. -/
theorem SmallD.dead {A : AW} {L : LM} {k G b : Nat} {ρ : Nat → Option (Nat × Nat)} (s : SmallD A L k G ρ) (hb : A.objs b = none) : SmallD A L (k + 1) G (onto k b 0 ρ) := by
  have hm : ∀ j x, ρ j = some x → onto k b 0 ρ j = some x := fun j x h => onto_old s.hk h
  refine ⟨fun j x hx => ?_, fun j hj => ?_, fun j y hy => ?_, s.hgl, fun g hg => hm g _ (s.hG g hg), Nat.le_succ_of_le s.hGk⟩
  · unfold onto at hx
    split at hx
    · omega
    · have := s.hk j x hx; omega
  · by_cases q : j = k
    · subst q
      right; exact ⟨(b, 0), by unfold onto; rw [if_pos rfl], hb⟩
    · rcases s.hd j hj with e | ⟨x, e, hx⟩
      · left; unfold onto; rw [if_neg q]; exact e
      · right; exact ⟨x, hm j x e, hx⟩
  · obtain ⟨h1, x, h2, h3⟩ := s.hL j y hy
    exact ⟨by omega, x, hm j x h2, h3.mono hm⟩
/-- A name that is not used. -/
theorem SmallD.skip {A : AW} {L : LM} {k K G : Nat} {ρ : Nat → Option (Nat × Nat)} (s : SmallD A L k G ρ) (h : k ≤ K) : SmallD A L K G ρ :=
  ⟨fun j x hx => Nat.lt_of_lt_of_le (s.hk j x hx) h, s.hd, fun j y hy => by obtain ⟨h1, h2⟩ := s.hL j y hy; exact ⟨by omega, h2⟩, s.hgl, s.hG, Nat.le_trans s.hGk h⟩
end Go.M
