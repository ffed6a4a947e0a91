/- Functions of the given program, walked (no condition beyond what each theorem says). -/
import Derived.Test.YtfhodefiknfccaaDoorJ6
import Derived.Test.YtfhodefiknfccaaDoorA8
set_option linter.unusedVariables false
set_option linter.unusedSimpArgs false
namespace Go.M
open Go.Proofs Go.RowKit
set_option maxRecDepth 8000
set_option maxHeartbeats 8000000
/-- Does a moment have words? -/
def bkB (r : Rl) (μ : Nat → Mo) (j : Nat) : Bool := decide (stN r μ j = 1 ∧ (μ j).v < r.e) && !(μ j).all
def bkN (r : Rl) (μ : Nat → Mo) (j : Nat) : Nat := cond (bkB r μ j) (wdL (μ j)).length 0
abbrev bkV (r : Rl) (μ : Nat → Mo) (ν : Nat → Nat) (j : Nat) : Value := .slice (slA (bkB r μ j) (ν j)) (bkN r μ j) (bkN r μ j)
def blC (r : Rl) (μ : Nat → Mo) (ν : Nat → Nat) : Nat → List Value
  | 0 => []
  | i + 1 => blC r μ ν i ++ [bkV r μ ν i]
theorem blC_len {r : Rl} {μ : Nat → Mo} {ν : Nat → Nat} : ∀ {i : Nat}, (blC r μ ν i).length = i
  | 0 => rfl
  | i + 1 => by rw [blC, List.length_append, blC_len]; rfl
theorem blC_at {r : Rl} {μ : Nat → Mo} {ν : Nat → Nat} : ∀ {i j : Nat}, j < i → (blC r μ ν i)[j]? = some (bkV r μ ν j)
  | i + 1, j, h => by
    have hl := blC_len (r := r) (μ := μ) (ν := ν) (i := i)
    rcases Nat.lt_or_ge j i with q | q
    · rw [blC, List.getElem?_append_left (by omega)]
      exact blC_at q
    · obtain rfl : j = i := by omega
      rw [blC, List.getElem?_append_right (by omega), hl, Nat.sub_self]; rfl
theorem blC_one {r : Rl} {μ : Nat → Mo} {ν : Nat → Nat} : ∀ {i : Nat}, (blC r μ ν i).all (·.oneCell') = true
  | 0 => rfl
  | i + 1 => by rw [blC, List.all_append, blC_one]; rfl
theorem blC_congr {r : Rl} {μ : Nat → Mo} {ν ν' : Nat → Nat} : ∀ {i : Nat}, (∀ j, j < i → bkB r μ j = true → ν j = ν' j) → blC r μ ν i = blC r μ ν' i
  | 0, _ => rfl
  | i + 1, h => by
    have e : bkV r μ ν i = bkV r μ ν' i := by
      cases hb : bkB r μ i with
      | false => unfold bkV; rw [hb]; rfl
      | true => unfold bkV; rw [h i (by omega) hb]
    rw [blC, blC, blC_congr fun j hj => h j (by omega), e]
theorem Rn.slB {ρ : Nat → Option Nat} {j i n c : Nat} {b : Bool} (h : b = true → ρ j = some i) : Rn ρ [.slice (slA b j) n c] [.slice (slA b i) n c] := by
  cases b
  · exact Rn.flat (k := 8) rfl
  · exact Rn.sl (h rfl)
theorem blC_Rn {r : Rl} {μ : Nat → Mo} {ν ν' : Nat → Nat} {ρ : Nat → Option Nat} : ∀ {i : Nat}, (∀ j, j < i → bkB r μ j = true → ρ (ν j) = some (ν' j)) → Rn ρ (blC r μ ν i) (blC r μ ν' i)
  | 0, _ => .nil
  | i + 1, h => by
    rw [blC, blC]
    exact .append (blC_Rn fun j hj => h j (by omega)) (Rn.slB (h i (by omega)))
/-- The words, as an object. -/
abbrev wdO (x : Mo) : AObj := .cells ((wdL x).map Value.string) 9
def wdF (r : Rl) (μ : Nat → Mo) (j : Nat) : Option AObj := cond (bkB r μ j) (some (wdO (μ j))) none
theorem wdF_t {r : Rl} {μ : Nat → Mo} {j : Nat} (h : bkB r μ j = true) : wdF r μ j = some (wdO (μ j)) := by unfold wdF; rw [h]; rfl
theorem wdF_f {r : Rl} {μ : Nat → Mo} {j : Nat} (h : bkB r μ j = false) : wdF r μ j = none := by unfold wdF; rw [h]; rfl
/-- The new objects: the list, and behind it the words. -/
def bkF (N : Nat) (r : Rl) (μ : Nat → Mo) (n j : Nat) : Option AObj := match j with
  | 0 => some (.cells (blC r μ (fun j => N + 1 + j) n) 93)
  | j + 1 => wdF r μ j
/-- The state of the memory after so many rounds. -/
def Bk (r : Rl) (μ : Nat → Mo) (i : Nat) (L : LM) : Prop := ∃ o ν, alook L 2 = some (.cells [.slice (some ⟨o, 0, none⟩) i i] 87) ∧ 0 < i ∧ 7 ≤ o ∧ alook L o = some (.cells (blC r μ ν i) 93) ∧
  (∀ j, j < i → bkB r μ j = true → 7 ≤ ν j ∧ ν j ≠ o ∧ alook L (ν j) = some (wdO (μ j))) ∧ ∀ j j', j < i → j' < i → bkB r μ j = true → bkB r μ j' = true → ν j = ν j' → j = j'
theorem bk_leaf0 {r : Rl} {μ : Nat → Mo} {i o : Nat} {L : LM} (hb : bkB r μ i = false) (h2 : alook L 2 = some (.cells [.slice (some ⟨o, 0, none⟩) (i + 1) (i + 1)] 87)) (ho : 7 ≤ o) (hob : alook L o = some (.cells (blC r μ (fun j => 8 + j) i ++ [.slice none 0 0]) 93))
    (hi : i ≤ 256) (hbo : i = 0 ∨ 300 ≤ o) (hf : ∀ j, j < i → bkB r μ j = true → alook L (8 + j) = some (wdO (μ j))) : Bk r μ (i + 1) L := by
  have hd : ∀ j, j < i → 8 + j ≠ o := fun j hj => by omega
  have e : bkV r μ (fun j => 8 + j) i = .slice none 0 0 := by unfold bkV bkN; rw [hb]; rfl
  refine ⟨o, fun j => 8 + j, h2, by omega, ho, by rw [blC, e]; exact hob, fun j hj hbj => ?_, fun j j' hj hj' _ _ q => by have q : 8 + j = 8 + j' := q; omega⟩
  rcases Nat.lt_or_ge j i with q | q
  · exact ⟨by show 7 ≤ 8 + j; omega, hd j q, hf j q hbj⟩
  · obtain rfl : j = i := by omega
    rw [hb] at hbj; cases hbj
theorem bk_leaf1 {r : Rl} {μ : Nat → Mo} {i o p : Nat} {L : LM} (hb : bkB r μ i = true) (h2 : alook L 2 = some (.cells [.slice (some ⟨o, 0, none⟩) (i + 1) (i + 1)] 87)) 
    (hob : alook L o = some (.cells (blC r μ (fun j => 8 + j) i ++ [.slice (some ⟨p, 0, none⟩) (wdL (μ i)).length (wdL (μ i)).length]) 93)) (ho : 7 ≤ o) (hp : 7 ≤ p) (hpo : p ≠ o) (hpb : alook L p = some (wdO (μ i)))
    (hi : i ≤ 256) (hbo : i = 0 ∨ 300 ≤ o) (hbp : i = 0 ∨ 300 ≤ p) (hf : ∀ j, j < i → bkB r μ j = true → alook L (8 + j) = some (wdO (μ j))) : Bk r μ (i + 1) L := by
  have hd : ∀ j, j < i → 8 + j ≠ o ∧ 8 + j ≠ p := fun j hj => ⟨by omega, by omega⟩
  have hν : ∀ j, j < i → (if j = i then p else 8 + j) = 8 + j := fun j hj => if_neg (by omega)
  have e : bkV r μ (fun j => if j = i then p else 8 + j) i = .slice (some ⟨p, 0, none⟩) (wdL (μ i)).length (wdL (μ i)).length := by unfold bkV bkN; dsimp only; rw [hb, if_pos rfl]; rfl
  refine ⟨o, fun j => if j = i then p else 8 + j, h2, by omega, ho, by rw [blC, e, blC_congr (ν' := fun j => 8 + j) fun j hj _ => hν j hj]; exact hob, fun j hj hbj => ?_, fun j j' hj hj' _ _ q => ?_⟩
  · rcases Nat.lt_or_ge j i with q | q
    · dsimp only
      rw [hν j q]
      exact ⟨by omega, (hd j q).1, hf j q hbj⟩
    · obtain rfl : j = i := by omega
      dsimp only
      rw [if_pos rfl]
      exact ⟨hp, hpo, hpb⟩
  · dsimp only at q
    split at q <;> split at q
    · omega
    · exact absurd q.symm (hd j' (by omega)).2
    · exact absurd q (hd j (by omega)).2
    · omega
def rhoB (r : Rl) (μ : Nat → Mo) (i o : Nat) (ν : Nat → Nat) (j : Nat) : Option Nat := if j < 7 then some j else if j = 7 then some o else if j < 8 + i ∧ bkB r μ (j - 8) = true then some (ν (j - 8)) else none
theorem bk_ren {P : Program} {n : Nat} {c : Code} {r : Rl} {μ : Nat → Mo} {i nx : Nat} {a a1 : AEnv} {L L' : LM} {Q : AQ} (hi : i ≤ 256) (ha : asub a1 a) (he : EnvLt 7 a1) (hsub : subm L' L) (hU : Und 7 L') (hB : Bk r μ i L) (hdense : ((List.range 7).all fun j => Nat.beq j 2 || (alook L' j).isSome) = true)
    (h : GT P n 7 c a1 ((7, .cells (blC r μ (fun j => 8 + j) i) 93) :: (2, .cells [.slice (some ⟨7, 0, none⟩) i i] 87) :: (L' ++ (famO (wdF r μ) 8 i ++ []))) 300 1 0 Q) : GT P n 7 c a L nx 1 0 Q := by
  obtain ⟨o, ν, h2, hpos, ho, hob, hf, hinj⟩ := hB
  have rlt : ∀ j, j < 7 → rhoB r μ i o ν j = some j := fun j hj => if_pos hj
  have r7 : rhoB r μ i o ν 7 = some o := rfl
  have r8 : ∀ j, j < i → bkB r μ j = true → rhoB r μ i o ν (8 + j) = some (ν j) := fun j hj hb => by
    unfold rhoB
    rw [if_neg (by omega), if_neg (by omega), show 8 + j - 8 = j by omega, if_pos ⟨by omega, hb⟩]
  have hfam : ∀ j, alook (famO (wdF r μ) 8 i ++ []) j = if 8 ≤ j ∧ j < 8 + i then wdF r μ (j - 8) else none := fun j => by
    rw [famO_look (wdF r μ) 8 [] i j (fun _ _ => rfl)]; rfl
  have inv : ∀ j x, rhoB r μ i o ν j = some x → (j < 7 ∧ x = j) ∨ (j = 7 ∧ x = o) ∨ (8 ≤ j ∧ j < 8 + i ∧ bkB r μ (j - 8) = true ∧ x = ν (j - 8)) := fun j x hx => by
    unfold rhoB at hx
    split at hx
    · cases hx; exact .inl ⟨by assumption, rfl⟩
    split at hx
    · cases hx; exact .inr (.inl ⟨by assumption, rfl⟩)
    split at hx
    · rename_i q; cases hx; exact .inr (.inr ⟨by omega, q.1, q.2, rfl⟩)
    · cases hx
  refine GT.rename (rhoB r μ i o ν) _ 300 a1 ?_ ?_ ?_ ?_ ?_ ?_ (by omega) (by omega) (fun g hg => absurd hg (Nat.not_lt_zero g)) h
  · intro t v hv
    exact ⟨v, ha t v hv, Rn.same (he.get hv) rlt⟩
  · intro j y hy
    by_cases q : j = 7
    · subst q
      rw [alook_hd] at hy; cases hy
      exact ⟨by omega, o, _, r7, hob, rfl, blC_Rn fun j hj hb => r8 j hj hb⟩
    · rw [alook_tl q] at hy
      by_cases q2 : j = 2
      · subst q2
        rw [alook_hd] at hy; cases hy
        exact ⟨by omega, 2, _, rlt 2 (by omega), h2, rfl, .sl r7⟩
      · rw [alook_tl q2, alook_app] at hy
        cases e : alook L' j with
        | some z =>
          rw [e] at hy
          obtain rfl : z = y := by simpa using hy
          obtain ⟨k1, k2⟩ := hU j z e
          exact ⟨by omega, j, z, rlt j k1, hsub j z e, ORn.same k2 rlt⟩
        | none =>
          rw [e, hfam] at hy
          have hy : (if 8 ≤ j ∧ j < 8 + i then wdF r μ (j - 8) else none) = some y := hy
          split at hy
          · rename_i q3
            cases hb : bkB r μ (j - 8) with
            | false => rw [wdF_f hb] at hy; cases hy
            | true =>
              rw [wdF_t hb] at hy; cases hy
              have := r8 (j - 8) (by omega) hb
              rw [show 8 + (j - 8) = j by omega] at this
              exact ⟨by omega, _, _, this, (hf (j - 8) (by omega) hb).2.2, rfl, .flat (strC_flat _).choose_spec⟩
          · cases hy
  · intro j hn
    have hd : ∀ j, j < 7 → j ≠ 2 → (alook L' j).isSome = true := fun j hj hne => by
      have := List.all_eq_true.1 hdense j (List.mem_range.2 hj)
      rw [Bool.or_eq_true] at this
      rcases this with q | q
      · exact absurd (Nat.eq_of_beq_eq_true q) hne
      · exact q
    by_cases q : j = 7
    · subst q; rw [alook_hd] at hn; cases hn
    · rw [alook_tl q] at hn
      by_cases q2 : j = 2
      · subst q2; rw [alook_hd] at hn; cases hn
      · rw [alook_tl q2, alook_app] at hn
        rcases Nat.lt_or_ge j 7 with q3 | q3
        · have := hd j q3 q2
          cases e : alook L' j with
          | none => rw [e] at this; cases this
          | some z => rw [e] at hn; cases hn
        · unfold rhoB
          rw [if_neg (by omega), if_neg q]
          split
          · rename_i q4
            exfalso
            have e2 : alook (famO (wdF r μ) 8 i ++ []) j = none := by
              cases e : alook L' j with
              | none => rw [e] at hn; exact hn
              | some z => rw [e] at hn; cases hn
            rw [hfam, if_pos ⟨by omega, q4.1⟩, wdF_t q4.2] at e2
            cases e2
          · rfl
  · intro j j' x h1 h1'
    rcases inv j x h1 with ⟨p1, p2⟩ | ⟨p1, p2⟩ | ⟨p1, p2, p3, p4⟩ <;> rcases inv j' x h1' with ⟨s1, s2⟩ | ⟨s1, s2⟩ | ⟨s1, s2, s3, s4⟩
    · omega
    · omega
    · have := (hf (j' - 8) (by omega) s3).1; omega
    · omega
    · omega
    · have := (hf (j' - 8) (by omega) s3).2.1; omega
    · have := (hf (j - 8) (by omega) p3).1; omega
    · have := (hf (j - 8) (by omega) p3).2.1; omega
    · have := hinj (j - 8) (j' - 8) (by omega) (by omega) p3 s3 (by omega); omega
  · intro j x h1
    rcases inv j x h1 with ⟨p1, p2⟩ | ⟨p1, p2⟩ | ⟨p1, p2, p3, p4⟩
    · subst p2; exact Iff.rfl
    · omega
    · have := (hf (j - 8) (by omega) p3).1; omega
  · intro j x h1 hj
    rcases inv j x h1 with ⟨p1, p2⟩ | ⟨p1, p2⟩ | ⟨p1, p2, p3, p4⟩
    · exact p2
    · omega
    · omega
end Go.M
