/- Functions of the given program, walked (no condition beyond what each theorem says). -/
import Derived.Test.YtfhodefiknfccaaDoorK1
set_option linter.unusedVariables false
set_option linter.unusedSimpArgs false
namespace Go.M
open Go.Proofs Go.RowKit
set_option maxRecDepth 8000
set_option maxHeartbeats 8000000
/-- The cells of areas whose polygons may be empty, and then may lie anywhere. -/
def rbC (φ : Nat → Bool) (ν κ : Nat → Nat) : Nat → List Ar → List Value
  | _, [] => []
  | o, a :: l => [.string a.s, .int .i64 a.sz, .int .i64 a.ct, .slice (slA (φ o) (ν o)) a.ps.length (κ o)] ++ rbC φ ν κ (o + 1) l
theorem rbC_len {φ : Nat → Bool} {ν κ : Nat → Nat} : ∀ (l : List Ar) (o : Nat), (rbC φ ν κ o l).length = l.length * 4
  | [], _ => rfl
  | a :: l, o => by unfold rbC; simp [rbC_len l]; omega
theorem rbC_at {φ : Nat → Bool} {ν κ : Nat → Nat} : ∀ (l : List Ar) (o i : Nat) (a : Ar), l[i]? = some a → ((rbC φ ν κ o l).drop (i * 4)).take 4 = [.string a.s, .int .i64 a.sz, .int .i64 a.ct, .slice (slA (φ (o + i)) (ν (o + i))) a.ps.length (κ (o + i))]
  | [], _, i, a, h => by simp at h
  | b :: l, o, 0, a, h => by
    simp at h; subst h
    unfold rbC; rfl
  | b :: l, o, i + 1, a, h => by
    have := rbC_at (φ := φ) (ν := ν) (κ := κ) l (o + 1) i a (by simpa using h)
    unfold rbC
    rw [show (i + 1) * 4 = 4 + i * 4 by omega, ← List.drop_drop, show o + (i + 1) = o + 1 + i by omega]
    exact this
theorem rbC_AR {ρ : Nat → Option (Nat × Nat)} {φ : Nat → Bool} {ν μ κ : Nat → Nat} : ∀ (l : List Ar) (o : Nat), (∀ i, i < l.length → φ (o + i) = true → ρ (ν (o + i)) = some (μ (o + i), 0)) → AR ρ (rbC φ ν κ o l) (rbC φ μ κ o l)
  | [], _, _ => .nil
  | a :: l, o, h => by
    unfold rbC
    refine .flat (k := 8) rfl (.flat (k := 8) rfl (.flat (k := 8) rfl (.slW (h 0 (by simp)) ?_)))
    exact rbC_AR l (o + 1) fun i hi => by have := h (i + 1) (by simpa using hi); rwa [show o + (i + 1) = o + 1 + i by omega] at this
theorem rbC_Lt {k : Nat} {φ : Nat → Bool} {ν κ : Nat → Nat} : ∀ (l : List Ar) (o : Nat), (∀ i, i < l.length → ν (o + i) < k) → Lt k (rbC φ ν κ o l)
  | [], _, _ => .nil
  | a :: l, o, h => by
    unfold rbC
    exact .cons (.flat (j := 8) rfl) (.cons (.flat (j := 8) rfl) (.cons (.flat (j := 8) rfl) (.cons (.slV (Nat.ble_eq_true_of_le (h 0 (by simp)))) (rbC_Lt l (o + 1) fun i hi => by have := h (i + 1) (by simpa using hi); rwa [show o + (i + 1) = o + 1 + i by omega] at this))))
/-- Any areas somewhere in a memory. -/
structure RbAt (A : AW) (p : Nat) (φ : Nat → Bool) (ν κ : Nat → Nat) (l : List Ar) : Prop where
  rd : A.rd p 0 (rbC φ ν κ 0 l).length = some (rbC φ ν κ 0 l)
  ps : ∀ i a, l[i]? = some a → (a.ps = [] ∧ (φ i = true → A.objs (ν i) = none)) ∨ (a.ps ≠ [] ∧ φ i = true ∧ A.rd (ν i) 0 (ptC a.ps).length = some (ptC a.ps))
def rbF (l : List Ar) (i : Nat) : Option AObj := match arP l i with
  | [] => none
  | p :: ps => some (.cells (ptC (p :: ps)) 97)
theorem rbF_no {l : List Ar} {i : Nat} (h : arP l i = []) : rbF l i = none := by unfold rbF; rw [h]
theorem rbF_yes {l : List Ar} {i : Nat} (h : arP l i ≠ []) : rbF l i = some (.cells (ptC (arP l i)) 97) := by
  unfold rbF
  cases e : arP l i with
  | nil => exact absurd e h
  | cons p ps => rfl
abbrev RbM (φ : Nat → Bool) (κ : Nat → Nat) (l : List Ar) : LM := (0, .cells (rbC φ (fun j => 1 + j) κ 0 l) 151) :: (famO (rbF l) 1 l.length ++ [])
def RbRho (p : Nat) (φ : Nat → Bool) (ν : Nat → Nat) (n : Nat) (j : Nat) : Option (Nat × Nat) := if j = 0 then some (p, 0) else if 1 ≤ j ∧ j < 1 + n ∧ φ (j - 1) = true then some (ν (j - 1), 0) else none
theorem RbM_look {φ : Nat → Bool} {κ : Nat → Nat} {l : List Ar} (j : Nat) : alook (RbM φ κ l) j = if 0 = j then some (.cells (rbC φ (fun j => 1 + j) κ 0 l) 151) else if 1 ≤ j ∧ j < 1 + l.length then rbF l (j - 1) else none := by
  simp only [alook]
  rw [famO_look (rbF l) 1 [] l.length j (fun _ _ => rfl)]
  rfl
theorem RbAt.small {A : AW} {p : Nat} {φ : Nat → Bool} {ν κ : Nat → Nat} {l : List Ar} (h : RbAt A p φ ν κ l) (hl : l.length ≤ 16) : SmallD A (RbM φ κ l) 30 0 (RbRho p φ ν l.length) := by
  refine ⟨fun j x hx => ?_, fun j hj => ?_, fun j y hy => ?_, Nat.zero_le _, fun g hg => absurd hg (Nat.not_lt_zero g), Nat.zero_le _⟩
  · unfold RbRho at hx
    split at hx
    · omega
    split at hx
    · omega
    · cases hx
  · rw [RbM_look] at hj
    split at hj
    · cases hj
    rename_i q
    unfold RbRho
    rw [if_neg (fun e => q e.symm)]
    split at hj
    · rename_i q2
      cases hφ : φ (j - 1) with
      | false => left; rw [if_neg (by simp)]
      | true =>
        right
        obtain ⟨a, ha⟩ : ∃ a, l[j - 1]? = some a := ⟨_, List.getElem?_eq_getElem (show j - 1 < l.length by omega)⟩
        refine ⟨(ν (j - 1), 0), by rw [if_pos ⟨q2.1, q2.2, rfl⟩], ?_⟩
        rcases h.ps _ a ha with ⟨_, h2⟩ | ⟨h2, _, _⟩
        · exact h2 hφ
        · rw [← arP_at ha] at h2
          rw [rbF_yes h2] at hj; cases hj
    · rename_i q2
      left
      rw [if_neg (fun e => q2 ⟨e.1, e.2.1⟩)]
  · rw [RbM_look] at hy
    split at hy
    · rename_i q
      subst q; cases hy
      refine ⟨by omega, (p, 0), rfl, rbC φ ν κ 0 l, ?_, rbC_AR l 0 fun i hi hφ => ?_⟩
      · rw [rbC_len, ← rbC_len (φ := φ) (ν := ν) (κ := κ) l 0]; exact h.rd
      · unfold RbRho
        rw [if_neg (by omega), show 1 + (0 + i) - 1 = 0 + i by omega, if_pos ⟨by omega, by omega, hφ⟩]
    · rename_i q
      split at hy
      · rename_i q2
        obtain ⟨a, ha⟩ : ∃ a, l[j - 1]? = some a := ⟨_, List.getElem?_eq_getElem (show j - 1 < l.length by omega)⟩
        have hne : arP l (j - 1) ≠ [] := fun e => by rw [rbF_no e] at hy; cases hy
        rw [rbF_yes hne] at hy; cases hy
        rw [arP_at ha] at hne ⊢
        rcases h.ps _ a ha with ⟨h1, _⟩ | ⟨_, h2, h3⟩
        · exact absurd h1 hne
        · obtain ⟨f, hf⟩ := ptC_flat a.ps
          exact ⟨by omega, (ν (j - 1), 0), by unfold RbRho; rw [if_neg (fun e => q e.symm), if_pos ⟨q2.1, q2.2, h2⟩], .flat h3 hf⟩
      · cases hy
theorem RbM_und {φ : Nat → Bool} {κ : Nat → Nat} {l : List Ar} (hl : l.length ≤ 16) : Und 30 (RbM φ κ l) := fun j y hy => by
  rw [RbM_look] at hy
  split at hy
  · cases hy; exact ⟨by omega, rbC_Lt l 0 fun i hi => by omega⟩
  split at hy
  · have hne : arP l (j - 1) ≠ [] := fun e => by rw [rbF_no e] at hy; cases hy
    rw [rbF_yes hne] at hy; cases hy
    exact ⟨by omega, Lt.flat (ptC_flat _).choose_spec⟩
  · cases hy
theorem w_short15 {A : AW} {p c : Nat} {φ : Nat → Bool} {ν κ : Nat → Nat} (l : List Ar) (hl : l.length ≤ 4) (h : RbAt A p φ ν κ l) :
    AC Tryd.prog 15 [.slice (some ⟨p, 0, none⟩) l.length c] A (fun v A1 => (∃ x, v = .bool x ∧ (x = true → ∀ (i : Nat) (a : Ar), l[i]? = some a → a.ps.length ≤ 9)) ∧ A1 = A) := by
  have hlen := rbC_len (φ := φ) (ν := fun j => 1 + j) (κ := κ) l 0
  refine AC.pureD (R := fun v => ∃ x, v = .bool x ∧ (x = true → ∀ (i : Nat) (a : Ar), l[i]? = some a → a.ps.length ≤ 9)) (h.small (by omega)) (args := [.slice (some ⟨0, 0, none⟩) l.length c]) ?_ (.sl rfl rfl .nil)
  clear h
  refine AC.go Tryd.func15 rfl rfl ?_
  repeat' (first
  | refine GL.sf rfl rfl rfl rfl ?_
  | refine GL.done ?_
  | refine GP.thenN ?_
  | refine GT.seq ?_
  | refine GT.region ?_
  | refine GT.block ?_)
  refine GT.loop (fun q a L nx => ∃ i : Nat, i ≤ l.length ∧ q = l.length - i ∧ (∀ (j : Nat) (a : Ar), j < i → l[j]? = some a → a.ps.length ≤ 9) ∧ asub [(0, .slice (some ⟨0, 0, none⟩) l.length c), (3, .int .i64 i)] a ∧ L = RbM φ κ l ∧ nx = 30) l.length
    ⟨0, by omega, by omega, fun j a hj => by omega, asub_cons rfl (asub_cons rfl asub_nil), rfl, rfl⟩ ?_
  rintro q a L nx ⟨i, hi, rfl, hz, hs, rfl, rfl⟩
  refine GT.keep hs ?_
  clear hs
  rcases Nat.lt_or_ge i l.length with hlt | hge
  · obtain ⟨x, hx⟩ : ∃ x, l[i]? = some x := ⟨_, List.getElem?_eq_getElem hlt⟩
    have g0 : (rbC φ (fun j => 1 + j) κ 0 l)[0 + (i : Int).toNat * 4]? = some (.string x.s) := by
      have := congrArg (·[0]?) (rbC_at (φ := φ) (ν := fun j => 1 + j) (κ := κ) l 0 i x hx)
      simpa [List.getElem?_take, List.getElem?_drop] using this
    have g3 : (rbC φ (fun j => 1 + j) κ 0 l)[0 + (i : Int).toNat * 4 + 3]? = some (.slice (slA (φ (0 + i)) (1 + (0 + i))) x.ps.length (κ (0 + i))) := by
      have := congrArg (·[3]?) (rbC_at (φ := φ) (ν := fun j => 1 + j) (κ := κ) l 0 i x hx)
      simpa [List.getElem?_take, List.getElem?_drop] using this
    repeat' (first
    | refine GL.sf rfl rfl rfl rfl ?_
    | refine GL.sv rfl rfl rfl rfl ?_
    | refine GL.done ?_
    | refine GP.thenN ?_
    | refine GT.seq ?_
    | refine GT.region ?_
    | refine GL.unguardG rfl rfl rfl ?_
    | refine GL.skipG rfl rfl rfl rfl rfl ?_
    | refine GL.v rfl rfl rfl (by first | exact GO.indexS (s := 4) rfl rfl rfl rfl rfl (by omega) | exact GO.loadC rfl rfl rfl rfl rfl g0 | exact GO.loadC rfl rfl rfl rfl rfl g3 | exact GO.add rfl rfl rfl (by omega)) ?_
    | refine GT.skip ?_
    | refine GT.block ?_
    | refine GT.ret ?_
    | refine GP.thenR ?_
    | refine GP.inN ?_
    | refine GP.inR ?_
    | refine GP.invR ?_
    | refine GT.condT rfl ?_
    | (refine GT.condD rfl (fun h => ?_) (fun h => ?_) <;> try (exfalso; omega))
    | (refine GL.forkDG rfl rfl rfl (fun h => ?_) (fun h => ?_) <;> try (exfalso; omega))
    | refine GP.endR1 rfl ?_)
    all_goals first
      | exact ⟨⟨_, rfl, fun h => by cases h⟩, 8, rfl⟩
      | exact GP.invN (l.length - (i + 1)) (by omega) ⟨i + 1, by omega, rfl, (fun j a hj ha => by
          rcases Nat.lt_or_ge j i with q | q
          · exact hz j a q ha
          · obtain rfl : j = i := by omega
            rw [hx] at ha; cases ha; omega), asub_cons rfl (asub_cons rfl asub_nil), rfl, rfl⟩
  · obtain rfl : i = l.length := by omega
    repeat' (first
    | refine GL.sf rfl rfl rfl rfl ?_
    | refine GL.sv rfl rfl rfl rfl ?_
    | refine GL.done ?_
    | refine GP.thenN ?_
    | refine GT.seq ?_
    | refine GT.region ?_
    | refine GL.skipG rfl rfl rfl rfl rfl ?_
    | refine GT.ret ?_
    | refine GT.exit ?_
    | refine GP.thenE ?_
    | refine GP.hit ?_
    | refine GP.invE ?_
    | (refine GT.condD rfl (fun h => ?_) (fun h => ?_) <;> try (exfalso; omega))
    | (refine GL.forkDG rfl rfl rfl (fun h => ?_) (fun h => ?_) <;> try (exfalso; omega))
    | refine GP.endR1 rfl ?_)
    all_goals exact ⟨⟨_, rfl, fun _ j a ha => hz j a (List.getElem?_eq_some_iff.1 ha).1 ha⟩, 8, rfl⟩
theorem w_list16 {A : AW} {p c : Nat} {φ : Nat → Bool} {ν κ : Nat → Nat} (l : List Ar) (hl : l.length ≤ 4) (h9 : ∀ (i : Nat) (a : Ar), l[i]? = some a → a.ps.length ≤ 9) (h : RbAt A p φ ν κ l) :
    AC Tryd.prog 16 [.slice (some ⟨p, 0, none⟩) l.length c] A (fun v A1 => (∃ e, v = .int .i64 e ∧ (e = 0 → ArOk l)) ∧ A1 = A) := by
  have hlen := rbC_len (φ := φ) (ν := fun j => 1 + j) (κ := κ) l 0
  have hφ : ∀ i a, l[i]? = some a → a.ps ≠ [] → φ i = true := fun i a ha hne => by
    rcases h.ps i a ha with ⟨q, _⟩ | ⟨_, q, _⟩
    · exact absurd q hne
    · exact q
  refine AC.pureD (R := fun v => ∃ e, v = .int .i64 e ∧ (e = 0 → ArOk l)) (h.small (by omega)) (args := [.slice (some ⟨0, 0, none⟩) l.length c]) (AC.mono (R := fun v _ => ∃ e, v = .int .i64 e ∧ (e = 0 → ArOk l)) ?_ (fun v _ ⟨e, q, h⟩ => ⟨⟨e, q, h⟩, by subst q; exact ⟨8, rfl⟩⟩)) (.sl rfl rfl .nil)
  clear h
  have hU := RbM_und (φ := φ) (κ := κ) (l := l) (by omega)
  have hlook := RbM_look (φ := φ) (κ := κ) (l := l)
  have h00 : alook (RbM φ κ l) 0 = some (.cells (rbC φ (fun j => 1 + j) κ 0 l) 151) := rfl
  refine AC.go Tryd.func16 rfl rfl ?_
  repeat' (first
  | refine GL.sf rfl rfl rfl rfl ?_
  | refine GL.sv rfl rfl rfl rfl ?_
  | refine GL.done ?_
  | refine GP.thenN ?_
  | refine GT.seq ?_
  | refine GT.region ?_
  | refine GT.skip ?_
  | refine GT.block ?_
  | (refine GT.condD rfl (fun h => ?_) (fun h => ?_) <;> try (exfalso; omega)))
  refine GT.loop (fun q a L nx => ∃ i : Nat, i ≤ l.length ∧ q = l.length - i ∧ 30 ≤ nx ∧ (∀ (j : Nat) (y : Ar), j < i → l[j]? = some y → y.Ok) ∧ (∀ (k j : Nat) (y z : Ar), j < k → k < i → l[k]? = some y → l[j]? = some z → (y.s == z.s) = false) ∧
      asub [(0, .slice (some ⟨0, 0, none⟩) l.length c), (4, .int .i64 i)] a ∧ subm (RbM φ κ l) L ∧
      ((i = 0 ∧ aget a 3 = some (.slice none 0 0)) ∨ ∃ o, 0 < i ∧ 30 ≤ o ∧ alook L o = some (.cells (nmC (arNm l) i) 9) ∧ aget a 3 = some (.slice (some ⟨o, 0, none⟩) i i))) l.length
    ⟨0, by omega, by omega, Nat.le_of_ble_eq_true rfl, fun j y hj => by omega, fun k j y z _ hk => by omega, asub_cons rfl (asub_cons rfl asub_nil), subm_refl, .inl ⟨rfl, rfl⟩⟩ ?_
  rintro q a L nx ⟨i, hi, rfl, hnx, hok, hne, hs, hsub, hcase⟩
  have hE : EnvLt 30 [(0, .slice (some ⟨0, 0, none⟩) l.length c), (4, .int .i64 i)] := .cons (.sl rfl) (.cons (.flat (j := 8) rfl) .nil)
  have hsb : ∀ {j : Nat} {y : AObj}, alook (RbM φ κ l) j = some y → j < 30 := fun h => (hU _ _ h).1
  rcases Nat.lt_or_ge i l.length with hlt | hge
  · obtain ⟨x, hx⟩ : ∃ x, l[i]? = some x := ⟨_, List.getElem?_eq_getElem hlt⟩
    have hnm : arNm l i = x.s := by unfold arNm; rw [hx]
    have gA := rbC_at (φ := φ) (ν := fun j => 1 + j) (κ := κ) l 0 i x hx
    have g0 : (rbC φ (fun j => 1 + j) κ 0 l)[0 + (i : Int).toNat * 4]? = some (.string x.s) := by
      have := congrArg (·[0]?) gA
      simpa [List.getElem?_take, List.getElem?_drop] using this
    have g1 : (rbC φ (fun j => 1 + j) κ 0 l)[0 + (i : Int).toNat * 4 + 1]? = some (.int .i64 x.sz) := by
      have := congrArg (·[1]?) gA
      simpa [List.getElem?_take, List.getElem?_drop] using this
    have g2 : (rbC φ (fun j => 1 + j) κ 0 l)[0 + (i : Int).toNat * 4 + 2]? = some (.int .i64 x.ct) := by
      have := congrArg (·[2]?) gA
      simpa [List.getElem?_take, List.getElem?_drop] using this
    have g3 : (rbC φ (fun j => 1 + j) κ 0 l)[0 + (i : Int).toNat * 4 + 3]? = some (.slice (slA (φ i) (1 + i)) x.ps.length (κ i)) := by
      have := congrArg (·[3]?) gA
      simpa [List.getElem?_take, List.getElem?_drop] using this
    have hps : x.ps = [] ∨ φ i = true ∧ alook (famO (rbF l) 1 l.length ++ []) (1 + i) = some (.cells (ptC x.ps) 97) := by
      by_cases q : x.ps = []
      · exact .inl q
      · refine .inr ⟨hφ i x hx q, ?_⟩
        rw [famO_look (rbF l) 1 [] l.length _ (fun _ _ => rfl), if_pos ⟨by omega, by omega⟩, show 1 + i - 1 = i by omega, rbF_yes (by rw [arP_at hx]; exact q), arP_at hx]
    have k58 := fun {L : LM} {nx ro gl : Nat} (hL : alook (famO (rbF l) 1 l.length ++ []) (1 + i) = some (.cells (ptC x.ps) 97) → alook L (1 + i) = some (.cells (ptC x.ps) 97)) =>
      w_poly58V (A := AW.of L nx ro gl) (b := slA (φ i) (1 + i)) (c := κ i) x.ps (by have := h9 i x hx; omega) (by
        rcases hps with q | ⟨q1, q2⟩
        · exact .inl q
        · exact .inr ⟨1 + i, by rw [q1]; rfl, rd_self (hL q2)⟩)
    have next : x.Ok → (∀ j, j < i → (x.s == arNm l j) = false) → (∀ (j : Nat) (y : Ar), j < i + 1 → l[j]? = some y → y.Ok) ∧ (∀ (k j : Nat) (y z : Ar), j < k → k < i + 1 → l[k]? = some y → l[j]? = some z → (y.s == z.s) = false) := fun h1 h2 => by
      refine ⟨fun j y hj hy => ?_, fun k j y z hjk hk hy hz => ?_⟩
      · rcases Nat.lt_or_ge j i with q | q
        · exact hok j y q hy
        · obtain rfl : j = i := by omega
          rw [hx] at hy; cases hy; exact h1
      · rcases Nat.lt_or_ge k i with q | q
        · exact hne k j y z hjk q hy hz
        · obtain rfl : k = i := by omega
          rw [hx] at hy; cases hy
          have := h2 j hjk
          unfold arNm at this
          rw [hz] at this; exact this
    rcases hcase with ⟨h0, h3⟩ | ⟨o, hpos, ho, hob, h3⟩
    · refine GT.resetL (a1 := (3, .slice none 0 0) :: [(0, .slice (some ⟨0, 0, none⟩) l.length c), (4, .int .i64 i)]) 30 (asub_cons h3 hs) hsub hnx rfl rfl hU (.cons (.flat (j := 8) rfl) hE) (fun g hg => absurd hg (Nat.not_lt_zero g)) ?_
      clear hs hsub hnx h3
      repeat' (first
      | refine GT.draws (id := 7) [[], [], [0, 1], [0, 1, 2], [0, 1, 2, 3], [0, 1, 2, 3, 4], [], [], [], [7, 8], [7, 8, 9], [7, 8, 9, 10], [0, 1, 2, 3, 4, 5, 6, 7, 8, 9, 10, 11], [0, 1, 2, 3, 4, 5, 6, 7, 8, 9, 10, 11, 12], [], [], [14, 15], [14, 15, 16], [14, 15, 16, 17], [0, 1, 2, 3, 4, 5, 6, 7, 8, 9, 10, 11, 12, 13, 14, 15, 16, 17, 18], [], [], [20, 21], [20, 21, 22], [20, 21, 22, 23], [0, 1, 2, 3, 4, 5, 6, 7, 8, 9, 10, 11, 12, 13, 14, 15, 16, 17, 18, 19, 20, 21, 22, 23, 24], [], [], [26, 27], [26, 27, 28], [26, 27, 28, 29], [0, 1, 2, 3, 4, 5, 6, 7, 8, 9, 10, 11, 12, 13, 14, 15, 16, 17, 18, 19, 20, 21, 22, 23, 24, 25, 26, 27, 28, 29, 30], [0, 1, 2, 3, 4, 5, 6, 7, 8, 9, 10, 11, 12, 13, 14, 15, 16, 17, 18, 19, 20, 21, 22, 23, 24, 25, 26, 27, 28, 29, 30, 31], [0, 1, 2, 3, 4, 5, 6, 7, 8, 9, 10, 11, 12, 13, 14, 15, 16, 17, 18, 19, 20, 21, 22, 23, 24, 25, 26, 27, 28, 29, 30, 31, 32], [0, 1, 2, 3, 4, 5, 6, 7, 8, 9, 10, 11, 12, 13, 14, 15, 16, 17, 18, 19, 20, 21, 22, 23, 24, 25, 26, 27, 28, 29, 30, 31, 32, 33]] [32] (by kernel_rfl) ?_
      | exact ⟨_, rfl, fun q => absurd q h⟩
      | refine GL.sf rfl rfl rfl rfl ?_
      | refine GL.sv rfl rfl rfl rfl ?_
      | refine GL.done ?_
      | refine GP.thenN ?_
      | refine GT.seq ?_
      | refine GT.region ?_
      | refine GD.li rfl rfl (by exact onAt.none rfl) rfl (by repeat first | exact AllG.nil rfl | refine AllG.cons rfl (by first | exact GO.sf rfl rfl | exact GO.sv rfl rfl | exact GO.indexS (s := 4) rfl rfl rfl rfl rfl (by omega) | exact GO.loadC rfl rfl rfl rfl rfl g0 | exact GO.loadC rfl rfl rfl rfl rfl g1 | exact GO.loadC rfl rfl rfl rfl rfl g2 | exact GO.loadC rfl rfl rfl rfl rfl g3 | exact GO.call rfl rfl Tryd.func56 rfl rfl rfl (w_size56 _) | exact GO.call rfl rfl Tryd.func57 rfl rfl rfl (w_category57 _) | exact GO.call rfl rfl Tryd.func58 rfl rfl rfl (k58 (fun q => by simp only [alook_aset, alook_aerase, alook]; (repeat rw [if_neg (by omega)]); exact q)) | exact GO.call rfl rfl Tryd.func54 rfl rfl rfl (w_name54 _) | exact GO.call rfl rfl Tryd.func26 rfl rfl rfl (w_word26n _) | exact GO.call rfl rfl Tryd.func55 rfl rfl rfl (d_when55 _ _) | exact GO.call rfl rfl Tryd.func53 rfl rfl rfl (d_first53 [whenI (!nameB x.s) 8, whenI false 9, whenI (withinB x.sz 0 3) 3, whenI (withinB x.ct 1 3) 3, polyE x.ps] rfl rfl rfl)) ?_) ?_
      | refine GD.he rfl rfl rfl (by exact onAt.none rfl) rfl (by exact GO.sf rfl rfl) ?_ ?_
      | refine GD.done rfl rfl rfl ?_
      | exact AllJs.nil rfl
      | refine GL.v rfl rfl rfl (by first | exact GO.indexS (s := 4) rfl rfl rfl rfl rfl (by omega) | exact GO.loadC rfl rfl rfl rfl rfl g0 | exact GO.add rfl rfl rfl (by omega)) ?_
      | refine GT.skip ?_
      | refine GT.block ?_
      | refine GT.ret ?_
      | refine GP.thenR ?_
      | refine GP.inN ?_
      | refine GP.inR ?_
      | refine GP.invR ?_
      | (refine GT.condD rfl (fun h => ?_) (fun h => ?_) <;> try (exfalso; omega))
      | (refine GT.condN rfl (fun h => ?_) (fun h => ?_) <;> try (exfalso; omega))
      | refine GP.endR1 rfl ?_)
      have k := of_firstNZ h
      simp only [List.mem_cons, List.not_mem_nil, or_false, forall_eq_or_imp, forall_eq] at k
      have hn := next ⟨name_of k.1, of_withinB (of_whenI k.2.2.1 (by decide)), of_withinB (of_whenI k.2.2.2.1 (by decide)), poly_ok k.2.2.2.2⟩ (fun j hj => by omega)
      exact GP.invN (l.length - (i + 1)) (by omega) ⟨i + 1, by omega, rfl, Nat.le_of_ble_eq_true rfl, hn.1, hn.2, asub_cons rfl (asub_cons rfl asub_nil), (fun j o h => by have hj := hsb h; simp only [alook_aset, alook_aerase, alook]; (repeat rw [if_neg (by omega)]); exact h), .inr ⟨32, by omega, Nat.le_of_ble_eq_true rfl, by subst h0; rw [nmC_succ, hnm]; rfl, by subst h0; rfl⟩⟩
    · refine GT.ren 30 o (a2 := [(0, .slice (some ⟨0, 0, none⟩) l.length c), (4, .int .i64 i)]) (a1 := (3, .slice (some ⟨30, 0, none⟩) i i) :: [(0, .slice (some ⟨0, 0, none⟩) l.length c), (4, .int .i64 i)]) (L' := (30, .cells (nmC (arNm l) i) 9) :: RbM φ κ l) hs hE hob (strC_flat _) rfl (Nat.ble_eq_true_of_le ho) rfl rfl (fun j y hne hy => by
        rw [alook, if_neg (fun e => hne e.symm)] at hy
        obtain ⟨g1, g2⟩ := hU j y hy
        exact ⟨g1, .inl ⟨hsub j y hy, g2⟩⟩) (fun g hg => absurd hg (Nat.not_lt_zero g)) (.inr ⟨3, i, i, rfl, h3⟩) ?_
      clear hs hsub hnx h3 ho hob
      have k26 := fun {A : AW} {b c : Nat} hb => w_word26 (A := A) (b := b) (c := c) ((List.range i).map (arNm l)) x.s (by simp; omega) hb
      rw [show ((List.range i).map (arNm l)).length = i by simp] at k26
      have hnl : (nmC (arNm l) i).length = i * 1 := by rw [nmC_len]; omega
      repeat' (first
      | refine GT.draws (id := 7) [[], [], [0, 1], [0, 1, 2], [0, 1, 2, 3], [0, 1, 2, 3, 4], [], [], [], [7, 8], [7, 8, 9], [7, 8, 9, 10], [0, 1, 2, 3, 4, 5, 6, 7, 8, 9, 10, 11], [0, 1, 2, 3, 4, 5, 6, 7, 8, 9, 10, 11, 12], [], [], [14, 15], [14, 15, 16], [14, 15, 16, 17], [0, 1, 2, 3, 4, 5, 6, 7, 8, 9, 10, 11, 12, 13, 14, 15, 16, 17, 18], [], [], [20, 21], [20, 21, 22], [20, 21, 22, 23], [0, 1, 2, 3, 4, 5, 6, 7, 8, 9, 10, 11, 12, 13, 14, 15, 16, 17, 18, 19, 20, 21, 22, 23, 24], [], [], [26, 27], [26, 27, 28], [26, 27, 28, 29], [0, 1, 2, 3, 4, 5, 6, 7, 8, 9, 10, 11, 12, 13, 14, 15, 16, 17, 18, 19, 20, 21, 22, 23, 24, 25, 26, 27, 28, 29, 30], [0, 1, 2, 3, 4, 5, 6, 7, 8, 9, 10, 11, 12, 13, 14, 15, 16, 17, 18, 19, 20, 21, 22, 23, 24, 25, 26, 27, 28, 29, 30, 31], [0, 1, 2, 3, 4, 5, 6, 7, 8, 9, 10, 11, 12, 13, 14, 15, 16, 17, 18, 19, 20, 21, 22, 23, 24, 25, 26, 27, 28, 29, 30, 31, 32], [0, 1, 2, 3, 4, 5, 6, 7, 8, 9, 10, 11, 12, 13, 14, 15, 16, 17, 18, 19, 20, 21, 22, 23, 24, 25, 26, 27, 28, 29, 30, 31, 32, 33]] [32] (by kernel_rfl) ?_
      | exact ⟨_, rfl, fun q => absurd q h⟩
      | refine GL.sf rfl rfl rfl rfl ?_
      | refine GL.sv rfl rfl rfl rfl ?_
      | refine GL.done ?_
      | refine GP.thenN ?_
      | refine GT.seq ?_
      | refine GT.region ?_
      | refine GD.li rfl rfl (by exact onAt.none rfl) rfl (by repeat first | exact AllG.nil rfl | refine AllG.cons rfl (by first | exact GO.sf rfl rfl | exact GO.sv rfl rfl | exact GO.indexS (s := 4) rfl rfl rfl rfl rfl (by omega) | exact GO.loadC rfl rfl rfl rfl rfl g0 | exact GO.loadC rfl rfl rfl rfl rfl g1 | exact GO.loadC rfl rfl rfl rfl rfl g2 | exact GO.loadC rfl rfl rfl rfl rfl g3 | exact GO.call rfl rfl Tryd.func56 rfl rfl rfl (w_size56 _) | exact GO.call rfl rfl Tryd.func57 rfl rfl rfl (w_category57 _) | exact GO.call rfl rfl Tryd.func58 rfl rfl rfl (k58 (fun q => by simp only [alook_aset, alook_aerase, alook]; (repeat rw [if_neg (by omega)]); exact q)) | exact GO.call rfl rfl Tryd.func54 rfl rfl rfl (w_name54 _) | exact GO.call rfl rfl Tryd.func26 rfl rfl rfl (k26 (rd_self rfl)) | exact GO.call rfl rfl Tryd.func55 rfl rfl rfl (d_when55 _ _) | exact GO.call rfl rfl Tryd.func53 rfl rfl rfl (d_first53 [whenI (!nameB x.s) 8, whenI (hasS ((List.range i).map (arNm l)) x.s) 9, whenI (withinB x.sz 0 3) 3, whenI (withinB x.ct 1 3) 3, polyE x.ps] rfl rfl rfl)) ?_) ?_
      | refine GD.he rfl rfl rfl (by exact onAt.none rfl) rfl (by exact GO.sf rfl rfl) ?_ ?_
      | refine GD.done rfl rfl rfl ?_
      | exact AllJs.nil rfl
      | refine GL.v rfl rfl rfl (by first | exact GO.indexS (s := 4) rfl rfl rfl rfl rfl (by omega) | exact GO.loadC rfl rfl rfl rfl rfl g0 | exact GO.appendN (olds := nmC (arNm l) i) rfl rfl rfl rfl rfl rfl rfl rfl rfl rfl rfl rfl rfl rfl hnl (Nat.le_of_ble_eq_true rfl) rfl (Nat.le_of_ble_eq_true rfl) (Nat.le_of_ble_eq_true rfl) (Nat.le_trans (m := 1000 + 8) (Nat.add_le_add (by omega) (Nat.le_of_ble_eq_true rfl)) (Nat.le_of_ble_eq_true rfl)) | exact GO.add rfl rfl rfl (by omega)) ?_
      | refine GT.skip ?_
      | refine GT.block ?_
      | refine GT.ret ?_
      | refine GP.thenR ?_
      | refine GP.inN ?_
      | refine GP.inR ?_
      | refine GP.invR ?_
      | (refine GT.condD rfl (fun h => ?_) (fun h => ?_) <;> try (exfalso; omega))
      | (refine GT.condN rfl (fun h => ?_) (fun h => ?_) <;> try (exfalso; omega))
      | refine GP.endR1 rfl ?_)
      have k := of_firstNZ h
      simp only [List.mem_cons, List.not_mem_nil, or_false, forall_eq_or_imp, forall_eq] at k
      have hn := next ⟨name_of k.1, of_withinB (of_whenI k.2.2.1 (by decide)), of_withinB (of_whenI k.2.2.2.1 (by decide)), poly_ok k.2.2.2.2⟩ (hasS_no (of_whenI k.2.1 (by decide)))
      exact GP.invN (l.length - (i + 1)) (by omega) ⟨i + 1, by omega, rfl, Nat.le_of_ble_eq_true rfl, hn.1, hn.2, asub_cons rfl (asub_cons rfl asub_nil), (fun j o h => by have hj := hsb h; simp only [alook_aset, alook_aerase, alook]; (repeat rw [if_neg (by omega)]); exact h), .inr ⟨33, by omega, Nat.le_of_ble_eq_true rfl, by rw [nmC_succ, hnm]; rfl, rfl⟩⟩
  · obtain rfl : i = l.length := by omega
    refine GT.resetL 30 hs hsub hnx rfl rfl hU hE (fun g hg => absurd hg (Nat.not_lt_zero g)) ?_
    repeat' (first
    | refine GL.sf rfl rfl rfl rfl ?_
    | refine GL.sv rfl rfl rfl rfl ?_
    | refine GL.done ?_
    | refine GP.thenN ?_
    | refine GT.seq ?_
    | refine GT.region ?_
    | refine GT.ret ?_
    | refine GT.exit ?_
    | refine GP.thenE ?_
    | refine GP.hit ?_
    | refine GP.invE ?_
    | (refine GT.condD rfl (fun h => ?_) (fun h => ?_) <;> try (exfalso; omega))
    | refine GP.endR1 rfl ?_)
    exact ⟨0, rfl, fun _ => ⟨fun j y hy => hok j y (List.getElem?_eq_some_iff.1 hy).1 hy, fun k j y z hjk hy hz => hne k j y z hjk (List.getElem?_eq_some_iff.1 hy).1 hy hz⟩⟩
theorem w_short15e {A : AW} {b : Option Addr} {c : Nat} : AC Tryd.prog 15 [.slice b 0 c] A (isR (.bool true) A) := by
  refine AC.isE ?_ ?_ ⟨8, rfl⟩
  · refine AC.go Tryd.func15 rfl rfl ?_
    repeat' (first
    | refine GT.unroll 1 ?_
    | refine GL.sf rfl rfl rfl rfl ?_
    | refine GL.done ?_
    | refine GP.thenN ?_
    | refine GT.seq ?_
    | refine GT.region ?_
    | refine GL.skipG rfl rfl rfl rfl rfl ?_
    | refine GT.block ?_
    | refine GT.ret ?_
    | refine GT.exit ?_
    | refine GP.thenE ?_
    | refine GP.hit ?_
    | refine GP.againE ?_
    | refine GU.step ?_
    | refine GT.condF rfl ?_
    | refine GP.endR1 rfl ?_)
    rfl
  · refine AC.go Tryd.func15 rfl rfl ?_
    repeat' (first
    | refine GT.unroll 1 ?_
    | refine GL.sf rfl rfl rfl rfl ?_
    | refine GL.done ?_
    | refine GP.thenN ?_
    | refine GT.seq ?_
    | refine GT.region ?_
    | refine GL.skipG rfl rfl rfl rfl rfl ?_
    | refine GT.block ?_
    | refine GT.ret ?_
    | refine GT.exit ?_
    | refine GP.thenE ?_
    | refine GP.hit ?_
    | refine GP.againE ?_
    | refine GU.step ?_
    | refine GT.condF rfl ?_
    | refine GP.endR1 rfl ?_)
    rfl
theorem w_list16e {A : AW} {b : Option Addr} {c : Nat} : AC Tryd.prog 16 [.slice b 0 c] A (isR (.int .i64 0) A) := by
  refine AC.isE ?_ ?_ ⟨8, rfl⟩
  · refine AC.go Tryd.func16 rfl rfl ?_
    repeat' (first
    | refine GT.unroll 1 ?_
    | refine GL.sf rfl rfl rfl rfl ?_
    | refine GL.done ?_
    | refine GP.thenN ?_
    | refine GT.seq ?_
    | refine GT.region ?_
    | refine GT.skip ?_
    | refine GT.block ?_
    | refine GT.ret ?_
    | refine GT.exit ?_
    | refine GP.thenE ?_
    | refine GP.hit ?_
    | refine GP.againE ?_
    | refine GU.step ?_
    | refine GT.condF rfl ?_
    | refine GP.endR1 rfl ?_)
    rfl
  · refine AC.go Tryd.func16 rfl rfl ?_
    repeat' (first
    | refine GT.unroll 1 ?_
    | refine GL.sf rfl rfl rfl rfl ?_
    | refine GL.done ?_
    | refine GP.thenN ?_
    | refine GT.seq ?_
    | refine GT.region ?_
    | refine GT.skip ?_
    | refine GT.block ?_
    | refine GT.ret ?_
    | refine GT.exit ?_
    | refine GP.thenE ?_
    | refine GP.hit ?_
    | refine GP.againE ?_
    | refine GU.step ?_
    | refine GT.condF rfl ?_
    | refine GP.endR1 rfl ?_)
    rfl
end Go.M
