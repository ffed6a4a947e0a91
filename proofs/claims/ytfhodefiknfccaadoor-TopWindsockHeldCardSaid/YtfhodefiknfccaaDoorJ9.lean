/- Functions of the given program, walked (no condition beyond what each theorem says). -/
import Derived.Test.YtfhodefiknfccaaDoorJ1
import Derived.Test.YtfhodefiknfccaaDoorJ4
import Derived.Test.YtfhodefiknfccaaDoorA8
import Derived.Test.YtfhodefiknfccaaDoorJ5
set_option linter.unusedVariables false
set_option linter.unusedSimpArgs false
namespace Go.M
open Go.Proofs Go.RowKit
set_option maxRecDepth 8000
set_option maxHeartbeats 8000000
theorem ne_nil {α : Type} : ne ([] : List α) = false := rfl
theorem ne_cons {α : Type} {l : List α} (h : l ≠ []) : ne l = true := by
  cases l with
  | nil => exact absurd rfl h
  | cons x l => rfl
/-- A list in a memory: where it is said to lie, if that is said. -/
structure LiAt (A : AW) (b : Bool) (p : Nat) (z : Bool) (cs : List Value) : Prop where
  no : z = false → b = true → A.objs p = none
  yes : z = true → b = true ∧ A.rd p 0 cs.length = some cs
theorem LiAt.sl {A : AW} {b : Bool} {p : Nat} {α : Type} {l : List α} {cs : List Value} (h : LiAt A b p (ne l) cs) : l = [] ∨ SlAt A (slA b p) cs := by
  cases l with
  | nil => exact .inl rfl
  | cons x l =>
    obtain ⟨h1, h2⟩ := h.yes rfl
    subst h1
    exact .inr ⟨p, rfl, h2⟩
/-- What a night's function needs of a memory. -/
structure NiAt (A : AW) (ea ed e0 em : Bool) (p q r0 r : Nat) (ν κ : Nat → Nat) (l : List Ar) (d : List Ld) (m0 m : List Mv) : Prop where
  gw : GW A
  ar : LiAt A ea p (ne l) (raC ν κ 0 l)
  ps : ∀ i a, l[i]? = some a → A.rd (ν i) 0 (ptC a.ps).length = some (ptC a.ps)
  ld : LiAt A ed q (ne d) (ldC d)
  m0 : LiAt A e0 r0 (ne m0) (mvC m0)
  mv : LiAt A em r (ne m) (mvC m)
def opt (b : Bool) (L : LM) : LM := match b with
  | true => L
  | false => []
theorem opt_look {b : Bool} {k j : Nat} {o : AObj} {L : LM} : alook (opt b [(k, o)] ++ L) j = if b = true ∧ k = j then some o else alook L j := by
  cases b
  · simp [opt]
  · simp only [opt, List.cons_append, List.nil_append, alook, true_and]
abbrev NiX (κ : Nat → Nat) (l : List Ar) (d : List Ld) (m0 m : List Mv) : LM := opt (ne m) [(5, .cells (mvC m) 112)] ++ (opt (ne m0) [(4, .cells (mvC m0) 112)] ++ (opt (ne d) [(3, .cells (ldC d) 159)] ++ WG))
/-- The small memory of a night. -/
def NiM (κ : Nat → Nat) (l : List Ar) (d : List Ld) (m0 m : List Mv) : LM := opt (ne l) [(6, .cells (raC (fun j => 7 + j) κ 0 l) 151)] ++ (famB (fun i => .cells (ptC (arP l i)) 97) 7 l.length ++ NiX κ l d m0 m)
theorem GW.smallD {A : AW} (h : GW A) : SmallD A WG 3 3 (fun j => if j < 3 then some (j, 0) else none) := h.small.toD
theorem opt_step {A : AW} {L : LM} {k : Nat} {ρ : Nat → Option (Nat × Nat)} {b z : Bool} {p : Nat} {cs : List Value} {e : TypeId} (s : SmallD A L k 3 ρ) (hf : ∃ j, noAddrs j cs = true) (h : LiAt A b p z cs) :
    ∃ ρ', SmallD A (opt z [(k, .cells cs e)] ++ L) (k + 1) 3 ρ' ∧ (∀ j x, ρ j = some x → ρ' j = some x) ∧ (b = true → ρ' k = some (p, 0)) := by
  obtain ⟨j, hf⟩ := hf
  cases z with
  | true =>
    exact ⟨_, s.cons (b := p) (f := 0) (.flat (h.yes rfl).2 hf), fun j x hj => onto_old s.hk hj, fun _ => by unfold onto; rw [if_pos rfl]⟩
  | false =>
    cases b with
    | true => exact ⟨_, s.dead (h.no rfl rfl), fun j x hj => onto_old s.hk hj, fun _ => by unfold onto; rw [if_pos rfl]⟩
    | false => exact ⟨ρ, s.skip (Nat.le_succ k), fun j x hj => hj, fun h => by cases h⟩
theorem raSmall {A : AW} {p b G K : Nat} {ν κ : Nat → Nat} {l : List Ar} {R : LM} {ρ : Nat → Option (Nat × Nat)} (h : RaAt A p ν κ l) (s : SmallD A R b G ρ) (hK : b + 1 + l.length ≤ K) : SmallD A (RaM κ l b R) K G (ArRho b p ν l.length ρ) := by
  have hmono : ∀ j x, ρ j = some x → ArRho b p ν l.length ρ j = some x := fun j x hj => by
    have := s.hk j x hj
    unfold ArRho
    rw [if_neg (by omega), if_neg (by omega)]; exact hj
  refine ⟨fun j x hx => ?_, fun j hj => ?_, fun j y hy => ?_, s.hgl, fun g hg => ?_, Nat.le_trans s.hGk (by omega)⟩
  · unfold ArRho at hx
    split at hx
    · omega
    split at hx
    · omega
    · have := s.hk j x hx; omega
  · simp only [alook] at hj
    split at hj
    · cases hj
    rename_i q
    rw [famB_look] at hj
    split at hj
    · cases hj
    rename_i q2
    rcases s.hd j hj with e | ⟨x, e, hx⟩
    · left
      unfold ArRho
      rw [if_neg (fun e => q e.symm), if_neg q2]; exact e
    · exact .inr ⟨x, hmono j x e, hx⟩
  · simp only [alook] at hy
    split at hy
    · rename_i q
      subst q; cases hy
      refine ⟨by omega, (p, 0), by unfold ArRho; rw [if_pos rfl], ?_⟩
      refine ⟨raC ν κ 0 l, ?_, raC_AR l 0 fun i hi => ?_⟩
      · rw [raC_len, ← raC_len (ν := ν) (κ := κ) l 0]; exact h.rd
      · unfold ArRho
        rw [if_neg (by omega), if_pos (by omega), show b + 1 + (0 + i) - (b + 1) = 0 + i by omega]
    · rename_i q
      rw [famB_look] at hy
      split at hy
      · rename_i q2
        cases hy
        obtain ⟨a, ha⟩ : ∃ a, l[j - (b + 1)]? = some a := ⟨_, List.getElem?_eq_getElem (show j - (b + 1) < l.length by omega)⟩
        obtain ⟨f, hf⟩ := ptC_flat a.ps
        refine ⟨by omega, (ν (j - (b + 1)), 0), by unfold ArRho; rw [if_neg (by omega), if_pos q2], ?_⟩
        rw [arP_at ha]
        exact .flat (h.ps _ a ha) hf
      · obtain ⟨h1, x, h2, h3⟩ := s.hL j y hy
        exact ⟨by omega, x, hmono j x h2, h3.mono hmono⟩
  · exact hmono g _ (s.hG g hg)
theorem NiAt.small {A : AW} {ea ed e0 em : Bool} {p q r0 r : Nat} {ν κ : Nat → Nat} {l : List Ar} {d : List Ld} {m0 m : List Mv} (h : NiAt A ea ed e0 em p q r0 r ν κ l d m0 m) (hl : l.length ≤ 16) :
    ∃ ρ, SmallD A (NiM κ l d m0 m) 30 3 ρ ∧ (ea = true → ρ 6 = some (p, 0)) ∧ (ed = true → ρ 3 = some (q, 0)) ∧ (e0 = true → ρ 4 = some (r0, 0)) ∧ (em = true → ρ 5 = some (r, 0)) := by
  obtain ⟨ρ1, s1, -, k1⟩ := opt_step (e := 159) h.gw.smallD (ldC_flat d) h.ld
  obtain ⟨ρ2, s2, g2, k2⟩ := opt_step (e := 112) s1 (mvC_flat m0) h.m0
  obtain ⟨ρ3, s3, g3, k3⟩ := opt_step (e := 112) s2 (mvC_flat m) h.mv
  cases l with
  | nil =>
    unfold NiM
    cases ea with
    | true =>
      have s4 := s3.dead (h.ar.no rfl rfl)
      exact ⟨_, s4.skip (by decide), fun _ => by unfold onto; rw [if_pos rfl], fun e => onto_old s3.hk (g3 _ _ (g2 _ _ (k1 e))), fun e => onto_old s3.hk (g3 _ _ (k2 e)), fun e => onto_old s3.hk (k3 e)⟩
    | false =>
      exact ⟨_, s3.skip (by decide), fun e => (by cases e), fun e => g3 _ _ (g2 _ _ (k1 e)), fun e => g3 _ _ (k2 e), k3⟩
  | cons a l =>
    obtain ⟨rfl, hr⟩ := h.ar.yes rfl
    have s4 := raSmall (b := 6) (K := 30) ⟨hr, h.ps⟩ s3 (by simp only [List.length_cons] at hl ⊢; omega)
    have old : ∀ j x, ρ3 j = some x → ArRho 6 p ν (a :: l).length ρ3 j = some x := fun j x hj => by
      have := s3.hk j x hj
      unfold ArRho
      rw [if_neg (by omega), if_neg (by omega)]; exact hj
    exact ⟨_, s4, fun _ => by unfold ArRho; rw [if_pos rfl], fun e => old _ _ (g3 _ _ (g2 _ _ (k1 e))), fun e => old _ _ (g3 _ _ (k2 e)), fun e => old _ _ (k3 e)⟩
/-- The same of a memory whose low names are the small one's. -/
theorem ni_low {κ : Nat → Nat} {l : List Ar} {d : List Ld} {m0 m : List Mv} {L : LM} {nx ro : Nat} {ea ed e0 em : Bool} (hl : l.length ≤ 16) (h : ∀ j, j < 30 → alook L j = alook (NiM κ l d m0 m) j)
    (ha : ne l = true → ea = true) (hd : ne d = true → ed = true) (h0 : ne m0 = true → e0 = true) (hm : ne m = true → em = true) : NiAt (AW.of L nx ro 3) ea ed e0 em 6 3 4 5 (fun j => 7 + j) κ l d m0 m := by
  have look : ∀ j, alook (NiM κ l d m0 m) j = if ne l = true ∧ 6 = j then some (.cells (raC (fun j => 7 + j) κ 0 l) 151) else if 7 ≤ j ∧ j < 7 + l.length then some (.cells (ptC (arP l (j - 7))) 97) else if ne m = true ∧ 5 = j then some (.cells (mvC m) 112) else if ne m0 = true ∧ 4 = j then some (.cells (mvC m0) 112) else if ne d = true ∧ 3 = j then some (.cells (ldC d) 159) else alook WG j := fun j => by
    unfold NiM
    rw [opt_look, famB_look, opt_look, opt_look, opt_look]
  have g : ∀ {j : Nat} {o : Option AObj}, j < 30 → alook (NiM κ l d m0 m) j = o → (AW.of L nx ro 3).objs j = o := fun hj e => (h _ hj).trans e
  have rd : ∀ {j : Nat} {cs : List Value} {e : TypeId}, j < 30 → alook (NiM κ l d m0 m) j = some (.cells cs e) → (AW.of L nx ro 3).rd j 0 cs.length = some cs := fun hj e => rd_self ((h _ hj).trans e)
  have w0 : ∀ j, j < 3 → alook (NiM κ l d m0 m) j = alook WG j := fun j hj => by
    rw [look]
    rw [if_neg (by omega), if_neg (by omega), if_neg (by omega), if_neg (by omega), if_neg (by omega)]
  refine ⟨⟨rfl, rd_zero2 ((h 0 (by decide)).trans (w0 0 (by decide))), rd_zero2 ((h 1 (by decide)).trans (w0 1 (by decide))), rd_self ((h 2 (by decide)).trans (w0 2 (by decide)))⟩, ⟨fun z _ => g (by decide) ?_, fun z => ⟨ha z, rd (e := 151) (by decide) ?_⟩⟩, fun i a hi => ?_,
    ⟨fun z _ => g (by decide) ?_, fun z => ⟨hd z, rd (e := 159) (by decide) ?_⟩⟩, ⟨fun z _ => g (by decide) ?_, fun z => ⟨h0 z, rd (e := 112) (by decide) ?_⟩⟩, ⟨fun z _ => g (by decide) ?_, fun z => ⟨hm z, rd (e := 112) (by decide) ?_⟩⟩⟩
  · rw [look, if_neg (by rw [z]; simp), if_neg (by omega), if_neg (by omega), if_neg (by omega), if_neg (by omega)]; rfl
  · rw [look, if_pos ⟨z, rfl⟩]
  · have hil := (List.getElem?_eq_some_iff.1 hi).1
    have : alook (NiM κ l d m0 m) (7 + i) = some (.cells (ptC a.ps) 97) := by
      rw [look, if_neg (by omega), if_pos (by omega), show 7 + i - 7 = i by omega, arP_at hi]
    exact rd (by omega) this
  · rw [look, if_neg (by omega), if_neg (by omega), if_neg (by omega), if_neg (by omega), if_neg (by rw [z]; simp)]; rfl
  · rw [look, if_neg (by omega), if_neg (by omega), if_neg (by omega), if_neg (by omega), if_pos ⟨z, rfl⟩]
  · rw [look, if_neg (by omega), if_neg (by omega), if_neg (by omega), if_neg (by rw [z]; simp), if_neg (by omega)]; rfl
  · rw [look, if_neg (by omega), if_neg (by omega), if_neg (by omega), if_pos ⟨z, rfl⟩]
  · rw [look, if_neg (by omega), if_neg (by omega), if_neg (by rw [z]; simp), if_neg (by omega), if_neg (by omega)]; rfl
  · rw [look, if_neg (by omega), if_neg (by omega), if_pos ⟨z, rfl⟩]
theorem raC_Lt {k : Nat} {ν κ : Nat → Nat} : ∀ (l : List Ar) (o : Nat), (∀ i, i < l.length → ν (o + i) < k) → Lt k (raC ν κ o l)
  | [], _, _ => .nil
  | a :: l, o, h => by
    unfold raC
    exact .cons (.flat (j := 8) rfl) (.cons (.flat (j := 8) rfl) (.cons (.flat (j := 8) rfl) (.cons (.sl (Nat.ble_eq_true_of_le (h 0 (by simp)))) (raC_Lt l (o + 1) fun i hi => by have := h (i + 1) (by simpa using hi); rwa [show o + (i + 1) = o + 1 + i by omega] at this))))
theorem ni_und {κ : Nat → Nat} {l : List Ar} {d : List Ld} {m0 m : List Mv} (hl : l.length ≤ 16) (k : Nat) (hk : 30 ≤ k) : Und k (NiM κ l d m0 m) := fun j y hy => by
  unfold NiM at hy
  rw [opt_look, famB_look, opt_look, opt_look, opt_look] at hy
  obtain ⟨f1, e1⟩ := ldC_flat d
  obtain ⟨f2, e2⟩ := mvC_flat m0
  obtain ⟨f3, e3⟩ := mvC_flat m
  split at hy
  · rename_i z; cases hy; exact ⟨by omega, raC_Lt l 0 fun i hi => by omega⟩
  split at hy
  · rename_i z; cases hy; exact ⟨by omega, Lt.flat (ptC_flat _).choose_spec⟩
  split at hy
  · rename_i z; cases hy; exact ⟨by omega, Lt.flat e3⟩
  split at hy
  · rename_i z; cases hy; exact ⟨by omega, Lt.flat e2⟩
  split at hy
  · rename_i z; cases hy; exact ⟨by omega, Lt.flat e1⟩
  · simp only [alook] at hy
    split at hy
    · cases hy; exact ⟨by omega, Lt.flat (j := 16) rfl⟩
    split at hy
    · cases hy; exact ⟨by omega, Lt.flat (j := 8) rfl⟩
    split at hy
    · cases hy; exact ⟨by omega, Lt.flat (j := 8) rfl⟩
    · cases hy
theorem ni_g {κ : Nat → Nat} {l : List Ar} {d : List Ld} {m0 m : List Mv} {j : Nat} (hj : j < 3) : alook (NiM κ l d m0 m) j = alook WG j := by
  unfold NiM
  rw [opt_look, famB_look, opt_look, opt_look, opt_look, if_neg (by omega), if_neg (by omega), if_neg (by omega), if_neg (by omega), if_neg (by omega)]
theorem AR.slW {ρ : Nat → Option (Nat × Nat)} {j p n c : Nat} {b : Bool} {vs us : List Value} (h : b = true → ρ j = some (p, 0)) (hr : AR ρ vs us) : AR ρ (.slice (slA b j) n c :: vs) (.slice (slA b p) n c :: us) := by
  cases b
  · exact .flat (k := 8) rfl hr
  · exact .sl (f := 0) (g := 0) (h rfl) rfl hr
theorem slA_no {p p' : Nat} : slA false p = slA false p' := rfl
/-- A tick is asked of copies that were just made. -/
theorem w_clear62C {B : LM} {nx ro N : Nat} (l : List Ar) (d : List Ld) (m : List Mv) (t : Int) (ht : 0 ≤ t ∧ t ≤ 100000000) (hO : ScOk l d m) (hl : l.length ≤ 4) (hB : Bel N B) (h0 : alook B 0 = some (.cells [] 0)) (h1 : alook B 1 = some (.cells [] 0)) (h2 : alook B 2 = some (.cells sidesC 274)) :
    AC Tryd.prog 62 [.slice (slA (ne l) N) l.length l.length, .slice (slA (ne d) (N + 5)) d.length d.length, .slice (slA (ne m) (N + 6)) m.length m.length, .int .i64 t]
      (AW.of (((B ++ (famB (arF N l) N (nF l) ++ [])) ++ (famB (fun _ => .cells (ldC d) 163) (N + 5) (n1 d) ++ [])) ++ (famB (fun _ => .cells (mvC m) 103) (N + 6) (n1 m) ++ [])) nx ro 3) (isR (.tuple #[.bool (clearB l d m t), .int .i64 0]) (AW.of (((B ++ (famB (arF N l) N (nF l) ++ [])) ++ (famB (fun _ => .cells (ldC d) 163) (N + 5) (n1 d) ++ [])) ++ (famB (fun _ => .cells (mvC m) 103) (N + 6) (n1 m) ++ [])) nx ro 3)) := by
  have hn5 : nF l ≤ 5 := by cases l <;> simp only [nF, List.length_cons] at hl ⊢ <;> omega
  have hd1 : n1 d ≤ 1 := by cases d <;> simp [n1]
  have b1 : Bel (N + 5) (B ++ (famB (arF N l) N (nF l) ++ [])) := ltA (hB.mono (by omega)) (ltF (by omega) ltN)
  have b2 : Bel (N + 6) ((B ++ (famB (arF N l) N (nF l) ++ [])) ++ (famB (fun _ => .cells (ldC d) 163) (N + 5) (n1 d) ++ [])) := ltA (b1.mono (by omega)) (ltF (by omega) ltN)
  have hG : GW (AW.of (((B ++ (famB (arF N l) N (nF l) ++ [])) ++ (famB (fun _ => .cells (ldC d) 163) (N + 5) (n1 d) ++ [])) ++ (famB (fun _ => .cells (mvC m) 103) (N + 6) (n1 m) ++ [])) nx ro 3) :=
    ⟨rfl, rd_zero2 (app_old (app_old (app_old h0))), rd_zero2 (app_old (app_old (app_old h1))), rd_self (app_old (app_old (app_old h2)))⟩
  have kA : ∃ p ν, slA (ne l) N = slA (ne l) p ∧ ArAt (AW.of (((B ++ (famB (arF N l) N (nF l) ++ [])) ++ (famB (fun _ => .cells (ldC d) 163) (N + 5) (n1 d) ++ [])) ++ (famB (fun _ => .cells (mvC m) 103) (N + 6) (n1 m) ++ [])) nx ro 3) p ν l := by
    cases l with
    | nil => exact ⟨0, fun _ => 0, rfl, hG.g0, fun i a h => by simp at h⟩
    | cons a l =>
      refine ⟨N, fun j => N + 1 + j, rfl, rd_self (app_old (app_old (app_fam (i := 0) hB (by simp [nF])))), fun i x hx => ?_⟩
      have hi := (List.getElem?_eq_some_iff.1 hx).1
      have := app_fam (L := B) (F := arF N (a :: l)) (b := N) (m := nF (a :: l)) (i := i + 1) (X := []) hB (by simp only [nF]; omega)
      rw [show N + (i + 1) = N + 1 + i by omega] at this
      have e : arF N (a :: l) (i + 1) = .cells (ptC x.ps) 97 := by simp only [arF]; rw [arP_at hx]
      rw [e] at this
      exact rd_self (app_old (app_old this))
  have kD : ∃ q, slA (ne d) (N + 5) = slA (ne d) q ∧ (AW.of (((B ++ (famB (arF N l) N (nF l) ++ [])) ++ (famB (fun _ => .cells (ldC d) 163) (N + 5) (n1 d) ++ [])) ++ (famB (fun _ => .cells (mvC m) 103) (N + 6) (n1 m) ++ [])) nx ro 3).rd q 0 (ldC d).length = some (ldC d) := by
    cases d with
    | nil => exact ⟨0, rfl, hG.g0⟩
    | cons a d => exact ⟨N + 5, rfl, rd_self (app_old (app_fam (i := 0) b1 (by simp [n1])))⟩
  have kM : ∃ r, slA (ne m) (N + 6) = slA (ne m) r ∧ (AW.of (((B ++ (famB (arF N l) N (nF l) ++ [])) ++ (famB (fun _ => .cells (ldC d) 163) (N + 5) (n1 d) ++ [])) ++ (famB (fun _ => .cells (mvC m) 103) (N + 6) (n1 m) ++ [])) nx ro 3).rd r 0 (mvC m).length = some (mvC m) := by
    cases m with
    | nil => exact ⟨0, rfl, hG.g0⟩
    | cons a m => exact ⟨N + 6, rfl, rd_self (app_fam (i := 0) b2 (by simp [n1]))⟩
  obtain ⟨p, ν, ep, hA⟩ := kA
  obtain ⟨q, eq, hD⟩ := kD
  obtain ⟨r, er, hM⟩ := kM
  rw [ep, eq, er]
  refine w_clear62 l d m t ht ⟨fun h => ?_, fun h => ?_, fun h => ?_⟩ hO ⟨hG, hA, hD, hM⟩
  · cases l with
    | nil => exact ⟨rfl, rfl⟩
    | cons a l => cases h
  · cases d with
    | nil => exact ⟨rfl, rfl⟩
    | cons a l => cases h
  · cases m with
    | nil => exact ⟨rfl, rfl⟩
    | cons a l => cases h
end Go.M
namespace Go.M
open Go.Proofs Go.RowKit
set_option maxRecDepth 8000
set_option maxHeartbeats 16000000
abbrev viC (vw : Nat → Int) : List Value := [.int .u16 (vw 0), .int .u16 (vw 1), .int .u16 (vw 2), .int .u16 (vw 3), .int .u16 (vw 4), .int .u16 (vw 5), .int .u16 (vw 6), .int .u16 (vw 7), .int .u16 (vw 8), .int .u16 (vw 9), .int .u16 (vw 10), .int .u16 (vw 11), .int .u16 (vw 12), .int .u16 (vw 13), .int .u16 (vw 14), .int .u16 (vw 15), .int .u16 (vw 16), .int .u16 (vw 17), .int .u16 (vw 18), .int .u16 (vw 19), .int .u16 (vw 20), .int .u16 (vw 21), .int .u16 (vw 22), .int .u16 (vw 23)]
theorem viC_at {vw : Nat → Int} {i : Nat} (h : i < 24) : (viC vw)[(i : Int).toNat]? = some (.int .u16 (vw i)) := by
  have e : viC vw = (List.range 24).map fun i => .int .u16 (vw i) := rfl
  rw [e, Int.toNat_natCast]
  simp [h]
/-- The cells of a night. -/
abbrev niC (ed e0 : Bool) (q r0 nd cd n0 c0 : Nat) (vw : Nat → Int) (s t : Int) : List Value := .slice (slA ed q) nd cd :: .slice (slA e0 r0) n0 c0 :: (viC vw ++ [.int .u32 s, .int .u32 t])
/-- The moments of a night. -/
def niF (l : List Ar) (d : List Ld) (m : List Mv) (vw : Nat → Int) (s t : Int) (i : Nat) : Mo :=
  ⟨vw i % 10001, clearB l d m i, decide (andI .u32 (shrI .u32 s i) 1 = 1), decide (andI .u32 (shrI .u32 t i) 1 = 1)⟩
theorem low_fam {B X : LM} {F : Nat → AObj} {b n : Nat} (hb : 30 ≤ b) (h : ∀ j, j < 30 → alook B j = alook X j) : ∀ j, j < 30 → alook (B ++ (famB F b n ++ [])) j = alook X j := fun j hj => by
  rw [alook_app, famB_look, if_neg (by omega), h j hj]
  cases alook X j <;> rfl
theorem NiAt.ar29 {A : AW} {ea ed e0 em : Bool} {p q r0 r : Nat} {ν κ : Nat → Nat} {l : List Ar} {d : List Ld} {m0 m : List Mv} (h : NiAt A ea ed e0 em p q r0 r ν κ l d m0 m) : l = [] ∨ ∃ p', slA ea p = some ⟨p', 0, none⟩ ∧ RaAt A p' ν κ l := by
  cases l with
  | nil => exact .inl rfl
  | cons a l =>
    obtain ⟨rfl, hr⟩ := h.ar.yes rfl
    exact .inr ⟨p, rfl, hr, h.ps⟩
theorem w_night23 {A : AW} {ea ed e0 em : Bool} {p q r0 r cl cd c0 cm : Nat} {ν κ : Nat → Nat} (l : List Ar) (d : List Ld) (m0 m : List Mv) (vw : Nat → Int) (s t : Int) (hvw : ∀ i, i < 24 → 0 ≤ vw i ∧ vw i ≤ 65535) (hO : ScOk l d m) (hl : l.length ≤ 4) (hd3 : d.length ≤ 3) (hm4 : m.length ≤ 4) (hp : PsOk l)
    (hni : NiAt A ea ed e0 em p q r0 r ν κ l d m0 m) : AC Tryd.prog 23 [.slice (slA ea p) l.length cl, .agg (niC ed e0 q r0 d.length cd m0.length c0 vw s t).toArray, .slice (slA em r) m.length cm] A (isR (.tuple #[.slice (some ⟨A.next, 0, none⟩) 24 24, .bool true]) (A.push (.cells (moC (niF l d m vw s t) 24) 91))) := by
  obtain ⟨ρ, hs, k6, k3, k4, k5⟩ := hni.small (by omega)
  refine AC.mono (AC.givesM (Φ := fun cs => cs = moC (niF l d m vw s t) 24) (e := 91) hs (args := [.slice (slA ea 6) l.length cl, .agg (niC ed e0 3 4 d.length cd m0.length c0 vw s t).toArray, .slice (slA em 5) m.length cm]) (v2 := .tuple #[.slice (some ⟨A.next, 0, none⟩) 24 24, .bool true]) ?_
    (.slW k6 (.agg (.slW k3 (.slW k4 (.ofFlat (k := 64) rfl))) (.slW k5 .nil)))) (fun v A1 hv => by obtain ⟨cs, rfl, rfl, rfl⟩ := hv; exact ⟨rfl, rfl⟩)
  have hN := fun {L : LM} {nx ro : Nat} (low : ∀ j, j < 30 → alook L j = alook (NiM κ l d m0 m) j) => ni_low (nx := nx) (ro := ro) (show l.length ≤ 16 by omega) low (fun z => (hni.ar.yes z).1) (fun z => (hni.ld.yes z).1) (fun z => (hni.m0.yes z).1) (fun z => (hni.mv.yes z).1)
  have hX := ni_und (κ := κ) (l := l) (d := d) (m0 := m0) (m := m) (by omega)
  have x0 : alook (NiM κ l d m0 m) 0 = some (.cells [] 0) := (ni_g (by decide)).trans rfl
  have x1 : alook (NiM κ l d m0 m) 1 = some (.cells [] 0) := (ni_g (by decide)).trans rfl
  have x2 : alook (NiM κ l d m0 m) 2 = some (.cells sidesC 274) := (ni_g (by decide)).trans rfl
  clear hs hni k3 k4 k5 k6
  generalize NiM κ l d m0 m = X at *
  have hXlt : ∀ {j : Nat} {y : AObj}, alook X j = some y → j < 30 := fun h => (hX 30 (Nat.le_refl _) _ _ h).1
  have hXB : ∀ k, 30 ≤ k → Bel k X := fun k hk => ltU (hX k hk)
  refine AC.go Tryd.func23 rfl rfl ?_
  repeat' (first
  | refine GL.sf rfl rfl rfl rfl ?_
  | refine GL.done ?_
  | refine GP.thenN ?_
  | refine GT.seq ?_
  | refine GT.region ?_
  | refine GT.block ?_)
  refine GT.loop (fun q a L nx => ∃ i : Nat, i ≤ 24 ∧ q = 24 - i ∧ 31 ≤ nx ∧ asub [(0, .slice (slA ea 6) l.length cl), (2, .slice (slA em 5) m.length cm), (4, .pointer (some ⟨30, 0, none⟩)), (14, .agg (viC vw).toArray), (15, .int .i64 i)] a ∧ subm ((30, .cells (niC ed e0 3 4 d.length cd m0.length c0 vw s t) 72) :: X) L ∧
      ((i = 0 ∧ aget a 8 = some (.slice none 0 0)) ∨ ∃ o, aget a 8 = some (.slice (some ⟨o, 0, none⟩) i i) ∧ 0 < i ∧ 31 ≤ o ∧ alook L o = some (.cells (moC (niF l d m vw s t) i) 91))) 24
    ⟨0, by omega, by omega, Nat.le_of_ble_eq_true rfl, asub_cons rfl (asub_cons rfl (asub_cons rfl (asub_cons rfl (asub_cons rfl (asub_nil))))), subm_refl, .inl ⟨rfl, rfl⟩⟩ ?_
  rintro q a L nx ⟨i, hi, rfl, hnx, hsa, hsub, hcase⟩
  have hU : ∀ k, 31 ≤ k → Und k ((30, .cells (niC ed e0 3 4 d.length cd m0.length c0 vw s t) 72) :: X) := fun k hk => und_cons (Nat.ble_eq_true_of_le hk) (.cons (.slV (Nat.ble_eq_true_of_le (show 4 ≤ k by omega))) (.cons (.slV (Nat.ble_eq_true_of_le (show 5 ≤ k by omega))) (.flat (j := 64) rfl))) (hX k (by omega))
  have hE : EnvLt 31 [(0, .slice (slA ea 6) l.length cl), (2, .slice (slA em 5) m.length cm), (4, .pointer (some ⟨30, 0, none⟩)), (14, .agg (viC vw).toArray), (15, .int .i64 i)] := .cons (.slV rfl) (.cons (.slV rfl) (.cons (.ptr rfl) (.cons (.agg (.flat (j := 64) rfl)) (.cons (.flat (j := 8) rfl) .nil))))
  have hglob : ∀ g, g < 3 → (alook X g).isSome = true := fun g hg => by
    match g, hg with
    | 0, _ => rw [x0]; rfl
    | 1, _ => rw [x1]; rfl
    | 2, _ => rw [x2]; rfl
  have hg2 : ∀ {y : AObj} {k : Nat}, 3 ≤ k → ∀ g, g < 3 → alook ((k, y) :: X) g = alook X g := fun hk g hg => by simp only [alook]; rw [if_neg (by omega)]
  rcases hcase with ⟨hi0, h8⟩ | ⟨o, h8, hpos, ho, hob⟩
  · refine GT.resetL (a1 := (8, .slice none 0 0) :: [(0, .slice (slA ea 6) l.length cl), (2, .slice (slA em 5) m.length cm), (4, .pointer (some ⟨30, 0, none⟩)), (14, .agg (viC vw).toArray), (15, .int .i64 i)]) (L' := (30, .cells (niC ed e0 3 4 d.length cd m0.length c0 vw s t) 72) :: X) 31 (asub_cons h8 hsa) hsub hnx rfl rfl (hU 31 (Nat.le_refl _)) (.cons (.flat (j := 8) rfl) hE) (fun g hg => by rw [hg2 (by decide) g hg]; exact hglob g hg) ?_
    have hlt : i < 24 := by omega
    clear hsa hsub hnx h8 hE
    have hvi := viC_at (vw := vw) hlt
    have hwi := hvw i hlt
    have hB : Bel 31 ((30, .cells (niC ed e0 3 4 d.length cd m0.length c0 vw s t) 72) :: X) := ltc rfl (hXB _ (by decide))
    have hlow : ∀ j, j < 30 → alook ((30, .cells (niC ed e0 3 4 d.length cd m0.length c0 vw s t) 72) :: X) j = alook X j := fun j hj => by simp only [alook]; (repeat rw [if_neg (by omega)])
    have hn5 : nF l ≤ 5 := by cases l <;> simp only [nF, List.length_cons] at hl ⊢ <;> omega
    have hn1 : n1 d ≤ 1 := by cases d <;> simp [n1]
    have hB1 : Bel (31 + 5) (((30, .cells (niC ed e0 3 4 d.length cd m0.length c0 vw s t) 72) :: X) ++ (famB (arF 31 l) 31 (nF l) ++ [])) := ltA (hB.mono (by omega)) (ltF (by omega) ltN)
    have hB2 : Bel (31 + 6) ((((30, .cells (niC ed e0 3 4 d.length cd m0.length c0 vw s t) 72) :: X) ++ (famB (arF 31 l) 31 (nF l) ++ [])) ++ (famB (fun _ => .cells (ldC d) 163) (31 + 5) (n1 d) ++ [])) := ltA (hB1.mono (by omega)) (ltF (by omega) ltN)
    have hlow1 := low_fam (F := arF 31 l) (b := 31) (n := nF l) (by decide) hlow
    have hlow2 := low_fam (F := fun _ => .cells (ldC d) 163) (b := 31 + 5) (n := n1 d) (by decide) hlow1
    repeat' (first
    | refine GT.draws (id := 5) [[], [0], [], [2], [0, 1, 2, 3], [], [0, 1, 2, 3, 4, 5], [], [0, 1, 2, 3, 4, 5, 6, 7], [0, 1, 2, 3, 4, 5, 6, 7, 8], [0, 1, 2, 3, 4, 5, 6, 7, 8, 9], [0, 1, 2, 3, 4, 5, 6, 7, 8, 9], [0, 1, 2, 3, 4, 5, 6, 7, 8, 9, 10], [0, 1, 2, 3, 4, 5, 6, 7, 8, 9, 10, 11, 12]] [1, 4, 6] (by kernel_rfl) ?_
    | refine GT.draws (id := 8) [[], [], [1], [1, 2], [], [], [5], [], [5, 6, 7], [5, 6, 7, 8], [5, 6, 7, 8, 9], [], [11], [], [11, 12, 13], [11, 12, 13, 14], [11, 12, 13, 14, 15], [1, 2, 3, 4, 5, 6, 7, 8, 9, 10, 11, 12, 13, 14, 15, 16], [1, 2, 3, 4, 5, 6, 7, 8, 9, 10, 11, 12, 13, 14, 15, 16, 17], [0, 1, 2, 3, 4, 5, 6, 7, 8, 9, 10, 11, 12, 13, 14, 15, 16, 17, 18], [0, 1, 2, 3, 4, 5, 6, 7, 8, 9, 10, 11, 12, 13, 14, 15, 16, 17, 18, 19]] [18, 19] (by kernel_rfl) ?_
    | refine GL.sf rfl rfl rfl rfl ?_
    | refine GL.done ?_
    | refine GP.thenN ?_
    | refine GT.seq ?_
    | refine GT.region ?_
    | refine GD.li rfl rfl (by exact onAt.none rfl) rfl (by repeat first | exact AllG.nil rfl | refine AllG.cons rfl (by first | exact GO.sf rfl rfl | exact GO.sv rfl rfl | exact GO.call rfl rfl Tryd.func62 rfl rfl rfl (w_clear62C l d m i ⟨by omega, by omega⟩ hO hl hB ((hlow 0 (by decide)).trans x0) ((hlow 1 (by decide)).trans x1) ((hlow 2 (by decide)).trans x2)) | exact GO.shr rfl rfl rfl (by omega) | exact GO.andB rfl rfl rfl | exact GO.rem rfl rfl rfl (by omega) (by omega) | exact GO.conv rfl rfl rfl rfl (i64_wrap (by omega) (by omega))) ?_) ?_
    | refine GD.he rfl rfl rfl (by exact onAt.none rfl) rfl (by first | exact GO.sf rfl rfl | exact GO.sv rfl rfl | exact GO.padT hB (GO.call rfl rfl Tryd.func29 rfl rfl rfl (w_areas29 l hl hp (hN hlow).ar29)) | exact GO.padT hB1 (GO.call rfl rfl Tryd.func30 rfl rfl rfl (w_landings30 d hd3 (hN hlow1).ld.sl)) | exact GO.padT hB2 (GO.call rfl rfl Tryd.func27 rfl rfl rfl (w_moves27 m hm4 (hN hlow2).mv.sl))) ?_ ?_
    | refine GD.done rfl rfl rfl ?_
    | exact AllJs.nil rfl
    | refine AllJs.cons rfl ?_ ?_
    | exact again.go rfl rfl rfl (by exact GO.sf rfl rfl)
    | refine GL.v rfl rfl rfl (by first | exact GO.elemA rfl rfl rfl rfl rfl rfl rfl ⟨by omega, by omega⟩ hvi | exact GO.add rfl rfl rfl (by omega)) ?_
    | refine GT.skip ?_
    | refine GT.block ?_
    | refine GP.inN ?_
    | refine GT.condF rfl ?_
    | (refine GT.condD rfl (fun h => ?_) (fun h => ?_) <;> try (exfalso; omega)))
    exact GP.invN (24 - (i + 1)) (by omega) ⟨i + 1, by omega, rfl, Nat.le_of_ble_eq_true rfl, asub_cons rfl (asub_cons rfl (asub_cons rfl (asub_cons rfl (asub_cons rfl (asub_nil))))), subm_cons rfl (fun j o h => by have hj := hXlt h; simp only [alook_aset, alook_aerase, alook]; (repeat rw [if_neg (by omega)]); exact app_old (app_old (app_old (by simp only [alook]; (repeat rw [if_neg (by omega)]); exact h)))), .inr ⟨_, (by subst hi0; rfl), by omega, Nat.le_of_ble_eq_true rfl, (by subst hi0; rfl)⟩⟩
  · refine GT.ren 31 o (a2 := [(0, .slice (slA ea 6) l.length cl), (2, .slice (slA em 5) m.length cm), (4, .pointer (some ⟨30, 0, none⟩)), (14, .agg (viC vw).toArray), (15, .int .i64 i)]) (a1 := (8, .slice (some ⟨31, 0, none⟩) i i) :: [(0, .slice (slA ea 6) l.length cl), (2, .slice (slA em 5) m.length cm), (4, .pointer (some ⟨30, 0, none⟩)), (14, .agg (viC vw).toArray), (15, .int .i64 i)]) (L' := (31, .cells (moC (niF l d m vw s t) i) 91) :: (30, .cells (niC ed e0 3 4 d.length cd m0.length c0 vw s t) 72) :: X) hsa hE hob (mosC_flat _) rfl (Nat.ble_eq_true_of_le ho) rfl rfl (fun j y hne hy => by
        rw [alook, if_neg (fun e => hne e.symm)] at hy
        obtain ⟨g1, g2⟩ := hU 31 (Nat.le_refl _) j y hy
        exact ⟨g1, .inl ⟨hsub j y hy, g2⟩⟩) (fun g hg => by
        have : alook ((31, AObj.cells (moC (niF l d m vw s t) i) 91) :: (30, .cells (niC ed e0 3 4 d.length cd m0.length c0 vw s t) 72) :: X) g = alook X g := by simp only [alook]; rw [if_neg (by omega), if_neg (by omega)]
        rw [this]; exact hglob g hg) (.inr ⟨8, i, i, rfl, h8⟩) ?_
    clear hsa hsub hnx h8 hE ho hob
    rcases Nat.lt_or_ge i 24 with hlt | hge
    · have hvi := viC_at (vw := vw) hlt
      have hwi := hvw i hlt
      have hnl : (moC (niF l d m vw s t) i).length = i * 4 := moC_len
      have hB : Bel 32 ((31, .cells (moC (niF l d m vw s t) i) 91) :: (30, .cells (niC ed e0 3 4 d.length cd m0.length c0 vw s t) 72) :: X) := ltc rfl (ltc rfl (hXB _ (by decide)))
      have hlow : ∀ j, j < 30 → alook ((31, .cells (moC (niF l d m vw s t) i) 91) :: (30, .cells (niC ed e0 3 4 d.length cd m0.length c0 vw s t) 72) :: X) j = alook X j := fun j hj => by simp only [alook]; (repeat rw [if_neg (by omega)])
      have hn5 : nF l ≤ 5 := by cases l <;> simp only [nF, List.length_cons] at hl ⊢ <;> omega
      have hn1 : n1 d ≤ 1 := by cases d <;> simp [n1]
      have hB1 : Bel (32 + 5) (((31, .cells (moC (niF l d m vw s t) i) 91) :: (30, .cells (niC ed e0 3 4 d.length cd m0.length c0 vw s t) 72) :: X) ++ (famB (arF 32 l) 32 (nF l) ++ [])) := ltA (hB.mono (by omega)) (ltF (by omega) ltN)
      have hB2 : Bel (32 + 6) ((((31, .cells (moC (niF l d m vw s t) i) 91) :: (30, .cells (niC ed e0 3 4 d.length cd m0.length c0 vw s t) 72) :: X) ++ (famB (arF 32 l) 32 (nF l) ++ [])) ++ (famB (fun _ => .cells (ldC d) 163) (32 + 5) (n1 d) ++ [])) := ltA (hB1.mono (by omega)) (ltF (by omega) ltN)
      have hlow1 := low_fam (F := arF 32 l) (b := 32) (n := nF l) (by decide) hlow
      have hlow2 := low_fam (F := fun _ => .cells (ldC d) 163) (b := 32 + 5) (n := n1 d) (by decide) hlow1
      repeat' (first
      | refine GT.draws (id := 5) [[], [0], [], [2], [0, 1, 2, 3], [], [0, 1, 2, 3, 4, 5], [], [0, 1, 2, 3, 4, 5, 6, 7], [0, 1, 2, 3, 4, 5, 6, 7, 8], [0, 1, 2, 3, 4, 5, 6, 7, 8, 9], [0, 1, 2, 3, 4, 5, 6, 7, 8, 9], [0, 1, 2, 3, 4, 5, 6, 7, 8, 9, 10], [0, 1, 2, 3, 4, 5, 6, 7, 8, 9, 10, 11, 12]] [1, 4, 6] (by kernel_rfl) ?_
      | refine GT.draws (id := 8) [[], [], [1], [1, 2], [], [], [5], [], [5, 6, 7], [5, 6, 7, 8], [5, 6, 7, 8, 9], [], [11], [], [11, 12, 13], [11, 12, 13, 14], [11, 12, 13, 14, 15], [1, 2, 3, 4, 5, 6, 7, 8, 9, 10, 11, 12, 13, 14, 15, 16], [1, 2, 3, 4, 5, 6, 7, 8, 9, 10, 11, 12, 13, 14, 15, 16, 17], [0, 1, 2, 3, 4, 5, 6, 7, 8, 9, 10, 11, 12, 13, 14, 15, 16, 17, 18], [0, 1, 2, 3, 4, 5, 6, 7, 8, 9, 10, 11, 12, 13, 14, 15, 16, 17, 18, 19]] [18, 19] (by kernel_rfl) ?_
      | refine GL.sf rfl rfl rfl rfl ?_
      | refine GL.done ?_
      | refine GP.thenN ?_
      | refine GT.seq ?_
      | refine GT.region ?_
      | refine GD.li rfl rfl (by exact onAt.none rfl) rfl (by repeat first | exact AllG.nil rfl | refine AllG.cons rfl (by first | exact GO.sf rfl rfl | exact GO.sv rfl rfl | exact GO.call rfl rfl Tryd.func62 rfl rfl rfl (w_clear62C l d m i ⟨by omega, by omega⟩ hO hl hB ((hlow 0 (by decide)).trans x0) ((hlow 1 (by decide)).trans x1) ((hlow 2 (by decide)).trans x2)) | exact GO.shr rfl rfl rfl (by omega) | exact GO.andB rfl rfl rfl | exact GO.rem rfl rfl rfl (by omega) (by omega) | exact GO.conv rfl rfl rfl rfl (i64_wrap (by omega) (by omega))) ?_) ?_
      | refine GD.he rfl rfl rfl (by exact onAt.none rfl) rfl (by first | exact GO.sf rfl rfl | exact GO.padT hB (GO.call rfl rfl Tryd.func29 rfl rfl rfl (w_areas29 l hl hp (hN hlow).ar29)) | exact GO.padT hB1 (GO.call rfl rfl Tryd.func30 rfl rfl rfl (w_landings30 d hd3 (hN hlow1).ld.sl)) | exact GO.padT hB2 (GO.call rfl rfl Tryd.func27 rfl rfl rfl (w_moves27 m hm4 (hN hlow2).mv.sl)) | exact GO.appendG rfl rfl rfl rfl rfl rfl rfl rfl rfl rfl rfl rfl rfl rfl hnl (by decide) rfl (Nat.le_of_ble_eq_true rfl) (by omega)) ?_ ?_
      | refine GD.done rfl rfl rfl ?_
      | exact AllJs.nil rfl
      | refine AllJs.cons rfl ?_ ?_
      | exact again.go rfl rfl rfl (by exact GO.sf rfl rfl)
      | refine GL.v rfl rfl rfl (by first | exact GO.elemA rfl rfl rfl rfl rfl rfl rfl ⟨by omega, by omega⟩ hvi | exact GO.add rfl rfl rfl (by omega)) ?_
      | refine GT.skip ?_
      | refine GT.block ?_
      | refine GP.inN ?_
      | refine GT.condF rfl ?_
      | (refine GT.condD rfl (fun h => ?_) (fun h => ?_) <;> try (exfalso; omega)))
      exact GP.invN (24 - (i + 1)) (by omega) ⟨i + 1, by omega, rfl, Nat.le_of_ble_eq_true rfl, asub_cons rfl (asub_cons rfl (asub_cons rfl (asub_cons rfl (asub_cons rfl (asub_nil))))), subm_cons rfl (fun j o h => by have hj := hXlt h; simp only [alook_aset, alook_aerase, alook]; (repeat rw [if_neg (by omega)]); exact app_old (app_old (app_old (by simp only [alook]; (repeat rw [if_neg (by omega)]); exact h)))), .inr ⟨_, rfl, by omega, Nat.le_of_ble_eq_true rfl, (by rw [moC_succ]; rfl)⟩⟩
    · obtain rfl : i = 24 := by omega
      repeat' (first
      | refine GL.sf rfl rfl rfl rfl ?_
      | refine GL.done ?_
      | refine GP.thenN ?_
      | refine GT.seq ?_
      | refine GT.region ?_
      | refine GT.ret ?_
      | refine GT.exit ?_
      | refine GP.thenE ?_
      | refine GP.hit ?_
      | refine GP.invE ?_
      | refine GT.condF rfl ?_
      | refine GP.endR2 rfl ?_)
      exact ⟨31, _, rfl, Nat.le_of_ble_eq_true rfl, mosC_flat _, rfl, .tuple (.sl (f := 0) (g := 0) (if_pos rfl) rfl (.flat (k := 8) rfl .nil)) .nil⟩
end Go.M
