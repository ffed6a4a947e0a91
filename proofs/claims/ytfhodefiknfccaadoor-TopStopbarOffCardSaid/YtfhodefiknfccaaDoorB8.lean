/- Functions of the given program, walked (no condition beyond what each theorem says). -/
import Derived.Test.YtfhodefiknfccaaDoorB4
import Derived.Test.YtfhodefiknfccaaDoorA5
set_option linter.unusedVariables false
set_option linter.unusedSimpArgs false
namespace Go.M
open Go.Proofs Go.RowKit
set_option maxRecDepth 8000
set_option maxHeartbeats 4000000
/-- The readings of 'm' seconds, as objects from the name 5 on. -/
def fam (rd : Nat → List Value) : Nat → LM
  | 0 => []
  | m + 1 => (5 + m, .cells (rd m) 46) :: fam rd m
theorem fam_look (rd : Nat → List Value) : ∀ (m j : Nat), alook (fam rd m) j = if 5 ≤ j ∧ j < 5 + m then some (.cells (rd (j - 5)) 46) else none
  | 0, j => by simp only [fam, alook]; rw [if_neg (by omega)]
  | m + 1, j => by
    simp only [fam, alook]
    by_cases q : 5 + m = j
    · rw [if_pos q, if_pos (by omega)]; subst q; rw [show 5 + m - 5 = m by omega]
    · rw [if_neg q, fam_look rd m j]
      by_cases q2 : 5 ≤ j ∧ j < 5 + m
      · rw [if_pos q2, if_pos (by omega)]
      · rw [if_neg q2, if_neg (by omega)]
/-- The seconds' cells. -/
def secC (n m : Nat) : List Value := (List.range m).flatMap fun i => [.slice (some ⟨5 + i, 0, none⟩) n n, .int .i64 0]
theorem secC_len (n : Nat) : ∀ m, (secC n m).length = 2 * m
  | 0 => rfl
  | m + 1 => by
    have := secC_len n m
    unfold secC at this ⊢
    rw [List.range_succ, List.flatMap_append, List.length_append, this]
    simp; omega
theorem secC_at (n : Nat) : ∀ (m i : Nat), i < m → ((secC n m).drop (i * 2)).take 2 = [.slice (some ⟨5 + i, 0, none⟩) n n, .int .i64 0]
  | 0, i, h => by omega
  | m + 1, i, h => by
    have hl := secC_len n m
    have e : secC n (m + 1) = secC n m ++ [.slice (some ⟨5 + m, 0, none⟩) n n, .int .i64 0] := by
      unfold secC
      rw [List.range_succ, List.flatMap_append]
      simp
    rw [e]
    rcases Nat.lt_or_ge i m with q | q
    · rw [List.drop_append_of_le_length (by omega), List.take_append_of_le_length (by rw [List.length_drop]; omega)]
      exact secC_at n m i q
    · have : i = m := by omega
      subst this
      rw [List.drop_append, List.drop_of_length_le (by omega), show i * 2 - (secC n i).length = 0 by omega]
      rfl
/-- The memory that the monitor sees: the variables, the plant's sensors, the seconds, their readings. -/
abbrev FM (sens : List Value) (n m : Nat) (rd : Nat → List Value) : LM := (4, .cells (secC n m) 130) :: (3, .cells sens 128) :: (2, .cells [] 0) :: (1, .cells stepsV 242) :: (0, .cells [.int .i64 0, .int .i64 0] 31) :: fam rd m
theorem FM_look {sens : List Value} {n m : Nat} {rd : Nat → List Value} {i : Nat} (h : i < m) : alook (FM sens n m rd) (5 + i) = some (.cells (rd i) 46) := by
  simp only [FM, alook]
  rw [if_neg (by omega), if_neg (by omega), if_neg (by omega), if_neg (by omega), if_neg (by omega), fam_look, if_pos (by omega), show 5 + i - 5 = i by omega]
theorem FM_lt {sens : List Value} {n m : Nat} {rd : Nat → List Value} {j : Nat} {o : AObj} (hm : m ≤ 900) (h : alook (FM sens n m rd) j = some o) : j < 1000 := by
  rcases Nat.lt_or_ge j 1000 with q | q
  · exact q
  · simp only [FM, alook] at h
    rw [if_neg (by omega), if_neg (by omega), if_neg (by omega), if_neg (by omega), if_neg (by omega), fam_look, if_neg (by omega)] at h
    cases h
/-- What the great memory must hold. -/
structure FMOk (A : AW) (p o s : Nat) (r : Nat → Nat) (sens : List Value) (n m : Nat) (rd : Nat → List Value) : Prop where
  g : GOk A
  hsens : A.rd p o sens.length = some sens
  fsens : ∃ k, noAddrs k sens = true
  hsec : A.rd s 0 (2 * m) = some ((List.range m).flatMap fun i => [.slice (some ⟨r i, 0, none⟩) n n, .int .i64 0])
  hrd : ∀ i, i < m → A.rd (r i) 0 (rd i).length = some (rd i)
  frd : ∀ i, i < m → ∃ k, noAddrs k (rd i) = true
def rhoFM (p o s : Nat) (r : Nat → Nat) (m : Nat) : Nat → Option (Nat × Nat) := fun j => if j < 3 then some (j, 0) else if j = 3 then some (p, o) else if j = 4 then some (s, 0) else if j < 5 + m then some (r (j - 5), 0) else none
theorem secC_AR {r : Nat → Nat} {n : Nat} {ρ : Nat → Option (Nat × Nat)} : ∀ (m : Nat), (∀ i, i < m → ρ (5 + i) = some (r i, 0)) → AR ρ (secC n m) ((List.range m).flatMap fun i => [.slice (some ⟨r i, 0, none⟩) n n, .int .i64 0])
  | 0, _ => .nil
  | m + 1, h => by
    have ih := secC_AR (n := n) m (fun i hi => h i (by omega))
    unfold secC at ih ⊢
    rw [List.range_succ, List.flatMap_append, List.flatMap_append]
    have app : ∀ {vs us vs2 us2 : List Value}, AR ρ vs us → AR ρ vs2 us2 → AR ρ (vs ++ vs2) (us ++ us2) := fun h1 h2 => by
      induction h1 with
      | nil => exact h2
      | flat hn _ ih => exact .flat hn ih
      | ptr hr he _ ih => exact .ptr hr he ih
      | sl hr he _ ih => exact .sl hr he ih
      | map hr _ ih => exact .map hr ih
      | agg g1 _ _ ih => exact .agg g1 ih
      | tuple g1 _ _ ih => exact .tuple g1 ih
      | func hy g1 g2 _ _ _ ih => exact .func hy g1 g2 ih
    refine app ih ?_
    exact .sl (h m (by omega)) rfl (.flat (k := 8) rfl .nil)
theorem FMOk.small {A : AW} {p o s : Nat} {r : Nat → Nat} {sens : List Value} {n m : Nat} {rd : Nat → List Value} (h : FMOk A p o s r sens n m rd) (hm : m ≤ 900) : SmallX A (FM sens n m rd) 1000 3 (rhoFM p o s r m) := by
  obtain ⟨⟨hgl, h0, h1, c2, e2, h2⟩, hs, ⟨ks, fs⟩, hsec, hrd, frd⟩ := h
  refine ⟨fun j x hx => ?_, fun j hj => ?_, fun j y hy => ?_, by rw [hgl]; exact Nat.le_refl _, fun g hg => by simp [rhoFM, hg], by decide⟩
  · unfold rhoFM at hx
    repeat' split at hx
    all_goals first | omega | cases hx
  · simp only [FM, alook] at hj
    repeat' split at hj
    all_goals first | (cases hj; done) | skip
    rw [fam_look] at hj
    split at hj
    · cases hj
    · unfold rhoFM
      rw [if_neg (by omega), if_neg (by omega), if_neg (by omega), if_neg (by omega)]
  · have hlt := FM_lt hm hy
    refine ⟨hlt, ?_⟩
    match j, hy with
    | 0, hy => simp only [FM, alook] at hy; simp at hy; subst hy; exact ⟨(0, 0), by simp [rhoFM], .flat (k := 8) (by show A.rd 0 0 2 = _; unfold AW.rd; rw [h0]; rfl) rfl⟩
    | 1, hy => simp only [FM, alook] at hy; simp at hy; subst hy; exact ⟨(1, 0), by simp [rhoFM], .flat (k := 8) (by show A.rd 1 0 5 = _; unfold AW.rd; rw [h1]; rfl) rfl⟩
    | 2, hy => simp only [FM, alook] at hy; simp at hy; subst hy; exact ⟨(2, 0), by simp [rhoFM], .flat (k := 8) (by show A.rd 2 0 0 = _; unfold AW.rd; rw [h2]; simp) rfl⟩
    | 3, hy => simp only [FM, alook] at hy; simp at hy; subst hy; exact ⟨(p, o), by simp [rhoFM], .flat hs fs⟩
    | 4, hy =>
      simp only [FM, alook] at hy; simp at hy; subst hy
      exact ⟨(s, 0), by simp [rhoFM], _, by show A.rd s 0 (secC n m).length = _; rw [secC_len]; exact hsec, secC_AR m (fun i hi => by unfold rhoFM; rw [if_neg (by omega), if_neg (by omega), if_neg (by omega), if_pos (by omega), show 5 + i - 5 = i by omega])⟩
    | j + 5, hy =>
      simp only [FM, alook] at hy
      rw [if_neg (by omega), if_neg (by omega), if_neg (by omega), if_neg (by omega), if_neg (by omega), fam_look] at hy
      split at hy
      · rename_i q
        cases hy
        have e : j + 5 - 5 = j := by omega
        rw [e]
        obtain ⟨kk, fk⟩ := frd j (by omega)
        exact ⟨(r j, 0), by unfold rhoFM; rw [if_neg (by omega), if_neg (by omega), if_neg (by omega), if_pos (by omega), e], .flat (hrd j (by omega)) fk⟩
      · cases hy
end Go.M
namespace Go.M
open Go.Proofs Go.RowKit
set_option maxRecDepth 8000
set_option maxHeartbeats 4000000
theorem Lt.append {k : Nat} {vs us : List Value} (h1 : Lt k vs) (h2 : Lt k us) : Lt k (vs ++ us) := by
  intro β S vs' hv
  obtain ⟨a, b, rfl, ha, hb⟩ : ∃ a b, vs' = a ++ b ∧ VRs β S vs a ∧ VRs β S us b := by
    clear h1 h2
    induction vs generalizing vs' with
    | nil => exact ⟨[], vs', rfl, .nil, hv⟩
    | cons v vs ih =>
      cases vs' with
      | nil => have := hv.length; simp at this
      | cons v' vs' =>
        obtain ⟨h1, h2⟩ := hv.cons_inv
        obtain ⟨a, b, rfl, ha, hb⟩ := ih _ h2
        exact ⟨v' :: a, b, rfl, VRs.cons h1 ha, hb⟩
  exact (h1 β S a ha).append (h2 β S b hb)
theorem secC_lt {n K : Nat} : ∀ (m : Nat), 5 + m ≤ K → Lt K (secC n m)
  | 0, _ => Lt.nil
  | m + 1, h => by
    have e : secC n (m + 1) = secC n m ++ [.slice (some ⟨5 + m, 0, none⟩) n n, .int .i64 0] := by
      unfold secC
      rw [List.range_succ, List.flatMap_append]
      simp
    rw [e]
    refine (secC_lt m (by omega)).append (.cons (.sl ?_) (.flat (j := 8) rfl))
    exact Nat.ble_eq_true_of_le (by omega)
theorem FM_ok {sens : List Value} {n m K : Nat} {rd : Nat → List Value} (hm : m ≤ 900) (hK : 1000 ≤ K) (hs : ∃ k, noAddrs k sens = true) (hr : ∀ i, i < m → ∃ k, noAddrs k (rd i) = true) : ∀ j y, alook (FM sens n m rd) j = some y → j < K ∧ ObjLt K y := by
  intro j y hy
  have hlt := FM_lt hm hy
  refine ⟨by omega, ?_⟩
  obtain ⟨ks, hs⟩ := hs
  match j, hy with
  | 0, hy => simp only [FM, alook] at hy; simp at hy; subst hy; exact Lt.flat (j := 8) rfl
  | 1, hy => simp only [FM, alook] at hy; simp at hy; subst hy; exact Lt.flat (j := 8) rfl
  | 2, hy => simp only [FM, alook] at hy; simp at hy; subst hy; exact Lt.flat (j := 8) rfl
  | 3, hy => simp only [FM, alook] at hy; simp at hy; subst hy; exact Lt.flat hs
  | 4, hy => simp only [FM, alook] at hy; simp at hy; subst hy; exact secC_lt m (by omega)
  | j + 5, hy =>
    simp only [FM, alook] at hy
    rw [if_neg (by omega), if_neg (by omega), if_neg (by omega), if_neg (by omega), if_neg (by omega), fam_look] at hy
    split at hy
    · rename_i q
      cases hy
      obtain ⟨kk, fk⟩ := hr (j + 5 - 5) (by omega)
      exact Lt.flat fk
    · cases hy
abbrev boxP (n k : Nat) (need sil : Int) : AObj := .cells [.slice (some ⟨3, 0, none⟩) n k, .int .i64 need, .int .i64 sil] 53
theorem FB_ok {sens : List Value} {n m K k : Nat} {rd : Nat → List Value} {need sil : Int} (hm : m ≤ 900) (hK : 1001 ≤ K) (hs : ∃ k, noAddrs k sens = true) (hr : ∀ i, i < m → ∃ k, noAddrs k (rd i) = true) : ∀ j y, alook ((1000, boxP n k need sil) :: FM sens n m rd) j = some y → j < K ∧ ObjLt K y := by
  intro j y hy
  rw [alook] at hy
  split at hy
  · rename_i q
    subst q; cases hy
    exact ⟨by omega, .cons (.sl (Nat.ble_eq_true_of_le (by omega))) (.flat (j := 8) rfl)⟩
  · exact FM_ok hm (by omega) hs hr j y hy
/-- What a closure of the check does with each second. -/
def Closure86 (sens : List Value) (n m k : Nat) (rd : Nat → List Value) (need sil : Int) : Prop := ∀ (L : LM) (nx i : Nat), i < m → subm ((1000, boxP n k need sil) :: FM sens n m rd) L →
  AC Tryd.prog 86 [.agg #[.slice (some ⟨5 + i, 0, none⟩) n n, .int .i64 0], .pointer (some ⟨1000, 0, none⟩)] (AW.of L nx 1001 3) (isR (.int .i64 0) (AW.of L nx 1001 3))
theorem replicate_flat : ∀ i : Nat, ∃ j, noAddrs j (List.replicate i (Value.int .i64 0)) = true
  | 0 => ⟨1, rfl⟩
  | i + 1 => by obtain ⟨j, h⟩ := replicate_flat i; exact ⟨j + 1, by rw [List.replicate_succ]; simpa [noAddrs] using h⟩
theorem d_mapped85 {sens : List Value} {n m k : Nat} {rd : Nat → List Value} {need sil : Int} (hm : 0 < m ∧ m ≤ 900) (hs : ∃ k, noAddrs k sens = true) (hr : ∀ i, i < m → ∃ k, noAddrs k (rd i) = true) (hcl : Closure86 sens n m k rd need sil) :
    AC Tryd.prog 85 [.slice (some ⟨4, 0, none⟩) m m, .func (.func 86) #[] #[.pointer (some ⟨1000, 0, none⟩)]] (AW.of ((1000, boxP n k need sil) :: FM sens n m rd) 1001 1001 3)
      (fun v A1 => ∃ nm, A1.objs nm = some (.cells (List.replicate m (.int .i64 0)) 48) ∧ 1001 ≤ nm ∧ v = .slice (some ⟨nm, 0, none⟩) m m) := by
  refine AC.go Tryd.func85 rfl rfl ?_
  repeat' (first
  | refine GL.sf rfl rfl rfl rfl ?_
  | refine GL.sv rfl rfl rfl rfl ?_
  | refine GL.done ?_
  | refine GP.thenN ?_
  | refine GT.seq ?_
  | refine GT.region ?_
  | refine GT.block ?_)
  refine GT.loop (fun q a L nx => ∃ i : Nat, i ≤ m ∧ q = m - i ∧ 1001 ≤ nx ∧ subm ((1000, boxP n k need sil) :: FM sens n m rd) L ∧
      ((i = 0 ∧ asub [(1, .func (.func 86) #[] #[.pointer (some ⟨1000, 0, none⟩)]), (8, .slice (some ⟨4, 0, none⟩) m m), (9, .int .i64 m), (10, .int .i64 (0 : Int)), (5, .slice none 0 0)] a) ∨
       ∃ o, 0 < i ∧ 1001 ≤ o ∧ alook L o = some (.cells (List.replicate i (.int .i64 0)) 48) ∧ asub [(1, .func (.func 86) #[] #[.pointer (some ⟨1000, 0, none⟩)]), (8, .slice (some ⟨4, 0, none⟩) m m), (9, .int .i64 m), (10, .int .i64 i), (5, .slice (some ⟨o, 0, none⟩) i i)] a)) m
    ⟨0, by omega, by omega, by decide, fun _ _ h => h, .inl ⟨rfl, asub_cons rfl (asub_cons rfl (asub_cons rfl (asub_cons rfl (asub_cons rfl asub_nil))))⟩⟩ ?_
  rintro q a L nx ⟨i, hi, rfl, hnx, hsub, hcase⟩
  have hlook : ∀ i, i < m → ((secC n m).drop (0 + (i : Int).toNat * 2)).take 2 = [.slice (some ⟨5 + i, 0, none⟩) n n, .int .i64 0] := fun i h => by simpa using secC_at n m i h
  have hlen := secC_len n m
  rcases hcase with ⟨rfl, hs1⟩ | ⟨o, hpos, hlo, hob, hs1⟩
  · refine GT.resetL 1001 hs1 hsub hnx rfl rfl (FB_ok hm.2 (by decide) hs hr) (.cons (.func .nil (.ptr rfl) (by intro l h; cases h)) (.cons (.sl rfl) (.cons (.flat (j := 8) rfl) (.cons (.flat (j := 8) rfl) (.cons (.flat (j := 8) rfl) .nil))))) (fun g hg => by
      match g, hg with
      | 0, _ => rfl
      | 1, _ => rfl
      | 2, _ => rfl) ?_
    have hl0 := hlook 0 hm.1
    repeat' (first
    | refine GL.sf rfl rfl rfl rfl ?_
    | refine GL.sv rfl rfl rfl rfl ?_
    | refine GL.sn rfl rfl rfl ?_
    | refine GL.done ?_
    | refine GP.thenN ?_
    | refine GT.seq ?_
    | refine GT.region ?_
    | refine GL.v rfl rfl rfl (by first | exact GO.indexS (s := 2) rfl rfl rfl rfl rfl (by omega) | exact GO.loadG (s := 2) rfl rfl rfl rfl rfl rfl (by omega) hl0 | exact GO.callV rfl rfl rfl Tryd.func86 rfl rfl rfl (hcl _ _ _ hm.1 (fun j o h => by have hj := (FB_ok hm.2 (Nat.le_refl 1001) hs hr j o h).1; simp only [alook_aset, alook_aerase, alook]; (repeat rw [if_neg (by omega)]); exact h)) | exact GO.add rfl rfl rfl (by omega)) ?_
    | refine GT.skip ?_
    | refine GT.block ?_
    | refine GP.inN ?_
    | (refine GT.condD rfl (fun h => ?_) (fun h => ?_) <;> try (exfalso; omega)))
    exact GP.invN (m - 1) (by omega) ⟨1, by omega, rfl, by decide, (fun j o h => by have hj := (FB_ok hm.2 (Nat.le_refl 1001) hs hr j o h).1; simp only [alook_aset, alook_aerase, alook]; (repeat rw [if_neg (by omega)]); exact h), .inr ⟨1001 + 1 + 1, by decide, by decide, rfl, asub_cons rfl (asub_cons rfl (asub_cons rfl (asub_cons rfl (asub_cons rfl asub_nil))))⟩⟩
  · refine GT.ren 1001 o (a2 := [(1, .func (.func 86) #[] #[.pointer (some ⟨1000, 0, none⟩)]), (8, .slice (some ⟨4, 0, none⟩) m m), (9, .int .i64 m), (10, .int .i64 i)]) (L' := (1001, .cells (List.replicate i (.int .i64 0)) 48) :: (1000, boxP n k need sil) :: FM sens n m rd)
      (asub_cons (hs1 1 _ rfl) (asub_cons (hs1 8 _ rfl) (asub_cons (hs1 9 _ rfl) (asub_cons (hs1 10 _ rfl) asub_nil)))) (.cons (.func .nil (.ptr rfl) (by intro l h; cases h)) (.cons (.sl rfl) (.cons (.flat (j := 8) rfl) (.cons (.flat (j := 8) rfl) .nil))))
      hob (replicate_flat i) rfl (Nat.ble_eq_true_of_le hlo) rfl rfl (fun j y hne hy => by
        have hy : alook ((1000, boxP n k need sil) :: FM sens n m rd) j = some y := by
          rw [alook, if_neg (fun e => hne e.symm)] at hy; exact hy
        obtain ⟨h1, h2⟩ := FB_ok hm.2 (Nat.le_refl 1001) hs hr j y hy
        exact ⟨h1, .inl ⟨hsub j y hy, h2⟩⟩) (fun g hg => by
      match g, hg with
      | 0, _ => rfl
      | 1, _ => rfl
      | 2, _ => rfl) (.inr ⟨5, i, i, rfl, hs1 5 _ rfl⟩) ?_
    rcases Nat.lt_or_ge i m with hlt | hge
    · have hl0 := hlook i hlt
      repeat' (first
      | refine GL.sf rfl rfl rfl rfl ?_
      | refine GL.sn rfl rfl rfl ?_
      | refine GL.done ?_
      | refine GP.thenN ?_
      | refine GT.seq ?_
      | refine GT.region ?_
      | refine GL.v rfl rfl rfl (by first | exact GO.indexS (s := 2) rfl rfl rfl rfl rfl (by omega) | exact GO.loadG (s := 2) rfl rfl rfl rfl rfl rfl (by omega) hl0 | exact GO.callV rfl rfl rfl Tryd.func86 rfl rfl rfl (hcl _ _ _ hlt (fun j o h => by have hj := (FB_ok hm.2 (Nat.le_refl 1001) hs hr j o h).1; simp only [alook_aset, alook_aerase, alook]; (repeat rw [if_neg (by omega)]); exact h)) | exact GO.appendG rfl rfl rfl rfl rfl rfl rfl rfl rfl rfl rfl rfl rfl rfl (by rw [List.length_replicate]; exact (Nat.mul_one i).symm) (Nat.le_refl 1001) rfl (Nat.le_of_ble_eq_true rfl) (by omega) | exact GO.add rfl rfl rfl (by omega)) ?_
      | refine GT.skip ?_
      | refine GT.block ?_
      | refine GP.inN ?_
      | (refine GT.condD rfl (fun h => ?_) (fun h => ?_) <;> try (exfalso; omega)))
      exact GP.invN (m - (i + 1)) (by omega) ⟨i + 1, by omega, rfl, by decide, (fun j o h => by have hj := (FB_ok hm.2 (Nat.le_refl 1001) hs hr j o h).1; simp only [alook_aset, alook_aerase, alook]; (repeat rw [if_neg (by omega)]); exact h), .inr ⟨1002 + 1 + 1, by omega, by decide, by rw [List.replicate_succ']; rfl, asub_cons rfl (asub_cons rfl (asub_cons rfl (asub_cons rfl (asub_cons rfl asub_nil))))⟩⟩
    · obtain rfl : i = m := by omega
      repeat' (first
      | refine GL.sf rfl rfl rfl rfl ?_
      | refine GL.done ?_
      | refine GP.thenN ?_
      | refine GT.seq ?_
      | refine GT.region ?_
      | refine GT.ret ?_
      | refine GT.exit ?_
      | refine GP.thenE ?_
      | refine GP.hit ?_
      | refine GP.invE ?_
      | (refine GT.condD rfl (fun h => ?_) (fun h => ?_) <;> try (exfalso; omega))
      | refine GP.endR1 rfl ?_)
      exact ⟨_, rfl, by decide, rfl⟩
end Go.M
namespace Go.M
open Go.Proofs Go.RowKit
set_option maxRecDepth 8000
set_option maxHeartbeats 4000000
/-- Each name stands for itself. -/
def rhoId (L : LM) : Nat → Option (Nat × Nat) := fun j => if (alook L j).isSome then some (j, 0) else none
theorem rhoId_look {L : LM} {j : Nat} {y : AObj} (h : alook L j = some y) : rhoId L j = some (j, 0) := by simp [rhoId, h]
theorem SmallX.self {L0 L : LM} {nx ro k G gl : Nat} (h : ∀ j y, alook L0 j = some y → alook L j = some y ∧ j < k ∧ ∃ c e, y = .cells c e ∧ AR (rhoId L0) c c) (hG : ∀ g, g < G → (alook L0 g).isSome = true) (hGk : G ≤ k) (hgl : G ≤ gl) : SmallX (AW.of L nx ro gl) L0 k G (rhoId L0) := by
  refine ⟨fun j x hx => ?_, fun j hj => by simp [rhoId, hj], fun j y hy => ?_, hgl, fun g hg => by simp [rhoId, hG g hg], hGk⟩
  · unfold rhoId at hx
    split at hx
    · rename_i hs
      obtain ⟨y, hy⟩ := Option.isSome_iff_exists.1 hs
      exact (h j y hy).2.1
    · cases hx
  · obtain ⟨h1, h2, c, e, rfl, h3⟩ := h j y hy
    refine ⟨h2, (j, 0), rhoId_look hy, c, ?_, h3⟩
    have hob : (AW.of L nx ro gl).objs j = some (.cells c e) := h1
    unfold AW.rd
    rw [hob]
    simp
theorem FM_self {sens : List Value} {n m : Nat} {rd : Nat → List Value} {ρ : Nat → Option (Nat × Nat)} (hs : ∃ k, noAddrs k sens = true) (hr : ∀ i, i < m → ∃ k, noAddrs k (rd i) = true) (hρ : ∀ i, i < m → ρ (5 + i) = some (5 + i, 0)) : ∀ j y, alook (FM sens n m rd) j = some y → ∃ c e, y = .cells c e ∧ AR ρ c c := by
  intro j y hy
  obtain ⟨ks, hs⟩ := hs
  match j, hy with
  | 0, hy => simp only [FM, alook] at hy; simp at hy; subst hy; exact ⟨_, _, rfl, .ofFlat (k := 8) rfl⟩
  | 1, hy => simp only [FM, alook] at hy; simp at hy; subst hy; exact ⟨_, _, rfl, .ofFlat (k := 8) rfl⟩
  | 2, hy => simp only [FM, alook] at hy; simp at hy; subst hy; exact ⟨_, _, rfl, .ofFlat (k := 8) rfl⟩
  | 3, hy => simp only [FM, alook] at hy; simp at hy; subst hy; exact ⟨_, _, rfl, .ofFlat hs⟩
  | 4, hy => simp only [FM, alook] at hy; simp at hy; subst hy; exact ⟨_, _, rfl, secC_AR (r := fun i => 5 + i) m hρ⟩
  | j + 5, hy =>
    simp only [FM, alook] at hy
    rw [if_neg (by omega), if_neg (by omega), if_neg (by omega), if_neg (by omega), if_neg (by omega), fam_look] at hy
    split at hy
    · rename_i q
      cases hy
      obtain ⟨kk, fk⟩ := hr (j + 5 - 5) (by omega)
      exact ⟨_, _, rfl, .ofFlat fk⟩
    · cases hy
theorem FB_self {sens : List Value} {n m k nx ro : Nat} {rd : Nat → List Value} {need sil : Int} {L : LM} (hm : m ≤ 900) (hs : ∃ k, noAddrs k sens = true) (hr : ∀ i, i < m → ∃ k, noAddrs k (rd i) = true) (hsub : subm ((1000, boxP n k need sil) :: FM sens n m rd) L) :
    SmallX (AW.of L nx ro 3) ((1000, boxP n k need sil) :: FM sens n m rd) 1001 3 (rhoId ((1000, boxP n k need sil) :: FM sens n m rd)) := by
  refine SmallX.self (fun j y hy => ⟨hsub j y hy, (FB_ok hm (Nat.le_refl 1001) hs hr j y hy).1, ?_⟩) (fun g hg => by
    match g, hg with
    | 0, _ => rfl
    | 1, _ => rfl
    | 2, _ => rfl) (by decide) (Nat.le_refl 3)
  rw [alook] at hy
  split at hy
  · cases hy
    exact ⟨_, _, rfl, .sl (f := 0) rfl rfl (.flat (k := 8) rfl (.flat (k := 8) rfl .nil))⟩
  · exact FM_self hs hr (fun i hi => rhoId_look (y := .cells (rd i) 46) (by rw [alook, if_neg (by omega)]; exact FM_look hi)) j y hy
theorem d_mapped85at {sens : List Value} {n m k nx ro : Nat} {rd : Nat → List Value} {need sil : Int} {L : LM} (hm : 0 < m ∧ m ≤ 900) (hs : ∃ k, noAddrs k sens = true) (hr : ∀ i, i < m → ∃ k, noAddrs k (rd i) = true) (hcl : Closure86 sens n m k rd need sil) (hsub : subm ((1000, boxP n k need sil) :: FM sens n m rd) L) :
    AC Tryd.prog 85 [.slice (some ⟨4, 0, none⟩) m m, .func (.func 86) #[] #[.pointer (some ⟨1000, 0, none⟩)]] (AW.of L nx ro 3) (isR (.slice (some ⟨(AW.of L nx ro 3).next, 0, none⟩) m m) ((AW.of L nx ro 3).push (.cells (List.replicate m (.int .i64 0)) 48))) := by
  refine AC.mono (AC.givesX (Φ := fun cs => cs = List.replicate m (.int .i64 0)) (e := 48) (v2 := .slice (some ⟨(AW.of L nx ro 3).next, 0, none⟩) m m) (FB_self hm.2 hs hr hsub) (AC.mono (d_mapped85 hm hs hr hcl) fun v A1 ⟨nm, h1, h2, h3⟩ => ?_) (.sl (f := 0) (g := 0) rfl rfl (.func (by intro l h; cases h) .nil (.ptr (f := 0) (g := 0) rfl rfl .nil) .nil))) (fun v A1 ⟨cs, h1, h2, h3⟩ => by subst h1; exact ⟨h2, h3⟩)
  subst h3
  exact ⟨nm, _, h1, h2, replicate_flat m, rfl, .sl (f := 0) (if_pos rfl) rfl .nil⟩
/-- The plant itself passes. -/
def Plant84 (sens : List Value) (n m k : Nat) (rd : Nat → List Value) (need sil : Int) : Prop := ∀ (L : LM) (nx ro : Nat), alook L 3 = some (.cells sens 128) →
  AC Tryd.prog 84 [.agg #[.slice (some ⟨3, 0, none⟩) n k, .int .i64 need, .int .i64 sil]] (AW.of L nx ro 3) (isR (.int .i64 0) (AW.of L nx ro 3))
theorem rd_rep {b : Nat} {e : TypeId} {L : LM} {nx ro gl : Nat} {v : Value} (m : Nat) : (AW.of ((b, .cells (List.replicate m v) e) :: L) nx ro gl).rd b 0 m = some (List.replicate m v) := by
  have ho : (AW.of ((b, .cells (List.replicate m v) e) :: L) nx ro gl).objs b = some (.cells (List.replicate m v) e) := by show alook _ _ = _; simp [alook]
  unfold AW.rd
  rw [ho]
  simp
theorem firstNZ_replicate (m : Nat) : firstNZ (List.replicate m 0) = 0 := firstNZ_all (fun y hy => (List.mem_replicate.1 hy).2)
theorem d_seconds40 {sens : List Value} {n m k : Nat} {rd : Nat → List Value} {need sil : Int} (hm : 0 < m ∧ m ≤ 256) (hs : ∃ k, noAddrs k sens = true) (hr : ∀ i, i < m → ∃ k, noAddrs k (rd i) = true) (hcl : Closure86 sens n m k rd need sil) (hpl : Plant84 sens n m k rd need sil) :
    AC Tryd.prog 40 [.agg #[.slice (some ⟨3, 0, none⟩) n k, .int .i64 need, .int .i64 sil], .slice (some ⟨4, 0, none⟩) m m] (AW.of (FM sens n m rd) 1000 1000 3) (fun u _ => u = .int .i64 0) := by
  have e1 : firstNZ [0, whenI (decide ((256 : Int) < m)) 5] = 0 := by rw [decide_eq_false (by omega)]; rfl
  refine AC.go Tryd.func40 rfl rfl ?_
  repeat' (first
  | refine GL.sf rfl rfl rfl rfl ?_
  | refine GL.sv rfl rfl rfl rfl ?_
  | refine GL.done ?_
  | refine GP.thenN ?_
  | refine GT.seq ?_
  | refine GT.region ?_
  | refine GL.v rfl rfl rfl (by first | exact GO.call rfl rfl Tryd.func84 rfl rfl rfl (hpl _ _ _ rfl) | exact GO.call rfl rfl Tryd.func72 rfl rfl rfl (d_when72 _ _) | exact GO.call rfl rfl Tryd.func71 rfl rfl rfl (d_first71 [0, whenI (decide ((256 : Int) < m)) 5] rfl rfl rfl) | exact GO.push (GO.call rfl rfl Tryd.func85 rfl rfl rfl (d_mapped85at ⟨hm.1, by omega⟩ hs hr hcl (fun j o h => by have hj := (FB_ok (by omega) (Nat.le_refl 1001) hs hr j o h).1; simp only [alook_aset, alook_aerase, alook]; (repeat rw [if_neg (by omega)]); exact h))) | exact GO.call rfl rfl Tryd.func71 rfl rfl rfl (d_first71 (List.replicate m 0) List.length_replicate (Nat.ble_eq_true_of_le (by omega)) (by rw [List.map_replicate]; exact rd_rep m)) | exact GO.mkfn rfl (fun _ h => by cases h) rfl rfl) ?_
  | refine GT.skip ?_
  | refine GT.ret ?_
  | (refine GT.condN rfl (fun h => ?_) (fun h => ?_) <;> try (exfalso; omega))
  | refine GP.endR1 rfl ?_)
  rw [firstNZ_replicate]
end Go.M
namespace Go.M
open Go.Proofs Go.RowKit
set_option maxRecDepth 16000
set_option maxHeartbeats 16000000
theorem d_aeq57 (a0 a1 a2 a3 a4 a5 a6 a7 b0 b1 b2 b3 b4 b5 b6 b7 : Int) : aeq Tryd.prog 20 57 (.agg #[.int .i64 a0, .int .i64 a1, .int .i64 a2, .int .i64 a3, .int .i64 a4, .int .i64 a5, .int .i64 a6, .int .i64 a7]) (.agg #[.int .i64 b0, .int .i64 b1, .int .i64 b2, .int .i64 b3, .int .i64 b4, .int .i64 b5, .int .i64 b6, .int .i64 b7]) =
    some (decide (a0 = b0 ∧ a1 = b1 ∧ a2 = b2 ∧ a3 = b3 ∧ a4 = b4 ∧ a5 = b5 ∧ a6 = b6 ∧ a7 = b7)) := by
  simp [aeq, aeqF, aeqA, Tryd.underlying57, d_ap3, Tryd.underlying3, List.range', Bool.decide_and]
  rfl
theorem GL.eqAny {P : Program} {n m : Nat} {a : AEnv} {o : Oper} {ops : Array Oper} {rest : List Oper} {Q : AQ} {L : LM} {nx ro gl : Nat} {dd : Tmp} {t t2 : TypeId} {X Y : Operand} {xs ys : Array Value} {d : Nat} (hg0 : o.guard = none) (hd0 : o.dst = some dd) (hn : Nat.ble (dd + 1) n = true) (ho : o.op = .binOp .eql t X Y t2) (hx : aev gl a X = some (.agg xs)) (hy : aev gl a Y = some (.agg ys)) (nx' : noAddrs 64 [.agg xs] = true) (ny : noAddrs 64 [.agg ys] = true)
    (hg : P.eqGuardType P.depth t = false) (hb : ∃ b, aeq P d t (.agg xs) (.agg ys) = some b) (hd : Nat.ble d 10000 = true) (k : ∀ b, GL P n m ops rest ((dd, .bool b) :: a) L nx ro gl Q) : GL P n m ops (o :: rest) a L nx ro gl Q := by
  obtain ⟨b, hb⟩ := hb
  exact GL.v hg0 hd0 hn (GO.eq ho hx hy nx' ny hg hb hd) (k b)
theorem d_vote121a {A : AW} {p n k : Nat} (need sil : Int) (hneed : 1 ≤ need) (hp : A.rd p 0 0 = some []) : AC Tryd.prog 121 [.agg #[.slice (some ⟨p, 0, none⟩) n k, .int .i64 need, .int .i64 sil], .slice none 0 0] A (isR (.bool false) A) := by
  refine AC.isX (SmallX.nil.cons (k := 0) (b := p) (f := 0) (o := .cells [] 128) (.flat (k := 8) hp rfl)) (args := [.agg #[.slice (some ⟨0, 0, none⟩) n k, .int .i64 need, .int .i64 sil], .slice none 0 0]) ?_ ⟨8, rfl⟩ (.agg (.sl rfl rfl (.flat (k := 8) rfl (.flat (k := 8) rfl .nil))) (.flat (k := 8) rfl .nil))
  refine AC.go Tryd.func121 rfl rfl ?_
  repeat' (first
  | refine GL.sf rfl rfl rfl rfl ?_
  | refine GL.done ?_
  | refine GP.thenN ?_
  | refine GT.seq ?_
  | refine GT.region ?_
  | refine GL.skip rfl rfl rfl rfl ?_
  | refine GT.ret ?_
  | (refine GL.forkD rfl rfl (fun h => ?_) (fun h => ?_) <;> try (exfalso; omega))
  | refine GP.endR1 rfl ?_)
  rfl
theorem d_vote121b {A : AW} {p x n k : Nat} (need sil : Int) (hneed : 2 ≤ need) (hp : A.rd p 0 0 = some []) (hx : A.rd x 0 0 = some []) : AC Tryd.prog 121 [.agg #[.slice (some ⟨p, 0, none⟩) n k, .int .i64 need, .int .i64 sil], .slice (some ⟨x, 0, none⟩) 1 1] A (isR (.bool false) A) := by
  refine AC.isX ((SmallX.nil.cons (k := 0) (b := p) (f := 0) (o := .cells [] 128) (.flat (k := 8) hp rfl)).cons (b := x) (f := 0) (o := .cells [] 83) (.flat (k := 8) hx rfl)) (args := [.agg #[.slice (some ⟨0, 0, none⟩) n k, .int .i64 need, .int .i64 sil], .slice (some ⟨1, 0, none⟩) 1 1]) ?_ ⟨8, rfl⟩ (.agg (.sl rfl rfl (.flat (k := 8) rfl (.flat (k := 8) rfl .nil))) (.sl rfl rfl .nil))
  refine AC.go Tryd.func121 rfl rfl ?_
  repeat' (first
  | refine GL.sf rfl rfl rfl rfl ?_
  | refine GL.done ?_
  | refine GP.thenN ?_
  | refine GT.seq ?_
  | refine GT.region ?_
  | refine GL.skip rfl rfl rfl rfl ?_
  | refine GT.ret ?_
  | (refine GL.forkD rfl rfl (fun h => ?_) (fun h => ?_) <;> try (exfalso; omega))
  | refine GP.endR1 rfl ?_)
  rfl
/-- A reading within limits. -/
def GoodR (m : Bool) (r lo hi : Int) : Prop := m = false ∧ lo ≤ r ∧ r ≤ hi
/-- The state after a second: mode and rest as before, the counts small. -/
def After (md lf : Int) (v : Value) : Prop := ∃ (c0 c1 c2 c3 c4 c5 c6 c7 : Int) (al : Value), ((0 ≤ c0 ∧ c0 ≤ 60) ∧ (0 ≤ c1 ∧ c1 ≤ 60) ∧ (0 ≤ c2 ∧ c2 ≤ 60) ∧ (0 ≤ c3 ∧ c3 ≤ 60) ∧ (0 ≤ c4 ∧ c4 ≤ 60) ∧ (0 ≤ c5 ∧ c5 ≤ 60) ∧ (0 ≤ c6 ∧ c6 ≤ 60) ∧ (0 ≤ c7 ∧ c7 ≤ 60)) ∧ v = .agg #[.int .i64 md, .int .i64 lf, .int .i64 c0, .int .i64 c1, .int .i64 c2, .int .i64 c3, .int .i64 c4, .int .i64 c5, .int .i64 c6, .int .i64 c7, al]
end Go.M
namespace Go.M
open Go.Proofs Go.RowKit
set_option maxRecDepth 16000
set_option maxHeartbeats 8000000
/-- Eight counts that are small. -/
def Small8 (c0 c1 c2 c3 c4 c5 c6 c7 : Int) : Prop := (0 ≤ c0 ∧ c0 ≤ 60) ∧ (0 ≤ c1 ∧ c1 ≤ 60) ∧ (0 ≤ c2 ∧ c2 ≤ 60) ∧ (0 ≤ c3 ∧ c3 ≤ 60) ∧ (0 ≤ c4 ∧ c4 ≤ 60) ∧ (0 ≤ c5 ∧ c5 ≤ 60) ∧ (0 ≤ c6 ∧ c6 ≤ 60) ∧ (0 ≤ c7 ∧ c7 ≤ 60)
abbrev stateC (md lf c0 c1 c2 c3 c4 c5 c6 c7 : Int) : List Value := [.int .i64 md, .int .i64 lf, .int .i64 c0, .int .i64 c1, .int .i64 c2, .int .i64 c3, .int .i64 c4, .int .i64 c5, .int .i64 c6, .int .i64 c7]
/-- What counting does with one second's readings 'rds' from any small counts: small counts again, with or without an alarm. -/
def Counts (f : FuncId) (x2 : Nat → Value) (sens rds : List Value) (n k : Nat) (need sil : Int) : Prop := ∀ c0 c1 c2 c3 c4 c5 c6 c7 : Int, Small8 c0 c1 c2 c3 c4 c5 c6 c7 →
  (∃ d0 d1 d2 d3 d4 d5 d6 d7 : Int, Small8 d0 d1 d2 d3 d4 d5 d6 d7 ∧ ∀ (L : LM) (nx ro p x : Nat), (AW.of L nx ro 3).rd p 0 sens.length = some sens → (AW.of L nx ro 3).rd x 0 rds.length = some rds → GOk (AW.of L nx ro 3) →
    AC Tryd.prog f [.agg #[.slice (some ⟨p, 0, none⟩) n k, .int .i64 need, .int .i64 sil], .agg #[.int .i64 0, .int .i64 0, .int .i64 c0, .int .i64 c1, .int .i64 c2, .int .i64 c3, .int .i64 c4, .int .i64 c5, .int .i64 c6, .int .i64 c7], x2 x] (AW.of L nx ro 3)
      (isR (.agg #[.int .i64 0, .int .i64 0, .int .i64 d0, .int .i64 d1, .int .i64 d2, .int .i64 d3, .int .i64 d4, .int .i64 d5, .int .i64 d6, .int .i64 d7, .slice none 0 0]) (AW.of L nx ro 3))) ∨
  (∃ d0 d1 d2 d3 d4 d5 d6 d7 : Int, Small8 d0 d1 d2 d3 d4 d5 d6 d7 ∧ ∀ (L : LM) (nx ro p x : Nat), (AW.of L nx ro 3).rd p 0 sens.length = some sens → (AW.of L nx ro 3).rd x 0 rds.length = some rds → GOk (AW.of L nx ro 3) →
    AC Tryd.prog f [.agg #[.slice (some ⟨p, 0, none⟩) n k, .int .i64 need, .int .i64 sil], .agg #[.int .i64 0, .int .i64 0, .int .i64 c0, .int .i64 c1, .int .i64 c2, .int .i64 c3, .int .i64 c4, .int .i64 c5, .int .i64 c6, .int .i64 c7], x2 x] (AW.of L nx ro 3)
      (isR (.agg #[.int .i64 0, .int .i64 0, .int .i64 d0, .int .i64 d1, .int .i64 d2, .int .i64 d3, .int .i64 d4, .int .i64 d5, .int .i64 d6, .int .i64 d7, .slice (some ⟨nx, 0, none⟩) 1 1]) (AW.of L (nx + 1) ro 3)))
theorem d_next90 {sens rds : List Value} {n k : Nat} {need sil : Int} (hs : ∃ k, noAddrs k sens = true) (hr : ∃ k, noAddrs k rds = true) (h : Counts 194 (fun x => .slice (some ⟨x, 0, none⟩) n n) sens rds n k need sil) :
    Counts 90 (fun x => .agg #[.slice (some ⟨x, 0, none⟩) n n, .int .i64 0]) sens rds n k need sil := by
  intro c0 c1 c2 c3 c4 c5 c6 c7 hc
  obtain ⟨ks, hs⟩ := hs
  obtain ⟨kr, hr⟩ := hr
  have small : ∀ (L : LM) (nx ro p x : Nat), (AW.of L nx ro 3).rd p 0 sens.length = some sens → (AW.of L nx ro 3).rd x 0 rds.length = some rds → GOk (AW.of L nx ro 3) →
      SmallX (AW.of L nx ro 3) [(4, .cells rds 46), (3, .cells sens 128), (2, .cells [] 0), (1, .cells stepsV 242), (0, .cells [.int .i64 0, .int .i64 0] 31)] 5 3 (onto 4 x 0 (onto 3 p 0 (fun j => if j < 3 then some (j, 0) else none))) := by
    intro L nx ro p x hp hx ⟨hgl, g0, g1, cc, ee, g2⟩
    refine SmallX.cons (SmallX.cons ⟨fun j x hx => by split at hx <;> simp_all, fun j hj => ?_, fun j o hj => ?_, Nat.le_refl 3, fun g hg => by simp [hg], by decide⟩ (.flat hp hs)) (.flat hx hr)
    · match j with
      | 0 => simp [alook] at hj
      | 1 => simp [alook] at hj
      | 2 => simp [alook] at hj
      | j + 3 => simp
    · match j with
      | 0 => simp only [alook] at hj; simp at hj; subst hj; exact ⟨by decide, (0, 0), by simp, .flat (k := 8) (by show AW.rd _ 0 0 2 = _; unfold AW.rd; rw [g0]; rfl) rfl⟩
      | 1 => simp only [alook] at hj; simp at hj; subst hj; exact ⟨by decide, (1, 0), by simp, .flat (k := 8) (by show AW.rd _ 1 0 5 = _; unfold AW.rd; rw [g1]; rfl) rfl⟩
      | 2 => simp only [alook] at hj; simp at hj; subst hj; exact ⟨by decide, (2, 0), by simp, .flat (k := 8) (by show AW.rd _ 2 0 0 = _; unfold AW.rd; rw [g2]; simp) rfl⟩
      | j + 3 => simp [alook] at hj
  have rdS : ∀ (L : LM) (nx ro gl b : Nat) (c : List Value) (e : TypeId), alook L b = some (.cells c e) → (AW.of L nx ro gl).rd b 0 c.length = some c := by
    intro L nx ro gl b c e hb
    have ho : (AW.of L nx ro gl).objs b = some (.cells c e) := hb
    unfold AW.rd
    rw [ho]; simp
  rcases h c0 c1 c2 c3 c4 c5 c6 c7 hc with ⟨d0, d1, d2, d3, d4, d5, d6, d7, hd, h⟩ | ⟨d0, d1, d2, d3, d4, d5, d6, d7, hd, h⟩
  · refine .inl ⟨d0, d1, d2, d3, d4, d5, d6, d7, hd, fun L nx ro p x hp hx hg => ?_⟩
    refine AC.isX (small L nx ro p x hp hx hg) (args := [.agg #[.slice (some ⟨3, 0, none⟩) n k, .int .i64 need, .int .i64 sil], .agg #[.int .i64 0, .int .i64 0, .int .i64 c0, .int .i64 c1, .int .i64 c2, .int .i64 c3, .int .i64 c4, .int .i64 c5, .int .i64 c6, .int .i64 c7], .agg #[.slice (some ⟨4, 0, none⟩) n n, .int .i64 0]]) ?_ ⟨32, rfl⟩
      (.agg (.sl rfl rfl (.flat (k := 8) rfl (.flat (k := 8) rfl .nil))) (.flat (k := 32) rfl (.agg (.sl rfl rfl (.flat (k := 8) rfl .nil)) .nil)))
    refine AC.go Tryd.func90 rfl rfl ?_
    repeat' (first
    | refine GT.draws (id := 6) [[], [0], [0, 1], [0, 1, 2], [0, 1, 2, 3], [], [], [], [7], [0, 1, 2, 3, 4, 5, 6, 7, 8], [0, 1, 2, 3, 4, 5, 6, 7, 8, 9]] [10] (by kernel_rfl) ?_
    | refine GL.sf rfl rfl rfl rfl ?_
    | refine GL.done ?_
    | refine GP.thenN ?_
    | refine GT.seq ?_
    | refine GT.region ?_
    | refine GL.skip rfl rfl rfl rfl ?_
    | refine GD.li rfl rfl (by exact onAt.none rfl) rfl (by repeat first | exact AllG.nil rfl | refine AllG.cons rfl (by first | exact GO.sf rfl rfl | exact GO.sv rfl rfl | exact GO.callV rfl rfl rfl Tryd.func194 rfl rfl rfl (h _ _ _ 3 4 (rdS _ _ _ _ _ _ _ rfl) (rdS _ _ _ _ _ _ _ rfl) ⟨rfl, rfl, rfl, _, _, rfl⟩)) ?_) ?_
    | refine GD.hN rfl rfl rfl (by exact onAt.none rfl) rfl rfl ?_ ?_
    | refine GD.done rfl rfl rfl ?_
    | exact AllJs.nil rfl
    | refine GT.skip ?_
    | refine GT.block ?_
    | refine GT.ret ?_
    | refine GP.inN ?_
    | refine GT.condF rfl ?_
    | refine GP.endR1 rfl ?_)
    rfl
  · refine .inr ⟨d0, d1, d2, d3, d4, d5, d6, d7, hd, fun L nx ro p x hp hx hg => ?_⟩
    refine AC.mono (AC.givesDX (Φ := fun u => u = .agg #[.int .i64 0, .int .i64 0, .int .i64 d0, .int .i64 d1, .int .i64 d2, .int .i64 d3, .int .i64 d4, .int .i64 d5, .int .i64 d6, .int .i64 d7, .slice (some ⟨nx, 0, none⟩) 1 1]) (small L nx ro p x hp hx hg) (args := [.agg #[.slice (some ⟨3, 0, none⟩) n k, .int .i64 need, .int .i64 sil], .agg #[.int .i64 0, .int .i64 0, .int .i64 c0, .int .i64 c1, .int .i64 c2, .int .i64 c3, .int .i64 c4, .int .i64 c5, .int .i64 c6, .int .i64 c7], .agg #[.slice (some ⟨4, 0, none⟩) n n, .int .i64 0]]) ?_
      (.agg (.sl rfl rfl (.flat (k := 8) rfl (.flat (k := 8) rfl .nil))) (.flat (k := 32) rfl (.agg (.sl rfl rfl (.flat (k := 8) rfl .nil)) .nil)))) (fun v A1 hv => hv)
    refine AC.go Tryd.func90 rfl rfl ?_
    repeat' (first
    | refine GT.draws (id := 6) [[], [0], [0, 1], [0, 1, 2], [0, 1, 2, 3], [], [], [], [7], [0, 1, 2, 3, 4, 5, 6, 7, 8], [0, 1, 2, 3, 4, 5, 6, 7, 8, 9]] [9, 10] (by kernel_rfl) ?_
    | refine GL.sf rfl rfl rfl rfl ?_
    | refine GL.done ?_
    | refine GP.thenN ?_
    | refine GT.seq ?_
    | refine GT.region ?_
    | refine GL.skip rfl rfl rfl rfl ?_
    | refine GD.li rfl rfl (by exact onAt.none rfl) rfl (by repeat first | exact AllG.nil rfl | refine AllG.cons rfl (by first | exact GO.sf rfl rfl | exact GO.sv rfl rfl) ?_) ?_
    | refine GD.he rfl rfl rfl (by exact onAt.none rfl) rfl (by exact GO.callV rfl rfl rfl Tryd.func194 rfl rfl rfl (h _ _ _ 3 4 (rdS _ _ _ _ _ _ _ rfl) (rdS _ _ _ _ _ _ _ rfl) ⟨rfl, rfl, rfl, _, _, rfl⟩)) ?_ ?_
    | refine GD.hN rfl rfl rfl (by exact onAt.none rfl) rfl rfl ?_ ?_
    | refine GD.done rfl rfl rfl ?_
    | exact AllJs.nil rfl
    | refine GT.skip ?_
    | refine GT.block ?_
    | refine GT.ret ?_
    | refine GP.inN ?_
    | refine GT.condF rfl ?_
    | refine GP.endR1 rfl ?_)
    exact ⟨_, _, rfl, .agg (.flat (k := 8) rfl (.flat (k := 8) rfl (.flat (k := 8) rfl (.flat (k := 8) rfl (.flat (k := 8) rfl (.flat (k := 8) rfl (.flat (k := 8) rfl (.flat (k := 8) rfl (.flat (k := 8) rfl (.flat (k := 8) rfl (.sl (f := 0) (g := 0) (if_pos rfl) rfl .nil))))))))))) .nil⟩
end Go.M
namespace Go.M
open Go.Proofs Go.RowKit
set_option maxRecDepth 16000
set_option maxHeartbeats 8000000
/-- Whole numbers alone. -/
def AllI (cs : List Value) : Prop := ∀ v ∈ cs, ∃ x : Int, v = .int .i64 x
/-- The states of 'i' seconds, all in Main. -/
def Mains (i : Nat) (cs : List Value) : Prop := cs.length = i * 10 ∧ AllI cs ∧ ∀ j, j < i → ∃ c0 c1 c2 c3 c4 c5 c6 c7 : Int, (cs.drop (j * 10)).take 10 = stateC 0 0 c0 c1 c2 c3 c4 c5 c6 c7
theorem Mains.zero : Mains 0 [] := ⟨rfl, fun _ h => (List.not_mem_nil h).elim, fun j h => by omega⟩
theorem AllI.flat : ∀ {cs : List Value}, AllI cs → ∃ j, noAddrs j cs = true
  | [], _ => ⟨1, rfl⟩
  | v :: cs, h => by
    obtain ⟨j, hj⟩ := AllI.flat (cs := cs) (fun u hu => h u (List.mem_cons_of_mem _ hu))
    obtain ⟨x, rfl⟩ := h v List.mem_cons_self
    exact ⟨j + 1, by simpa [noAddrs] using hj⟩
theorem AllI.cons {x : Int} {cs : List Value} (h : AllI cs) : AllI (.int .i64 x :: cs) := fun v hv => by
  rcases List.mem_cons.1 hv with q | q
  · exact ⟨x, q⟩
  · exact h v q
theorem Mains.snoc {i : Nat} {cs : List Value} (h : Mains i cs) (c0 c1 c2 c3 c4 c5 c6 c7 : Int) : Mains (i + 1) (cs ++ stateC 0 0 c0 c1 c2 c3 c4 c5 c6 c7) := by
  obtain ⟨hl, hn, hm⟩ := h
  refine ⟨by rw [List.length_append, hl]; simp; omega, fun v hv => ?_, fun j hj => ?_⟩
  · rcases List.mem_append.1 hv with q | q
    · exact hn v q
    · exact (AllI.cons (.cons (.cons (.cons (.cons (.cons (.cons (.cons (.cons (.cons (fun _ h => (List.not_mem_nil h).elim)))))))))) : AllI (stateC 0 0 c0 c1 c2 c3 c4 c5 c6 c7)) v q
  rcases Nat.lt_or_ge j i with q | q
  · rw [List.drop_append_of_le_length (by omega), List.take_append_of_le_length (by rw [List.length_drop]; omega)]
    exact hm j q
  · obtain rfl : j = i := by omega
    refine ⟨c0, c1, c2, c3, c4, c5, c6, c7, ?_⟩
    rw [List.drop_append, List.drop_of_length_le (by omega), show j * 10 - cs.length = 0 by omega]
    rfl
theorem d_seconds40at {sens : List Value} {n m k nx ro : Nat} {rd : Nat → List Value} {need sil : Int} {L : LM} (hm : 0 < m ∧ m ≤ 256) (hs : ∃ k, noAddrs k sens = true) (hr : ∀ i, i < m → ∃ k, noAddrs k (rd i) = true) (hcl : Closure86 sens n m k rd need sil) (hpl : Plant84 sens n m k rd need sil)
    (hsub : subm (FM sens n m rd) L) : AC Tryd.prog 40 [.agg #[.slice (some ⟨3, 0, none⟩) n k, .int .i64 need, .int .i64 sil], .slice (some ⟨4, 0, none⟩) m m] (AW.of L nx ro 3) (isR (.int .i64 0) (AW.of L nx ro 3)) := by
  have s : SmallX (AW.of L nx ro 3) (FM sens n m rd) 1000 3 (rhoId (FM sens n m rd)) := SmallX.self (fun j y hy => ⟨hsub j y hy, FM_lt (by omega) hy, FM_self hs hr (fun i hi => rhoId_look (FM_look hi)) j y hy⟩) (fun g hg => by
    match g, hg with
    | 0, _ => rfl
    | 1, _ => rfl
    | 2, _ => rfl) (by decide) (Nat.le_refl 3)
  exact AC.isX s (d_seconds40 hm hs hr hcl hpl) ⟨8, rfl⟩ (.agg (.sl rfl rfl (.flat (k := 8) rfl (.flat (k := 8) rfl .nil))) (.sl rfl rfl .nil))
theorem rd_of {b nx ro gl : Nat} {c : List Value} {e : TypeId} {L : LM} (hb : alook L b = some (.cells c e)) : (AW.of L nx ro gl).rd b 0 c.length = some c := by
  have ho : (AW.of L nx ro gl).objs b = some (.cells c e) := hb
  unfold AW.rd
  rw [ho]; simp
/-- What stays as it is while the states are counted, and the present state. -/
abbrev SB (sens : List Value) (n m k : Nat) (rd : Nat → List Value) (need sil : Int) (rec : AObj) (st : List Value) : LM :=
  (1006, .cells st 59) :: (1005, rec) :: (1004, .dfr) :: (1003, .cells [.slice (some ⟨4, 0, none⟩) m m] 55) :: (1002, boxP n k need sil) :: (1000, boxP n k need sil) :: FM sens n m rd
theorem SB_ok {sens : List Value} {n m k : Nat} {rd : Nat → List Value} {need sil : Int} {rec : AObj} {st : List Value} (hm : m ≤ 900) (hs : ∃ k, noAddrs k sens = true) (hr : ∀ i, i < m → ∃ k, noAddrs k (rd i) = true) (hrec : ObjLt 1007 rec) (hst : ∃ j, noAddrs j st = true) :
    ∀ j y, alook (SB sens n m k rd need sil rec st) j = some y → j ≠ 1001 ∧ j < 1007 ∧ ObjLt 1007 y := by
  intro j y hy
  rw [alook] at hy
  split at hy
  · obtain ⟨q, hq⟩ := hst; cases hy; subst j; exact ⟨by decide, by decide, Lt.flat hq⟩
  rw [alook] at hy
  split at hy
  · cases hy; subst j; exact ⟨by decide, by decide, hrec⟩
  rw [alook] at hy
  split at hy
  · cases hy; subst j; exact ⟨by decide, by decide, trivial⟩
  rw [alook] at hy
  split at hy
  · cases hy; subst j; exact ⟨by decide, by decide, .cons (.sl rfl) .nil⟩
  rw [alook] at hy
  split at hy
  · cases hy; subst j; exact ⟨by decide, by decide, .cons (.sl rfl) (.flat (j := 8) rfl)⟩
  rw [alook] at hy
  split at hy
  · cases hy; subst j; exact ⟨by decide, by decide, .cons (.sl rfl) (.flat (j := 8) rfl)⟩
  have h1 := FM_lt hm hy
  exact ⟨by omega, by omega, (FM_ok hm (by decide) hs hr j y hy).2⟩
theorem SB_sub {sens : List Value} {n m k : Nat} {rd : Nat → List Value} {need sil : Int} {rec : AObj} {st : List Value} {L : LM} (h6 : alook L 1006 = some (.cells st 59)) (h5 : alook L 1005 = some rec) (h4 : alook L 1004 = some .dfr) (h3 : alook L 1003 = some (.cells [.slice (some ⟨4, 0, none⟩) m m] 55)) (h2 : alook L 1002 = some (boxP n k need sil)) (h0 : alook L 1000 = some (boxP n k need sil)) (hf : subm (FM sens n m rd) L) : subm (SB sens n m k rd need sil rec st) L :=
  subm_cons h6 (subm_cons h5 (subm_cons h4 (subm_cons h3 (subm_cons h2 (subm_cons h0 hf)))))
abbrev EB (m i : Nat) : AEnv := [(0, .func (.yield 1005) #[] #[]), (1, .pointer (some ⟨1003, 0, none⟩)), (2, .pointer (some ⟨1002, 0, none⟩)), (4, .pointer (some ⟨1006, 0, none⟩)), (8, .slice (some ⟨4, 0, none⟩) m m), (9, .int .i64 m), (10, .int .i64 i)]
theorem EB_lt {m i : Nat} : EnvLt 1007 (EB m i) := .cons (Lt.yield rfl) (.cons (.ptr rfl) (.cons (.ptr rfl) (.cons (.ptr rfl) (.cons (.sl rfl) (.cons (.flat (j := 8) rfl) (.cons (.flat (j := 8) rfl) .nil))))))
theorem EB_sub {m i : Nat} {a : AEnv} {v : Value} (hv : v = .int .i64 (i : Int)) (h0 : aget a 0 = some (.func (.yield 1005) #[] #[])) (h1 : aget a 1 = some (.pointer (some ⟨1003, 0, none⟩))) (h2 : aget a 2 = some (.pointer (some ⟨1002, 0, none⟩))) (h4 : aget a 4 = some (.pointer (some ⟨1006, 0, none⟩))) (h8 : aget a 8 = some (.slice (some ⟨4, 0, none⟩) m m)) (h9 : aget a 9 = some (.int .i64 m)) (h10 : aget a 10 = some v) : asub (EB m i) a :=
  asub_cons h0 (asub_cons h1 (asub_cons h2 (asub_cons h4 (asub_cons h8 (asub_cons h9 (asub_cons (hv ▸ h10) asub_nil))))))
theorem stateC_flat {c0 c1 c2 c3 c4 c5 c6 c7 : Int} : ∃ j, noAddrs j (stateC 0 0 c0 c1 c2 c3 c4 c5 c6 c7) = true := ⟨16, rfl⟩
theorem d_states10 {sens : List Value} {n m k : Nat} {rd : Nat → List Value} {need sil : Int} (hm : 0 < m ∧ m ≤ 256) (hs : ∃ k, noAddrs k sens = true) (hr : ∀ i, i < m → ∃ k, noAddrs k (rd i) = true) (hcl : Closure86 sens n m k rd need sil) (hpl : Plant84 sens n m k rd need sil)
    (hc : ∀ i, i < m → Counts 90 (fun x => .agg #[.slice (some ⟨x, 0, none⟩) n n, .int .i64 0]) sens (rd i) n k need sil) :
    AC Tryd.prog 10 [.agg #[.slice (some ⟨3, 0, none⟩) n k, .int .i64 need, .int .i64 sil], .slice (some ⟨4, 0, none⟩) m m] (AW.of (FM sens n m rd) 1000 1000 3)
      (fun u A1 => ∃ nm cs, u = .tuple #[.slice (some ⟨nm, 0, none⟩) m m, .int .i64 0] ∧ A1.objs nm = some (.cells cs 59) ∧ 1000 ≤ nm ∧ Mains m cs) := by
  refine AC.goF Tryd.func10 rfl rfl ?_
  repeat' (first
  | refine GL.v rfl rfl rfl (GO.call rfl rfl Tryd.func41 rfl rfl rfl (AC.go Tryd.func41 rfl rfl (by repeat' (first | exact ⟨rfl, rfl⟩ | refine GL.sf rfl rfl rfl rfl ?_ | refine GL.done ?_ | refine GP.thenN ?_ | refine GT.seq ?_ | refine GT.region ?_ | refine GL.v rfl rfl rfl (by exact GO.mkfn rfl (fun _ h => by cases h) rfl rfl) ?_ | refine GT.ret ?_ | refine GP.endR1 rfl ?_)))) ?_
  | refine GP.fthen ?_
  | refine GF.range2 ?_
  | refine GP.range ?_
  | refine GF.seq ?_
  | refine GL.sf rfl rfl rfl rfl ?_
  | refine GL.done ?_
  | refine GP.thenN ?_
  | refine GT.seq ?_
  | refine GT.region ?_
  | refine GL.v rfl rfl rfl (by exact GO.call rfl rfl Tryd.func40 rfl rfl rfl (d_seconds40at hm hs hr hcl hpl (fun j o h => by have hj := FM_lt (by omega) h; simp only [alook]; (repeat rw [if_neg (by omega)]); exact h))) ?_
  | refine GT.skip ?_
  | refine GT.condF rfl ?_)
  refine GRange.of (a := [(18, .func (.func 89) #[] #[.pointer (some ⟨1003, 0, none⟩), .pointer (some ⟨1002, 0, none⟩)]), (7, .pointer (some ⟨1001, 0, none⟩))]) (asub_cons rfl (asub_cons rfl asub_nil)) rfl rfl rfl rfl (fun f => ?_)
  refine AC.go Tryd.func89 rfl rfl ?_
  repeat' (first
  | refine GL.sf rfl rfl rfl rfl ?_
  | refine GL.sv rfl rfl rfl rfl ?_
  | refine GL.done ?_
  | refine GP.thenN ?_
  | refine GT.seq ?_
  | refine GT.region ?_
  | refine GT.block ?_)
  generalize hrec : (AObj.loop _ _ _ _ _ _ _) = rec
  have hrl : ObjLt 1007 rec := by
    subst hrec
    intro t v hv
    exact EnvLt.get (.cons (.func .nil (.cons (.ptr rfl) (.ptr rfl)) (by intro l h; cases h)) (.cons (.ptr rfl) .nil)) hv
  refine GT.loop (fun q a L nx => ∃ (i : Nat) (c0 c1 c2 c3 c4 c5 c6 c7 : Int) (cs : List Value), i ≤ m ∧ q = m - i ∧ 1007 ≤ nx ∧ Small8 c0 c1 c2 c3 c4 c5 c6 c7 ∧ Mains i cs ∧ asub (EB m i) a ∧ subm (SB sens n m k rd need sil rec (stateC 0 0 c0 c1 c2 c3 c4 c5 c6 c7)) L ∧
      ((i = 0 ∧ cs = [] ∧ alook L 1001 = some (.cells [.slice none 0 0] 47)) ∨ ∃ o, 0 < i ∧ 1007 ≤ o ∧ alook L o = some (.cells cs 59) ∧ alook L 1001 = some (.cells [.slice (some ⟨o, 0, none⟩) i i] 47))) m
    ⟨0, 0, 0, 0, 0, 0, 0, 0, 0, [], by omega, by omega, by decide, by unfold Small8; omega, Mains.zero, EB_sub rfl rfl rfl rfl rfl rfl rfl rfl, SB_sub rfl rfl rfl rfl rfl rfl (fun j o h => by have hj := FM_lt (by omega) h; simp only [alook_aset, alook_aerase, alook]; (repeat rw [if_neg (by omega)]); exact h), .inl ⟨rfl, rfl, rfl⟩⟩ ?_
  rintro q a L nx ⟨i, c0, c1, c2, c3, c4, c5, c6, c7, cs, hi, rfl, hnx, h8, hmn, hsa, hsub, hcase⟩
  have hlook : ∀ i, i < m → ((secC n m).drop (0 + (i : Int).toNat * 2)).take 2 = [.slice (some ⟨5 + i, 0, none⟩) n n, .int .i64 0] := fun i h => by simpa using secC_at n m i h
  have hlen := secC_len n m
  have hok := SB_ok (n := n) (k := k) (need := need) (sil := sil) (st := stateC 0 0 c0 c1 c2 c3 c4 c5 c6 c7) (by omega) hs hr hrl stateC_flat
  rcases hcase with ⟨rfl, rfl, h1001⟩ | ⟨o, hpos, hlo, hob, h1001⟩
  · refine GT.resetL (L' := (1001, .cells [.slice none 0 0] 47) :: SB sens n m k rd need sil rec (stateC 0 0 c0 c1 c2 c3 c4 c5 c6 c7)) 1007 hsa (subm_cons h1001 hsub) hnx rfl rfl (fun j y hy => by
      rw [alook] at hy
      split at hy
      · cases hy; subst j; exact ⟨by decide, .flat (j := 8) rfl⟩
      · exact (hok j y hy).2) EB_lt (fun g hg => by
      match g, hg with
      | 0, _ => rfl
      | 1, _ => rfl
      | 2, _ => rfl) ?_
    have hl0 := hlook 0 hm.1
    rcases hc 0 hm.1 c0 c1 c2 c3 c4 c5 c6 c7 h8 with ⟨d0, d1, d2, d3, d4, d5, d6, d7, hd, hcc⟩ | ⟨d0, d1, d2, d3, d4, d5, d6, d7, hd, hcc⟩
    ·
      repeat' (first
      | refine GL.v rfl rfl rfl (GO.yield rfl rfl rfl rfl (congrArg some hrec.symm) rfl rfl rfl (by repeat' (first | exact GP.yBody rfl ⟨rfl, rfl⟩ | refine GP.yAssign (congrArg some hrec.symm) ?_ | refine GL.sf rfl rfl rfl rfl ?_ | refine GL.sv rfl rfl rfl rfl ?_ | refine GL.sn rfl rfl rfl ?_ | refine GL.done ?_ | refine GT.region ?_ | refine GT.block ?_ | refine GP.inN ?_))) ?_
      | refine GL.sf rfl rfl rfl rfl ?_
      | refine GL.sn rfl rfl rfl ?_
      | refine GL.done ?_
      | refine GP.thenN ?_
      | refine GT.seq ?_
      | refine GT.region ?_
      | refine GL.v rfl rfl rfl (by first | exact GO.indexS (s := 2) rfl rfl rfl rfl rfl (by omega) | exact GO.loadG (s := 2) rfl rfl rfl rfl rfl rfl (by omega) hl0 | exact GO.call rfl rfl Tryd.func90 rfl rfl rfl (hcc _ _ _ 3 (5 + 0) (rd_of rfl) (rd_of (by simp only [alook_aset, alook_aerase, alook]; (repeat rw [if_neg (by omega)]); rw [fam_look, if_pos (by omega), show 5 + 0 - 5 = 0 by omega])) ⟨rfl, rfl, rfl, _, _, rfl⟩) | exact GO.add rfl rfl rfl (by omega)) ?_
      | refine GT.skip ?_
      | refine GT.block ?_
      | refine GP.inN ?_
      | refine GT.condF rfl ?_
      | (refine GT.condD rfl (fun h => ?_) (fun h => ?_) <;> try (exfalso; omega)))
      exact GP.invN (m - (0 + 1)) (by omega) ⟨0 + 1, d0, d1, d2, d3, d4, d5, d6, d7, _, by omega, rfl, by decide, hd, hmn.snoc d0 d1 d2 d3 d4 d5 d6 d7, EB_sub rfl rfl rfl rfl rfl rfl rfl rfl, SB_sub rfl (congrArg some hrec) rfl rfl rfl rfl (fun j o h => by have hj := FM_lt (by omega) h; simp only [alook_aset, alook_aerase, alook]; (repeat rw [if_neg (by omega)]); exact h), .inr ⟨1011, by omega, by decide, rfl, rfl⟩⟩
    ·
      repeat' (first
      | refine GL.v rfl rfl rfl (GO.yield rfl rfl rfl rfl (congrArg some hrec.symm) rfl rfl rfl (by repeat' (first | exact GP.yBody rfl ⟨rfl, rfl⟩ | refine GP.yAssign (congrArg some hrec.symm) ?_ | refine GL.sf rfl rfl rfl rfl ?_ | refine GL.sv rfl rfl rfl rfl ?_ | refine GL.sn rfl rfl rfl ?_ | refine GL.done ?_ | refine GT.region ?_ | refine GT.block ?_ | refine GP.inN ?_))) ?_
      | refine GL.sf rfl rfl rfl rfl ?_
      | refine GL.sn rfl rfl rfl ?_
      | refine GL.done ?_
      | refine GP.thenN ?_
      | refine GT.seq ?_
      | refine GT.region ?_
      | refine GL.v rfl rfl rfl (by first | exact GO.indexS (s := 2) rfl rfl rfl rfl rfl (by omega) | exact GO.loadG (s := 2) rfl rfl rfl rfl rfl rfl (by omega) hl0 | exact GO.call rfl rfl Tryd.func90 rfl rfl rfl (hcc _ _ _ 3 (5 + 0) (rd_of rfl) (rd_of (by simp only [alook_aset, alook_aerase, alook]; (repeat rw [if_neg (by omega)]); rw [fam_look, if_pos (by omega), show 5 + 0 - 5 = 0 by omega])) ⟨rfl, rfl, rfl, _, _, rfl⟩) | exact GO.add rfl rfl rfl (by omega)) ?_
      | refine GT.skip ?_
      | refine GT.block ?_
      | refine GP.inN ?_
      | refine GT.condF rfl ?_
      | (refine GT.condD rfl (fun h => ?_) (fun h => ?_) <;> try (exfalso; omega)))
      exact GP.invN (m - (0 + 1)) (by omega) ⟨0 + 1, d0, d1, d2, d3, d4, d5, d6, d7, _, by omega, rfl, by decide, hd, hmn.snoc d0 d1 d2 d3 d4 d5 d6 d7, EB_sub rfl rfl rfl rfl rfl rfl rfl rfl, SB_sub rfl (congrArg some hrec) rfl rfl rfl rfl (fun j o h => by have hj := FM_lt (by omega) h; simp only [alook_aset, alook_aerase, alook]; (repeat rw [if_neg (by omega)]); exact h), .inr ⟨1012, by omega, by decide, rfl, rfl⟩⟩
  · refine GT.ren 1007 o (a2 := EB m i) (L' := (1007, .cells cs 59) :: (1001, .cells [.slice (some ⟨1007, 0, none⟩) i i] 47) :: SB sens n m k rd need sil rec (stateC 0 0 c0 c1 c2 c3 c4 c5 c6 c7)) hsa EB_lt
      hob (AllI.flat hmn.2.1) rfl (Nat.ble_eq_true_of_le hlo) rfl rfl (fun j y hne hy => by
        rw [alook, if_neg (fun e => hne e.symm), alook] at hy
        split at hy
        · cases hy; subst j; exact ⟨by decide, .inr ⟨_, _, _, rfl, h1001⟩⟩
        · obtain ⟨h0, h1, h2⟩ := hok j y hy
          exact ⟨h1, .inl ⟨hsub j y hy, h2⟩⟩) (fun g hg => by
      match g, hg with
      | 0, _ => rfl
      | 1, _ => rfl
      | 2, _ => rfl) (.inl rfl) ?_
    rcases Nat.lt_or_ge i m with hlt | hge
    · have hl0 := hlook i hlt
      rcases hc i hlt c0 c1 c2 c3 c4 c5 c6 c7 h8 with ⟨d0, d1, d2, d3, d4, d5, d6, d7, hd, hcc⟩ | ⟨d0, d1, d2, d3, d4, d5, d6, d7, hd, hcc⟩
      ·
        repeat' (first
        | refine GL.v rfl rfl rfl (GO.yield rfl rfl rfl rfl (congrArg some hrec.symm) rfl rfl rfl (by repeat' (first | exact GP.yBody rfl ⟨rfl, rfl⟩ | refine GP.yAssign (congrArg some hrec.symm) ?_ | refine GL.sf rfl rfl rfl rfl ?_ | refine GL.sv rfl rfl rfl rfl ?_ | refine GL.sn rfl rfl rfl ?_ | refine GL.done ?_ | refine GT.region ?_ | refine GL.v rfl rfl rfl (by exact GO.appendG rfl rfl rfl rfl rfl rfl rfl rfl rfl rfl rfl rfl rfl rfl hmn.1 (by decide) rfl (Nat.le_of_ble_eq_true rfl) (by omega)) ?_ | refine GT.block ?_ | refine GP.inN ?_))) ?_
        | refine GL.sf rfl rfl rfl rfl ?_
        | refine GL.sn rfl rfl rfl ?_
        | refine GL.done ?_
        | refine GP.thenN ?_
        | refine GT.seq ?_
        | refine GT.region ?_
        | refine GL.v rfl rfl rfl (by first | exact GO.indexS (s := 2) rfl rfl rfl rfl rfl (by omega) | exact GO.loadG (s := 2) rfl rfl rfl rfl rfl rfl (by omega) hl0 | exact GO.call rfl rfl Tryd.func90 rfl rfl rfl (hcc _ _ _ 3 (5 + i) (rd_of rfl) (rd_of (by simp only [alook_aset, alook_aerase, alook]; (repeat rw [if_neg (by omega)]); rw [fam_look, if_pos (by omega), show 5 + i - 5 = i by omega])) ⟨rfl, rfl, rfl, _, _, rfl⟩) | exact GO.add rfl rfl rfl (by omega)) ?_
        | refine GT.skip ?_
        | refine GT.block ?_
        | refine GP.inN ?_
        | refine GT.condF rfl ?_
        | (refine GT.condD rfl (fun h => ?_) (fun h => ?_) <;> try (exfalso; omega)))
        exact GP.invN (m - (i + 1)) (by omega) ⟨i + 1, d0, d1, d2, d3, d4, d5, d6, d7, _, by omega, rfl, by decide, hd, hmn.snoc d0 d1 d2 d3 d4 d5 d6 d7, EB_sub rfl rfl rfl rfl rfl rfl rfl rfl, SB_sub rfl (congrArg some hrec) rfl rfl rfl rfl (fun j o h => by have hj := FM_lt (by omega) h; simp only [alook_aset, alook_aerase, alook]; (repeat rw [if_neg (by omega)]); exact h), .inr ⟨1012, by omega, by decide, rfl, rfl⟩⟩
      ·
        repeat' (first
        | refine GL.v rfl rfl rfl (GO.yield rfl rfl rfl rfl (congrArg some hrec.symm) rfl rfl rfl (by repeat' (first | exact GP.yBody rfl ⟨rfl, rfl⟩ | refine GP.yAssign (congrArg some hrec.symm) ?_ | refine GL.sf rfl rfl rfl rfl ?_ | refine GL.sv rfl rfl rfl rfl ?_ | refine GL.sn rfl rfl rfl ?_ | refine GL.done ?_ | refine GT.region ?_ | refine GL.v rfl rfl rfl (by exact GO.appendG rfl rfl rfl rfl rfl rfl rfl rfl rfl rfl rfl rfl rfl rfl hmn.1 (by decide) rfl (Nat.le_of_ble_eq_true rfl) (by omega)) ?_ | refine GT.block ?_ | refine GP.inN ?_))) ?_
        | refine GL.sf rfl rfl rfl rfl ?_
        | refine GL.sn rfl rfl rfl ?_
        | refine GL.done ?_
        | refine GP.thenN ?_
        | refine GT.seq ?_
        | refine GT.region ?_
        | refine GL.v rfl rfl rfl (by first | exact GO.indexS (s := 2) rfl rfl rfl rfl rfl (by omega) | exact GO.loadG (s := 2) rfl rfl rfl rfl rfl rfl (by omega) hl0 | exact GO.call rfl rfl Tryd.func90 rfl rfl rfl (hcc _ _ _ 3 (5 + i) (rd_of rfl) (rd_of (by simp only [alook_aset, alook_aerase, alook]; (repeat rw [if_neg (by omega)]); rw [fam_look, if_pos (by omega), show 5 + i - 5 = i by omega])) ⟨rfl, rfl, rfl, _, _, rfl⟩) | exact GO.add rfl rfl rfl (by omega)) ?_
        | refine GT.skip ?_
        | refine GT.block ?_
        | refine GP.inN ?_
        | refine GT.condF rfl ?_
        | (refine GT.condD rfl (fun h => ?_) (fun h => ?_) <;> try (exfalso; omega)))
        exact GP.invN (m - (i + 1)) (by omega) ⟨i + 1, d0, d1, d2, d3, d4, d5, d6, d7, _, by omega, rfl, by decide, hd, hmn.snoc d0 d1 d2 d3 d4 d5 d6 d7, EB_sub rfl rfl rfl rfl rfl rfl rfl rfl, SB_sub rfl (congrArg some hrec) rfl rfl rfl rfl (fun j o h => by have hj := FM_lt (by omega) h; simp only [alook_aset, alook_aerase, alook]; (repeat rw [if_neg (by omega)]); exact h), .inr ⟨1013, by omega, by decide, rfl, rfl⟩⟩
    · obtain rfl : i = m := by omega
      repeat' (first
      | refine GL.sf rfl rfl rfl rfl ?_
      | refine GL.done ?_
      | refine GP.thenN ?_
      | refine GT.seq ?_
      | refine GT.region ?_
      | refine GT.exit ?_
      | refine GP.thenE ?_
      | refine GP.hit ?_
      | refine GP.invE ?_
      | (refine GT.condD rfl (fun h => ?_) (fun h => ?_) <;> try (exfalso; omega))
      | refine GP.endN0 rfl ?_)
      refine ⟨_, _, rfl, rfl, rfl, ?_⟩
      repeat' (first
      | refine GP.fend2 rfl rfl ?_
      | refine GL.sf rfl rfl rfl rfl ?_
      | refine GL.sv rfl rfl rfl rfl ?_
      | refine GL.done ?_)
      exact ⟨1007, cs, rfl, rfl, by decide, hmn⟩
end Go.M
