/- Functions of the given program, walked (no condition beyond what each theorem says). -/
import Derived.Test.YtfhodefiknfccaaDoorK4
set_option linter.unusedVariables false
set_option linter.unusedSimpArgs false
namespace Go.M
open Go.Proofs Go.RowKit
set_option maxRecDepth 16000
set_option maxHeartbeats 64000000
theorem law_round1c {X : LM} {NC : List Value} {Q : AQ} {ea : Bool} {n cl : Nat} (r : Rl) (F1 F2 : Nat → Mo) (hX : ∀ k, 30 ≤ k → Und k X) (hle : ∀ i, stS r F1 i ≤ stS r F2 i) (i : Nat) (hlt : i < 24) (hc : stN r F1 i = 1 ∧ (F1 i).v < r.e) (hcb : (F1 i).c = false) :
    GT Tryd.prog Tryd.f4.ntmps 30 ((lps (Tryd.f4.body.getD .skip)).getD 0 .skip) (E1L ea n cl i) (M1L X NC r F1 F2) 65 30 3 (GInv 30 3 (I1L X NC r F1 F2 ea n cl) (24 - i) Q) := by
  have h39 := m1_39 (r := r) (F1 := F1) hX
  have hT := fun {j : Nat} {y : AObj} => xfam_rng (r := r) (F1 := F1) hX (j := j) (y := y)
  have gm : ((moC F1 24).drop (0 + (i : Int).toNat * 4)).take 4 = (F1 i).vs := by simpa using moC_at hlt
  have gs : (intC (stN r F1) 24)[0 + (i : Int).toNat * 1]? = some (.int .i64 (stN r F1 i)) := by simpa using intC_at (F := stN r F1) hlt
  have gh : (intC (stN r F2) 24)[0 + (i : Int).toNat * 1]? = some (.int .i64 (stN r F2 i)) := by simpa using intC_at (F := stN r F2) hlt
  have gb : (blC r F1 (fun j => 39 + 1 + j) 24)[0 + (i : Int).toNat * 1]? = some (bkV r F1 (fun j => 39 + 1 + j) i) := by simpa using blC_at (r := r) (μ := F1) (ν := fun j => 39 + 1 + j) hlt
  have lm : (moC F1 24).length = 24 * 4 := moC_len
  have hle1 : stN r F1 i ≤ stN r F2 i := hle (i + 1)
  have hall : stN r F1 i = 2 → (F1 i).all = true := fun q => stS_all q
  have hwo := m1_40 (r := r) (F1 := F1) hX i hlt
  have hbd : bkB r F1 i = (decide (stN r F1 i = 1 ∧ (F1 i).v < r.e) && !(F1 i).all) := rfl
  have hbn : bkN r F1 i = cond (bkB r F1 i) (wdL (F1 i)).length 0 := rfl
  unfold bkV at gb
  rw [hbn] at gb
  have hw26 := fun {A : AW} {b c : Nat} (hb : A.rd b 0 ((wdL (F1 i)).map Value.string).length = some ((wdL (F1 i)).map Value.string)) (h3 : (wdL (F1 i)).length ≤ 3) => w_word26 (A := A) (b := b) (c := c) (wdL (F1 i)) clearW (by omega) hb
  rw [hasS_clear] at hw26
  have hwl := wdL_pos (x := F1 i)
  generalize F1 i = x at *
  generalize stN r F1 i = S at *
  generalize stN r F2 i = H at *
  obtain ⟨v, c, s', t'⟩ := x
  obtain ⟨rfl, hve⟩ := hc
  obtain rfl : c = false := hcb
  cases hA1 : Mo.all ⟨v, false, s', t'⟩ with
  | true =>
    exact absurd (show false = true from hA1) (by decide)
  | false =>
    have hb1 : bkB r F1 i = true := by rw [hbd, hA1]; simp [hve]
    have hwo1 : alook (X ++ FamL r F1) (39 + 1 + i) = some (.cells ((wdL ⟨v, false, s', t'⟩).map Value.string) 9) := hwo hb1
    have hwl1 := hwl hA1
    rw [hb1] at gb
    have gb : (blC r F1 (fun j => 39 + 1 + j) 24)[0 + (i : Int).toNat * 1]? = some (.slice (some ⟨39 + 1 + i, 0, none⟩) (wdL ⟨v, false, s', t'⟩).length (wdL ⟨v, false, s', t'⟩).length) := gb
    have hl3 := hwl1.2
    clear hall hbn hbd hwo hwl
    generalize wdL ⟨v, false, s', t'⟩ = W at *
    have hlp : 0 < (W.length : Int) := by omega
    cases s' <;> cases t'
    all_goals
      repeat' (first
      | refine GT.draws (id := 16) [[], [], [0, 1], [0, 1, 2], [0, 1, 2, 3], [0, 1, 2, 3, 4], [0, 1, 2, 3, 4, 5], [0, 1, 2, 3, 4, 5], [0, 1, 2, 3, 4, 5, 6, 7], [0, 1, 2, 3, 4, 5, 6, 7, 8], [0, 1, 2, 3, 4, 5, 6, 7, 8, 9], [0, 1, 2, 3, 4, 5, 6, 7, 8, 9, 10], [0, 1, 2, 3, 4, 5, 6, 7, 8, 9, 10, 11], [0, 1, 2, 3, 4, 5, 6, 7, 8, 9, 10, 11, 12], [0, 1, 2, 3, 4, 5, 6, 7, 8, 9, 10, 11, 12], [0, 1, 2, 3, 4, 5, 6, 7, 8, 9, 10, 11, 12, 13, 14], [0, 1, 2, 3, 4, 5, 6, 7, 8, 9, 10, 11, 12, 13, 14, 15], [0, 1, 2, 3, 4, 5, 6, 7, 8, 9, 10, 11, 12], [0, 1, 2, 3, 4, 5, 6, 7, 8, 9, 10, 11, 12], [0, 1, 2, 3, 4, 5, 6, 7, 8, 9, 10, 11, 12, 17, 18], [0, 1, 2, 3, 4, 5, 6, 7, 8, 9, 10, 11, 12, 17, 18, 19], [0, 1, 2, 3, 4, 5, 6, 7, 8, 9, 10, 11, 12, 13, 14, 15, 16, 17, 18, 19, 20], [0, 1, 2, 3, 4, 5, 6, 7, 8, 9, 10, 11, 12, 13, 14, 15, 16, 17, 18, 19, 20, 21], [0, 1, 2, 3, 4, 5, 6, 7, 8, 9, 10, 11, 12, 13, 14, 15, 16, 17, 18, 19, 20, 21, 22], [0, 1, 2, 3, 4, 5, 6, 7, 8, 9, 10, 11, 12, 13, 14, 15, 16, 17, 18, 19, 20, 21, 22, 23], [0, 1, 2, 3, 4, 5, 6, 7, 8, 9, 10, 11, 12, 13, 14, 15, 16, 17, 18, 19, 20, 21, 22, 23], [0, 1, 2, 3, 4, 5, 6, 7, 8, 9, 10, 11, 12, 13, 14, 15, 16, 17, 18, 19, 20, 21, 22, 23, 24, 25], [0, 1, 2, 3, 4, 5, 6, 7, 8, 9, 10, 11, 12, 13, 14, 15, 16, 17, 18, 19, 20, 21, 22, 23, 24, 25, 26], [0, 1, 2, 3, 4, 5, 6, 7, 8, 9, 10, 11, 12, 13, 14, 15, 16, 17, 18, 19, 20, 21, 22, 23, 24, 25, 26, 27], [0, 1, 2, 3, 4, 5, 6, 7, 8, 9, 10, 11, 12, 13, 14, 15, 16, 17, 18, 19, 20, 21, 22, 23, 24, 25, 26, 27, 28], [0, 1, 2, 3, 4, 5, 6, 7, 8, 9, 10, 11, 12, 13, 14, 15, 16, 17, 18, 19, 20, 21, 22, 23, 24, 25, 26, 27, 28, 29], [0, 1, 2, 3, 4, 5, 6, 7, 8, 9, 10, 11, 12, 13, 14, 15, 16, 17, 18, 19, 20, 21, 22, 23, 24, 25, 26, 27, 28, 29, 30], [0, 1, 2, 3, 4, 5, 6, 7, 8, 9, 10, 11, 12, 13, 14, 15, 16, 17, 18, 19, 20, 21, 22, 23, 24, 25, 26, 27, 28, 29, 30, 31], [0, 1, 2, 3, 4, 5, 6, 7, 8, 9, 10, 11, 12, 13, 14, 15, 16, 17, 18, 19, 20, 21, 22, 23, 24, 25, 26, 27, 28, 29, 30, 31, 32]] [] (by kernel_rfl) ?_
      | refine GL.sf rfl rfl rfl rfl ?_
      | refine GL.sv rfl rfl rfl rfl ?_
      | refine GL.sn rfl rfl rfl ?_
      | refine GL.done ?_
      | refine GP.thenN ?_
      | refine GT.seq ?_
      | refine GT.region ?_
      | refine GL.unguardG rfl rfl rfl ?_
      | refine GL.skipG rfl rfl rfl rfl rfl ?_
      | refine GD.li rfl rfl (by first | exact onAt.none rfl | exact onAt.yes rfl rfl rfl) rfl (by repeat first | exact AllG.nil rfl | refine AllG.cons rfl (by first | exact GO.sf rfl rfl | exact GO.indexS (s := 1) rfl rfl rfl rfl rfl (by omega) | exact GO.loadC rfl rfl rfl rfl rfl gs | exact GO.loadC rfl rfl rfl rfl rfl gh) ?_) ?_
      | refine GD.off rfl rfl rfl rfl rfl (by exact .inl rfl) rfl ?_
      | refine GD.done rfl rfl rfl ?_
      | (refine GD.forkD rfl rfl rfl rfl (fun h => ?_) (fun h => ?_) <;> try (exfalso; omega))
      | refine GL.v rfl rfl rfl (by first | exact GO.indexS (s := 4) rfl rfl rfl rfl rfl (by omega) | exact GO.indexS (s := 1) rfl rfl rfl rfl rfl (by omega) | exact GO.loadG (s := 4) rfl rfl rfl rfl rfl rfl (by omega) gm | exact GO.loadC rfl rfl rfl rfl rfl gs | exact GO.loadC rfl rfl rfl rfl (by simp only [alook_aset, alook_aerase, alook]; (repeat rw [if_neg (by omega)]); exact h39) gb | exact GO.call rfl rfl Tryd.func26 rfl rfl rfl (hw26 (rd_self (by simp only [alook_aset, alook_aerase, alook]; (repeat rw [if_neg (by omega)]); exact hwo1)) hl3) | exact GO.add rfl rfl rfl (by omega)) ?_
      | refine GT.skip ?_
      | refine GT.block ?_
      | refine GT.ret ?_
      | refine GP.thenR ?_
      | refine GP.inN ?_
      | refine GP.inR ?_
      | refine GP.invR ?_
      | refine GT.condF rfl ?_
      | (refine GT.condD rfl (fun h => ?_) (fun h => ?_) <;> try (exfalso; omega))
      | (refine GT.condN rfl (fun h => ?_) (fun h => ?_) <;> try (exfalso; omega))
      | (refine GL.forkDG rfl rfl rfl (fun h => ?_) (fun h => ?_) <;> try (exfalso; omega)))
    all_goals first
      | (exfalso; rw [decide_eq_true hlp] at h; exact absurd h (by decide))
      | exact GP.invN (24 - (i + 1)) (by omega) ⟨i + 1, by omega, rfl, Nat.le_of_ble_eq_true rfl, asub_cons rfl (asub_cons rfl (asub_cons rfl (asub_cons rfl (asub_cons rfl (asub_cons rfl (asub_cons rfl (asub_cons rfl (asub_cons rfl (asub_cons rfl (asub_nil)))))))))), subm_cons rfl (subm_cons rfl (subm_cons rfl (subm_cons rfl (subm_cons rfl (fun j y h => by have hj := hT h; simp only [alook_aset, alook_aerase, alook]; (repeat rw [if_neg (by omega)]); exact h)))))⟩
end Go.M
