/- Functions of the given program, walked (no condition beyond what each theorem says). -/
import Derived.Test.YtfhodefiknfccaaDoorK6
import Derived.Test.YtfhodefiknfccaaDoorK7
import Derived.Test.YtfhodefiknfccaaDoorK8
import Derived.Test.YtfhodefiknfccaaDoorJ8
import Derived.Test.YtfhodefiknfccaaDoorK5
import Derived.Test.YtfhodefiknfccaaDoorK4
set_option linter.unusedVariables false
set_option linter.unusedSimpArgs false
namespace Go.M
open Go.Proofs Go.RowKit
set_option maxRecDepth 16000
set_option maxHeartbeats 64000000
theorem w_law4 {A : AW} {ea ed e0 : Bool} {p q r0 cl cd c0 : Nat} {φ : Nat → Bool} {ν κ : Nat → Nat} (l : List Ar) (r : Rl) (d : List Ld) (m0 : List Mv) (vw : Nat → Int) (s t : Int) (hvw : ∀ i, i < 24 → 0 ≤ vw i ∧ vw i ≤ 65535) (hl : l.length ≤ 4)
    (hnj : NjAt A ea ed e0 p q r0 φ ν κ l d m0) : AC Tryd.prog 4 [.slice (slA ea p) l.length cl, .agg r.vs.toArray, .agg (niC ed e0 q r0 d.length cd m0.length c0 vw s t).toArray] A (isR (.bool true) A) := by
  obtain ⟨ρ, hs, k6, k3, k4⟩ := hnj.small (by omega)
  refine AC.mono (AC.pureD (R := fun u => u = .bool true) hs (args := [.slice (slA ea 6) l.length cl, .agg r.vs.toArray, .agg (niC ed e0 3 4 d.length cd m0.length c0 vw s t).toArray]) (AC.mono (R := fun u _ => u = .bool true) ?_ (fun u _ e => ⟨e, by subst e; exact ⟨8, rfl⟩⟩))
    (.slW k6 (.flat (k := 32) rfl (.agg (.slW k3 (.slW k4 (.ofFlat (k := 64) rfl))) .nil)))) (fun u A1 h => h)
  have hN := fun {L : LM} {nx ro : Nat} (low : ∀ j, j < 30 → alook L j = alook (NjM φ κ l d m0) j) => nj_low (nx := nx) (ro := ro) (show l.length ≤ 16 by omega) low (fun z => (hnj.ar.yes z).1) (fun z => (hnj.ld.yes z).1) (fun z => (hnj.m0.yes z).1) hnj.phi
  have hX := nj_und (φ := φ) (κ := κ) (l := l) (d := d) (m0 := m0) (by omega)
  have x0 : alook (NjM φ κ l d m0) 0 = some (.cells [] 0) := (nj_g (by decide)).trans rfl
  have x1 : alook (NjM φ κ l d m0) 1 = some (.cells [] 0) := (nj_g (by decide)).trans rfl
  have x2 : alook (NjM φ κ l d m0) 2 = some (.cells sidesC 274) := (nj_g (by decide)).trans rfl
  have hz0 : ne m0 = true → e0 = true ∧ alook (NjM φ κ l d m0) 4 = some (.cells (mvC m0) 112) := fun z => ⟨(hnj.m0.yes z).1, by rw [nj_look, if_neg (by omega), if_neg (by omega), if_pos ⟨z, rfl⟩]⟩
  clear hs hnj k3 k4 k6
  generalize NjM φ κ l d m0 = X at *
  have hXlt : ∀ {j : Nat} {y : AObj}, alook X j = some y → j < 30 := fun h => (hX 30 (Nat.le_refl _) _ _ h).1
  have hXB : ∀ k, 30 ≤ k → Bel k X := fun k hk => ltU (hX k hk)
  have lowL : ∀ j, j < 30 → alook ((31, .cells (niC ed e0 3 4 d.length cd m0.length c0 vw s t) 72) :: (30, .cells r.vs 65) :: X) j = alook X j := fun j hj => by simp only [alook]; (repeat rw [if_neg (by omega)])
  have hGW : ∀ {nx : Nat}, GW (AW.of ((31, .cells (niC ed e0 3 4 d.length cd m0.length c0 vw s t) 72) :: (30, .cells r.vs 65) :: X) nx 30 3) := ⟨rfl, rd_zero2 ((lowL 0 (by decide)).trans x0), rd_zero2 ((lowL 1 (by decide)).trans x1), rd_self ((lowL 2 (by decide)).trans x2)⟩
  refine AC.go Tryd.func4 rfl rfl ?_
  repeat' (first
  | (refine GL.any rfl rfl rfl (GO.call rfl rfl Tryd.func15 rfl rfl rfl ((hN lowL).short hl)) ?_; rintro v A1 ⟨⟨b15, rfl, h15⟩, rfl⟩; refine ⟨_, _, rfl, ?_⟩)
  | (refine GL.any rfl rfl rfl (GO.call rfl rfl Tryd.func16 rfl rfl rfl ((hN lowL).list hl (h15 (by simpa using ‹(!b15) = false›)))) ?_; rintro v A1 ⟨⟨e16, rfl, h16⟩, rfl⟩; refine ⟨_, _, rfl, ?_⟩)
  | (refine GL.any rfl rfl rfl (GO.call rfl rfl Tryd.func17 rfl rfl rfl (w_rule17 _ _ _ _)) ?_; rintro v A1 ⟨⟨e17, rfl, h17⟩, rfl⟩; refine ⟨_, _, rfl, ?_⟩)
  | (refine GL.any rfl rfl rfl (GO.call rfl rfl Tryd.func18 rfl rfl rfl (w_short18 d (by omega) (hN lowL).ld.sl)) ?_; rintro v A1 ⟨⟨b18, rfl⟩, rfl⟩; refine ⟨_, _, rfl, ?_⟩)
  | (refine GL.any rfl rfl rfl (GO.call rfl rfl Tryd.func19 rfl rfl rfl (w_list19V d (by omega) (hN lowL).ld.sl)) ?_; rintro v A1 ⟨⟨e19, rfl, h19⟩, rfl⟩; refine ⟨_, _, rfl, ?_⟩)
  | (refine GL.any rfl rfl rfl (GO.call rfl rfl Tryd.func20 rfl rfl rfl (w_short20 m0 (by omega) (hN lowL).m0.sl)) ?_; rintro v A1 ⟨⟨b20, rfl⟩, rfl⟩; refine ⟨_, _, rfl, ?_⟩)
  | (refine GL.any rfl rfl rfl (GO.call rfl rfl Tryd.func21 rfl rfl rfl (w_list21V m0 (by omega) (hN lowL).m0.sl)) ?_; rintro v A1 ⟨⟨e21, rfl, h21⟩, rfl⟩; refine ⟨_, _, rfl, ?_⟩)
  | refine GL.sf rfl rfl rfl rfl ?_
  | refine GL.sv rfl rfl rfl rfl ?_
  | refine GL.done ?_
  | refine GP.thenN ?_
  | refine GT.seq ?_
  | refine GT.region ?_
  | refine GL.unguardG rfl rfl rfl ?_
  | refine GL.skipG rfl rfl rfl rfl rfl ?_
  | refine GL.v rfl rfl rfl (by exact GO.call rfl rfl Tryd.func22 rfl rfl rfl (w_held22 hGW)) ?_
  | refine GT.skip ?_
  | refine GT.ret ?_
  | refine GP.thenR ?_
  | refine GT.condT rfl ?_
  | refine GT.condF rfl ?_
  | (refine GL.forkDG rfl rfl rfl (fun h => ?_) (fun h => ?_) <;> try (exfalso; omega))
  | (refine GL.forkNG rfl rfl rfl (fun h => ?_) (fun h => ?_) <;> try (exfalso; omega))
  | (refine GL.forkBG rfl rfl rfl (fun h => ?_) (fun h => ?_))
  | refine GP.endR1 rfl ?_)
  all_goals first
    | rfl
    | skip
  have hA : ArOk l := h16 (by omega)
  have hr : r.Ok := by obtain ⟨g1, g2, g3, g4, g5, g6⟩ := h17 (by omega); exact ⟨g1, g2, g3, g4, g5, g6⟩
  have hLd : LdOk d := h19 (by omega)
  have hMv : MvOk m0 := h21 (by omega)
  have hd3 : d.length ≤ 3 := by omega
  have hm4 : m0.length ≤ 4 := by omega
  have hO : ScOk l d m0 := ⟨hA, by omega, hLd, by omega, hMv, by omega⟩
  have hp := ps_ok hA
  clear h15 h16 h17 h19 h21
  have hOe : ScOk l d [] := ⟨hA, by omega, hLd, by omega, ⟨fun i x h => by simp at h, fun i j x y _ h => by simp at h⟩, Nat.zero_le _⟩
  obtain ⟨F1, hF1⟩ : ∃ F, F = niF l d m0 vw s t := ⟨_, rfl⟩
  obtain ⟨F2, hF2⟩ : ∃ F, F = niF l d [] vw s t := ⟨_, rfl⟩
  have hv1 : ∀ i, i < 24 → 0 ≤ (F1 i).v ∧ (F1 i).v ≤ 10000 := fun i hi => by subst hF1; have := hvw i hi; show 0 ≤ vw i % 10001 ∧ vw i % 10001 ≤ 10000; omega
  have hv2 : ∀ i, i < 24 → 0 ≤ (F2 i).v ∧ (F2 i).v ≤ 10000 := fun i hi => by subst hF2; have := hvw i hi; show 0 ≤ vw i % 10001 ∧ vw i % 10001 ≤ 10000; omega
  have hle : ∀ i, stS r F1 i ≤ stS r F2 i := fun i => by subst hF1 hF2; exact night_le hr i
  have hq : ∀ {L : LM} {nx : Nat}, (∀ j, j < 30 → alook L j = alook X j) → AC Tryd.prog 23 [.slice (slA ea 6) l.length cl, .agg (niC ed e0 3 4 d.length cd m0.length c0 vw s t).toArray, .slice (slA e0 4) m0.length c0] (AW.of L nx 30 3) (isR (.tuple #[.slice (some ⟨nx, 0, none⟩) 24 24, .bool true]) ((AW.of L nx 30 3).push (.cells (moC F1 24) 91))) := fun low => by rw [hF1]; exact w_night23 l d m0 m0 vw s t hvw hO hl hd3 hm4 hp ((hN low).ni hA (hN low).m0)
  have hqe : ∀ {L : LM} {nx : Nat}, (∀ j, j < 30 → alook L j = alook X j) → AC Tryd.prog 23 [.slice (slA ea 6) l.length cl, .agg (niC ed e0 3 4 d.length cd m0.length c0 vw s t).toArray, .slice none 0 0] (AW.of L nx 30 3) (isR (.tuple #[.slice (some ⟨nx, 0, none⟩) 24 24, .bool true]) ((AW.of L nx 30 3).push (.cells (moC F2 24) 91))) := fun low => by rw [hF2]; exact w_night23 (em := false) (r := 0) (cm := 0) l d m0 [] vw s t hvw hOe hl hd3 (by decide) hp ((hN low).ni hA ⟨fun _ h => (by cases h), fun h => (by cases h)⟩)
  have h24 : ∀ {F : Nat → Mo}, (moC F 24).length = 24 * 4 := fun {F} => moC_len
  repeat' (first
  | refine GT.draws (id := 7) [[], [], [], [1, 2], [0, 1, 2, 3], [0, 1, 2, 3, 4], [0, 1, 2, 3, 4, 5], [0, 1, 2, 3, 4, 5], [0, 1, 2, 3, 4, 5, 6], [0, 1, 2, 3, 4, 5, 6, 7, 8]] [1, 3, 4] (by kernel_rfl) ?_
  | refine GT.draws (id := 8) [[], [], [], [1, 2], [0, 1, 2, 3], [0, 1, 2, 3, 4], [0, 1, 2, 3, 4, 5], [0, 1, 2, 3, 4, 5], [0, 1, 2, 3, 4, 5, 6], [0, 1, 2, 3, 4, 5, 6, 7, 8]] [1, 3, 4] (by kernel_rfl) ?_
  | refine GL.sf rfl rfl rfl rfl ?_
  | refine GL.sv rfl rfl rfl rfl ?_
  | refine GL.done ?_
  | refine GP.thenN ?_
  | refine GT.seq ?_
  | refine GT.region ?_
  | refine GL.unguardG rfl rfl rfl ?_
  | refine GD.li rfl rfl (by exact onAt.none rfl) rfl (by repeat first | exact AllG.nil rfl | refine AllG.cons rfl (by exact GO.sf rfl rfl) ?_) ?_
  | refine GD.he rfl rfl rfl (by exact onAt.none rfl) rfl (by first | exact GO.sf rfl rfl | exact GO.sv rfl rfl | exact GO.push (GO.call rfl rfl Tryd.func24 rfl rfl rfl (w_steps24 r hr F1 hv1 (by decide) (rd_self rfl))) | exact GO.pushOT (ltc rfl (ltE (ltc rfl (ltc rfl (ltc rfl (ltE (ltc rfl (ltc rfl (ltc rfl (ltc rfl (ltc rfl (hXB _ (by decide))))))))))))) (GO.call rfl rfl Tryd.func25 rfl rfl rfl (w_blocked25 r hr F1 hv1 (by decide) (rd_self rfl)))) ?_ ?_
  | refine GD.done rfl rfl rfl ?_
  | exact AllJs.nil rfl
  | refine AllJs.cons rfl ?_ ?_
  | exact again.go rfl rfl rfl (by exact GO.sf rfl rfl)
  | refine GL.v rfl rfl rfl (by first | exact GO.push (GO.call rfl rfl Tryd.func23 rfl rfl rfl (hq (fun j hj => by simp only [alook_aset, alook_aerase, alook]; (repeat rw [if_neg (by omega)])))) | exact GO.push (GO.call rfl rfl Tryd.func23 rfl rfl rfl (hqe (fun j hj => by simp only [alook_aset, alook_aerase, alook]; (repeat rw [if_neg (by omega)])))) | exact GO.push (GO.call rfl rfl Tryd.func24 rfl rfl rfl (w_steps24 r hr F2 hv2 (by decide) (rd_self rfl)))) ?_
  | refine GT.skip ?_
  | refine GT.block ?_
  | refine GT.condF rfl ?_)
  have hNC : Lt 65 (niC ed e0 3 4 d.length cd m0.length c0 vw s t) := .cons (.slV rfl) (.cons (.slV rfl) (.flat (j := 64) rfl))
  have lowF : ∀ j, j < 30 → alook (X ++ FamL r F1) j = alook X j := fun j hj => by
    rw [alook_app]
    cases e : alook X j with
    | some z => rfl
    | none =>
      cases e2 : alook (FamL r F1) j with
      | none => rfl
      | some z => have := famO_rng e2; omega
  have hg1 : ∀ g, g < 3 → (alook (M1L X (niC ed e0 3 4 d.length cd m0.length c0 vw s t) r F1 F2) g).isSome = true := fun g hg => by
    simp only [M1L, alook]
    rw [if_neg (by omega), if_neg (by omega), if_neg (by omega), if_neg (by omega), if_neg (by omega), lowF g (by omega)]
    match g, hg with
    | 0, _ => rw [x0]; rfl
    | 1, _ => rw [x1]; rfl
    | 2, _ => rw [x2]; rfl
  refine GT.loop (I1L X (niC ed e0 3 4 d.length cd m0.length c0 vw s t) r F1 F2 ea l.length cl) 24
    ⟨0, by omega, by omega, Nat.le_of_ble_eq_true rfl, asub_cons rfl (asub_cons rfl (asub_cons rfl (asub_cons rfl (asub_cons rfl (asub_cons rfl (asub_cons rfl (asub_cons rfl (asub_cons rfl (asub_cons rfl (asub_nil)))))))))), subm_cons rfl (subm_cons rfl (subm_cons rfl (subm_cons rfl (subm_cons rfl (subm_or (fun j y h => by have hj := hXlt h; simp only [alook_aset, alook_aerase, alook]; (repeat rw [if_neg (by omega)]); exact app_old (by simp only [alook_aset, alook_aerase, alook]; (repeat rw [if_neg (by omega)]); exact h)) (fun j y h => by have hj := famO_rng h; simp only [alook]; rw [if_neg (by omega), app_bel (k := 39) (ltc rfl (ltE (ltc rfl (ltc rfl (ltc rfl (ltE (ltc rfl (ltc rfl (ltc rfl (ltc rfl (ltc rfl (hXB _ (by decide))))))))))))) hj.1]; exact h))))))⟩ ?_
  rintro q a L nx ⟨i, hi, rfl, hnx, hsa, hsub⟩
  refine GT.resetL 65 hsa hsub hnx rfl rfl (m1_und hX hNC) (.cons (.slV rfl) (.cons (.ptr rfl) (.cons (.ptr rfl) (.cons (.sl rfl) (.cons (.sl rfl) (.cons (.sl rfl) (.cons (.sl rfl) (.cons (.sl rfl) (.cons (.flat (j := 8) rfl) (.cons (.flat (j := 8) rfl) .nil)))))))))) hg1 ?_
  clear hsa hsub hnx
  rcases Nat.lt_or_ge i 24 with hlt | hge
  · rcases stS_range (r := r) (μ := F1) (i + 1) with hs1 | hs1 | hs1
    · exact law_round1a r F1 F2 hX hle i hlt (.inl hs1)
    · by_cases hve : (F1 i).v < r.e
      · cases hcb : (F1 i).c with
        | true => exact law_round1b r F1 F2 hX hle i hlt ⟨hs1, hve⟩ hcb
        | false => exact law_round1c r F1 F2 hX hle i hlt ⟨hs1, hve⟩ hcb
      · exact law_round1a r F1 F2 hX hle i hlt (.inr (.inl ⟨hs1, hve⟩))
    · exact law_round1a r F1 F2 hX hle i hlt (.inr (.inr hs1))
  obtain rfl : i = 24 := by omega
  have hB65 : Bel 65 (M1L X (niC ed e0 3 4 d.length cd m0.length c0 vw s t) r F1 F2) := ltU (m1_und hX hNC)
  have low1 : ∀ j, j < 30 → alook (M1L X (niC ed e0 3 4 d.length cd m0.length c0 vw s t) r F1 F2) j = alook X j := fun j hj => by
    simp only [M1L, alook]
    rw [if_neg (by omega), if_neg (by omega), if_neg (by omega), if_neg (by omega), if_neg (by omega)]; exact lowF j hj
  have hm1 : n1 m0 ≤ 1 := by cases m0 <;> simp [n1]
  repeat' (first
  | refine GL.sf rfl rfl rfl rfl ?_
  | refine GL.sv rfl rfl rfl rfl ?_
  | refine GL.done ?_
  | refine GP.thenN ?_
  | refine GT.seq ?_
  | refine GT.region ?_
  | refine GL.v rfl rfl rfl (by exact GO.padT hB65 (GO.call rfl rfl Tryd.func27 rfl rfl rfl (w_moves27 m0 hm4 (hN low1).m0.sl))) ?_
  | refine GT.block ?_
  | refine GT.exit ?_
  | refine GP.thenE ?_
  | refine GP.hit ?_
  | refine GP.invE ?_
  | refine GT.condF rfl ?_)
  have lowM : ∀ j, j < 30 → alook (X ++ FamM m0) j = alook X j := low_fam (by decide) (fun j _ => rfl)
  have low2 : ∀ j, j < 30 → alook (M2L X (niC ed e0 3 4 d.length cd m0.length c0 vw s t) r F1 m0) j = alook X j := fun j hj => by
    simp only [M2L, alook]
    rw [if_neg (by omega), if_neg (by omega), if_neg (by omega)]; exact lowM j hj
  have hNC2 : Lt 66 (niC ed e0 3 4 d.length cd m0.length c0 vw s t) := .cons (.slV rfl) (.cons (.slV rfl) (.flat (j := 64) rfl))
  have hU2 : Und 66 (M2L X (niC ed e0 3 4 d.length cd m0.length c0 vw s t) r F1 m0) := und_cons rfl (Lt.flat intC_flat.choose_spec) (und_cons rfl hNC2 (und_cons rfl (.flat (j := 16) rfl) (fun j y h => by
    have hj := xm_rng hX h
    rcases hj with hj | rfl
    · exact hX 66 (by decide) j y ((lowM j hj).symm.trans h)
    · rw [alook_app, hXB 65 (by decide) 65 (Nat.le_refl _)] at h
      have h : alook (FamM m0) 65 = some y := h
      rw [famB_look] at h
      split at h
      · cases h; exact ⟨by decide, Lt.flat (mvC_flat _).choose_spec⟩
      · cases h)))
  have hg2 : ∀ g, g < 3 → (alook (M2L X (niC ed e0 3 4 d.length cd m0.length c0 vw s t) r F1 m0) g).isSome = true := fun g hg => by
    rw [low2 g (by omega)]
    match g, hg with
    | 0, _ => rw [x0]; rfl
    | 1, _ => rw [x1]; rfl
    | 2, _ => rw [x2]; rfl
  refine GT.loop (I2L X (niC ed e0 3 4 d.length cd m0.length c0 vw s t) r F1 ea cl l d m0) m0.length
    ⟨0, Nat.zero_le _, rfl, Nat.le_of_ble_eq_true rfl, asub_cons rfl (asub_cons rfl (asub_cons rfl (asub_cons rfl (asub_cons rfl (asub_cons rfl (asub_cons rfl (asub_nil))))))), subm_cons rfl (subm_cons rfl (subm_cons rfl (subm_or (fun j y h => by have hj := hXlt h; exact app_old ((low1 j hj).trans h)) (fun j y h => by
      have h0 := h
      rw [famB_look] at h0
      have hj : 65 ≤ j := by
        split at h0
        · omega
        · cases h0
      rw [app_bel hB65 hj]; exact h)))), .inl ⟨rfl, rfl⟩⟩ ?_
  rintro q a L nx ⟨i, hi, rfl, hnx, hsa, hsub, hcase⟩
  have hE2 : EnvLt 66 (E2L ea l.length cl m0 i) := .cons (.slV rfl) (.cons (.ptr rfl) (.cons (.ptr rfl) (.cons (.sl rfl) (.cons (.slV rfl) (.cons (.flat (j := 8) rfl) (.cons (.flat (j := 8) rfl) .nil))))))
  rcases Nat.lt_or_ge i m0.length with hlt | hge
  · obtain ⟨y, hy⟩ : ∃ y, m0[i]? = some y := ⟨_, List.getElem?_eq_getElem hlt⟩
    have hne : ne m0 = true := ne_cons (fun e => by rw [e] at hlt; simp at hlt)
    obtain ⟨rfl, x4⟩ := hz0 hne
    have hNi : ∀ {L : LM} {nx : Nat}, (∀ j, j < 30 → alook L j = alook X j) → NiAt (AW.of L nx 30 3) ea ed true true 6 3 4 4 (fun j => 7 + j) κ l d m0 m0 := fun low => (hN low).ni hA (hN low).m0
    rcases hcase with ⟨hs0, h21⟩ | ⟨o, h21, hpos, ho, hob⟩
    · refine GT.resetL (a1 := (21, .slice none 0 0) :: E2L ea l.length cl m0 i) 66 (asub_cons h21 hsa) hsub hnx rfl rfl hU2 (.cons (.flat (j := 8) rfl) hE2) hg2 ?_
      cases hh : anyHit agB d [y] l with
      | false => exact law_round2n0 r F1 l d m0 hX hO hl hd3 hm4 hp hNi x0 x1 x2 x4 i y hy hh hs0
      | true => exact law_round2n1 r F1 l d m0 hX hO hl hd3 hm4 hp hNi x0 x1 x2 x4 i y hy hh hs0
    · refine GT.ren 66 o (a2 := E2L ea l.length cl m0 i) (a1 := (21, .slice (some ⟨66, 0, none⟩) (sel l d (m0.take i)).length (sel l d (m0.take i)).length) :: E2L ea l.length cl m0 i) (L' := (66, .cells (mvC (sel l d (m0.take i))) 112) :: M2L X (niC ed true 3 4 d.length cd m0.length c0 vw s t) r F1 m0) hsa hE2 hob (mvC_flat _) rfl (Nat.ble_eq_true_of_le ho) rfl rfl (fun j y hne hy => by
        rw [alook, if_neg (fun e => hne e.symm)] at hy
        obtain ⟨g1, g2⟩ := hU2 j y hy
        exact ⟨g1, .inl ⟨hsub j y hy, g2⟩⟩) (fun g hg => by
        rw [alook, if_neg (by omega)]; exact hg2 g hg) (.inr ⟨21, _, _, rfl, h21⟩) ?_
      cases hh : anyHit agB d [y] l with
      | false => exact law_round2s0 r F1 l d m0 hX hO hl hd3 hm4 hp hNi x0 x1 x2 x4 i y hy hh hpos
      | true => exact law_round2s1 r F1 l d m0 hX hO hl hd3 hm4 hp hNi x0 x1 x2 x4 i y hy hh hpos
  obtain rfl : i = m0.length := by omega
  rw [List.take_length] at hcase
  have hsame := fun {A : AW} {p q c c' : Nat} hp hq => w_same31 (A := A) (p := p) (q := q) (n := 24) (c := c) (c' := c') (stN r F1) (by decide) hp hq
  rcases hcase with ⟨hs0, h21⟩ | ⟨o, h21, hpos, ho, hob⟩
  · refine GT.resetL (a1 := (21, .slice none 0 0) :: E2L ea l.length cl m0 m0.length) 66 (asub_cons h21 hsa) hsub hnx rfl rfl hU2 (.cons (.flat (j := 8) rfl) hE2) hg2 ?_
    have hF12 : F2 = F1 := by rw [hF1, hF2, ← night_sel (m := m0), hs0]
    rw [hF12] at hqe
    repeat' (first
    | refine GL.sf rfl rfl rfl rfl ?_
    | refine GL.done ?_
    | refine GP.thenN ?_
    | refine GT.seq ?_
    | refine GT.region ?_
    | refine GL.unguardG rfl rfl rfl ?_
    | refine GL.v rfl rfl rfl (by first | exact GO.push (GO.call rfl rfl Tryd.func23 rfl rfl rfl (hqe low2)) | exact GO.push (GO.call rfl rfl Tryd.func24 rfl rfl rfl (w_steps24 r hr F1 hv1 (by decide) (rd_self rfl))) | exact GO.call rfl rfl Tryd.func31 rfl rfl rfl (hsame (rd_self rfl) (rd_self rfl))) ?_
    | refine GT.skip ?_
    | refine GT.ret ?_
    | refine GT.exit ?_
    | refine GP.thenE ?_
    | refine GP.hit ?_
    | refine GP.invE ?_
    | refine GT.condF rfl ?_
    | (refine GT.condD rfl (fun h => ?_) (fun h => ?_) <;> try (exfalso; omega))
    | refine GP.endR1 rfl ?_)
    rfl
  · refine GT.ren 66 o (a2 := E2L ea l.length cl m0 m0.length) (a1 := (21, .slice (some ⟨66, 0, none⟩) (sel l d m0).length (sel l d m0).length) :: E2L ea l.length cl m0 m0.length) (L' := (66, .cells (mvC (sel l d m0)) 112) :: M2L X (niC ed e0 3 4 d.length cd m0.length c0 vw s t) r F1 m0) hsa hE2 hob (mvC_flat _) rfl (Nat.ble_eq_true_of_le ho) rfl rfl (fun j y hne hy => by
        rw [alook, if_neg (fun e => hne e.symm)] at hy
        obtain ⟨g1, g2⟩ := hU2 j y hy
        exact ⟨g1, .inl ⟨hsub j y hy, g2⟩⟩) (fun g hg => by
        rw [alook, if_neg (by omega)]; exact hg2 g hg) (.inr ⟨21, _, _, rfl, h21⟩) ?_
    have hOs := sel_ok hO
    have hsl : (sel l d m0).length ≤ 4 := Nat.le_trans (List.length_filter_le _ _) hm4
    have hqs : ∀ {nx : Nat}, AC Tryd.prog 23 [.slice (slA ea 6) l.length cl, .agg (niC ed e0 3 4 d.length cd m0.length c0 vw s t).toArray, .slice (some ⟨66, 0, none⟩) (sel l d m0).length (sel l d m0).length] (AW.of ((66, .cells (mvC (sel l d m0)) 112) :: M2L X (niC ed e0 3 4 d.length cd m0.length c0 vw s t) r F1 m0) nx 30 3) (isR (.tuple #[.slice (some ⟨nx, 0, none⟩) 24 24, .bool true]) ((AW.of ((66, .cells (mvC (sel l d m0)) 112) :: M2L X (niC ed e0 3 4 d.length cd m0.length c0 vw s t) r F1 m0) nx 30 3).push (.cells (moC F1 24) 91))) := by
      intro nx
      have low3 : ∀ j, j < 30 → alook ((66, .cells (mvC (sel l d m0)) 112) :: M2L X (niC ed e0 3 4 d.length cd m0.length c0 vw s t) r F1 m0) j = alook X j := fun j hj => by rw [alook, if_neg (by omega)]; exact low2 j hj
      have hFs : niF l d (sel l d m0) vw s t = F1 := by rw [hF1]; exact night_sel
      have hnes : ne (sel l d m0) = true := ne_cons (fun e => by rw [e] at hpos; simp at hpos)
      have kq := w_night23 (cm := (sel l d m0).length) (cl := cl) (cd := cd) (c0 := c0) (em := true) (r := 66) l d m0 (sel l d m0) vw s t hvw hOs hl hd3 hsl hp ((hN (nx := nx) (ro := 30) low3).ni hA ⟨fun z => absurd (hnes.symm.trans z) (by decide), fun _ => ⟨rfl, rd_self rfl⟩⟩)
      rw [hFs] at kq
      exact kq
    repeat' (first
    | refine GL.sf rfl rfl rfl rfl ?_
    | refine GL.done ?_
    | refine GP.thenN ?_
    | refine GT.seq ?_
    | refine GT.region ?_
    | refine GL.unguardG rfl rfl rfl ?_
    | refine GL.v rfl rfl rfl (by first | exact GO.push (GO.call rfl rfl Tryd.func23 rfl rfl rfl (hqs)) | exact GO.push (GO.call rfl rfl Tryd.func24 rfl rfl rfl (w_steps24 r hr F1 hv1 (by decide) (rd_self rfl))) | exact GO.call rfl rfl Tryd.func31 rfl rfl rfl (hsame (rd_self rfl) (rd_self rfl))) ?_
    | refine GT.skip ?_
    | refine GT.ret ?_
    | refine GT.exit ?_
    | refine GP.thenE ?_
    | refine GP.hit ?_
    | refine GP.invE ?_
    | refine GT.condF rfl ?_
    | (refine GT.condD rfl (fun h => ?_) (fun h => ?_) <;> try (exfalso; omega))
    | refine GP.endR1 rfl ?_)
    rfl
end Go.M
namespace Go.M
open Go.Proofs Go.RowKit
set_option maxRecDepth 16000
set_option maxHeartbeats 16000000
theorem rd_nought {A : AW} {p f n : Nat} {c : List Value} (h : A.rd p f n = some c) : A.rd p 0 0 = some [] := by
  unfold AW.rd at h ⊢
  split at h
  · rename_i c0 e0 hob
    simp
  · cases h
theorem w_law4long {A : AW} {ea ed e0 : Bool} {p q r0 cl cd c0 : Nat} {φ : Nat → Bool} {ν κ : Nat → Nat} (l : List Ar) (r : Rl) (d : List Ld) (m0 : List Mv) (vw : Nat → Int) (s t : Int) (hl : 4 < l.length)
    (hnj : NjAt A ea ed e0 p q r0 φ ν κ l d m0) : AC Tryd.prog 4 [.slice (slA ea p) l.length cl, .agg r.vs.toArray, .agg (niC ed e0 q r0 d.length cd m0.length c0 vw s t).toArray] A (isR (.bool true) A) := by
  have hz : ne l = true := ne_cons (fun e => by rw [e] at hl; simp at hl)
  obtain ⟨rfl, hr⟩ := hnj.ar.yes hz
  obtain ⟨ρ1, s1, -, k1⟩ := opt_step (e := 159) hnj.gw.smallD (ldC_flat d) hnj.ld
  obtain ⟨ρ2, s2, g2, k2⟩ := opt_step (e := 112) s1 (mvC_flat m0) hnj.m0
  have s3 := (s2.skip (K := 6) (by decide)).cons (b := p) (f := 0) (o := .cells [] 151) ⟨[], rd_nought hr, .nil⟩
  have old : ∀ {j : Nat} {x : Nat × Nat}, ρ2 j = some x → onto 6 p 0 ρ2 j = some x := fun h => onto_old (fun j x hx => Nat.lt_of_lt_of_le (s2.hk j x hx) (by decide)) h
  refine AC.mono (AC.pureD (R := fun u => u = .bool true) (s3.skip (K := 30) (by decide)) (args := [.slice (some ⟨6, 0, none⟩) l.length cl, .agg r.vs.toArray, .agg (niC ed e0 3 4 d.length cd m0.length c0 vw s t).toArray]) (AC.mono (R := fun u _ => u = .bool true) ?_ (fun u _ e => ⟨e, by subst e; exact ⟨8, rfl⟩⟩))
    (.sl (f := 0) (g := 0) (if_pos rfl) rfl (.flat (k := 32) rfl (.agg (.slW (fun e => old (g2 _ _ (k1 e))) (.slW (fun e => old (k2 e)) (.ofFlat (k := 64) rfl))) .nil)))) (fun u A1 h => h)
  have hX : ∀ j, j < 3 → alook ((6, AObj.cells [] 151) :: NjX d m0) j = alook WG j := fun j hj => by
    rw [alook, if_neg (by omega), opt_look, opt_look, if_neg (by omega), if_neg (by omega)]
  have e : (6, AObj.cells [] 151) :: (opt (ne m0) [(4, .cells (mvC m0) 112)] ++ (opt (ne d) [(3, .cells (ldC d) 159)] ++ WG)) = (6, AObj.cells [] 151) :: NjX d m0 := rfl
  rw [e]
  clear s1 s2 s3 g2 k1 k2 old hnj e
  generalize ((6, AObj.cells [] 151) :: NjX d m0) = X at *
  have x0 : alook X 0 = some (.cells [] 0) := (hX 0 (by decide)).trans rfl
  have x1 : alook X 1 = some (.cells [] 0) := (hX 1 (by decide)).trans rfl
  have x2 : alook X 2 = some (.cells sidesC 274) := (hX 2 (by decide)).trans rfl
  have hGW : ∀ {nx : Nat}, GW (AW.of ((31, .cells (niC ed e0 3 4 d.length cd m0.length c0 vw s t) 72) :: (30, .cells r.vs 65) :: X) nx 30 3) := by
    intro nx
    have low : ∀ j, j < 3 → alook ((31, AObj.cells (niC ed e0 3 4 d.length cd m0.length c0 vw s t) 72) :: (30, .cells r.vs 65) :: X) j = alook X j := fun j hj => by
      simp only [alook]; rw [if_neg (by omega), if_neg (by omega)]
    exact ⟨rfl, rd_zero2 ((low 0 (by decide)).trans x0), rd_zero2 ((low 1 (by decide)).trans x1), rd_self ((low 2 (by decide)).trans x2)⟩
  refine AC.go Tryd.func4 rfl rfl ?_
  repeat' (first
  | refine GL.sf rfl rfl rfl rfl ?_
  | refine GL.sv rfl rfl rfl rfl ?_
  | refine GL.done ?_
  | refine GP.thenN ?_
  | refine GT.seq ?_
  | refine GT.region ?_
  | refine GL.skipG rfl rfl rfl rfl rfl ?_
  | refine GL.v rfl rfl rfl (by exact GO.call rfl rfl Tryd.func22 rfl rfl rfl (w_held22 hGW)) ?_
  | refine GT.ret ?_
  | refine GP.thenR ?_
  | refine GT.condT rfl ?_
  | (refine GL.forkDG rfl rfl rfl (fun h => ?_) (fun h => ?_) <;> try (exfalso; omega))
  | refine GP.endR1 rfl ?_)
  all_goals rfl
end Go.M
