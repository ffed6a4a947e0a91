/- Functions of the given program, walked (no condition beyond what each theorem says). -/
import Derived.Test.YtfhodefiknfccaaDoorK4
set_option linter.unusedVariables false
set_option linter.unusedSimpArgs false
namespace Go.M
open Go.Proofs Go.RowKit
set_option maxRecDepth 16000
set_option maxHeartbeats 64000000
abbrev FamM (m0 : List Mv) : LM := famB (fun _ => .cells (mvC m0) 103) 65 (n1 m0) ++ []
abbrev M2L (X : LM) (NC : List Value) (r : Rl) (F1 : Nat → Mo) (m0 : List Mv) : LM := (36, .cells (intC (stN r F1) 24) 3) :: (31, .cells NC 72) :: (30, .cells r.vs 65) :: (X ++ FamM m0)
abbrev E2L (ea : Bool) (n cl : Nat) (m0 : List Mv) (i : Nat) : AEnv := [(0, .slice (slA ea 6) n cl), (4, .pointer (some ⟨30, 0, none⟩)), (5, .pointer (some ⟨31, 0, none⟩)), (11, .slice (some ⟨36, 0, none⟩) 24 24), (254, .slice (slA (ne m0) 65) m0.length m0.length), (255, .int .i64 m0.length), (256, .int .i64 i)]
abbrev I2L (X : LM) (NC : List Value) (r : Rl) (F1 : Nat → Mo) (ea : Bool) (cl : Nat) (l : List Ar) (d : List Ld) (m0 : List Mv) : Nat → AEnv → LM → Nat → Prop := fun q a L nx => ∃ i : Nat, i ≤ m0.length ∧ q = m0.length - i ∧ 66 ≤ nx ∧ asub (E2L ea l.length cl m0 i) a ∧ subm (M2L X NC r F1 m0) L ∧
  ((sel l d (m0.take i) = [] ∧ aget a 21 = some (.slice none 0 0)) ∨ ∃ o, aget a 21 = some (.slice (some ⟨o, 0, none⟩) (sel l d (m0.take i)).length (sel l d (m0.take i)).length) ∧ 0 < (sel l d (m0.take i)).length ∧ 66 ≤ o ∧ alook L o = some (.cells (mvC (sel l d (m0.take i))) 112))
theorem xm_rng {X : LM} {m0 : List Mv} (hX : ∀ k, 30 ≤ k → Und k X) {j : Nat} {y : AObj} (h : alook (X ++ FamM m0) j = some y) : j < 30 ∨ j = 65 := by
  rw [alook_app] at h
  cases e : alook X j with
  | some z => exact .inl (hX 30 (Nat.le_refl _) j z e).1
  | none =>
    rw [e] at h
    have h : alook (FamM m0) j = some y := by simpa using h
    rw [famB_look] at h
    have : n1 m0 ≤ 1 := by cases m0 <;> simp [n1]
    split at h
    · omega
    · cases h
theorem sel_take {l : List Ar} {d : List Ld} {m0 : List Mv} {i : Nat} {y : Mv} (hy : m0[i]? = some y) : sel l d (m0.take (i + 1)) = sel l d (m0.take i) ++ cond (anyHit agB d [y] l) [y] [] := by
  rw [List.take_add_one, hy]
  exact sel_app
theorem law_round2n0 {X : LM} {Q : AQ} {ea ed : Bool} {cl cd c0 : Nat} {κ : Nat → Nat} {vw : Nat → Int} {s t : Int} (r : Rl) (F1 : Nat → Mo) (l : List Ar) (d : List Ld) (m0 : List Mv) (hX : ∀ k, 30 ≤ k → Und k X) (hO : ScOk l d m0) (hl : l.length ≤ 4) (hd3 : d.length ≤ 3) (hm4 : m0.length ≤ 4) (hp : PsOk l)
    (hN : ∀ {L : LM} {nx : Nat}, (∀ j, j < 30 → alook L j = alook X j) → NiAt (AW.of L nx 30 3) ea ed true true 6 3 4 4 (fun j => 7 + j) κ l d m0 m0) (x0 : alook X 0 = some (.cells [] 0)) (x1 : alook X 1 = some (.cells [] 0)) (x2 : alook X 2 = some (.cells sidesC 274)) (x4 : alook X 4 = some (.cells (mvC m0) 112))
    (i : Nat) (y : Mv) (hy : m0[i]? = some y) (hh : anyHit agB d [y] l = false) (hs : sel l d (m0.take i) = []) :
    GT Tryd.prog Tryd.f4.ntmps 30 ((lps (Tryd.f4.body.getD .skip)).getD 1 .skip) ((21, .slice none 0 0) :: E2L ea l.length cl m0 i) (M2L X (niC ed true 3 4 d.length cd m0.length c0 vw s t) r F1 m0) 66 30 3 (GInv 30 3 (I2L X (niC ed true 3 4 d.length cd m0.length c0 vw s t) r F1 ea cl l d m0) (m0.length - i) Q) := by
  have hlt : i < m0.length := (List.getElem?_eq_some_iff.1 hy).1
  have hsel := sel_take (l := l) (d := d) hy
  rw [hh] at hsel
  have hT := fun {j : Nat} {y : AObj} => xm_rng (m0 := m0) hX (j := j) (y := y)
  have hXB : ∀ k, 30 ≤ k → Bel k X := fun k hk => ltU (hX k hk)
  have hm1 : n1 m0 ≤ 1 := by cases m0 <;> simp [n1]
  have hf65 : 65 + n1 m0 ≤ 66 := by omega
  have hn5 : nF l ≤ 5 := by cases l <;> simp only [nF, List.length_cons] at hl ⊢ <;> omega
  have hn1 : n1 d ≤ 1 := by cases d <;> simp [n1]
  have hne : ne m0 = true := ne_cons (fun e => by rw [e] at hlt; simp at hlt)
  have lowX : ∀ j, j < 30 → alook (X ++ FamM m0) j = alook X j := low_fam (by decide) (fun j _ => rfl)
  have h65 : alook (X ++ FamM m0) 65 = some (.cells (mvC m0) 103) := app_fam (i := 0) (hXB 65 (by decide)) (by cases m0 with | nil => simp at hlt | cons y m => exact Nat.succ_pos 0)
  have h4 : alook (X ++ FamM m0) 4 = some (.cells (mvC m0) 112) := app_old x4
  have gy : ((mvC m0).drop (0 + (i : Int).toNat * 8)).take 8 = y.vs := by simpa using mvC_at m0 i y hy
  have hml := mvC_len m0
  have hOy := one_ok hO hy
  have k28 := fun {B : LM} {nx N : Nat} (hB : Bel N B) (low : ∀ j, j < 30 → alook B j = alook X j) => w_permitted28C (B := B) (nx := nx) (ro := 30) (N := N) l d y hOy hl hB ((low 0 (by decide)).trans x0) ((low 1 (by decide)).trans x1) ((low 2 (by decide)).trans x2)
  rw [hh] at k28
  unfold E2L
  rw [show slA (ne m0) 65 = some ⟨65, 0, none⟩ by rw [hne]; rfl]
  repeat' (first
  | refine GT.draws (id := 26) [[], [0], [], [2], [0, 1, 2, 3], [], [0, 1, 2, 3, 4, 5], [0, 1, 2, 3, 4, 5, 6], [0, 1, 2, 3, 4, 5, 6, 7], [0, 1, 2, 3, 4, 5, 6, 7], [0, 1, 2, 3, 4, 5, 6, 7, 8], [0, 1, 2, 3, 4, 5, 6, 7, 8, 9, 10]] [1, 4] (by kernel_rfl) ?_
  | refine GL.sf rfl rfl rfl rfl ?_
  | refine GL.sn rfl rfl rfl ?_
  | refine GL.done ?_
  | refine GP.thenN ?_
  | refine GT.seq ?_
  | refine GT.region ?_
  | refine GD.li rfl rfl (by exact onAt.none rfl) rfl (by repeat first | exact AllG.nil rfl | refine AllG.cons rfl (by first | exact GO.sf rfl rfl | exact GO.sv rfl rfl | exact GO.call rfl rfl Tryd.func28 rfl rfl rfl (k28 (ltS rfl (ltc rfl (ltc rfl (ltc rfl (ltc rfl (ltA (hXB _ (Nat.le_of_ble_eq_true rfl)) (ltF (Nat.le_trans hf65 (Nat.le_of_ble_eq_true rfl)) ltN))))))) (fun j hj => by simp only [M2L, alook_aset, alook_aerase, alook]; (repeat rw [if_neg (by omega)]); exact lowX j hj))) ?_) ?_
  | refine GD.he rfl rfl rfl (by exact onAt.none rfl) rfl (by first | exact GO.padT (ltS rfl (ltc rfl (ltc rfl (ltc rfl (ltc rfl (ltA (hXB _ (Nat.le_of_ble_eq_true rfl)) (ltF (Nat.le_trans hf65 (Nat.le_of_ble_eq_true rfl)) ltN))))))) (GO.call rfl rfl Tryd.func29 rfl rfl rfl (w_areas29 l hl hp (hN (fun j hj => by simp only [M2L, alook_aset, alook_aerase, alook]; (repeat rw [if_neg (by omega)]); exact lowX j hj)).ar29)) | exact GO.padT (ltA (ltS rfl (ltc rfl (ltc rfl (ltc rfl (ltc rfl (ltA (hXB _ (Nat.le_of_ble_eq_true rfl)) (ltF (Nat.le_trans hf65 (Nat.le_of_ble_eq_true rfl)) ltN))))))) (ltF (Nat.add_le_add_left hn5 _) ltN)) (GO.call rfl rfl Tryd.func30 rfl rfl rfl (w_landings30 d hd3 (hN (low_fam (by decide) (fun j hj => by simp only [M2L, alook_aset, alook_aerase, alook]; (repeat rw [if_neg (by omega)]); exact lowX j hj))).ld.sl))) ?_ ?_
  | refine GD.done rfl rfl rfl ?_
  | exact AllJs.nil rfl
  | refine GL.v rfl rfl rfl (by first | exact GO.indexS (s := 8) rfl rfl rfl rfl rfl (by omega) | exact GO.loadG (s := 8) rfl rfl rfl rfl rfl (by simp only [M2L, alook_aset, alook_aerase, alook]; (repeat rw [if_neg (by omega)]); exact h65) (by omega) gy | exact GO.add rfl rfl rfl (by omega)) ?_
  | refine GT.skip ?_
  | refine GT.block ?_
  | refine GP.inN ?_
  | refine GT.condF rfl ?_
  | (refine GT.condD rfl (fun h => ?_) (fun h => ?_) <;> try (exfalso; omega)))
  exact GP.invN (m0.length - (i + 1)) (by omega) ⟨i + 1, by omega, rfl, Nat.le_of_ble_eq_true rfl, asub_cons rfl (asub_cons rfl (asub_cons rfl (asub_cons rfl (asub_cons (by rw [hne]; rfl) (asub_cons rfl (asub_cons rfl asub_nil)))))), subm_cons rfl (subm_cons rfl (subm_cons rfl (fun j y h => by have hj := hT h; simp only [M2L, alook_aset, alook_aerase, alook]; (repeat rw [if_neg (by omega)]); exact app_old (app_old (by simp only [M2L, alook_aset, alook_aerase, alook]; (repeat rw [if_neg (by omega)]); exact h))))), .inl ⟨by rw [hsel, hs]; rfl, rfl⟩⟩
theorem law_round2n1 {X : LM} {Q : AQ} {ea ed : Bool} {cl cd c0 : Nat} {κ : Nat → Nat} {vw : Nat → Int} {s t : Int} (r : Rl) (F1 : Nat → Mo) (l : List Ar) (d : List Ld) (m0 : List Mv) (hX : ∀ k, 30 ≤ k → Und k X) (hO : ScOk l d m0) (hl : l.length ≤ 4) (hd3 : d.length ≤ 3) (hm4 : m0.length ≤ 4) (hp : PsOk l)
    (hN : ∀ {L : LM} {nx : Nat}, (∀ j, j < 30 → alook L j = alook X j) → NiAt (AW.of L nx 30 3) ea ed true true 6 3 4 4 (fun j => 7 + j) κ l d m0 m0) (x0 : alook X 0 = some (.cells [] 0)) (x1 : alook X 1 = some (.cells [] 0)) (x2 : alook X 2 = some (.cells sidesC 274)) (x4 : alook X 4 = some (.cells (mvC m0) 112))
    (i : Nat) (y : Mv) (hy : m0[i]? = some y) (hh : anyHit agB d [y] l = true) (hs : sel l d (m0.take i) = []) :
    GT Tryd.prog Tryd.f4.ntmps 30 ((lps (Tryd.f4.body.getD .skip)).getD 1 .skip) ((21, .slice none 0 0) :: E2L ea l.length cl m0 i) (M2L X (niC ed true 3 4 d.length cd m0.length c0 vw s t) r F1 m0) 66 30 3 (GInv 30 3 (I2L X (niC ed true 3 4 d.length cd m0.length c0 vw s t) r F1 ea cl l d m0) (m0.length - i) Q) := by
  have hlt : i < m0.length := (List.getElem?_eq_some_iff.1 hy).1
  have hsel := sel_take (l := l) (d := d) hy
  rw [hh] at hsel
  have hT := fun {j : Nat} {y : AObj} => xm_rng (m0 := m0) hX (j := j) (y := y)
  have hXB : ∀ k, 30 ≤ k → Bel k X := fun k hk => ltU (hX k hk)
  have hm1 : n1 m0 ≤ 1 := by cases m0 <;> simp [n1]
  have hf65 : 65 + n1 m0 ≤ 66 := by omega
  have hn5 : nF l ≤ 5 := by cases l <;> simp only [nF, List.length_cons] at hl ⊢ <;> omega
  have hn1 : n1 d ≤ 1 := by cases d <;> simp [n1]
  have hne : ne m0 = true := ne_cons (fun e => by rw [e] at hlt; simp at hlt)
  have lowX : ∀ j, j < 30 → alook (X ++ FamM m0) j = alook X j := low_fam (by decide) (fun j _ => rfl)
  have h65 : alook (X ++ FamM m0) 65 = some (.cells (mvC m0) 103) := app_fam (i := 0) (hXB 65 (by decide)) (by cases m0 with | nil => simp at hlt | cons y m => exact Nat.succ_pos 0)
  have h4 : alook (X ++ FamM m0) 4 = some (.cells (mvC m0) 112) := app_old x4
  have gy : ((mvC m0).drop (0 + (i : Int).toNat * 8)).take 8 = y.vs := by simpa using mvC_at m0 i y hy
  have hml := mvC_len m0
  have hOy := one_ok hO hy
  have k28 := fun {B : LM} {nx N : Nat} (hB : Bel N B) (low : ∀ j, j < 30 → alook B j = alook X j) => w_permitted28C (B := B) (nx := nx) (ro := 30) (N := N) l d y hOy hl hB ((low 0 (by decide)).trans x0) ((low 1 (by decide)).trans x1) ((low 2 (by decide)).trans x2)
  rw [hh] at k28
  unfold E2L
  rw [show slA (ne m0) 65 = some ⟨65, 0, none⟩ by rw [hne]; rfl]
  repeat' (first
  | refine GT.draws (id := 26) [[], [0], [], [2], [0, 1, 2, 3], [], [0, 1, 2, 3, 4, 5], [0, 1, 2, 3, 4, 5, 6], [0, 1, 2, 3, 4, 5, 6, 7], [0, 1, 2, 3, 4, 5, 6, 7], [0, 1, 2, 3, 4, 5, 6, 7, 8], [0, 1, 2, 3, 4, 5, 6, 7, 8, 9, 10]] [1, 4] (by kernel_rfl) ?_
  | refine GL.sf rfl rfl rfl rfl ?_
  | refine GL.sv rfl rfl rfl rfl ?_
  | refine GL.sn rfl rfl rfl ?_
  | refine GL.done ?_
  | refine GP.thenN ?_
  | refine GT.seq ?_
  | refine GT.region ?_
  | refine GD.li rfl rfl (by exact onAt.none rfl) rfl (by repeat first | exact AllG.nil rfl | refine AllG.cons rfl (by first | exact GO.sf rfl rfl | exact GO.sv rfl rfl | exact GO.call rfl rfl Tryd.func28 rfl rfl rfl (k28 (ltS rfl (ltc rfl (ltc rfl (ltc rfl (ltc rfl (ltA (hXB _ (Nat.le_of_ble_eq_true rfl)) (ltF (Nat.le_trans hf65 (Nat.le_of_ble_eq_true rfl)) ltN))))))) (fun j hj => by simp only [M2L, alook_aset, alook_aerase, alook]; (repeat rw [if_neg (by omega)]); exact lowX j hj))) ?_) ?_
  | refine GD.he rfl rfl rfl (by exact onAt.none rfl) rfl (by first | exact GO.padT (ltS rfl (ltc rfl (ltc rfl (ltc rfl (ltc rfl (ltA (hXB _ (Nat.le_of_ble_eq_true rfl)) (ltF (Nat.le_trans hf65 (Nat.le_of_ble_eq_true rfl)) ltN))))))) (GO.call rfl rfl Tryd.func29 rfl rfl rfl (w_areas29 l hl hp (hN (fun j hj => by simp only [M2L, alook_aset, alook_aerase, alook]; (repeat rw [if_neg (by omega)]); exact lowX j hj)).ar29)) | exact GO.padT (ltA (ltS rfl (ltc rfl (ltc rfl (ltc rfl (ltc rfl (ltA (hXB _ (Nat.le_of_ble_eq_true rfl)) (ltF (Nat.le_trans hf65 (Nat.le_of_ble_eq_true rfl)) ltN))))))) (ltF (Nat.add_le_add_left hn5 _) ltN)) (GO.call rfl rfl Tryd.func30 rfl rfl rfl (w_landings30 d hd3 (hN (low_fam (by decide) (fun j hj => by simp only [M2L, alook_aset, alook_aerase, alook]; (repeat rw [if_neg (by omega)]); exact lowX j hj))).ld.sl))) ?_ ?_
  | refine GD.done rfl rfl rfl ?_
  | exact AllJs.nil rfl
  | refine GL.v rfl rfl rfl (by first | exact GO.indexS (s := 8) rfl rfl rfl rfl rfl (by omega) | exact GO.loadG (s := 8) rfl rfl rfl rfl rfl (by simp only [M2L, alook_aset, alook_aerase, alook]; (repeat rw [if_neg (by omega)]); exact h65) (by omega) gy | exact GO.loadG (s := 8) rfl rfl rfl rfl rfl (by simp only [M2L, alook_aset, alook_aerase, alook]; (repeat rw [if_neg (by omega)]); exact app_old (app_old (by simp only [M2L, alook_aset, alook_aerase, alook]; (repeat rw [if_neg (by omega)]); exact h4))) (by omega) gy | exact GO.add rfl rfl rfl (by omega)) ?_
  | refine GT.skip ?_
  | refine GT.block ?_
  | refine GP.inN ?_
  | refine GT.condT rfl ?_
  | refine GT.condF rfl ?_
  | (refine GT.condD rfl (fun h => ?_) (fun h => ?_) <;> try (exfalso; omega)))
  exact GP.invN (m0.length - (i + 1)) (by omega) ⟨i + 1, by omega, rfl, Nat.le_of_ble_eq_true rfl, asub_cons rfl (asub_cons rfl (asub_cons rfl (asub_cons rfl (asub_cons (by rw [hne]; rfl) (asub_cons rfl (asub_cons rfl asub_nil)))))), subm_cons rfl (subm_cons rfl (subm_cons rfl (fun j y h => by have hj := hT h; simp only [M2L, alook_aset, alook_aerase, alook]; (repeat rw [if_neg (by omega)]); exact app_old (app_old (by simp only [M2L, alook_aset, alook_aerase, alook]; (repeat rw [if_neg (by omega)]); exact h))))), .inr ⟨_, (by rw [hsel, hs]; rfl), (by rw [hsel, hs]; exact Nat.succ_pos 0), (by exact Nat.le_of_ble_eq_true rfl), (by rw [hsel, hs]; rfl)⟩⟩
theorem law_round2s0 {X : LM} {Q : AQ} {ea ed : Bool} {cl cd c0 : Nat} {κ : Nat → Nat} {vw : Nat → Int} {s t : Int} (r : Rl) (F1 : Nat → Mo) (l : List Ar) (d : List Ld) (m0 : List Mv) (hX : ∀ k, 30 ≤ k → Und k X) (hO : ScOk l d m0) (hl : l.length ≤ 4) (hd3 : d.length ≤ 3) (hm4 : m0.length ≤ 4) (hp : PsOk l)
    (hN : ∀ {L : LM} {nx : Nat}, (∀ j, j < 30 → alook L j = alook X j) → NiAt (AW.of L nx 30 3) ea ed true true 6 3 4 4 (fun j => 7 + j) κ l d m0 m0) (x0 : alook X 0 = some (.cells [] 0)) (x1 : alook X 1 = some (.cells [] 0)) (x2 : alook X 2 = some (.cells sidesC 274)) (x4 : alook X 4 = some (.cells (mvC m0) 112))
    (i : Nat) (y : Mv) (hy : m0[i]? = some y) (hh : anyHit agB d [y] l = false) (hs : 0 < (sel l d (m0.take i)).length) :
    GT Tryd.prog Tryd.f4.ntmps 30 ((lps (Tryd.f4.body.getD .skip)).getD 1 .skip) ((21, .slice (some ⟨66, 0, none⟩) (sel l d (m0.take i)).length (sel l d (m0.take i)).length) :: E2L ea l.length cl m0 i) ((66, .cells (mvC (sel l d (m0.take i))) 112) :: M2L X (niC ed true 3 4 d.length cd m0.length c0 vw s t) r F1 m0) 67 30 3 (GInv 30 3 (I2L X (niC ed true 3 4 d.length cd m0.length c0 vw s t) r F1 ea cl l d m0) (m0.length - i) Q) := by
  have hlt : i < m0.length := (List.getElem?_eq_some_iff.1 hy).1
  have hsel := sel_take (l := l) (d := d) hy
  rw [hh] at hsel
  have hT := fun {j : Nat} {y : AObj} => xm_rng (m0 := m0) hX (j := j) (y := y)
  have hXB : ∀ k, 30 ≤ k → Bel k X := fun k hk => ltU (hX k hk)
  have hm1 : n1 m0 ≤ 1 := by cases m0 <;> simp [n1]
  have hf65 : 65 + n1 m0 ≤ 66 := by omega
  have hn5 : nF l ≤ 5 := by cases l <;> simp only [nF, List.length_cons] at hl ⊢ <;> omega
  have hn1 : n1 d ≤ 1 := by cases d <;> simp [n1]
  have hne : ne m0 = true := ne_cons (fun e => by rw [e] at hlt; simp at hlt)
  have lowX : ∀ j, j < 30 → alook (X ++ FamM m0) j = alook X j := low_fam (by decide) (fun j _ => rfl)
  have h65 : alook (X ++ FamM m0) 65 = some (.cells (mvC m0) 103) := app_fam (i := 0) (hXB 65 (by decide)) (by cases m0 with | nil => simp at hlt | cons y m => exact Nat.succ_pos 0)
  have h4 : alook (X ++ FamM m0) 4 = some (.cells (mvC m0) 112) := app_old x4
  have gy : ((mvC m0).drop (0 + (i : Int).toNat * 8)).take 8 = y.vs := by simpa using mvC_at m0 i y hy
  have hml := mvC_len m0
  have hOy := one_ok hO hy
  have k28 := fun {B : LM} {nx N : Nat} (hB : Bel N B) (low : ∀ j, j < 30 → alook B j = alook X j) => w_permitted28C (B := B) (nx := nx) (ro := 30) (N := N) l d y hOy hl hB ((low 0 (by decide)).trans x0) ((low 1 (by decide)).trans x1) ((low 2 (by decide)).trans x2)
  rw [hh] at k28
  unfold E2L
  rw [show slA (ne m0) 65 = some ⟨65, 0, none⟩ by rw [hne]; rfl]
  have hsl : (mvC (sel l d (m0.take i))).length = (sel l d (m0.take i)).length * 8 := mvC_len _
  have hsb : (sel l d (m0.take i)).length ≤ 1000000 := by
    have := List.length_filter_le (fun y => anyHit agB d [y] l) (m0.take i)
    have h2 : (m0.take i).length ≤ i := by rw [List.length_take]; omega
    unfold sel; omega
  repeat' (first
  | refine GT.draws (id := 26) [[], [0], [], [2], [0, 1, 2, 3], [], [0, 1, 2, 3, 4, 5], [0, 1, 2, 3, 4, 5, 6], [0, 1, 2, 3, 4, 5, 6, 7], [0, 1, 2, 3, 4, 5, 6, 7], [0, 1, 2, 3, 4, 5, 6, 7, 8], [0, 1, 2, 3, 4, 5, 6, 7, 8, 9, 10]] [1, 4] (by kernel_rfl) ?_
  | refine GL.sf rfl rfl rfl rfl ?_
  | refine GL.sn rfl rfl rfl ?_
  | refine GL.done ?_
  | refine GP.thenN ?_
  | refine GT.seq ?_
  | refine GT.region ?_
  | refine GD.li rfl rfl (by exact onAt.none rfl) rfl (by repeat first | exact AllG.nil rfl | refine AllG.cons rfl (by first | exact GO.sf rfl rfl | exact GO.sv rfl rfl | exact GO.call rfl rfl Tryd.func28 rfl rfl rfl (k28 (ltS rfl (ltc rfl (ltc rfl (ltc rfl (ltc rfl (ltc rfl (ltA (hXB _ (Nat.le_of_ble_eq_true rfl)) (ltF (Nat.le_trans hf65 (Nat.le_of_ble_eq_true rfl)) ltN)))))))) (fun j hj => by simp only [M2L, alook_aset, alook_aerase, alook]; (repeat rw [if_neg (by omega)]); exact lowX j hj))) ?_) ?_
  | refine GD.he rfl rfl rfl (by exact onAt.none rfl) rfl (by first | exact GO.padT (ltS rfl (ltc rfl (ltc rfl (ltc rfl (ltc rfl (ltc rfl (ltA (hXB _ (Nat.le_of_ble_eq_true rfl)) (ltF (Nat.le_trans hf65 (Nat.le_of_ble_eq_true rfl)) ltN)))))))) (GO.call rfl rfl Tryd.func29 rfl rfl rfl (w_areas29 l hl hp (hN (fun j hj => by simp only [M2L, alook_aset, alook_aerase, alook]; (repeat rw [if_neg (by omega)]); exact lowX j hj)).ar29)) | exact GO.padT (ltA (ltS rfl (ltc rfl (ltc rfl (ltc rfl (ltc rfl (ltc rfl (ltA (hXB _ (Nat.le_of_ble_eq_true rfl)) (ltF (Nat.le_trans hf65 (Nat.le_of_ble_eq_true rfl)) ltN)))))))) (ltF (Nat.add_le_add_left hn5 _) ltN)) (GO.call rfl rfl Tryd.func30 rfl rfl rfl (w_landings30 d hd3 (hN (low_fam (by decide) (fun j hj => by simp only [M2L, alook_aset, alook_aerase, alook]; (repeat rw [if_neg (by omega)]); exact lowX j hj))).ld.sl))) ?_ ?_
  | refine GD.done rfl rfl rfl ?_
  | exact AllJs.nil rfl
  | refine GL.v rfl rfl rfl (by first | exact GO.indexS (s := 8) rfl rfl rfl rfl rfl (by omega) | exact GO.loadG (s := 8) rfl rfl rfl rfl rfl (by simp only [M2L, alook_aset, alook_aerase, alook]; (repeat rw [if_neg (by omega)]); exact h65) (by omega) gy | exact GO.add rfl rfl rfl (by omega)) ?_
  | refine GT.skip ?_
  | refine GT.block ?_
  | refine GP.inN ?_
  | refine GT.condF rfl ?_
  | (refine GT.condD rfl (fun h => ?_) (fun h => ?_) <;> try (exfalso; omega)))
  have hsel : sel l d (m0.take (i + 1)) = sel l d (m0.take i) := by rw [hsel]; exact List.append_nil _
  exact GP.invN (m0.length - (i + 1)) (by omega) ⟨i + 1, by omega, rfl, Nat.le_of_ble_eq_true rfl, asub_cons rfl (asub_cons rfl (asub_cons rfl (asub_cons rfl (asub_cons (by rw [hne]; rfl) (asub_cons rfl (asub_cons rfl asub_nil)))))), subm_cons rfl (subm_cons rfl (subm_cons rfl (fun j y h => by have hj := hT h; simp only [M2L, alook_aset, alook_aerase, alook]; (repeat rw [if_neg (by omega)]); exact app_old (app_old (by simp only [M2L, alook_aset, alook_aerase, alook]; (repeat rw [if_neg (by omega)]); exact h))))), .inr ⟨66, (by rw [hsel]; rfl), (by rw [hsel]; exact hs), Nat.le_of_ble_eq_true rfl, (by rw [hsel]; rfl)⟩⟩
theorem law_round2s1 {X : LM} {Q : AQ} {ea ed : Bool} {cl cd c0 : Nat} {κ : Nat → Nat} {vw : Nat → Int} {s t : Int} (r : Rl) (F1 : Nat → Mo) (l : List Ar) (d : List Ld) (m0 : List Mv) (hX : ∀ k, 30 ≤ k → Und k X) (hO : ScOk l d m0) (hl : l.length ≤ 4) (hd3 : d.length ≤ 3) (hm4 : m0.length ≤ 4) (hp : PsOk l)
    (hN : ∀ {L : LM} {nx : Nat}, (∀ j, j < 30 → alook L j = alook X j) → NiAt (AW.of L nx 30 3) ea ed true true 6 3 4 4 (fun j => 7 + j) κ l d m0 m0) (x0 : alook X 0 = some (.cells [] 0)) (x1 : alook X 1 = some (.cells [] 0)) (x2 : alook X 2 = some (.cells sidesC 274)) (x4 : alook X 4 = some (.cells (mvC m0) 112))
    (i : Nat) (y : Mv) (hy : m0[i]? = some y) (hh : anyHit agB d [y] l = true) (hs : 0 < (sel l d (m0.take i)).length) :
    GT Tryd.prog Tryd.f4.ntmps 30 ((lps (Tryd.f4.body.getD .skip)).getD 1 .skip) ((21, .slice (some ⟨66, 0, none⟩) (sel l d (m0.take i)).length (sel l d (m0.take i)).length) :: E2L ea l.length cl m0 i) ((66, .cells (mvC (sel l d (m0.take i))) 112) :: M2L X (niC ed true 3 4 d.length cd m0.length c0 vw s t) r F1 m0) 67 30 3 (GInv 30 3 (I2L X (niC ed true 3 4 d.length cd m0.length c0 vw s t) r F1 ea cl l d m0) (m0.length - i) Q) := by
  have hlt : i < m0.length := (List.getElem?_eq_some_iff.1 hy).1
  have hsel := sel_take (l := l) (d := d) hy
  rw [hh] at hsel
  have hT := fun {j : Nat} {y : AObj} => xm_rng (m0 := m0) hX (j := j) (y := y)
  have hXB : ∀ k, 30 ≤ k → Bel k X := fun k hk => ltU (hX k hk)
  have hm1 : n1 m0 ≤ 1 := by cases m0 <;> simp [n1]
  have hf65 : 65 + n1 m0 ≤ 66 := by omega
  have hn5 : nF l ≤ 5 := by cases l <;> simp only [nF, List.length_cons] at hl ⊢ <;> omega
  have hn1 : n1 d ≤ 1 := by cases d <;> simp [n1]
  have hne : ne m0 = true := ne_cons (fun e => by rw [e] at hlt; simp at hlt)
  have lowX : ∀ j, j < 30 → alook (X ++ FamM m0) j = alook X j := low_fam (by decide) (fun j _ => rfl)
  have h65 : alook (X ++ FamM m0) 65 = some (.cells (mvC m0) 103) := app_fam (i := 0) (hXB 65 (by decide)) (by cases m0 with | nil => simp at hlt | cons y m => exact Nat.succ_pos 0)
  have h4 : alook (X ++ FamM m0) 4 = some (.cells (mvC m0) 112) := app_old x4
  have gy : ((mvC m0).drop (0 + (i : Int).toNat * 8)).take 8 = y.vs := by simpa using mvC_at m0 i y hy
  have hml := mvC_len m0
  have hOy := one_ok hO hy
  have k28 := fun {B : LM} {nx N : Nat} (hB : Bel N B) (low : ∀ j, j < 30 → alook B j = alook X j) => w_permitted28C (B := B) (nx := nx) (ro := 30) (N := N) l d y hOy hl hB ((low 0 (by decide)).trans x0) ((low 1 (by decide)).trans x1) ((low 2 (by decide)).trans x2)
  rw [hh] at k28
  unfold E2L
  rw [show slA (ne m0) 65 = some ⟨65, 0, none⟩ by rw [hne]; rfl]
  have hsl : (mvC (sel l d (m0.take i))).length = (sel l d (m0.take i)).length * 8 := mvC_len _
  have hsb : (sel l d (m0.take i)).length ≤ 1000000 := by
    have := List.length_filter_le (fun y => anyHit agB d [y] l) (m0.take i)
    have h2 : (m0.take i).length ≤ i := by rw [List.length_take]; omega
    unfold sel; omega
  repeat' (first
  | refine GT.draws (id := 26) [[], [0], [], [2], [0, 1, 2, 3], [], [0, 1, 2, 3, 4, 5], [0, 1, 2, 3, 4, 5, 6], [0, 1, 2, 3, 4, 5, 6, 7], [0, 1, 2, 3, 4, 5, 6, 7], [0, 1, 2, 3, 4, 5, 6, 7, 8], [0, 1, 2, 3, 4, 5, 6, 7, 8, 9, 10]] [1, 4] (by kernel_rfl) ?_
  | refine GL.sf rfl rfl rfl rfl ?_
  | refine GL.sv rfl rfl rfl rfl ?_
  | refine GL.sn rfl rfl rfl ?_
  | refine GL.done ?_
  | refine GP.thenN ?_
  | refine GT.seq ?_
  | refine GT.region ?_
  | refine GD.li rfl rfl (by exact onAt.none rfl) rfl (by repeat first | exact AllG.nil rfl | refine AllG.cons rfl (by first | exact GO.sf rfl rfl | exact GO.sv rfl rfl | exact GO.call rfl rfl Tryd.func28 rfl rfl rfl (k28 (ltS rfl (ltc rfl (ltc rfl (ltc rfl (ltc rfl (ltc rfl (ltA (hXB _ (Nat.le_of_ble_eq_true rfl)) (ltF (Nat.le_trans hf65 (Nat.le_of_ble_eq_true rfl)) ltN)))))))) (fun j hj => by simp only [M2L, alook_aset, alook_aerase, alook]; (repeat rw [if_neg (by omega)]); exact lowX j hj))) ?_) ?_
  | refine GD.he rfl rfl rfl (by exact onAt.none rfl) rfl (by first | exact GO.padT (ltS rfl (ltc rfl (ltc rfl (ltc rfl (ltc rfl (ltc rfl (ltA (hXB _ (Nat.le_of_ble_eq_true rfl)) (ltF (Nat.le_trans hf65 (Nat.le_of_ble_eq_true rfl)) ltN)))))))) (GO.call rfl rfl Tryd.func29 rfl rfl rfl (w_areas29 l hl hp (hN (fun j hj => by simp only [M2L, alook_aset, alook_aerase, alook]; (repeat rw [if_neg (by omega)]); exact lowX j hj)).ar29)) | exact GO.padT (ltA (ltS rfl (ltc rfl (ltc rfl (ltc rfl (ltc rfl (ltc rfl (ltA (hXB _ (Nat.le_of_ble_eq_true rfl)) (ltF (Nat.le_trans hf65 (Nat.le_of_ble_eq_true rfl)) ltN)))))))) (ltF (Nat.add_le_add_left hn5 _) ltN)) (GO.call rfl rfl Tryd.func30 rfl rfl rfl (w_landings30 d hd3 (hN (low_fam (by decide) (fun j hj => by simp only [M2L, alook_aset, alook_aerase, alook]; (repeat rw [if_neg (by omega)]); exact lowX j hj))).ld.sl))) ?_ ?_
  | refine GD.done rfl rfl rfl ?_
  | exact AllJs.nil rfl
  | refine GL.v rfl rfl rfl (by first | exact GO.indexS (s := 8) rfl rfl rfl rfl rfl (by omega) | exact GO.loadG (s := 8) rfl rfl rfl rfl rfl (by simp only [M2L, alook_aset, alook_aerase, alook]; (repeat rw [if_neg (by omega)]); exact h65) (by omega) gy | exact GO.loadG (s := 8) rfl rfl rfl rfl rfl (by simp only [M2L, alook_aset, alook_aerase, alook]; (repeat rw [if_neg (by omega)]); exact app_old (app_old (by simp only [M2L, alook_aset, alook_aerase, alook]; (repeat rw [if_neg (by omega)]); exact h4))) (by omega) gy | exact GO.appendG rfl rfl rfl rfl rfl rfl rfl rfl rfl rfl rfl rfl rfl rfl hsl (by decide) rfl (Nat.le_of_ble_eq_true rfl) hsb | exact GO.add rfl rfl rfl (by omega)) ?_
  | refine GT.skip ?_
  | refine GT.block ?_
  | refine GP.inN ?_
  | refine GT.condT rfl ?_
  | refine GT.condF rfl ?_
  | (refine GT.condD rfl (fun h => ?_) (fun h => ?_) <;> try (exfalso; omega)))
  have hsel : sel l d (m0.take (i + 1)) = sel l d (m0.take i) ++ [y] := hsel
  have hsc : mvC (sel l d (m0.take i) ++ [y]) = mvC (sel l d (m0.take i)) ++ y.vs := by simp [mvC]
  have hsn : (sel l d (m0.take i) ++ [y]).length = (sel l d (m0.take i)).length + 1 := by simp
  exact GP.invN (m0.length - (i + 1)) (by omega) ⟨i + 1, by omega, rfl, Nat.le_of_ble_eq_true rfl, asub_cons rfl (asub_cons rfl (asub_cons rfl (asub_cons rfl (asub_cons (by rw [hne]; rfl) (asub_cons rfl (asub_cons rfl asub_nil)))))), subm_cons rfl (subm_cons rfl (subm_cons rfl (fun j y h => by have hj := hT h; simp only [M2L, alook_aset, alook_aerase, alook]; (repeat rw [if_neg (by omega)]); exact app_old (app_old (by simp only [M2L, alook_aset, alook_aerase, alook]; (repeat rw [if_neg (by omega)]); exact h))))), .inr ⟨_, (by rw [hsel, hsn]; rfl), (by rw [hsel, hsn]; omega), (by exact Nat.le_of_ble_eq_true rfl), (by rw [hsel, hsc]; rfl)⟩⟩
end Go.M
