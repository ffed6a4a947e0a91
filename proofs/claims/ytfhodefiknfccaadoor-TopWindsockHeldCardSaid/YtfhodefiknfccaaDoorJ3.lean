/- Functions of the given program, walked (no condition beyond what each theorem says). -/
import Derived.Test.YtfhodefiknfccaaDoorH9
import Derived.Test.YtfhodefiknfccaaDoorA8
set_option linter.unusedVariables false
set_option linter.unusedSimpArgs false
namespace Go.M
open Go.Proofs Go.RowKit
set_option maxRecDepth 8000
set_option maxHeartbeats 16000000
/-- The cells of areas whose polygons may have room. -/
def raC (ν κ : Nat → Nat) : Nat → List Ar → List Value
  | _, [] => []
  | o, a :: l => [.string a.s, .int .i64 a.sz, .int .i64 a.ct, .slice (some ⟨ν o, 0, none⟩) a.ps.length (κ o)] ++ raC ν κ (o + 1) l
theorem raC_len {ν κ : Nat → Nat} : ∀ (l : List Ar) (o : Nat), (raC ν κ o l).length = l.length * 4
  | [], _ => rfl
  | a :: l, o => by unfold raC; simp [raC_len l]; omega
theorem raC_AR {ρ : Nat → Option (Nat × Nat)} {ν μ κ : Nat → Nat} : ∀ (l : List Ar) (o : Nat), (∀ i, i < l.length → ρ (ν (o + i)) = some (μ (o + i), 0)) → AR ρ (raC ν κ o l) (raC μ κ o l)
  | [], _, _ => .nil
  | a :: l, o, h => by
    unfold raC
    refine .flat (k := 8) rfl (.flat (k := 8) rfl (.flat (k := 8) rfl (.sl (h 0 (by simp)) rfl ?_)))
    exact raC_AR l (o + 1) fun i hi => by have := h (i + 1) (by simpa using hi); rwa [show o + (i + 1) = o + 1 + i by omega] at this
/-- Areas of the reference somewhere in a memory. -/
structure RaAt (A : AW) (p : Nat) (ν κ : Nat → Nat) (l : List Ar) : Prop where
  rd : A.rd p 0 (raC ν κ 0 l).length = some (raC ν κ 0 l)
  ps : ∀ i a, l[i]? = some a → A.rd (ν i) 0 (ptC a.ps).length = some (ptC a.ps)
abbrev RaM (κ : Nat → Nat) (l : List Ar) (b : Nat) (R : LM) : LM := (b, .cells (raC (fun j => b + 1 + j) κ 0 l) 151) :: (famB (fun i => .cells (ptC (arP l i)) 97) (b + 1) l.length ++ R)
theorem RaAt.small {A : AW} {p b G K : Nat} {ν κ : Nat → Nat} {l : List Ar} {R : LM} {ρ : Nat → Option (Nat × Nat)} (h : RaAt A p ν κ l) (s : SmallX A R b G ρ) (hK : b + 1 + l.length ≤ K) : SmallX A (RaM κ l b R) K G (ArRho b p ν l.length ρ) := by
  have hmono : ∀ j x, ρ j = some x → ArRho b p ν l.length ρ j = some x := fun j x hj => by
    have := s.hk j x hj
    unfold ArRho
    rw [if_neg (by omega), if_neg (by omega)]; exact hj
  refine ⟨fun j x hx => ?_, fun j hj => ?_, fun j y hy => ?_, s.hgl, fun g hg => ?_, Nat.le_trans s.hGk (by omega)⟩
  · unfold ArRho at hx
    split at hx
    · omega
    split at hx
    · omega
    · have := s.hk j x hx; omega
  · simp only [alook] at hj
    split at hj
    · cases hj
    rename_i q
    rw [famB_look] at hj
    split at hj
    · cases hj
    rename_i q2
    unfold ArRho
    rw [if_neg (fun e => q e.symm), if_neg q2]; exact s.hd j hj
  · simp only [alook] at hy
    split at hy
    · rename_i q
      subst q; cases hy
      refine ⟨by omega, (p, 0), by unfold ArRho; rw [if_pos rfl], ?_⟩
      refine ⟨raC ν κ 0 l, ?_, raC_AR l 0 fun i hi => ?_⟩
      · rw [raC_len, ← raC_len (ν := ν) (κ := κ) l 0]; exact h.rd
      · unfold ArRho
        rw [if_neg (by omega), if_pos (by omega), show b + 1 + (0 + i) - (b + 1) = 0 + i by omega]
    · rename_i q
      rw [famB_look] at hy
      split at hy
      · rename_i q2
        cases hy
        obtain ⟨a, ha⟩ : ∃ a, l[j - (b + 1)]? = some a := ⟨_, List.getElem?_eq_getElem (show j - (b + 1) < l.length by omega)⟩
        obtain ⟨f, hf⟩ := ptC_flat a.ps
        refine ⟨by omega, (ν (j - (b + 1)), 0), by unfold ArRho; rw [if_neg (by omega), if_pos q2], ?_⟩
        rw [arP_at ha]
        exact .flat (h.ps _ a ha) hf
      · obtain ⟨h1, x, h2, h3⟩ := s.hL j y hy
        exact ⟨by omega, x, hmono j x h2, h3.mono hmono⟩
  · exact hmono g _ (s.hG g hg)
theorem arC_Rn {ρ : Nat → Option Nat} {ν μ : Nat → Nat} : ∀ (l : List Ar) (o : Nat), (∀ i, i < l.length → ρ (ν (o + i)) = some (μ (o + i))) → Rn ρ (arC ν o l) (arC μ o l)
  | [], _, _ => .nil
  | a :: l, o, h => by
    unfold arC
    refine .cons (.flat (k := 8) rfl) (.cons (.flat (k := 8) rfl) (.cons (.flat (k := 8) rfl) (.cons (.sl (h 0 (by simp))) ?_)))
    exact arC_Rn l (o + 1) fun i hi => by have := h (i + 1) (by simpa using hi); rwa [show o + (i + 1) = o + 1 + i by omega] at this
/-- The new objects: the areas, and behind them their polygons. -/
def arF (N : Nat) (l : List Ar) (j : Nat) : AObj := match j with
  | 0 => .cells (arC (fun j => N + 1 + j) 0 l) 162
  | j + 1 => .cells (ptC (arP l j)) 97
theorem ptC_one (ps : Pts) : (ptC ps).all (·.oneCell') = true := by
  rw [List.all_eq_true]
  intro v hv
  unfold ptC at hv
  rw [List.mem_flatMap] at hv
  obtain ⟨p, _, h⟩ := hv
  simp only [List.mem_cons, List.not_mem_nil, or_false] at h
  rcases h with rfl | rfl <;> rfl
/-- Polygons that are not empty, and not too great. -/
abbrev PsOk (l : List Ar) : Prop := ∀ x ∈ l, 0 < x.ps.length ∧ x.ps.length ≤ 1000
def nuA (m i : Nat) : Nat := if i = 0 then 9 * m else m + 3 + 5 * (i - 1)
theorem ar_gives {A : AW} {p c m : Nat} {ν κ : Nat → Nat} {l : List Ar} (hl : l.length = m) (hm : 0 < m) (h : RaAt A p ν κ l)
    (hw : AC Tryd.prog 29 [.slice (some ⟨0, 0, none⟩) m c] (AW.of (RaM κ l 0 []) (m + 1) (m + 1) 0) (fun v A1 => v = .slice (some ⟨9 * m, 0, none⟩) m m ∧ A1.objs (9 * m) = some (.cells (arC (fun j => m + 3 + 5 * j) 0 l) 162) ∧ ∀ j, j < m → A1.objs (m + 3 + 5 * j) = some (.cells (ptC (arP l j)) 97))) :
    AC Tryd.prog 29 [.slice (some ⟨p, 0, none⟩) m c] A (isR (.slice (some ⟨A.next, 0, none⟩) m m) (A.pushF (m + 1) (arF A.next l))) := by
  refine AC.mono (AC.givesF (Φ := fun v q F => q = m + 1 ∧ F = arF A.next l ∧ v = .slice (some ⟨A.next, 0, none⟩) m m) (h.small SmallX.nil (K := m + 1) (by omega)) (args := [.slice (some ⟨0, 0, none⟩) m c]) ?_ (.sl (by unfold ArRho; rw [if_pos rfl]) rfl .nil)) (fun v A1 hv => by
    obtain ⟨q, F, ⟨rfl, rfl, rfl⟩, rfl⟩ := hv
    exact ⟨rfl, rfl⟩)
  refine AC.mono hw ?_
  rintro v A1 ⟨rfl, h1, h2⟩
  have e0 : rhoF A.next (m + 1) (nuA m) (A.next + 0) = some (nuA m 0) := rhoF_at (by omega)
  refine ⟨m + 1, arF A.next l, nuA m, .slice (some ⟨A.next, 0, none⟩) m m, ⟨rfl, rfl, rfl⟩, fun i hi => ?_, fun i j hi hj e => ?_, fun i hi => ?_, .sl ?_⟩
  · unfold nuA; split <;> omega
  · unfold nuA at e
    split at e <;> split at e <;> omega
  · match i, hi with
    | 0, _ =>
      refine ⟨_, h1, rfl, arC_Rn l 0 fun i hi => ?_⟩
      have := rhoF_at (N := A.next) (n := m + 1) (i := i + 1) (ν := nuA m) (by omega)
      rw [show A.next + 1 + (0 + i) = A.next + (i + 1) by omega, this]
      unfold nuA
      rw [if_neg (by omega)]
      congr 1; omega
    | i + 1, hi =>
      refine ⟨.cells (ptC (arP l i)) 97, ?_, rfl, .flat (ptC_flat _).choose_spec⟩
      have := h2 i (by omega)
      unfold nuA
      rw [if_neg (by omega), show i + 1 - 1 = i by omega]
      exact this
  · have h0 : nuA m 0 = 9 * m := by unfold nuA; rw [if_pos rfl]
    rw [← h0]; exact e0
theorem ar_walk1 (a0 : Ar) (κ : Nat → Nat) (c : Nat) (hp : PsOk [a0]) : AC Tryd.prog 29 [.slice (some ⟨0, 0, none⟩) 1 c] (AW.of (RaM κ [a0] 0 []) 2 2 0) (fun v A1 => v = .slice (some ⟨9 * 1, 0, none⟩) 1 1 ∧ A1.objs (9 * 1) = some (.cells (arC (fun j => 1 + 3 + 5 * j) 0 [a0]) 162) ∧ ∀ j, j < 1 → A1.objs (1 + 3 + 5 * j) = some (.cells (ptC (arP [a0] j)) 97)) := by
  have h0 := hp a0 (by simp)
  have o0 := ptC_one a0.ps
  have n0 := ptC_len a0.ps
  refine AC.go Tryd.func29 rfl rfl ?_
  repeat' (first
  | refine GL.v rfl rfl rfl (GO.call rfl rfl Tryd.func68 rfl rfl rfl (AC.go Tryd.func68 rfl rfl (by repeat' (first | exact ⟨rfl, rfl⟩ | refine GT.unroll 2 ?_ | refine GL.sf rfl rfl rfl rfl ?_ | refine GL.sv rfl rfl rfl rfl ?_ | refine GL.sn rfl rfl rfl ?_ | refine GL.done ?_ | refine GP.thenN ?_ | refine GT.seq ?_ | refine GT.region ?_ | refine GL.v rfl rfl rfl (by first | exact GO.appendE rfl rfl rfl rfl rfl rfl rfl rfl rfl rfl rfl (asrc_all h0.1 n0 rfl) o0 rfl (Nat.le_of_ble_eq_true rfl) rfl (Nat.le_of_ble_eq_true rfl) h0.1 (by omega) | exact GO.add rfl rfl rfl (by omega)) ?_ | refine GT.skip ?_ | refine GT.block ?_ | refine GT.ret ?_ | refine GT.exit ?_ | refine GP.thenE ?_ | refine GP.inN ?_ | refine GP.hit ?_ | refine GP.againN ?_ | refine GP.againE ?_ | refine GU.step ?_ | refine GT.condT rfl ?_ | refine GT.condF rfl ?_ | refine GP.endR1 rfl ?_)))) ?_
  | refine GT.unroll 2 ?_
  | refine GL.sf rfl rfl rfl rfl ?_
  | refine GL.sv rfl rfl rfl rfl ?_
  | refine GL.sn rfl rfl rfl ?_
  | refine GL.done ?_
  | refine GP.thenN ?_
  | refine GT.seq ?_
  | refine GT.region ?_
  | refine GL.v rfl rfl rfl (by exact GO.add rfl rfl rfl (by omega)) ?_
  | refine GT.skip ?_
  | refine GT.block ?_
  | refine GT.ret ?_
  | refine GT.exit ?_
  | refine GP.thenE ?_
  | refine GP.inN ?_
  | refine GP.hit ?_
  | refine GP.againN ?_
  | refine GP.againE ?_
  | refine GU.step ?_
  | refine GT.condT rfl ?_
  | refine GT.condF rfl ?_
  | refine GP.endR1 rfl ?_)
  refine ⟨rfl, rfl, fun j hj => ?_⟩
  match j, hj with
  | 0, _ => exact rfl
theorem ar_walk2 (a0 a1 : Ar) (κ : Nat → Nat) (c : Nat) (hp : PsOk [a0, a1]) : AC Tryd.prog 29 [.slice (some ⟨0, 0, none⟩) 2 c] (AW.of (RaM κ [a0, a1] 0 []) 3 3 0) (fun v A1 => v = .slice (some ⟨9 * 2, 0, none⟩) 2 2 ∧ A1.objs (9 * 2) = some (.cells (arC (fun j => 2 + 3 + 5 * j) 0 [a0, a1]) 162) ∧ ∀ j, j < 2 → A1.objs (2 + 3 + 5 * j) = some (.cells (ptC (arP [a0, a1] j)) 97)) := by
  have h0 := hp a0 (by simp)
  have o0 := ptC_one a0.ps
  have n0 := ptC_len a0.ps
  have h1 := hp a1 (by simp)
  have o1 := ptC_one a1.ps
  have n1 := ptC_len a1.ps
  refine AC.go Tryd.func29 rfl rfl ?_
  repeat' (first
  | refine GL.v rfl rfl rfl (GO.call rfl rfl Tryd.func68 rfl rfl rfl (AC.go Tryd.func68 rfl rfl (by repeat' (first | exact ⟨rfl, rfl⟩ | refine GT.unroll 3 ?_ | refine GL.sf rfl rfl rfl rfl ?_ | refine GL.sv rfl rfl rfl rfl ?_ | refine GL.sn rfl rfl rfl ?_ | refine GL.done ?_ | refine GP.thenN ?_ | refine GT.seq ?_ | refine GT.region ?_ | refine GL.v rfl rfl rfl (by first | exact GO.appendE rfl rfl rfl rfl rfl rfl rfl rfl rfl rfl rfl (asrc_all h0.1 n0 rfl) o0 rfl (Nat.le_of_ble_eq_true rfl) rfl (Nat.le_of_ble_eq_true rfl) h0.1 (by omega) | exact GO.appendE rfl rfl rfl rfl rfl rfl rfl rfl rfl rfl rfl (asrc_all h1.1 n1 rfl) o1 rfl (Nat.le_of_ble_eq_true rfl) rfl (Nat.le_of_ble_eq_true rfl) h1.1 (by omega) | exact GO.add rfl rfl rfl (by omega)) ?_ | refine GT.skip ?_ | refine GT.block ?_ | refine GT.ret ?_ | refine GT.exit ?_ | refine GP.thenE ?_ | refine GP.inN ?_ | refine GP.hit ?_ | refine GP.againN ?_ | refine GP.againE ?_ | refine GU.step ?_ | refine GT.condT rfl ?_ | refine GT.condF rfl ?_ | refine GP.endR1 rfl ?_)))) ?_
  | refine GT.unroll 3 ?_
  | refine GL.sf rfl rfl rfl rfl ?_
  | refine GL.sv rfl rfl rfl rfl ?_
  | refine GL.sn rfl rfl rfl ?_
  | refine GL.done ?_
  | refine GP.thenN ?_
  | refine GT.seq ?_
  | refine GT.region ?_
  | refine GL.v rfl rfl rfl (by exact GO.add rfl rfl rfl (by omega)) ?_
  | refine GT.skip ?_
  | refine GT.block ?_
  | refine GT.ret ?_
  | refine GT.exit ?_
  | refine GP.thenE ?_
  | refine GP.inN ?_
  | refine GP.hit ?_
  | refine GP.againN ?_
  | refine GP.againE ?_
  | refine GU.step ?_
  | refine GT.condT rfl ?_
  | refine GT.condF rfl ?_
  | refine GP.endR1 rfl ?_)
  refine ⟨rfl, rfl, fun j hj => ?_⟩
  match j, hj with
  | 0, _ => exact rfl
  | 1, _ => exact rfl
theorem ar_walk3 (a0 a1 a2 : Ar) (κ : Nat → Nat) (c : Nat) (hp : PsOk [a0, a1, a2]) : AC Tryd.prog 29 [.slice (some ⟨0, 0, none⟩) 3 c] (AW.of (RaM κ [a0, a1, a2] 0 []) 4 4 0) (fun v A1 => v = .slice (some ⟨9 * 3, 0, none⟩) 3 3 ∧ A1.objs (9 * 3) = some (.cells (arC (fun j => 3 + 3 + 5 * j) 0 [a0, a1, a2]) 162) ∧ ∀ j, j < 3 → A1.objs (3 + 3 + 5 * j) = some (.cells (ptC (arP [a0, a1, a2] j)) 97)) := by
  have h0 := hp a0 (by simp)
  have o0 := ptC_one a0.ps
  have n0 := ptC_len a0.ps
  have h1 := hp a1 (by simp)
  have o1 := ptC_one a1.ps
  have n1 := ptC_len a1.ps
  have h2 := hp a2 (by simp)
  have o2 := ptC_one a2.ps
  have n2 := ptC_len a2.ps
  refine AC.go Tryd.func29 rfl rfl ?_
  repeat' (first
  | refine GL.v rfl rfl rfl (GO.call rfl rfl Tryd.func68 rfl rfl rfl (AC.go Tryd.func68 rfl rfl (by repeat' (first | exact ⟨rfl, rfl⟩ | refine GT.unroll 4 ?_ | refine GL.sf rfl rfl rfl rfl ?_ | refine GL.sv rfl rfl rfl rfl ?_ | refine GL.sn rfl rfl rfl ?_ | refine GL.done ?_ | refine GP.thenN ?_ | refine GT.seq ?_ | refine GT.region ?_ | refine GL.v rfl rfl rfl (by first | exact GO.appendE rfl rfl rfl rfl rfl rfl rfl rfl rfl rfl rfl (asrc_all h0.1 n0 rfl) o0 rfl (Nat.le_of_ble_eq_true rfl) rfl (Nat.le_of_ble_eq_true rfl) h0.1 (by omega) | exact GO.appendE rfl rfl rfl rfl rfl rfl rfl rfl rfl rfl rfl (asrc_all h1.1 n1 rfl) o1 rfl (Nat.le_of_ble_eq_true rfl) rfl (Nat.le_of_ble_eq_true rfl) h1.1 (by omega) | exact GO.appendE rfl rfl rfl rfl rfl rfl rfl rfl rfl rfl rfl (asrc_all h2.1 n2 rfl) o2 rfl (Nat.le_of_ble_eq_true rfl) rfl (Nat.le_of_ble_eq_true rfl) h2.1 (by omega) | exact GO.add rfl rfl rfl (by omega)) ?_ | refine GT.skip ?_ | refine GT.block ?_ | refine GT.ret ?_ | refine GT.exit ?_ | refine GP.thenE ?_ | refine GP.inN ?_ | refine GP.hit ?_ | refine GP.againN ?_ | refine GP.againE ?_ | refine GU.step ?_ | refine GT.condT rfl ?_ | refine GT.condF rfl ?_ | refine GP.endR1 rfl ?_)))) ?_
  | refine GT.unroll 4 ?_
  | refine GL.sf rfl rfl rfl rfl ?_
  | refine GL.sv rfl rfl rfl rfl ?_
  | refine GL.sn rfl rfl rfl ?_
  | refine GL.done ?_
  | refine GP.thenN ?_
  | refine GT.seq ?_
  | refine GT.region ?_
  | refine GL.v rfl rfl rfl (by exact GO.add rfl rfl rfl (by omega)) ?_
  | refine GT.skip ?_
  | refine GT.block ?_
  | refine GT.ret ?_
  | refine GT.exit ?_
  | refine GP.thenE ?_
  | refine GP.inN ?_
  | refine GP.hit ?_
  | refine GP.againN ?_
  | refine GP.againE ?_
  | refine GU.step ?_
  | refine GT.condT rfl ?_
  | refine GT.condF rfl ?_
  | refine GP.endR1 rfl ?_)
  refine ⟨rfl, rfl, fun j hj => ?_⟩
  match j, hj with
  | 0, _ => exact rfl
  | 1, _ => exact rfl
  | 2, _ => exact rfl
theorem ar_walk4 (a0 a1 a2 a3 : Ar) (κ : Nat → Nat) (c : Nat) (hp : PsOk [a0, a1, a2, a3]) : AC Tryd.prog 29 [.slice (some ⟨0, 0, none⟩) 4 c] (AW.of (RaM κ [a0, a1, a2, a3] 0 []) 5 5 0) (fun v A1 => v = .slice (some ⟨9 * 4, 0, none⟩) 4 4 ∧ A1.objs (9 * 4) = some (.cells (arC (fun j => 4 + 3 + 5 * j) 0 [a0, a1, a2, a3]) 162) ∧ ∀ j, j < 4 → A1.objs (4 + 3 + 5 * j) = some (.cells (ptC (arP [a0, a1, a2, a3] j)) 97)) := by
  have h0 := hp a0 (by simp)
  have o0 := ptC_one a0.ps
  have n0 := ptC_len a0.ps
  have h1 := hp a1 (by simp)
  have o1 := ptC_one a1.ps
  have n1 := ptC_len a1.ps
  have h2 := hp a2 (by simp)
  have o2 := ptC_one a2.ps
  have n2 := ptC_len a2.ps
  have h3 := hp a3 (by simp)
  have o3 := ptC_one a3.ps
  have n3 := ptC_len a3.ps
  refine AC.go Tryd.func29 rfl rfl ?_
  repeat' (first
  | refine GL.v rfl rfl rfl (GO.call rfl rfl Tryd.func68 rfl rfl rfl (AC.go Tryd.func68 rfl rfl (by repeat' (first | exact ⟨rfl, rfl⟩ | refine GT.unroll 5 ?_ | refine GL.sf rfl rfl rfl rfl ?_ | refine GL.sv rfl rfl rfl rfl ?_ | refine GL.sn rfl rfl rfl ?_ | refine GL.done ?_ | refine GP.thenN ?_ | refine GT.seq ?_ | refine GT.region ?_ | refine GL.v rfl rfl rfl (by first | exact GO.appendE rfl rfl rfl rfl rfl rfl rfl rfl rfl rfl rfl (asrc_all h0.1 n0 rfl) o0 rfl (Nat.le_of_ble_eq_true rfl) rfl (Nat.le_of_ble_eq_true rfl) h0.1 (by omega) | exact GO.appendE rfl rfl rfl rfl rfl rfl rfl rfl rfl rfl rfl (asrc_all h1.1 n1 rfl) o1 rfl (Nat.le_of_ble_eq_true rfl) rfl (Nat.le_of_ble_eq_true rfl) h1.1 (by omega) | exact GO.appendE rfl rfl rfl rfl rfl rfl rfl rfl rfl rfl rfl (asrc_all h2.1 n2 rfl) o2 rfl (Nat.le_of_ble_eq_true rfl) rfl (Nat.le_of_ble_eq_true rfl) h2.1 (by omega) | exact GO.appendE rfl rfl rfl rfl rfl rfl rfl rfl rfl rfl rfl (asrc_all h3.1 n3 rfl) o3 rfl (Nat.le_of_ble_eq_true rfl) rfl (Nat.le_of_ble_eq_true rfl) h3.1 (by omega) | exact GO.add rfl rfl rfl (by omega)) ?_ | refine GT.skip ?_ | refine GT.block ?_ | refine GT.ret ?_ | refine GT.exit ?_ | refine GP.thenE ?_ | refine GP.inN ?_ | refine GP.hit ?_ | refine GP.againN ?_ | refine GP.againE ?_ | refine GU.step ?_ | refine GT.condT rfl ?_ | refine GT.condF rfl ?_ | refine GP.endR1 rfl ?_)))) ?_
  | refine GT.unroll 5 ?_
  | refine GL.sf rfl rfl rfl rfl ?_
  | refine GL.sv rfl rfl rfl rfl ?_
  | refine GL.sn rfl rfl rfl ?_
  | refine GL.done ?_
  | refine GP.thenN ?_
  | refine GT.seq ?_
  | refine GT.region ?_
  | refine GL.v rfl rfl rfl (by exact GO.add rfl rfl rfl (by omega)) ?_
  | refine GT.skip ?_
  | refine GT.block ?_
  | refine GT.ret ?_
  | refine GT.exit ?_
  | refine GP.thenE ?_
  | refine GP.inN ?_
  | refine GP.hit ?_
  | refine GP.againN ?_
  | refine GP.againE ?_
  | refine GU.step ?_
  | refine GT.condT rfl ?_
  | refine GT.condF rfl ?_
  | refine GP.endR1 rfl ?_)
  refine ⟨rfl, rfl, fun j hj => ?_⟩
  match j, hj with
  | 0, _ => exact rfl
  | 1, _ => exact rfl
  | 2, _ => exact rfl
  | 3, _ => exact rfl
end Go.M
