/- Functions of the given program, walked (no condition beyond what each theorem says). -/
import Derived.Test.YtfhodefiknfccaaDoorJ3
import Derived.Test.YtfhodefiknfccaaDoorA8
set_option linter.unusedVariables false
set_option linter.unusedSimpArgs false
namespace Go.M
open Go.Proofs Go.RowKit
set_option maxRecDepth 8000
set_option maxHeartbeats 16000000
/-- Is a list not empty? -/
def ne {α : Type} (l : List α) : Bool := match l with
  | [] => false
  | _ :: _ => true
/-- How many objects a copy has: none, or one and so many. -/
def nF (l : List Ar) : Nat := match l with
  | [] => 0
  | _ :: _ => l.length + 1
def n1 {α : Type} (l : List α) : Nat := match l with
  | [] => 0
  | _ :: _ => 1
theorem pad_zero {A : AW} {q : Nat} {F G : Nat → AObj} : A.pad 0 q F = A.pad 0 q G := by
  unfold AW.pad
  simp only [AW.mk.injEq, and_true]
  funext j
  rw [if_neg (by omega), if_neg (by omega)]
theorem AC.padZ {P : Program} {f : FuncId} {args : List Value} {A : AW} {v : Value} {q : Nat} {F : Nat → AObj} (h : AC P f args A (isR v A)) : AC P f args A (isR v (A.pad 0 q F)) := by
  have e : A.pushF 0 F = A := by
    unfold AW.pushF
    cases A with
    | mk o nx ro gl =>
      simp only [AW.mk.injEq, and_true, Nat.add_zero]
      exact funext fun j => if_neg (by omega)
  exact AC.padTo (F := F) (by rw [e]; exact h) (Nat.zero_le _)
theorem w_areas29e {A : AW} {b : Option Addr} {c : Nat} : AC Tryd.prog 29 [.slice b 0 c] A (isR (.slice none 0 0) A) := by
  refine AC.isE ?_ ?_ ⟨8, rfl⟩
  · refine AC.go Tryd.func29 rfl rfl ?_
    repeat' (first
    | refine GL.v rfl rfl rfl (GO.call rfl rfl Tryd.func68 rfl rfl rfl (AC.go Tryd.func68 rfl rfl (by repeat' (first | exact ⟨rfl, rfl⟩ | refine GT.unroll 1 ?_ | refine GL.sf rfl rfl rfl rfl ?_ | refine GL.done ?_ | refine GP.thenN ?_ | refine GT.seq ?_ | refine GT.region ?_ | refine GT.block ?_ | refine GT.ret ?_ | refine GT.exit ?_ | refine GP.thenE ?_ | refine GP.hit ?_ | refine GP.againE ?_ | refine GU.step ?_ | refine GT.condF rfl ?_ | refine GP.endR1 rfl ?_)))) ?_
    | refine GT.unroll 1 ?_
    | refine GL.sf rfl rfl rfl rfl ?_
    | refine GL.done ?_
    | refine GP.thenN ?_
    | refine GT.seq ?_
    | refine GT.region ?_
    | refine GT.block ?_
    | refine GT.ret ?_
    | refine GT.exit ?_
    | refine GP.thenE ?_
    | refine GP.hit ?_
    | refine GP.againE ?_
    | refine GU.step ?_
    | refine GT.condF rfl ?_
    | refine GP.endR1 rfl ?_)
    rfl
  · refine AC.go Tryd.func29 rfl rfl ?_
    repeat' (first
    | refine GL.v rfl rfl rfl (GO.call rfl rfl Tryd.func68 rfl rfl rfl (AC.go Tryd.func68 rfl rfl (by repeat' (first | exact ⟨rfl, rfl⟩ | refine GT.unroll 1 ?_ | refine GL.sf rfl rfl rfl rfl ?_ | refine GL.done ?_ | refine GP.thenN ?_ | refine GT.seq ?_ | refine GT.region ?_ | refine GT.block ?_ | refine GT.ret ?_ | refine GT.exit ?_ | refine GP.thenE ?_ | refine GP.hit ?_ | refine GP.againE ?_ | refine GU.step ?_ | refine GT.condF rfl ?_ | refine GP.endR1 rfl ?_)))) ?_
    | refine GT.unroll 1 ?_
    | refine GL.sf rfl rfl rfl rfl ?_
    | refine GL.done ?_
    | refine GP.thenN ?_
    | refine GT.seq ?_
    | refine GT.region ?_
    | refine GT.block ?_
    | refine GT.ret ?_
    | refine GT.exit ?_
    | refine GP.thenE ?_
    | refine GP.hit ?_
    | refine GP.againE ?_
    | refine GU.step ?_
    | refine GT.condF rfl ?_
    | refine GP.endR1 rfl ?_)
    rfl
theorem w_landings30e {A : AW} {b : Option Addr} {c : Nat} : AC Tryd.prog 30 [.slice b 0 c] A (isR (.slice none 0 0) A) := by
  refine AC.isE ?_ ?_ ⟨8, rfl⟩
  · refine AC.go Tryd.func30 rfl rfl ?_
    repeat' (first
    | refine GT.unroll 1 ?_
    | refine GL.sf rfl rfl rfl rfl ?_
    | refine GL.done ?_
    | refine GP.thenN ?_
    | refine GT.seq ?_
    | refine GT.region ?_
    | refine GT.block ?_
    | refine GT.ret ?_
    | refine GT.exit ?_
    | refine GP.thenE ?_
    | refine GP.hit ?_
    | refine GP.againE ?_
    | refine GU.step ?_
    | refine GT.condF rfl ?_
    | refine GP.endR1 rfl ?_)
    rfl
  · refine AC.go Tryd.func30 rfl rfl ?_
    repeat' (first
    | refine GT.unroll 1 ?_
    | refine GL.sf rfl rfl rfl rfl ?_
    | refine GL.done ?_
    | refine GP.thenN ?_
    | refine GT.seq ?_
    | refine GT.region ?_
    | refine GT.block ?_
    | refine GT.ret ?_
    | refine GT.exit ?_
    | refine GP.thenE ?_
    | refine GP.hit ?_
    | refine GP.againE ?_
    | refine GU.step ?_
    | refine GT.condF rfl ?_
    | refine GP.endR1 rfl ?_)
    rfl
theorem w_moves27e {A : AW} {b : Option Addr} {c : Nat} : AC Tryd.prog 27 [.slice b 0 c] A (isR (.slice none 0 0) A) := by
  refine AC.isE ?_ ?_ ⟨8, rfl⟩
  · refine AC.go Tryd.func27 rfl rfl ?_
    repeat' (first
    | refine GT.unroll 1 ?_
    | refine GL.sf rfl rfl rfl rfl ?_
    | refine GL.done ?_
    | refine GP.thenN ?_
    | refine GT.seq ?_
    | refine GT.region ?_
    | refine GT.block ?_
    | refine GT.ret ?_
    | refine GT.exit ?_
    | refine GP.thenE ?_
    | refine GP.hit ?_
    | refine GP.againE ?_
    | refine GU.step ?_
    | refine GT.condF rfl ?_
    | refine GP.endR1 rfl ?_)
    rfl
  · refine AC.go Tryd.func27 rfl rfl ?_
    repeat' (first
    | refine GT.unroll 1 ?_
    | refine GL.sf rfl rfl rfl rfl ?_
    | refine GL.done ?_
    | refine GP.thenN ?_
    | refine GT.seq ?_
    | refine GT.region ?_
    | refine GT.block ?_
    | refine GT.ret ?_
    | refine GT.exit ?_
    | refine GP.thenE ?_
    | refine GP.hit ?_
    | refine GP.againE ?_
    | refine GU.step ?_
    | refine GT.condF rfl ?_
    | refine GP.endR1 rfl ?_)
    rfl
/-- A list that lies somewhere, if it is not empty. -/
abbrev SlAt (A : AW) (b : Option Addr) (cs : List Value) : Prop := ∃ p, b = some ⟨p, 0, none⟩ ∧ A.rd p 0 cs.length = some cs
theorem flat_gives {A : AW} {f : FuncId} {b : Option Addr} {c m k : Nat} {cs : List Value} {e e2 : TypeId} (hm : 0 < m) (hf : ∃ j, noAddrs j cs = true) (h : SlAt A b cs)
    (hw : AC Tryd.prog f [.slice (some ⟨0, 0, none⟩) m c] (AW.of [(0, .cells cs e)] 1 1 0) (fun v A1 => v = .slice (some ⟨k, 0, none⟩) m m ∧ A1.objs k = some (.cells cs e2) ∧ 1 ≤ k)) :
    AC Tryd.prog f [.slice b m c] A (isR (.slice (some ⟨A.next, 0, none⟩) m m) (A.pushF 1 (fun _ => .cells cs e2))) := by
  obtain ⟨j, hf⟩ := hf
  obtain ⟨p, rfl, h⟩ := h
  have e0 : A.pushF 1 (fun _ => .cells cs e2) = A.push (.cells cs e2) := by
    unfold AW.pushF AW.push
    simp only [AW.mk.injEq, and_true]
    funext i
    by_cases q : i = A.next
    · rw [if_pos (by omega), if_pos q]
    · rw [if_neg (by omega), if_neg q]
  rw [e0]
  refine AC.mono (AC.givesX (Φ := fun x => x = cs) (e := e2) (SmallX.nil.cons (k := 0) (b := p) (f := 0) (o := .cells cs e) (.flat h hf)) (args := [.slice (some ⟨0, 0, none⟩) m c]) (v2 := .slice (some ⟨A.next, 0, none⟩) m m) ?_ (.sl rfl rfl .nil)) (fun v A1 hv => by obtain ⟨x, rfl, rfl, rfl⟩ := hv; exact ⟨rfl, rfl⟩)
  refine AC.mono hw ?_
  rintro v A1 ⟨rfl, h1, h2⟩
  exact ⟨k, cs, h1, h2, ⟨j, hf⟩, rfl, .sl (f := 0) (g := 0) (if_pos rfl) rfl .nil⟩
theorem ld_walk1 (a0 : Ld) (c : Nat) : AC Tryd.prog 30 [.slice (some ⟨0, 0, none⟩) 1 c] (AW.of [(0, .cells (ldC [a0]) 159)] 1 1 0) (fun v A1 => v = .slice (some ⟨3, 0, none⟩) 1 1 ∧ A1.objs 3 = some (.cells (ldC [a0]) 163) ∧ 1 ≤ 3) := by
  refine AC.go Tryd.func30 rfl rfl ?_
  repeat' (first
  | refine GT.unroll 2 ?_
  | refine GL.sf rfl rfl rfl rfl ?_
  | refine GL.nf rfl rfl rfl ?_
  | refine GL.done ?_
  | refine GP.thenN ?_
  | refine GT.seq ?_
  | refine GT.region ?_
  | refine GL.v rfl rfl rfl (by exact GO.add rfl rfl rfl (by omega)) ?_
  | refine GT.skip ?_
  | refine GT.block ?_
  | refine GT.ret ?_
  | refine GT.exit ?_
  | refine GP.thenE ?_
  | refine GP.inN ?_
  | refine GP.hit ?_
  | refine GP.againN ?_
  | refine GP.againE ?_
  | refine GU.step ?_
  | refine GT.condT rfl ?_
  | refine GT.condF rfl ?_
  | refine GP.endR1 rfl ?_)
  exact ⟨rfl, rfl, by decide⟩
theorem ld_walk2 (a0 a1 : Ld) (c : Nat) : AC Tryd.prog 30 [.slice (some ⟨0, 0, none⟩) 2 c] (AW.of [(0, .cells (ldC [a0, a1]) 159)] 1 1 0) (fun v A1 => v = .slice (some ⟨6, 0, none⟩) 2 2 ∧ A1.objs 6 = some (.cells (ldC [a0, a1]) 163) ∧ 1 ≤ 6) := by
  refine AC.go Tryd.func30 rfl rfl ?_
  repeat' (first
  | refine GT.unroll 3 ?_
  | refine GL.sf rfl rfl rfl rfl ?_
  | refine GL.nf rfl rfl rfl ?_
  | refine GL.done ?_
  | refine GP.thenN ?_
  | refine GT.seq ?_
  | refine GT.region ?_
  | refine GL.v rfl rfl rfl (by exact GO.add rfl rfl rfl (by omega)) ?_
  | refine GT.skip ?_
  | refine GT.block ?_
  | refine GT.ret ?_
  | refine GT.exit ?_
  | refine GP.thenE ?_
  | refine GP.inN ?_
  | refine GP.hit ?_
  | refine GP.againN ?_
  | refine GP.againE ?_
  | refine GU.step ?_
  | refine GT.condT rfl ?_
  | refine GT.condF rfl ?_
  | refine GP.endR1 rfl ?_)
  exact ⟨rfl, rfl, by decide⟩
theorem ld_walk3 (a0 a1 a2 : Ld) (c : Nat) : AC Tryd.prog 30 [.slice (some ⟨0, 0, none⟩) 3 c] (AW.of [(0, .cells (ldC [a0, a1, a2]) 159)] 1 1 0) (fun v A1 => v = .slice (some ⟨9, 0, none⟩) 3 3 ∧ A1.objs 9 = some (.cells (ldC [a0, a1, a2]) 163) ∧ 1 ≤ 9) := by
  refine AC.go Tryd.func30 rfl rfl ?_
  repeat' (first
  | refine GT.unroll 4 ?_
  | refine GL.sf rfl rfl rfl rfl ?_
  | refine GL.nf rfl rfl rfl ?_
  | refine GL.done ?_
  | refine GP.thenN ?_
  | refine GT.seq ?_
  | refine GT.region ?_
  | refine GL.v rfl rfl rfl (by exact GO.add rfl rfl rfl (by omega)) ?_
  | refine GT.skip ?_
  | refine GT.block ?_
  | refine GT.ret ?_
  | refine GT.exit ?_
  | refine GP.thenE ?_
  | refine GP.inN ?_
  | refine GP.hit ?_
  | refine GP.againN ?_
  | refine GP.againE ?_
  | refine GU.step ?_
  | refine GT.condT rfl ?_
  | refine GT.condF rfl ?_
  | refine GP.endR1 rfl ?_)
  exact ⟨rfl, rfl, by decide⟩
theorem mv_walk1 (a0 : Mv) (c : Nat) : AC Tryd.prog 27 [.slice (some ⟨0, 0, none⟩) 1 c] (AW.of [(0, .cells (mvC [a0]) 112)] 1 1 0) (fun v A1 => v = .slice (some ⟨3, 0, none⟩) 1 1 ∧ A1.objs 3 = some (.cells (mvC [a0]) 103) ∧ 1 ≤ 3) := by
  refine AC.go Tryd.func27 rfl rfl ?_
  repeat' (first
  | refine GT.unroll 2 ?_
  | refine GL.sf rfl rfl rfl rfl ?_
  | refine GL.nf rfl rfl rfl ?_
  | refine GL.done ?_
  | refine GP.thenN ?_
  | refine GT.seq ?_
  | refine GT.region ?_
  | refine GL.v rfl rfl rfl (by exact GO.add rfl rfl rfl (by omega)) ?_
  | refine GT.skip ?_
  | refine GT.block ?_
  | refine GT.ret ?_
  | refine GT.exit ?_
  | refine GP.thenE ?_
  | refine GP.inN ?_
  | refine GP.hit ?_
  | refine GP.againN ?_
  | refine GP.againE ?_
  | refine GU.step ?_
  | refine GT.condT rfl ?_
  | refine GT.condF rfl ?_
  | refine GP.endR1 rfl ?_)
  exact ⟨rfl, rfl, by decide⟩
theorem mv_walk2 (a0 a1 : Mv) (c : Nat) : AC Tryd.prog 27 [.slice (some ⟨0, 0, none⟩) 2 c] (AW.of [(0, .cells (mvC [a0, a1]) 112)] 1 1 0) (fun v A1 => v = .slice (some ⟨6, 0, none⟩) 2 2 ∧ A1.objs 6 = some (.cells (mvC [a0, a1]) 103) ∧ 1 ≤ 6) := by
  refine AC.go Tryd.func27 rfl rfl ?_
  repeat' (first
  | refine GT.unroll 3 ?_
  | refine GL.sf rfl rfl rfl rfl ?_
  | refine GL.nf rfl rfl rfl ?_
  | refine GL.done ?_
  | refine GP.thenN ?_
  | refine GT.seq ?_
  | refine GT.region ?_
  | refine GL.v rfl rfl rfl (by exact GO.add rfl rfl rfl (by omega)) ?_
  | refine GT.skip ?_
  | refine GT.block ?_
  | refine GT.ret ?_
  | refine GT.exit ?_
  | refine GP.thenE ?_
  | refine GP.inN ?_
  | refine GP.hit ?_
  | refine GP.againN ?_
  | refine GP.againE ?_
  | refine GU.step ?_
  | refine GT.condT rfl ?_
  | refine GT.condF rfl ?_
  | refine GP.endR1 rfl ?_)
  exact ⟨rfl, rfl, by decide⟩
theorem mv_walk3 (a0 a1 a2 : Mv) (c : Nat) : AC Tryd.prog 27 [.slice (some ⟨0, 0, none⟩) 3 c] (AW.of [(0, .cells (mvC [a0, a1, a2]) 112)] 1 1 0) (fun v A1 => v = .slice (some ⟨9, 0, none⟩) 3 3 ∧ A1.objs 9 = some (.cells (mvC [a0, a1, a2]) 103) ∧ 1 ≤ 9) := by
  refine AC.go Tryd.func27 rfl rfl ?_
  repeat' (first
  | refine GT.unroll 4 ?_
  | refine GL.sf rfl rfl rfl rfl ?_
  | refine GL.nf rfl rfl rfl ?_
  | refine GL.done ?_
  | refine GP.thenN ?_
  | refine GT.seq ?_
  | refine GT.region ?_
  | refine GL.v rfl rfl rfl (by exact GO.add rfl rfl rfl (by omega)) ?_
  | refine GT.skip ?_
  | refine GT.block ?_
  | refine GT.ret ?_
  | refine GT.exit ?_
  | refine GP.thenE ?_
  | refine GP.inN ?_
  | refine GP.hit ?_
  | refine GP.againN ?_
  | refine GP.againE ?_
  | refine GU.step ?_
  | refine GT.condT rfl ?_
  | refine GT.condF rfl ?_
  | refine GP.endR1 rfl ?_)
  exact ⟨rfl, rfl, by decide⟩
theorem mv_walk4 (a0 a1 a2 a3 : Mv) (c : Nat) : AC Tryd.prog 27 [.slice (some ⟨0, 0, none⟩) 4 c] (AW.of [(0, .cells (mvC [a0, a1, a2, a3]) 112)] 1 1 0) (fun v A1 => v = .slice (some ⟨12, 0, none⟩) 4 4 ∧ A1.objs 12 = some (.cells (mvC [a0, a1, a2, a3]) 103) ∧ 1 ≤ 12) := by
  refine AC.go Tryd.func27 rfl rfl ?_
  repeat' (first
  | refine GT.unroll 5 ?_
  | refine GL.sf rfl rfl rfl rfl ?_
  | refine GL.nf rfl rfl rfl ?_
  | refine GL.done ?_
  | refine GP.thenN ?_
  | refine GT.seq ?_
  | refine GT.region ?_
  | refine GL.v rfl rfl rfl (by exact GO.add rfl rfl rfl (by omega)) ?_
  | refine GT.skip ?_
  | refine GT.block ?_
  | refine GT.ret ?_
  | refine GT.exit ?_
  | refine GP.thenE ?_
  | refine GP.inN ?_
  | refine GP.hit ?_
  | refine GP.againN ?_
  | refine GP.againE ?_
  | refine GU.step ?_
  | refine GT.condT rfl ?_
  | refine GT.condF rfl ?_
  | refine GP.endR1 rfl ?_)
  exact ⟨rfl, rfl, by decide⟩
theorem w_landings30 {A : AW} {b : Option Addr} {c : Nat} (l : List Ld) (hl : l.length ≤ 3) (h : l = [] ∨ SlAt A b (ldC l)) : AC Tryd.prog 30 [.slice b l.length c] A (isR (.slice (slA (ne l) A.next) l.length l.length) (A.pad (n1 l) 1 (fun _ => .cells (ldC l) 163))) := by
  match l, hl, h with
  | [], _, _ => exact AC.padZ w_landings30e
  | [a0], _, .inr h => exact AC.padTo (flat_gives (Nat.succ_pos _) (ldC_flat _) h (ld_walk1 a0 c)) (Nat.le_refl _)
  | [a0], _, .inl h => exact absurd h (by simp)
  | [a0, a1], _, .inr h => exact AC.padTo (flat_gives (Nat.succ_pos _) (ldC_flat _) h (ld_walk2 a0 a1 c)) (Nat.le_refl _)
  | [a0, a1], _, .inl h => exact absurd h (by simp)
  | [a0, a1, a2], _, .inr h => exact AC.padTo (flat_gives (Nat.succ_pos _) (ldC_flat _) h (ld_walk3 a0 a1 a2 c)) (Nat.le_refl _)
  | [a0, a1, a2], _, .inl h => exact absurd h (by simp)
  | _ :: _ :: _ :: _ :: _, hl, _ => exact absurd hl (by simp only [List.length_cons]; omega)
theorem w_moves27 {A : AW} {b : Option Addr} {c : Nat} (l : List Mv) (hl : l.length ≤ 4) (h : l = [] ∨ SlAt A b (mvC l)) : AC Tryd.prog 27 [.slice b l.length c] A (isR (.slice (slA (ne l) A.next) l.length l.length) (A.pad (n1 l) 1 (fun _ => .cells (mvC l) 103))) := by
  match l, hl, h with
  | [], _, _ => exact AC.padZ w_moves27e
  | [a0], _, .inr h => exact AC.padTo (flat_gives (Nat.succ_pos _) (mvC_flat _) h (mv_walk1 a0 c)) (Nat.le_refl _)
  | [a0], _, .inl h => exact absurd h (by simp)
  | [a0, a1], _, .inr h => exact AC.padTo (flat_gives (Nat.succ_pos _) (mvC_flat _) h (mv_walk2 a0 a1 c)) (Nat.le_refl _)
  | [a0, a1], _, .inl h => exact absurd h (by simp)
  | [a0, a1, a2], _, .inr h => exact AC.padTo (flat_gives (Nat.succ_pos _) (mvC_flat _) h (mv_walk3 a0 a1 a2 c)) (Nat.le_refl _)
  | [a0, a1, a2], _, .inl h => exact absurd h (by simp)
  | [a0, a1, a2, a3], _, .inr h => exact AC.padTo (flat_gives (Nat.succ_pos _) (mvC_flat _) h (mv_walk4 a0 a1 a2 a3 c)) (Nat.le_refl _)
  | [a0, a1, a2, a3], _, .inl h => exact absurd h (by simp)
  | _ :: _ :: _ :: _ :: _ :: _, hl, _ => exact absurd hl (by simp only [List.length_cons]; omega)
theorem w_areas29 {A : AW} {b : Option Addr} {c : Nat} {ν κ : Nat → Nat} (l : List Ar) (hl : l.length ≤ 4) (hp : PsOk l) (h : l = [] ∨ ∃ p, b = some ⟨p, 0, none⟩ ∧ RaAt A p ν κ l) : AC Tryd.prog 29 [.slice b l.length c] A (isR (.slice (slA (ne l) A.next) l.length l.length) (A.pad (nF l) 5 (arF A.next l))) := by
  match l, hl, hp, h with
  | [], _, _, _ => exact AC.padZ w_areas29e
  | [a0], _, hp, .inr ⟨p, hb, h'⟩ => subst hb; exact AC.padTo (ar_gives rfl (Nat.succ_pos _) h' (ar_walk1 a0 κ c hp)) (Nat.le_of_ble_eq_true rfl)
  | [a0], _, _, .inl h => exact absurd h (by simp)
  | [a0, a1], _, hp, .inr ⟨p, hb, h'⟩ => subst hb; exact AC.padTo (ar_gives rfl (Nat.succ_pos _) h' (ar_walk2 a0 a1 κ c hp)) (Nat.le_of_ble_eq_true rfl)
  | [a0, a1], _, _, .inl h => exact absurd h (by simp)
  | [a0, a1, a2], _, hp, .inr ⟨p, hb, h'⟩ => subst hb; exact AC.padTo (ar_gives rfl (Nat.succ_pos _) h' (ar_walk3 a0 a1 a2 κ c hp)) (Nat.le_of_ble_eq_true rfl)
  | [a0, a1, a2], _, _, .inl h => exact absurd h (by simp)
  | [a0, a1, a2, a3], _, hp, .inr ⟨p, hb, h'⟩ => subst hb; exact AC.padTo (ar_gives rfl (Nat.succ_pos _) h' (ar_walk4 a0 a1 a2 a3 κ c hp)) (Nat.le_of_ble_eq_true rfl)
  | [a0, a1, a2, a3], _, _, .inl h => exact absurd h (by simp)
  | _ :: _ :: _ :: _ :: _ :: _, hl, _, _ => exact absurd hl (by simp only [List.length_cons]; omega)
end Go.M
