/- Functions of the given program, walked (no condition beyond what each theorem says). -/
import Derived.Test.YtfhodefiknfccaaDoorK1
import Derived.Test.YtfhodefiknfccaaDoorJ2
set_option linter.unusedVariables false
set_option linter.unusedSimpArgs false
namespace Go.M
open Go.Proofs Go.RowKit
set_option maxRecDepth 16000
set_option maxHeartbeats 16000000
theorem w_permitted28C {B : LM} {nx ro N : Nat} (l : List Ar) (d : List Ld) (y0 : Mv) (hO : ScOk l d [y0]) (hl : l.length ≤ 4) (hB : Bel N B) (h0 : alook B 0 = some (.cells [] 0)) (h1 : alook B 1 = some (.cells [] 0)) (h2 : alook B 2 = some (.cells sidesC 274)) :
    AC Tryd.prog 28 [.slice (slA (ne l) N) l.length l.length, .slice (slA (ne d) (N + 5)) d.length d.length, .agg y0.vs.toArray]
      (AW.of ((B ++ (famB (arF N l) N (nF l) ++ [])) ++ (famB (fun _ => .cells (ldC d) 163) (N + 5) (n1 d) ++ [])) nx ro 3) (isR (.tuple #[.bool (!anyHit agB d [y0] l), .int .i64 0]) (AW.of ((B ++ (famB (arF N l) N (nF l) ++ [])) ++ (famB (fun _ => .cells (ldC d) 163) (N + 5) (n1 d) ++ [])) nx ro 3)) := by
  have hn5 : nF l ≤ 5 := by cases l <;> simp only [nF, List.length_cons] at hl ⊢ <;> omega
  have hd1 : n1 d ≤ 1 := by cases d <;> simp [n1]
  have b1 : Bel (N + 5) (B ++ (famB (arF N l) N (nF l) ++ [])) := ltA (hB.mono (by omega)) (ltF (by omega) ltN)
  have hG : GW (AW.of ((B ++ (famB (arF N l) N (nF l) ++ [])) ++ (famB (fun _ => .cells (ldC d) 163) (N + 5) (n1 d) ++ [])) nx ro 3) :=
    ⟨rfl, rd_zero2 (app_old (app_old h0)), rd_zero2 (app_old (app_old h1)), rd_self (app_old (app_old h2))⟩
  have kA : ∃ p ν, slA (ne l) N = slA (ne l) p ∧ ArAt (AW.of ((B ++ (famB (arF N l) N (nF l) ++ [])) ++ (famB (fun _ => .cells (ldC d) 163) (N + 5) (n1 d) ++ [])) nx ro 3) p ν l := by
    cases l with
    | nil => exact ⟨0, fun _ => 0, rfl, hG.g0, fun i a h => by simp at h⟩
    | cons a l =>
      refine ⟨N, fun j => N + 1 + j, rfl, rd_self (app_old (app_fam (i := 0) hB (by simp [nF]))), fun i x hx => ?_⟩
      have hi := (List.getElem?_eq_some_iff.1 hx).1
      have := app_fam (L := B) (F := arF N (a :: l)) (b := N) (m := nF (a :: l)) (i := i + 1) (X := []) hB (by simp only [nF]; omega)
      rw [show N + (i + 1) = N + 1 + i by omega] at this
      have e : arF N (a :: l) (i + 1) = .cells (ptC x.ps) 97 := by simp only [arF]; rw [arP_at hx]
      rw [e] at this
      exact rd_self (app_old this)
  have kD : ∃ q, slA (ne d) (N + 5) = slA (ne d) q ∧ (AW.of ((B ++ (famB (arF N l) N (nF l) ++ [])) ++ (famB (fun _ => .cells (ldC d) 163) (N + 5) (n1 d) ++ [])) nx ro 3).rd q 0 (ldC d).length = some (ldC d) := by
    cases d with
    | nil => exact ⟨0, rfl, hG.g0⟩
    | cons a d => exact ⟨N + 5, rfl, rd_self (app_fam (i := 0) b1 (by simp [n1]))⟩
  obtain ⟨p, ν, ep, hA⟩ := kA
  obtain ⟨q, eq, hD⟩ := kD
  rw [ep, eq]
  refine w_permitted28 l d y0 ⟨fun h => ?_, fun h => ?_, fun h => by cases h⟩ hO ⟨hG, hA, hD, hG.g0⟩
  · cases l with
    | nil => exact ⟨rfl, rfl⟩
    | cons a l => cases h
  · cases d with
    | nil => exact ⟨rfl, rfl⟩
    | cons a l => cases h
/-- The scene of the fixed example. -/
abbrev hAr : Ar := ⟨⟨#[97]⟩, 0, 1, [(0, 0), (6, 0), (0, 6)]⟩
abbrev hLd : Ld := ⟨⟨#[108]⟩, 2, 0, 9⟩
abbrev hMv : Mv := ⟨⟨#[109]⟩, 0, 1, 1, 2, 2, 2, 3⟩
theorem one_name {b : UInt8} (h : 97 ≤ b.toNat ∧ b.toNat ≤ 122) : NameOk ⟨#[b]⟩ := by
  refine ⟨by show 0 < 1; decide, by show 1 ≤ 24; decide, fun i c hc => ?_⟩
  match i, hc with
  | 0, hc => cases hc; exact .inl (.inr h)
  | i + 1, hc => simp at hc
theorem hPoly : PolyOk [(0, 0), (6, 0), (0, 6)] := by
  refine ⟨by decide, fun i hi => ?_, fun i hi => ?_, fun i k hi hk => ?_, fun i k hk hi => ?_⟩
  · match i, hi with
    | 0, _ => decide
    | 1, _ => decide
    | 2, _ => decide
  · match i, hi with
    | 0, _ => decide
    | 1, _ => decide
    | 2, _ => decide
  · match i, hi, k, hk with
    | 0, _, 0, _ => decide
    | 0, _, 1, _ => decide
    | 0, _, 2, _ => decide
    | 1, _, 0, _ => decide
    | 1, _, 1, _ => decide
    | 1, _, 2, _ => decide
    | 2, _, 0, _ => decide
    | 2, _, 1, _ => decide
    | 2, _, 2, _ => decide
  · match i, hi, k, hk with
    | 1, _, 0, _ => decide
    | 2, _, 0, _ => decide
    | 2, _, 1, _ => decide
theorem hScene : ScOk [hAr] [hLd] [hMv] := by
  refine ⟨⟨fun i x h => ?_, fun i j x y hj h1 h2 => ?_⟩, by decide, ⟨fun i x h => ?_, fun i j x y hj h1 h2 => ?_⟩, by decide, ⟨fun i x h => ?_, fun i j x y hj h1 h2 => ?_⟩, by decide⟩
  · match i, h with
    | 0, h => cases h; exact ⟨one_name (by decide), by decide, by decide, hPoly⟩
    | i + 1, h => simp at h
  · have := (List.getElem?_eq_some_iff.1 h1).1
    simp at this; omega
  · match i, h with
    | 0, h => cases h; exact ⟨one_name (by decide), by decide, by show 0 ≤ 0 ∧ _; decide⟩
    | i + 1, h => simp at h
  · have := (List.getElem?_eq_some_iff.1 h1).1
    simp at this; omega
  · match i, h with
    | 0, h => cases h; exact ⟨one_name (by decide), by decide, by show In6 1 ∧ _; decide, by show 0 ≤ 2 ∧ _; decide⟩
    | i + 1, h => simp at h
  · have := (List.getElem?_eq_some_iff.1 h1).1
    simp at this; omega
def hMo (i : Nat) : Mo := ⟨500, clearB [hAr] [hLd] [hMv] i, true, true⟩
abbrev hRl : Rl := ⟨800, 600, 1000, 2⟩
theorem hRlOk : hRl.Ok := ⟨by decide, by decide, by decide, by decide, by decide, by decide⟩
theorem hSteps : intC (stN hRl hMo) 4 = [.int .i64 1, .int .i64 2, .int .i64 1, .int .i64 2] := by
  have c0 : clearB [hAr] [hLd] [hMv] (0 : Nat) = true := by decide
  have c1 : clearB [hAr] [hLd] [hMv] (1 : Nat) = true := by decide
  have c2 : clearB [hAr] [hLd] [hMv] (2 : Nat) = false := by decide
  have c3 : clearB [hAr] [hLd] [hMv] (3 : Nat) = true := by decide
  have m0 : hMo 0 = ⟨500, true, true, true⟩ := by unfold hMo; rw [c0]
  have m1 : hMo 1 = ⟨500, true, true, true⟩ := by unfold hMo; rw [c1]
  have m2 : hMo 2 = ⟨500, false, true, true⟩ := by unfold hMo; rw [c2]
  have m3 : hMo 3 = ⟨500, true, true, true⟩ := by unfold hMo; rw [c3]
  have g1 : gdS hRl hMo 1 = 0 := by unfold gdS gdN; rw [m0]; rfl
  have g2 : gdS hRl hMo 2 = 0 := by unfold gdS gdN; rw [m1]; rfl
  have g3 : gdS hRl hMo 3 = 0 := by unfold gdS gdN; rw [m2]; rfl
  have g4 : gdS hRl hMo 4 = 0 := by unfold gdS gdN; rw [m3]; rfl
  have s1 : stS hRl hMo 1 = 1 := by unfold stS; rw [g1, m0]; rfl
  have s2 : stS hRl hMo 2 = 2 := by unfold stS; rw [g2, m1, s1]; rfl
  have s3 : stS hRl hMo 3 = 1 := by unfold stS; rw [g3, m2, s2]; rfl
  have s4 : stS hRl hMo 4 = 2 := by unfold stS; rw [g4, m3, s3]; rfl
  show [Value.int .i64 (stS hRl hMo 1), .int .i64 (stS hRl hMo 2), .int .i64 (stS hRl hMo 3), .int .i64 (stS hRl hMo 4)] = _
  rw [s1, s2, s3, s4]
theorem w_held22 {A : AW} (hG : GW A) : AC Tryd.prog 22 [] A (isR (.bool true) A) := by
  refine AC.isX hG.small (args := []) ?_ ⟨8, rfl⟩ .nil
  have kc := fun {A : AW} {p q r : Nat} {ν : Nat → Nat} {t : Int} (ht : 0 ≤ t ∧ t ≤ 100000000) (h : ScAt A p q r ν [hAr] [hLd] [hMv]) =>
    (w_clear62 (x' := true) (y' := true) (z' := true) (ca := 1) (cb := 1) (cc := 1) [hAr] [hLd] [hMv] t ht ⟨fun h => (by cases h), fun h => (by cases h), fun h => (by cases h)⟩ hScene h : AC Tryd.prog 62 [.slice (some ⟨p, 0, none⟩) 1 1, .slice (some ⟨q, 0, none⟩) 1 1, .slice (some ⟨r, 0, none⟩) 1 1, .int .i64 t] A _)
  have ks := fun {A : AW} {x c : Nat} (hx : A.rd x 0 (moC hMo 4).length = some (moC hMo 4)) => (w_steps24 (A := A) (x := x) (c := c) (n := 4) hRl hRlOk hMo (fun i _ => ⟨by show (0 : Int) ≤ 500; decide, by show (500 : Int) ≤ 10000; decide⟩) (by decide) hx : AC Tryd.prog 24 [.agg hRl.vs.toArray, .slice (some ⟨x, 0, none⟩) 4 c] A _)
  have ke := fun {A : AW} {p q c c' : Nat} hp hq => w_same31 (A := A) (p := p) (q := q) (n := 4) (c := c) (c' := c') (stN hRl hMo) (by decide) hp hq
  have hsc : ∀ {L : LM} {nx ro p q r x : Nat}, alook L 0 = some (.cells [] 0) → alook L 1 = some (.cells [] 0) → alook L 2 = some (.cells sidesC 274) → alook L p = some (.cells (hAr.vs x) 162) → alook L x = some (.cells (ptC hAr.ps) 97) → alook L q = some (.cells hLd.vs 163) → alook L r = some (.cells hMv.vs 103) →
      ScAt (AW.of L nx ro 3) p q r (fun _ => x) [hAr] [hLd] [hMv] := fun h0 h1 h2 h3 h4 h5 h6 =>
    ⟨⟨rfl, rd_zero2 h0, rd_zero2 h1, rd_self h2⟩, ⟨rd_self h3, fun i a ha => by
      match i, ha with
      | 0, ha => cases ha; exact rd_self h4
      | i + 1, ha => simp at ha⟩, rd_self h5, rd_self h6⟩
  refine AC.go Tryd.func22 rfl rfl ?_
  repeat' (first
  | refine GT.unroll 5 ?_
  | refine GL.sf rfl rfl rfl rfl ?_
  | refine GL.done ?_
  | refine GP.thenN ?_
  | refine GT.seq ?_
  | refine GT.region ?_
  | refine GL.unguardG rfl rfl rfl ?_
  | refine GL.v rfl rfl rfl (by first | exact GO.call rfl rfl Tryd.func62 rfl rfl rfl (kc (by decide) (hsc rfl rfl rfl rfl rfl rfl rfl)) | exact GO.push (GO.call rfl rfl Tryd.func24 rfl rfl rfl (ks (rd_self rfl))) | exact GO.call rfl rfl Tryd.func31 rfl rfl rfl (ke (rd_self rfl) (by rw [hSteps]; exact rd_self rfl)) | exact GO.add rfl rfl rfl (by omega)) ?_
  | refine GT.skip ?_
  | refine GT.block ?_
  | refine GT.ret ?_
  | refine GT.exit ?_
  | refine GP.thenE ?_
  | refine GP.inN ?_
  | refine GP.hit ?_
  | refine GP.againN ?_
  | refine GP.againE ?_
  | refine GU.step ?_
  | refine GT.condT rfl ?_
  | refine GT.condF rfl ?_
  | refine GP.endR1 rfl ?_)
  rfl
end Go.M
