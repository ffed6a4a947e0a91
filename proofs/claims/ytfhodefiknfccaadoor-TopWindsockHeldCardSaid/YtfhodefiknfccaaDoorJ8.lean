/- Functions of the given program, walked (no condition beyond what each theorem says). -/
import Derived.Test.YtfhodefiknfccaaDoorJ7
set_option linter.unusedVariables false
set_option linter.unusedSimpArgs false
namespace Go.M
open Go.Proofs Go.RowKit
set_option maxRecDepth 8000
set_option maxHeartbeats 16000000
theorem Rn.tuple {ρ : Nat → Option Nat} {c c' : Array Value} (h : Rn ρ c.toList c'.toList) : Rn ρ [.tuple c] [.tuple c'] := fun β S β' S' vs' hρ hv => by
  cases vs' with
  | nil => have := hv.length; simp at this
  | cons v' vs' =>
    obtain rfl : vs' = [] := by have := hv.length; simp at this; exact this
    cases hv with
    | tuple g _ => exact .tuple (h β S β' S' _ hρ g) .nil
theorem w_blocked25 {A : AW} {x c n : Nat} (r : Rl) (hr : r.Ok) (μ : Nat → Mo) (hv : ∀ i, i < n → 0 ≤ (μ i).v ∧ (μ i).v ≤ 10000) (hn : 0 < n ∧ n ≤ 256) (hx : A.rd x 0 (moC μ n).length = some (moC μ n)) :
    AC Tryd.prog 25 [.agg r.vs.toArray, .slice (some ⟨x, 0, none⟩) n c] A (isR (.tuple #[.slice (some ⟨A.next, 0, none⟩) n n, .int .i64 0]) (A.pushO (n + 1) (bkF A.next r μ n))) := by
  obtain ⟨fz, hfz⟩ := mosC_flat (moL μ n)
  have hlen := moC_len (μ := μ) (n := n)
  refine AC.mono (AC.givesO (Φ := fun v q F => q = n + 1 ∧ F = bkF A.next r μ n ∧ v = .tuple #[.slice (some ⟨A.next, 0, none⟩) n n, .int .i64 0]) (SmallX.nil.cons (k := 0) (b := x) (f := 0) (o := .cells (moC μ n) 91) (.flat hx hfz)) (args := [.agg r.vs.toArray, .slice (some ⟨0, 0, none⟩) n c]) ?_
    (.flat (k := 32) rfl (.sl rfl rfl .nil))) (fun v A1 hv => by obtain ⟨q, F, ⟨rfl, rfl, rfl⟩, rfl⟩ := hv; exact ⟨rfl, rfl⟩)
  clear hx
  refine AC.goF Tryd.func25 rfl rfl ?_
  repeat' (first
  | refine GL.v rfl rfl rfl (GO.call rfl rfl Tryd.func64 rfl rfl rfl (AC.go Tryd.func64 rfl rfl (by repeat' (first | exact ⟨rfl, rfl⟩ | refine GL.sf rfl rfl rfl rfl ?_ | refine GL.done ?_ | refine GP.thenN ?_ | refine GT.seq ?_ | refine GT.region ?_ | refine GL.v rfl rfl rfl (by exact GO.mkfn rfl (fun _ h => by cases h) rfl rfl) ?_ | refine GT.ret ?_ | refine GP.endR1 rfl ?_)))) ?_
  | refine GP.fthen ?_
  | refine GF.range2 ?_
  | refine GP.range ?_
  | refine GF.seq ?_
  | refine GL.sf rfl rfl rfl rfl ?_
  | refine GL.done ?_
  | refine GP.thenN ?_
  | refine GT.seq ?_
  | refine GT.region ?_
  | refine GL.v rfl rfl rfl (by exact GO.call rfl rfl Tryd.func63 rfl rfl rfl (w_moments63 r hr μ hv hn (rd_self rfl))) ?_
  | refine GT.skip ?_
  | refine GT.condF rfl ?_)
  refine GRange.of (a := [(18, .func (.func 108) #[] #[.pointer (some ⟨4, 0, none⟩), .pointer (some ⟨3, 0, none⟩)]), (7, .pointer (some ⟨2, 0, none⟩)), (2, .pointer (some ⟨1, 0, none⟩))]) (asub_cons rfl (asub_cons rfl (asub_cons rfl asub_nil))) rfl rfl rfl rfl (fun f => ?_)
  refine AC.go Tryd.func108 rfl rfl ?_
  repeat' (first
  | refine GL.sf rfl rfl rfl rfl ?_
  | refine GL.sv rfl rfl rfl rfl ?_
  | refine GL.done ?_
  | refine GP.thenN ?_
  | refine GT.seq ?_
  | refine GT.region ?_
  | refine GT.block ?_)
  generalize hrec : (AObj.loop _ _ _ _ _ _ _) = rec
  have hrl : ObjLt 7 rec := by
    subst hrec
    intro t v hv
    exact EnvLt.get (.cons (.func .nil (.cons (.ptr rfl) (.ptr rfl)) (by intro l h; cases h)) (.cons (.ptr rfl) (.cons (.ptr rfl) .nil))) hv
  refine GT.loop (fun q a L nx => ∃ i : Nat, i ≤ n ∧ q = n - i ∧ 7 ≤ nx ∧ asub [(0, .func (.yield 6) #[] #[]), (1, .pointer (some ⟨4, 0, none⟩)), (2, .pointer (some ⟨3, 0, none⟩)), (4, .int .i64 (stS r μ i)), (5, .int .i64 (gdS r μ i)), (10, .slice (some ⟨0, 0, none⟩) n c), (11, .int .i64 n), (12, .int .i64 i)] a ∧ subm [(6, rec), (5, .dfr), (4, .cells [.slice (some ⟨0, 0, none⟩) n c] 80), (3, .cells r.vs 86), (1, .cells r.vs 86), (0, .cells (moC μ n) 91)] L ∧ ((i = 0 ∧ alook L 2 = some (.cells [.slice none 0 0] 87)) ∨ Bk r μ i L)) n
    ⟨0, by omega, by omega, by decide, asub_cons rfl (asub_cons rfl (asub_cons rfl (asub_cons rfl (asub_cons rfl (asub_cons rfl (asub_cons rfl (asub_cons rfl (asub_nil)))))))), subm_cons rfl (subm_cons rfl (subm_cons rfl (subm_cons rfl (subm_cons rfl (subm_cons rfl subm_nil))))), .inl ⟨rfl, rfl⟩⟩ ?_
  rintro q a L nx ⟨i, hi, rfl, hnx, hsa, hsub, hcase⟩
  have hU : Und 7 ((6, rec) :: (5, .dfr) :: (4, .cells [.slice (some ⟨0, 0, none⟩) n c] 80) :: (3, .cells r.vs 86) :: (1, .cells r.vs 86) :: (0, .cells (moC μ n) 91) :: []) := und_cons rfl hrl (und_cons rfl trivial (und_cons rfl (Lt.sl rfl) (und_cons rfl (Lt.flat (j := 32) rfl) (und_cons rfl (Lt.flat (j := 32) rfl) (und_cons rfl (Lt.flat hfz) (fun j y h => by cases h))))))
  have hE : EnvLt 7 [(0, .func (.yield 6) #[] #[]), (1, .pointer (some ⟨4, 0, none⟩)), (2, .pointer (some ⟨3, 0, none⟩)), (4, .int .i64 (stS r μ i)), (5, .int .i64 (gdS r μ i)), (10, .slice (some ⟨0, 0, none⟩) n c), (11, .int .i64 n), (12, .int .i64 i)] := .cons (.yield rfl) (.cons (.ptr rfl) (.cons (.ptr rfl) (.cons (.flat (j := 8) rfl) (.cons (.flat (j := 8) rfl) (.cons (.sl rfl) (.cons (.flat (j := 8) rfl) (.cons (.flat (j := 8) rfl) .nil)))))))
  have h0 := stS_range (r := r) (μ := μ) i
  have h1 := gdS_range (r := r) (μ := μ) i
  have h2 := hr.m
  have h3 := hr.pl
  have h4 := hr.ep
  rcases hcase with ⟨hi0, h2l⟩ | hB
  · refine GT.resetL (L' := (2, .cells [.slice none 0 0] 87) :: (6, rec) :: (5, .dfr) :: (4, .cells [.slice (some ⟨0, 0, none⟩) n c] 80) :: (3, .cells r.vs 86) :: (1, .cells r.vs 86) :: (0, .cells (moC μ n) 91) :: []) 7 hsa (subm_cons h2l hsub) hnx rfl rfl (und_cons rfl (Lt.flat (j := 8) rfl) hU) hE (fun g hg => absurd hg (Nat.not_lt_zero g)) ?_
    have hlt : i < n := by omega
    have hs0 : stS r μ i = 0 := by subst hi0; rfl
    have hg0 : gdS r μ i = 0 := by subst hi0; rfl
    clear hsa hsub hnx h2l hU hE
    have g2 : ((moC μ n).drop (0 + (i : Int).toNat * 4)).take 4 = (μ i).vs := by simpa using moC_at hlt
    have hgn : gdS r μ (i + 1) = gdN r (gdS r μ i) (μ i) := rfl
    have hsn : stS r μ (i + 1) = nextS r (stS r μ i) (gdS r μ (i + 1)) (μ i) := rfl
    unfold gdN at hgn
    cases hall : (μ i).all with
    | true =>
      rw [nextS_t hall] at hsn
      have km := fun {A : AW} => w_missing65t (A := A) (μ i) hall
      by_cases hvl : (μ i).v < r.l
      · rw [if_pos hvl] at hgn
        all_goals
      repeat' (first
      | refine GL.v rfl rfl rfl (GO.yield rfl rfl rfl rfl (congrArg some hrec.symm) rfl rfl rfl (by repeat' (first | exact GP.yBody rfl ⟨rfl, rfl⟩ | refine GP.yAssign (congrArg some hrec.symm) ?_ | refine GL.sf rfl rfl rfl rfl ?_ | refine GL.sv rfl rfl rfl rfl ?_ | refine GL.sn rfl rfl rfl ?_ | refine GL.done ?_ | refine GP.thenN ?_ | refine GT.seq ?_ | refine GT.region ?_ | refine GL.unguardG rfl rfl rfl ?_ | refine GL.skipG rfl rfl rfl rfl rfl ?_ | refine GL.v rfl rfl rfl (by exact GO.call rfl rfl Tryd.func65 rfl rfl rfl (km)) ?_ | refine GT.skip ?_ | refine GT.block ?_ | refine GP.inN ?_ | refine GT.condF rfl ?_ | (refine GT.condD rfl (fun h => ?_) (fun h => ?_) <;> try (exfalso; omega)) | (refine GL.forkDG rfl rfl rfl (fun h => ?_) (fun h => ?_) <;> try (exfalso; omega))))) ?_
      | refine GT.draws (id := 7) [[], [0], [0, 1], [0, 1, 2], [], [], [5], [4, 5, 6], [0, 1, 2, 3], [0, 1, 2, 3, 4, 5, 6, 7, 8]] [] (by kernel_rfl) ?_
      | refine GL.sf rfl rfl rfl rfl ?_
      | refine GL.sn rfl rfl rfl ?_
      | refine GL.done ?_
      | refine GP.thenN ?_
      | refine GT.seq ?_
      | refine GT.region ?_
      | refine GL.unguardG rfl rfl rfl ?_
      | refine GL.skipG rfl rfl rfl rfl rfl ?_
      | refine GL.skipUG rfl rfl rfl rfl rfl ?_
      | refine GD.li rfl rfl (by exact onAt.none rfl) rfl (by repeat first | exact AllG.nil rfl | refine AllG.cons rfl (by first | exact GO.sf rfl rfl | exact GO.sv rfl rfl | exact GO.call rfl rfl Tryd.func65 rfl rfl rfl (km)) ?_) ?_
      | refine GD.done rfl rfl rfl ?_
      | refine GL.v rfl rfl rfl (by first | exact GO.indexS (s := 4) rfl rfl rfl rfl rfl (by omega) | exact GO.loadG (s := 4) rfl rfl rfl rfl rfl rfl (by omega) g2 | exact GO.add rfl rfl rfl (by omega)) ?_
      | refine GT.skip ?_
      | refine GT.block ?_
      | refine GP.inN ?_
      | refine GT.condF rfl ?_
      | (refine GT.condD rfl (fun h => ?_) (fun h => ?_) <;> try (exfalso; omega))
      | (refine GL.forkDG rfl rfl rfl (fun h => ?_) (fun h => ?_) <;> try (exfalso; omega)))
        all_goals exact GP.invN (n - (i + 1)) (by omega) ⟨i + 1, by omega, rfl, Nat.le_of_ble_eq_true rfl, asub_cons rfl (asub_cons rfl (asub_cons rfl (asub_cons (congrArg (fun z => some (Value.int .i64 z)) (by rw [hsn]; (repeat' split) <;> omega)) (asub_cons (congrArg (fun z => some (Value.int .i64 z)) (by omega)) (asub_cons rfl (asub_cons rfl (asub_cons rfl (asub_nil)))))))), subm_cons (congrArg some hrec) (subm_cons rfl (subm_cons rfl (subm_cons rfl (subm_cons rfl (subm_cons rfl subm_nil))))), .inr (bk_leaf0 (by unfold bkB; rw [hall]; exact Bool.and_false _) (by subst hi0; rfl) (by exact Nat.le_of_ble_eq_true rfl) (by subst hi0; rfl) (by omega) (.inl hi0) (fun j hj => by omega))⟩
      · rw [if_neg hvl] at hgn
        all_goals
      repeat' (first
      | refine GL.v rfl rfl rfl (GO.yield rfl rfl rfl rfl (congrArg some hrec.symm) rfl rfl rfl (by repeat' (first | exact GP.yBody rfl ⟨rfl, rfl⟩ | refine GP.yAssign (congrArg some hrec.symm) ?_ | refine GL.sf rfl rfl rfl rfl ?_ | refine GL.sv rfl rfl rfl rfl ?_ | refine GL.sn rfl rfl rfl ?_ | refine GL.done ?_ | refine GP.thenN ?_ | refine GT.seq ?_ | refine GT.region ?_ | refine GL.skipG rfl rfl rfl rfl rfl ?_ | refine GT.skip ?_ | refine GT.block ?_ | refine GP.inN ?_ | refine GT.condF rfl ?_ | (refine GL.forkDG rfl rfl rfl (fun h => ?_) (fun h => ?_) <;> try (exfalso; omega))))) ?_
      | refine GT.draws (id := 7) [[], [0], [0, 1], [0, 1, 2], [], [], [5], [4, 5, 6], [0, 1, 2, 3], [0, 1, 2, 3, 4, 5, 6, 7, 8]] [] (by kernel_rfl) ?_
      | refine GL.sf rfl rfl rfl rfl ?_
      | refine GL.sn rfl rfl rfl ?_
      | refine GL.done ?_
      | refine GP.thenN ?_
      | refine GT.seq ?_
      | refine GT.region ?_
      | refine GL.unguardG rfl rfl rfl ?_
      | refine GL.skipG rfl rfl rfl rfl rfl ?_
      | refine GL.skipUG rfl rfl rfl rfl rfl ?_
      | refine GD.li rfl rfl (by exact onAt.none rfl) rfl (by repeat first | exact AllG.nil rfl | refine AllG.cons rfl (by first | exact GO.sf rfl rfl | exact GO.sv rfl rfl | exact GO.call rfl rfl Tryd.func65 rfl rfl rfl (km)) ?_) ?_
      | refine GD.done rfl rfl rfl ?_
      | refine GL.v rfl rfl rfl (by first | exact GO.indexS (s := 4) rfl rfl rfl rfl rfl (by omega) | exact GO.loadG (s := 4) rfl rfl rfl rfl rfl rfl (by omega) g2 | exact GO.add rfl rfl rfl (by omega)) ?_
      | refine GT.skip ?_
      | refine GT.block ?_
      | refine GP.inN ?_
      | refine GT.condF rfl ?_
      | (refine GT.condD rfl (fun h => ?_) (fun h => ?_) <;> try (exfalso; omega))
      | (refine GL.forkDG rfl rfl rfl (fun h => ?_) (fun h => ?_) <;> try (exfalso; omega)))
        all_goals exact GP.invN (n - (i + 1)) (by omega) ⟨i + 1, by omega, rfl, Nat.le_of_ble_eq_true rfl, asub_cons rfl (asub_cons rfl (asub_cons rfl (asub_cons (congrArg (fun z => some (Value.int .i64 z)) (by rw [hsn]; (repeat' split) <;> omega)) (asub_cons (congrArg (fun z => some (Value.int .i64 z)) (by omega)) (asub_cons rfl (asub_cons rfl (asub_cons rfl (asub_nil)))))))), subm_cons (congrArg some hrec) (subm_cons rfl (subm_cons rfl (subm_cons rfl (subm_cons rfl (subm_cons rfl subm_nil))))), .inr (bk_leaf0 (by unfold bkB; rw [hall]; exact Bool.and_false _) (by subst hi0; rfl) (by exact Nat.le_of_ble_eq_true rfl) (by subst hi0; rfl) (by omega) (.inl hi0) (fun j hj => by omega))⟩
    | false =>
      rw [nextS_f hall] at hsn
      have km := fun {A : AW} => w_missing65f (A := A) (μ i) hall
      have hwl := wdL_pos hall
      have hd1 : decide (((wdL (μ i)).length : Int) = 0) = false := decide_eq_false (by omega)
      by_cases hvl : (μ i).v < r.l
      · rw [if_pos hvl] at hgn
        by_cases hve : (μ i).v < r.e
        all_goals
      repeat' (first
      | refine GL.v rfl rfl rfl (GO.yield rfl rfl rfl rfl (congrArg some hrec.symm) rfl rfl rfl (by repeat' (first | exact GP.yBody rfl ⟨rfl, rfl⟩ | refine GP.yAssign (congrArg some hrec.symm) ?_ | refine GL.sf rfl rfl rfl rfl ?_ | refine GL.sv rfl rfl rfl rfl ?_ | refine GL.sn rfl rfl rfl ?_ | refine GL.done ?_ | refine GP.thenN ?_ | refine GT.seq ?_ | refine GT.region ?_ | refine GL.unguardG rfl rfl rfl ?_ | refine GL.skipG rfl rfl rfl rfl rfl ?_ | refine GL.v rfl rfl rfl (by exact GO.push (GO.call rfl rfl Tryd.func65 rfl rfl rfl (km))) ?_ | refine GT.skip ?_ | refine GT.block ?_ | refine GP.inN ?_ | refine GT.condF rfl ?_ | (refine GT.condD rfl (fun h => ?_) (fun h => ?_) <;> try (exfalso; omega)) | (refine GL.forkDG rfl rfl rfl (fun h => ?_) (fun h => ?_) <;> try (exfalso; omega))))) ?_
      | refine GT.draws (id := 7) [[], [0], [0, 1], [0, 1, 2], [], [], [5], [4, 5, 6], [0, 1, 2, 3], [0, 1, 2, 3, 4, 5, 6, 7, 8]] [1] (by kernel_rfl) ?_
      | refine GL.sf rfl rfl rfl rfl ?_
      | refine GL.sn rfl rfl rfl ?_
      | refine GL.done ?_
      | refine GP.thenN ?_
      | refine GT.seq ?_
      | refine GT.region ?_
      | refine GL.unguardG rfl rfl rfl ?_
      | refine GL.skipG rfl rfl rfl rfl rfl ?_
      | refine GL.skipUG rfl rfl rfl rfl rfl ?_
      | refine GD.li rfl rfl (by exact onAt.none rfl) rfl (by repeat first | exact AllG.nil rfl | refine AllG.cons rfl (by first | exact GO.sf rfl rfl | exact GO.sv rfl rfl) ?_) ?_
      | refine GD.he rfl rfl rfl (by exact onAt.none rfl) rfl (by exact GO.push (GO.call rfl rfl Tryd.func65 rfl rfl rfl (km))) ?_ ?_
      | refine GD.done rfl rfl rfl ?_
      | exact AllJs.nil rfl
      | refine GL.v rfl rfl rfl (by first | exact GO.indexS (s := 4) rfl rfl rfl rfl rfl (by omega) | exact GO.loadG (s := 4) rfl rfl rfl rfl rfl rfl (by omega) g2 | exact GO.add rfl rfl rfl (by omega)) ?_
      | refine GT.skip ?_
      | refine GT.block ?_
      | refine GP.inN ?_
      | refine GT.condF rfl ?_
      | (refine GT.condD rfl (fun h => ?_) (fun h => ?_) <;> try (exfalso; omega))
      | (refine GL.forkDG rfl rfl rfl (fun h => ?_) (fun h => ?_) <;> try (exfalso; omega)))
        all_goals first
          | exact GP.invN (n - (i + 1)) (by omega) ⟨i + 1, by omega, rfl, Nat.le_of_ble_eq_true rfl, asub_cons rfl (asub_cons rfl (asub_cons rfl (asub_cons (congrArg (fun z => some (Value.int .i64 z)) (by rw [hsn]; (repeat' split) <;> omega)) (asub_cons (congrArg (fun z => some (Value.int .i64 z)) (by omega)) (asub_cons rfl (asub_cons rfl (asub_cons rfl (asub_nil)))))))), subm_cons (congrArg some hrec) (subm_cons rfl (subm_cons rfl (subm_cons rfl (subm_cons rfl (subm_cons rfl subm_nil))))), .inr (bk_leaf0 (by unfold bkB; rw [decide_eq_false (show ¬(stN r μ i = 1 ∧ (μ i).v < r.e) from fun hh => by obtain ⟨q1, q2⟩ := hh; have q1 : stS r μ (i + 1) = 1 := q1; rw [hsn] at q1; (repeat' split at q1) <;> omega)]; rfl) (by subst hi0; rfl) (by exact Nat.le_of_ble_eq_true rfl) (by subst hi0; rfl) (by omega) (.inl hi0) (fun j hj => by omega))⟩
          | exact GP.invN (n - (i + 1)) (by omega) ⟨i + 1, by omega, rfl, Nat.le_of_ble_eq_true rfl, asub_cons rfl (asub_cons rfl (asub_cons rfl (asub_cons (congrArg (fun z => some (Value.int .i64 z)) (by rw [hsn]; (repeat' split) <;> omega)) (asub_cons (congrArg (fun z => some (Value.int .i64 z)) (by omega)) (asub_cons rfl (asub_cons rfl (asub_cons rfl (asub_nil)))))))), subm_cons (congrArg some hrec) (subm_cons rfl (subm_cons rfl (subm_cons rfl (subm_cons rfl (subm_cons rfl subm_nil))))), .inr (bk_leaf1 (by unfold bkB; rw [hall, decide_eq_true (show stN r μ i = 1 ∧ (μ i).v < r.e from ⟨by show stS r μ (i + 1) = 1; rw [hsn]; (repeat' split) <;> omega, by omega⟩)]; rfl) (by subst hi0; rfl) (by subst hi0; rfl) (by exact Nat.le_of_ble_eq_true rfl) (by exact Nat.le_of_ble_eq_true rfl) (by exact Nat.ne_of_beq_eq_false rfl) rfl (by omega) (.inl hi0) (.inl hi0) (fun j hj => by omega))⟩
      · rw [if_neg hvl] at hgn
        all_goals
      repeat' (first
      | refine GL.v rfl rfl rfl (GO.yield rfl rfl rfl rfl (congrArg some hrec.symm) rfl rfl rfl (by repeat' (first | exact GP.yBody rfl ⟨rfl, rfl⟩ | refine GP.yAssign (congrArg some hrec.symm) ?_ | refine GL.sf rfl rfl rfl rfl ?_ | refine GL.sv rfl rfl rfl rfl ?_ | refine GL.sn rfl rfl rfl ?_ | refine GL.done ?_ | refine GP.thenN ?_ | refine GT.seq ?_ | refine GT.region ?_ | refine GL.skipG rfl rfl rfl rfl rfl ?_ | refine GT.skip ?_ | refine GT.block ?_ | refine GP.inN ?_ | refine GT.condF rfl ?_ | (refine GL.forkDG rfl rfl rfl (fun h => ?_) (fun h => ?_) <;> try (exfalso; omega))))) ?_
      | refine GT.draws (id := 7) [[], [0], [0, 1], [0, 1, 2], [], [], [5], [4, 5, 6], [0, 1, 2, 3], [0, 1, 2, 3, 4, 5, 6, 7, 8]] [1] (by kernel_rfl) ?_
      | refine GL.sf rfl rfl rfl rfl ?_
      | refine GL.sn rfl rfl rfl ?_
      | refine GL.done ?_
      | refine GP.thenN ?_
      | refine GT.seq ?_
      | refine GT.region ?_
      | refine GL.unguardG rfl rfl rfl ?_
      | refine GL.skipG rfl rfl rfl rfl rfl ?_
      | refine GL.skipUG rfl rfl rfl rfl rfl ?_
      | refine GD.li rfl rfl (by exact onAt.none rfl) rfl (by repeat first | exact AllG.nil rfl | refine AllG.cons rfl (by first | exact GO.sf rfl rfl | exact GO.sv rfl rfl) ?_) ?_
      | refine GD.he rfl rfl rfl (by exact onAt.none rfl) rfl (by exact GO.push (GO.call rfl rfl Tryd.func65 rfl rfl rfl (km))) ?_ ?_
      | refine GD.done rfl rfl rfl ?_
      | exact AllJs.nil rfl
      | refine GL.v rfl rfl rfl (by first | exact GO.indexS (s := 4) rfl rfl rfl rfl rfl (by omega) | exact GO.loadG (s := 4) rfl rfl rfl rfl rfl rfl (by omega) g2 | exact GO.add rfl rfl rfl (by omega)) ?_
      | refine GT.skip ?_
      | refine GT.block ?_
      | refine GP.inN ?_
      | refine GT.condF rfl ?_
      | (refine GT.condD rfl (fun h => ?_) (fun h => ?_) <;> try (exfalso; omega))
      | (refine GL.forkDG rfl rfl rfl (fun h => ?_) (fun h => ?_) <;> try (exfalso; omega)))
        all_goals first
          | exact GP.invN (n - (i + 1)) (by omega) ⟨i + 1, by omega, rfl, Nat.le_of_ble_eq_true rfl, asub_cons rfl (asub_cons rfl (asub_cons rfl (asub_cons (congrArg (fun z => some (Value.int .i64 z)) (by rw [hsn]; (repeat' split) <;> omega)) (asub_cons (congrArg (fun z => some (Value.int .i64 z)) (by omega)) (asub_cons rfl (asub_cons rfl (asub_cons rfl (asub_nil)))))))), subm_cons (congrArg some hrec) (subm_cons rfl (subm_cons rfl (subm_cons rfl (subm_cons rfl (subm_cons rfl subm_nil))))), .inr (bk_leaf0 (by unfold bkB; rw [decide_eq_false (show ¬(stN r μ i = 1 ∧ (μ i).v < r.e) from fun hh => by obtain ⟨q1, q2⟩ := hh; have q1 : stS r μ (i + 1) = 1 := q1; rw [hsn] at q1; (repeat' split at q1) <;> omega)]; rfl) (by subst hi0; rfl) (by exact Nat.le_of_ble_eq_true rfl) (by subst hi0; rfl) (by omega) (.inl hi0) (fun j hj => by omega))⟩
          | exact GP.invN (n - (i + 1)) (by omega) ⟨i + 1, by omega, rfl, Nat.le_of_ble_eq_true rfl, asub_cons rfl (asub_cons rfl (asub_cons rfl (asub_cons (congrArg (fun z => some (Value.int .i64 z)) (by rw [hsn]; (repeat' split) <;> omega)) (asub_cons (congrArg (fun z => some (Value.int .i64 z)) (by omega)) (asub_cons rfl (asub_cons rfl (asub_cons rfl (asub_nil)))))))), subm_cons (congrArg some hrec) (subm_cons rfl (subm_cons rfl (subm_cons rfl (subm_cons rfl (subm_cons rfl subm_nil))))), .inr (bk_leaf1 (by unfold bkB; rw [hall, decide_eq_true (show stN r μ i = 1 ∧ (μ i).v < r.e from ⟨by show stS r μ (i + 1) = 1; rw [hsn]; (repeat' split) <;> omega, by omega⟩)]; rfl) (by subst hi0; rfl) (by subst hi0; rfl) (by exact Nat.le_of_ble_eq_true rfl) (by exact Nat.le_of_ble_eq_true rfl) (by exact Nat.ne_of_beq_eq_false rfl) rfl (by omega) (.inl hi0) (.inl hi0) (fun j hj => by omega))⟩
  · refine bk_ren (L' := (6, rec) :: (5, .dfr) :: (4, .cells [.slice (some ⟨0, 0, none⟩) n c] 80) :: (3, .cells r.vs 86) :: (1, .cells r.vs 86) :: (0, .cells (moC μ n) 91) :: []) (by omega) hsa hE hsub hU hB rfl ?_
    have hfam : ∀ j, j < i → bkB r μ j = true → alook (famO (wdF r μ) 8 i ++ []) (8 + j) = some (wdO (μ j)) := fun j hj hb => by
      rw [famO_look _ 8 [] i _ (fun _ _ => rfl), if_pos ⟨by omega, by omega⟩, show 8 + j - 8 = j by omega]; exact wdF_t hb
    have hpos : 0 < i := by obtain ⟨_, _, _, h, _⟩ := hB; exact h
    clear hsa hsub hnx hU hE hB
    rcases Nat.lt_or_ge i n with hlt | hge
    · have hnl : (blC r μ (fun j => 8 + j) i).length = i * 1 := by rw [blC_len]; omega
      have g2 : ((moC μ n).drop (0 + (i : Int).toNat * 4)).take 4 = (μ i).vs := by simpa using moC_at hlt
      have hgn : gdS r μ (i + 1) = gdN r (gdS r μ i) (μ i) := rfl
      have hsn : stS r μ (i + 1) = nextS r (stS r μ i) (gdS r μ (i + 1)) (μ i) := rfl
      unfold gdN at hgn
      cases hall : (μ i).all with
      | true =>
        rw [nextS_t hall] at hsn
        have km := fun {A : AW} => w_missing65t (A := A) (μ i) hall
        by_cases hvl : (μ i).v < r.l
        · rw [if_pos hvl] at hgn
          all_goals
        repeat' (first
        | refine GL.v rfl rfl rfl (GO.yield rfl rfl rfl rfl (congrArg some hrec.symm) rfl rfl rfl (by repeat' (first | exact GP.yBody rfl ⟨rfl, rfl⟩ | refine GP.yAssign (congrArg some hrec.symm) ?_ | refine GL.sf rfl rfl rfl rfl ?_ | refine GL.sv rfl rfl rfl rfl ?_ | refine GL.sn rfl rfl rfl ?_ | refine GL.done ?_ | refine GP.thenN ?_ | refine GT.seq ?_ | refine GT.region ?_ | refine GL.unguardG rfl rfl rfl ?_ | refine GL.skipG rfl rfl rfl rfl rfl ?_ | refine GL.v rfl rfl rfl (by first | exact GO.call rfl rfl Tryd.func65 rfl rfl rfl (km) | exact GO.appendG rfl rfl rfl rfl rfl rfl rfl rfl rfl rfl rfl rfl rfl rfl hnl (by decide) rfl (Nat.le_of_ble_eq_true rfl) (by omega)) ?_ | refine GT.skip ?_ | refine GT.block ?_ | refine GP.inN ?_ | refine GT.condF rfl ?_ | (refine GT.condD rfl (fun h => ?_) (fun h => ?_) <;> try (exfalso; omega)) | (refine GL.forkDG rfl rfl rfl (fun h => ?_) (fun h => ?_) <;> try (exfalso; omega))))) ?_
        | refine GT.draws (id := 7) [[], [0], [0, 1], [0, 1, 2], [], [], [5], [4, 5, 6], [0, 1, 2, 3], [0, 1, 2, 3, 4, 5, 6, 7, 8]] [] (by kernel_rfl) ?_
        | refine GL.sf rfl rfl rfl rfl ?_
        | refine GL.sn rfl rfl rfl ?_
        | refine GL.done ?_
        | refine GP.thenN ?_
        | refine GT.seq ?_
        | refine GT.region ?_
        | refine GL.unguardG rfl rfl rfl ?_
        | refine GL.skipG rfl rfl rfl rfl rfl ?_
        | refine GL.skipUG rfl rfl rfl rfl rfl ?_
        | refine GD.li rfl rfl (by exact onAt.none rfl) rfl (by repeat first | exact AllG.nil rfl | refine AllG.cons rfl (by first | exact GO.sf rfl rfl | exact GO.sv rfl rfl | exact GO.call rfl rfl Tryd.func65 rfl rfl rfl (km)) ?_) ?_
        | refine GD.done rfl rfl rfl ?_
        | refine GL.v rfl rfl rfl (by first | exact GO.indexS (s := 4) rfl rfl rfl rfl rfl (by omega) | exact GO.loadG (s := 4) rfl rfl rfl rfl rfl rfl (by omega) g2 | exact GO.add rfl rfl rfl (by omega)) ?_
        | refine GT.skip ?_
        | refine GT.block ?_
        | refine GP.inN ?_
        | refine GT.condT rfl ?_
        | refine GT.condF rfl ?_
        | (refine GT.condD rfl (fun h => ?_) (fun h => ?_) <;> try (exfalso; omega))
        | (refine GL.forkDG rfl rfl rfl (fun h => ?_) (fun h => ?_) <;> try (exfalso; omega)))
          all_goals exact GP.invN (n - (i + 1)) (by omega) ⟨i + 1, by omega, rfl, Nat.le_of_ble_eq_true rfl, asub_cons rfl (asub_cons rfl (asub_cons rfl (asub_cons (congrArg (fun z => some (Value.int .i64 z)) (by rw [hsn]; (repeat' split) <;> omega)) (asub_cons (congrArg (fun z => some (Value.int .i64 z)) (by omega)) (asub_cons rfl (asub_cons rfl (asub_cons rfl (asub_nil)))))))), subm_cons (congrArg some hrec) (subm_cons rfl (subm_cons rfl (subm_cons rfl (subm_cons rfl (subm_cons rfl subm_nil))))), .inr (bk_leaf0 (by unfold bkB; rw [hall]; exact Bool.and_false _) rfl (by exact Nat.le_of_ble_eq_true rfl) rfl (by omega) (.inr (by exact Nat.le_of_ble_eq_true rfl)) (fun j hj hb => by simp only [alook_aset, alook_aerase, alook, List.cons_append, List.nil_append]; (repeat rw [if_neg (by omega)]); exact hfam j hj hb))⟩
        · rw [if_neg hvl] at hgn
          all_goals
        repeat' (first
        | refine GL.v rfl rfl rfl (GO.yield rfl rfl rfl rfl (congrArg some hrec.symm) rfl rfl rfl (by repeat' (first | exact GP.yBody rfl ⟨rfl, rfl⟩ | refine GP.yAssign (congrArg some hrec.symm) ?_ | refine GL.sf rfl rfl rfl rfl ?_ | refine GL.sv rfl rfl rfl rfl ?_ | refine GL.sn rfl rfl rfl ?_ | refine GL.done ?_ | refine GP.thenN ?_ | refine GT.seq ?_ | refine GT.region ?_ | refine GL.unguardG rfl rfl rfl ?_ | refine GL.skipG rfl rfl rfl rfl rfl ?_ | refine GL.v rfl rfl rfl (by exact GO.appendG rfl rfl rfl rfl rfl rfl rfl rfl rfl rfl rfl rfl rfl rfl hnl (by decide) rfl (Nat.le_of_ble_eq_true rfl) (by omega)) ?_ | refine GT.skip ?_ | refine GT.block ?_ | refine GP.inN ?_ | refine GT.condF rfl ?_ | (refine GT.condD rfl (fun h => ?_) (fun h => ?_) <;> try (exfalso; omega)) | (refine GL.forkDG rfl rfl rfl (fun h => ?_) (fun h => ?_) <;> try (exfalso; omega))))) ?_
        | refine GT.draws (id := 7) [[], [0], [0, 1], [0, 1, 2], [], [], [5], [4, 5, 6], [0, 1, 2, 3], [0, 1, 2, 3, 4, 5, 6, 7, 8]] [] (by kernel_rfl) ?_
        | refine GL.sf rfl rfl rfl rfl ?_
        | refine GL.sn rfl rfl rfl ?_
        | refine GL.done ?_
        | refine GP.thenN ?_
        | refine GT.seq ?_
        | refine GT.region ?_
        | refine GL.unguardG rfl rfl rfl ?_
        | refine GL.skipG rfl rfl rfl rfl rfl ?_
        | refine GL.skipUG rfl rfl rfl rfl rfl ?_
        | refine GD.li rfl rfl (by exact onAt.none rfl) rfl (by repeat first | exact AllG.nil rfl | refine AllG.cons rfl (by first | exact GO.sf rfl rfl | exact GO.sv rfl rfl | exact GO.call rfl rfl Tryd.func65 rfl rfl rfl (km)) ?_) ?_
        | refine GD.done rfl rfl rfl ?_
        | refine GL.v rfl rfl rfl (by first | exact GO.indexS (s := 4) rfl rfl rfl rfl rfl (by omega) | exact GO.loadG (s := 4) rfl rfl rfl rfl rfl rfl (by omega) g2 | exact GO.add rfl rfl rfl (by omega)) ?_
        | refine GT.skip ?_
        | refine GT.block ?_
        | refine GP.inN ?_
        | refine GT.condF rfl ?_
        | (refine GT.condD rfl (fun h => ?_) (fun h => ?_) <;> try (exfalso; omega))
        | (refine GL.forkDG rfl rfl rfl (fun h => ?_) (fun h => ?_) <;> try (exfalso; omega)))
          all_goals exact GP.invN (n - (i + 1)) (by omega) ⟨i + 1, by omega, rfl, Nat.le_of_ble_eq_true rfl, asub_cons rfl (asub_cons rfl (asub_cons rfl (asub_cons (congrArg (fun z => some (Value.int .i64 z)) (by rw [hsn]; (repeat' split) <;> omega)) (asub_cons (congrArg (fun z => some (Value.int .i64 z)) (by omega)) (asub_cons rfl (asub_cons rfl (asub_cons rfl (asub_nil)))))))), subm_cons (congrArg some hrec) (subm_cons rfl (subm_cons rfl (subm_cons rfl (subm_cons rfl (subm_cons rfl subm_nil))))), .inr (bk_leaf0 (by unfold bkB; rw [hall]; exact Bool.and_false _) rfl (by exact Nat.le_of_ble_eq_true rfl) rfl (by omega) (.inr (by exact Nat.le_of_ble_eq_true rfl)) (fun j hj hb => by simp only [alook_aset, alook_aerase, alook, List.cons_append, List.nil_append]; (repeat rw [if_neg (by omega)]); exact hfam j hj hb))⟩
      | false =>
        rw [nextS_f hall] at hsn
        have km := fun {A : AW} => w_missing65f (A := A) (μ i) hall
        have hwl := wdL_pos hall
        have hd1 : decide (((wdL (μ i)).length : Int) = 0) = false := decide_eq_false (by omega)
        by_cases hvl : (μ i).v < r.l
        · rw [if_pos hvl] at hgn
          rcases h0 with h0 | h0 | h0 <;> by_cases hve : (μ i).v < r.e
          all_goals
        repeat' (first
        | refine GL.v rfl rfl rfl (GO.yield rfl rfl rfl rfl (congrArg some hrec.symm) rfl rfl rfl (by repeat' (first | exact GP.yBody rfl ⟨rfl, rfl⟩ | refine GP.yAssign (congrArg some hrec.symm) ?_ | refine GL.sf rfl rfl rfl rfl ?_ | refine GL.sv rfl rfl rfl rfl ?_ | refine GL.sn rfl rfl rfl ?_ | refine GL.done ?_ | refine GP.thenN ?_ | refine GT.seq ?_ | refine GT.region ?_ | refine GL.unguardG rfl rfl rfl ?_ | refine GL.skipG rfl rfl rfl rfl rfl ?_ | refine GL.v rfl rfl rfl (by first | exact GO.push (GO.call rfl rfl Tryd.func65 rfl rfl rfl (km)) | exact GO.appendG rfl rfl rfl rfl rfl rfl rfl rfl rfl rfl rfl rfl rfl rfl hnl (by decide) rfl (Nat.le_of_ble_eq_true rfl) (by omega)) ?_ | refine GT.skip ?_ | refine GT.block ?_ | refine GP.inN ?_ | refine GT.condF rfl ?_ | (refine GT.condD rfl (fun h => ?_) (fun h => ?_) <;> try (exfalso; omega)) | (refine GL.forkDG rfl rfl rfl (fun h => ?_) (fun h => ?_) <;> try (exfalso; omega))))) ?_
        | refine GT.draws (id := 7) [[], [0], [0, 1], [0, 1, 2], [], [], [5], [4, 5, 6], [0, 1, 2, 3], [0, 1, 2, 3, 4, 5, 6, 7, 8]] [1] (by kernel_rfl) ?_
        | refine GL.sf rfl rfl rfl rfl ?_
        | refine GL.sn rfl rfl rfl ?_
        | refine GL.done ?_
        | refine GP.thenN ?_
        | refine GT.seq ?_
        | refine GT.region ?_
        | refine GL.unguardG rfl rfl rfl ?_
        | refine GL.skipG rfl rfl rfl rfl rfl ?_
        | refine GL.skipUG rfl rfl rfl rfl rfl ?_
        | refine GD.li rfl rfl (by exact onAt.none rfl) rfl (by repeat first | exact AllG.nil rfl | refine AllG.cons rfl (by first | exact GO.sf rfl rfl | exact GO.sv rfl rfl) ?_) ?_
        | refine GD.he rfl rfl rfl (by exact onAt.none rfl) rfl (by exact GO.push (GO.call rfl rfl Tryd.func65 rfl rfl rfl (km))) ?_ ?_
        | refine GD.done rfl rfl rfl ?_
        | exact AllJs.nil rfl
        | refine GL.v rfl rfl rfl (by first | exact GO.indexS (s := 4) rfl rfl rfl rfl rfl (by omega) | exact GO.loadG (s := 4) rfl rfl rfl rfl rfl rfl (by omega) g2 | exact GO.add rfl rfl rfl (by omega)) ?_
        | refine GT.skip ?_
        | refine GT.block ?_
        | refine GP.inN ?_
        | refine GT.condT rfl ?_
        | refine GT.condF rfl ?_
        | (refine GT.condD rfl (fun h => ?_) (fun h => ?_) <;> try (exfalso; omega))
        | (refine GL.forkDG rfl rfl rfl (fun h => ?_) (fun h => ?_) <;> try (exfalso; omega))
        | (refine GL.forkNG rfl rfl rfl (fun h => ?_) (fun h => ?_) <;> try (exfalso; omega)))
          all_goals first
            | exact GP.invN (n - (i + 1)) (by omega) ⟨i + 1, by omega, rfl, Nat.le_of_ble_eq_true rfl, asub_cons rfl (asub_cons rfl (asub_cons rfl (asub_cons (congrArg (fun z => some (Value.int .i64 z)) (by rw [hsn]; (repeat' split) <;> omega)) (asub_cons (congrArg (fun z => some (Value.int .i64 z)) (by omega)) (asub_cons rfl (asub_cons rfl (asub_cons rfl (asub_nil)))))))), subm_cons (congrArg some hrec) (subm_cons rfl (subm_cons rfl (subm_cons rfl (subm_cons rfl (subm_cons rfl subm_nil))))), .inr (bk_leaf0 (by unfold bkB; rw [decide_eq_false (show ¬(stN r μ i = 1 ∧ (μ i).v < r.e) from fun hh => by obtain ⟨q1, q2⟩ := hh; have q1 : stS r μ (i + 1) = 1 := q1; rw [hsn] at q1; (repeat' split at q1) <;> omega)]; rfl) rfl (by exact Nat.le_of_ble_eq_true rfl) rfl (by omega) (.inr (by exact Nat.le_of_ble_eq_true rfl)) (fun j hj hb => by simp only [alook_aset, alook_aerase, alook, List.cons_append, List.nil_append]; (repeat rw [if_neg (by omega)]); exact hfam j hj hb))⟩
            | exact GP.invN (n - (i + 1)) (by omega) ⟨i + 1, by omega, rfl, Nat.le_of_ble_eq_true rfl, asub_cons rfl (asub_cons rfl (asub_cons rfl (asub_cons (congrArg (fun z => some (Value.int .i64 z)) (by rw [hsn]; (repeat' split) <;> omega)) (asub_cons (congrArg (fun z => some (Value.int .i64 z)) (by omega)) (asub_cons rfl (asub_cons rfl (asub_cons rfl (asub_nil)))))))), subm_cons (congrArg some hrec) (subm_cons rfl (subm_cons rfl (subm_cons rfl (subm_cons rfl (subm_cons rfl subm_nil))))), .inr (bk_leaf1 (by unfold bkB; rw [hall, decide_eq_true (show stN r μ i = 1 ∧ (μ i).v < r.e from ⟨by show stS r μ (i + 1) = 1; rw [hsn]; (repeat' split) <;> omega, by omega⟩)]; rfl) rfl rfl (by exact Nat.le_of_ble_eq_true rfl) (by exact Nat.le_of_ble_eq_true rfl) (by exact Nat.ne_of_beq_eq_false rfl) rfl (by omega) (.inr (by exact Nat.le_of_ble_eq_true rfl)) (.inr (by exact Nat.le_of_ble_eq_true rfl)) (fun j hj hb => by simp only [alook_aset, alook_aerase, alook, List.cons_append, List.nil_append]; (repeat rw [if_neg (by omega)]); exact hfam j hj hb))⟩
        · rw [if_neg hvl] at hgn
          rcases h0 with h0 | h0 | h0
          all_goals
        repeat' (first
        | refine GL.v rfl rfl rfl (GO.yield rfl rfl rfl rfl (congrArg some hrec.symm) rfl rfl rfl (by repeat' (first | exact GP.yBody rfl ⟨rfl, rfl⟩ | refine GP.yAssign (congrArg some hrec.symm) ?_ | refine GL.sf rfl rfl rfl rfl ?_ | refine GL.sv rfl rfl rfl rfl ?_ | refine GL.sn rfl rfl rfl ?_ | refine GL.done ?_ | refine GP.thenN ?_ | refine GT.seq ?_ | refine GT.region ?_ | refine GL.unguardG rfl rfl rfl ?_ | refine GL.skipG rfl rfl rfl rfl rfl ?_ | refine GL.v rfl rfl rfl (by exact GO.appendG rfl rfl rfl rfl rfl rfl rfl rfl rfl rfl rfl rfl rfl rfl hnl (by decide) rfl (Nat.le_of_ble_eq_true rfl) (by omega)) ?_ | refine GT.skip ?_ | refine GT.block ?_ | refine GP.inN ?_ | refine GT.condF rfl ?_ | (refine GT.condD rfl (fun h => ?_) (fun h => ?_) <;> try (exfalso; omega)) | (refine GL.forkDG rfl rfl rfl (fun h => ?_) (fun h => ?_) <;> try (exfalso; omega))))) ?_
        | refine GT.draws (id := 7) [[], [0], [0, 1], [0, 1, 2], [], [], [5], [4, 5, 6], [0, 1, 2, 3], [0, 1, 2, 3, 4, 5, 6, 7, 8]] [1] (by kernel_rfl) ?_
        | refine GL.sf rfl rfl rfl rfl ?_
        | refine GL.sn rfl rfl rfl ?_
        | refine GL.done ?_
        | refine GP.thenN ?_
        | refine GT.seq ?_
        | refine GT.region ?_
        | refine GL.unguardG rfl rfl rfl ?_
        | refine GL.skipG rfl rfl rfl rfl rfl ?_
        | refine GL.skipUG rfl rfl rfl rfl rfl ?_
        | refine GD.li rfl rfl (by exact onAt.none rfl) rfl (by repeat first | exact AllG.nil rfl | refine AllG.cons rfl (by first | exact GO.sf rfl rfl | exact GO.sv rfl rfl) ?_) ?_
        | refine GD.he rfl rfl rfl (by exact onAt.none rfl) rfl (by exact GO.push (GO.call rfl rfl Tryd.func65 rfl rfl rfl (km))) ?_ ?_
        | refine GD.done rfl rfl rfl ?_
        | exact AllJs.nil rfl
        | refine GL.v rfl rfl rfl (by first | exact GO.indexS (s := 4) rfl rfl rfl rfl rfl (by omega) | exact GO.loadG (s := 4) rfl rfl rfl rfl rfl rfl (by omega) g2 | exact GO.add rfl rfl rfl (by omega)) ?_
        | refine GT.skip ?_
        | refine GT.block ?_
        | refine GP.inN ?_
        | refine GT.condT rfl ?_
        | refine GT.condF rfl ?_
        | (refine GT.condD rfl (fun h => ?_) (fun h => ?_) <;> try (exfalso; omega))
        | (refine GL.forkDG rfl rfl rfl (fun h => ?_) (fun h => ?_) <;> try (exfalso; omega))
        | (refine GL.forkNG rfl rfl rfl (fun h => ?_) (fun h => ?_) <;> try (exfalso; omega)))
          all_goals first
            | exact GP.invN (n - (i + 1)) (by omega) ⟨i + 1, by omega, rfl, Nat.le_of_ble_eq_true rfl, asub_cons rfl (asub_cons rfl (asub_cons rfl (asub_cons (congrArg (fun z => some (Value.int .i64 z)) (by rw [hsn]; (repeat' split) <;> omega)) (asub_cons (congrArg (fun z => some (Value.int .i64 z)) (by omega)) (asub_cons rfl (asub_cons rfl (asub_cons rfl (asub_nil)))))))), subm_cons (congrArg some hrec) (subm_cons rfl (subm_cons rfl (subm_cons rfl (subm_cons rfl (subm_cons rfl subm_nil))))), .inr (bk_leaf0 (by unfold bkB; rw [decide_eq_false (show ¬(stN r μ i = 1 ∧ (μ i).v < r.e) from fun hh => by obtain ⟨q1, q2⟩ := hh; have q1 : stS r μ (i + 1) = 1 := q1; rw [hsn] at q1; (repeat' split at q1) <;> omega)]; rfl) rfl (by exact Nat.le_of_ble_eq_true rfl) rfl (by omega) (.inr (by exact Nat.le_of_ble_eq_true rfl)) (fun j hj hb => by simp only [alook_aset, alook_aerase, alook, List.cons_append, List.nil_append]; (repeat rw [if_neg (by omega)]); exact hfam j hj hb))⟩
            | exact GP.invN (n - (i + 1)) (by omega) ⟨i + 1, by omega, rfl, Nat.le_of_ble_eq_true rfl, asub_cons rfl (asub_cons rfl (asub_cons rfl (asub_cons (congrArg (fun z => some (Value.int .i64 z)) (by rw [hsn]; (repeat' split) <;> omega)) (asub_cons (congrArg (fun z => some (Value.int .i64 z)) (by omega)) (asub_cons rfl (asub_cons rfl (asub_cons rfl (asub_nil)))))))), subm_cons (congrArg some hrec) (subm_cons rfl (subm_cons rfl (subm_cons rfl (subm_cons rfl (subm_cons rfl subm_nil))))), .inr (bk_leaf1 (by unfold bkB; rw [hall, decide_eq_true (show stN r μ i = 1 ∧ (μ i).v < r.e from ⟨by show stS r μ (i + 1) = 1; rw [hsn]; (repeat' split) <;> omega, by omega⟩)]; rfl) rfl rfl (by exact Nat.le_of_ble_eq_true rfl) (by exact Nat.le_of_ble_eq_true rfl) (by exact Nat.ne_of_beq_eq_false rfl) rfl (by omega) (.inr (by exact Nat.le_of_ble_eq_true rfl)) (.inr (by exact Nat.le_of_ble_eq_true rfl)) (fun j hj hb => by simp only [alook_aset, alook_aerase, alook, List.cons_append, List.nil_append]; (repeat rw [if_neg (by omega)]); exact hfam j hj hb))⟩
    · obtain rfl : i = n := by omega
      repeat' (first
      | refine GL.sf rfl rfl rfl rfl ?_
      | refine GL.done ?_
      | refine GP.thenN ?_
      | refine GT.seq ?_
      | refine GT.region ?_
      | refine GT.exit ?_
      | refine GP.thenE ?_
      | refine GP.hit ?_
      | refine GP.invE ?_
      | (refine GT.condD rfl (fun h => ?_) (fun h => ?_) <;> try (exfalso; omega))
      | refine GP.endN0 rfl ?_)
      refine ⟨_, _, rfl, rfl, rfl, ?_⟩
      repeat' (first
      | refine GP.fend2 rfl rfl ?_
      | refine GL.sf rfl rfl rfl rfl ?_
      | refine GL.sv rfl rfl rfl rfl ?_
      | refine GL.done ?_)
      have hρ : ∀ j, j < i → bkB r μ j = true → rhoP A.next (i + 1) (bkF A.next r μ i) (fun j => 7 + j) (A.next + 1 + j) = some (8 + j) := fun j hj hb => by
        have := rhoP_at (N := A.next) (n := i + 1) (i := j + 1) (F := bkF A.next r μ i) (ν := fun j => 7 + j) (by omega) (by show (wdF r μ j).isSome = true; rw [wdF_t hb]; rfl)
        rw [show A.next + 1 + j = A.next + (j + 1) by omega, this]
        congr 1; omega
      refine ⟨i + 1, bkF A.next r μ i, fun j => 7 + j, .tuple #[.slice (some ⟨A.next, 0, none⟩) i i, .int .i64 0], ⟨rfl, rfl, rfl⟩, fun j hj _ => by show 1 ≤ 7 + j; omega, fun j j' _ _ _ _ e => by have e : 7 + j = 7 + j' := e; omega, fun j y hj hy => ?_, .tuple (.cons (.sl ?_) (.flat (k := 8) rfl))⟩
      · match j, hj, hy with
        | 0, _, hy =>
        cases hy
        exact ⟨.cells (blC r μ (fun j => 8 + j) i) 93, rfl, rfl, blC_Rn fun j hj hb => hρ j hj hb⟩
        | j + 1, hj, hy =>
        have hy : wdF r μ j = some y := hy
        cases hb : bkB r μ j with
        | false => rw [wdF_f hb] at hy; cases hy
        | true =>
          rw [wdF_t hb] at hy; cases hy
          refine ⟨wdO (μ j), ?_, rfl, .flat (strC_flat _).choose_spec⟩
          show alook _ (7 + (j + 1)) = _
          rw [show 7 + (j + 1) = 8 + j by omega]
          simp only [alook_aset, alook_aerase, alook, List.cons_append, List.nil_append]; (repeat rw [if_neg (by omega)]); exact hfam j (by omega) hb
      · exact rhoP_at (i := 0) (by omega) rfl
end Go.M
