/- Functions of the given program, walked (no condition beyond what each theorem says). -/
import Derived.Test.YtfhodefiknfccaaDoorB8
import Derived.Test.YtfhodefiknfccaaDoorA5
import Derived.Test.YtfhodefiknfccaaDoorE3
set_option linter.unusedVariables false
set_option linter.unusedSimpArgs false
namespace Go.M
open Go.Proofs Go.RowKit
set_option maxRecDepth 8000
set_option maxHeartbeats 4000000
/-- As many copies of one object, from the name 1 on. -/
def famO (x : AObj) : Nat → LM
  | 0 => []
  | m + 1 => (1 + m, x) :: famO x m
theorem famO_look (x : AObj) : ∀ (m j : Nat), alook (famO x m) j = if 1 ≤ j ∧ j < 1 + m then some x else none
  | 0, j => by simp only [famO, alook]; rw [if_neg (by omega)]
  | m + 1, j => by
    simp only [famO, alook]
    by_cases q : 1 + m = j
    · rw [if_pos q, if_pos (by omega)]
    · rw [if_neg q, famO_look x m j]
      by_cases q2 : 1 ≤ j ∧ j < 1 + m
      · rw [if_pos q2, if_pos (by omega)]
      · rw [if_neg q2, if_neg (by omega)]
/-- The cells of seconds whose readings have these names. -/
def secV (ν : Nat → Nat) (n m : Nat) : List Value := (List.range m).flatMap fun i => [.slice (some ⟨ν i, 0, none⟩) n n, .int .i64 0]
theorem secV_succ (ν : Nat → Nat) (n m : Nat) : secV ν n (m + 1) = secV ν n m ++ [.slice (some ⟨ν m, 0, none⟩) n n, .int .i64 0] := by
  unfold secV
  rw [List.range_succ, List.flatMap_append]
  simp
theorem secV_len (ν : Nat → Nat) (n : Nat) : ∀ m, (secV ν n m).length = m * 2
  | 0 => rfl
  | m + 1 => by rw [secV_succ, List.length_append, secV_len ν n m]; simp; omega
theorem secV_congr {ν ν' : Nat → Nat} {n : Nat} : ∀ {m : Nat}, (∀ i, i < m → ν i = ν' i) → secV ν n m = secV ν' n m
  | 0, _ => rfl
  | m + 1, h => by rw [secV_succ, secV_succ, secV_congr (fun i hi => h i (by omega)), h m (by omega)]
theorem secV_Rn {ρ : Nat → Option Nat} {ν ν' : Nat → Nat} {n : Nat} : ∀ {m : Nat}, (∀ i, i < m → ρ (ν i) = some (ν' i)) → Rn ρ (secV ν n m) (secV ν' n m)
  | 0, _ => Rn.nil
  | m + 1, h => by
    rw [secV_succ, secV_succ]
    exact (secV_Rn (fun i hi => h i (by omega))).append (.cons (.sl (h m (by omega))) (.flat (k := 8) rfl))
/-- The memory while seconds are made. -/
abbrev LS (rds : List Value) (n i : Nat) : LM := (900, .cells (secV (fun j => 1 + j) n i) 130) :: (0, .cells rds 46) :: famO (.cells rds 46) i
theorem LS_lt {rds : List Value} {n i j : Nat} {y : AObj} (hi : i ≤ 800) (h : alook (LS rds n i) j = some y) : j < 901 := by
  simp only [alook] at h
  split at h
  · omega
  · split at h
    · omega
    · rw [famO_look] at h
      split at h
      · omega
      · cases h
theorem d_seconds12s (rds : List Value) (n c m N : Nat) (hn : 0 < n ∧ n ≤ 1000) (hm : 0 < m ∧ m ≤ 800) (hlen : rds.length = n * 2) (hflat : ∃ k, noAddrs k rds = true) (hone : rds.all (·.oneCell') = true) :
    AC Tryd.prog 12 [.slice (some ⟨0, 0, none⟩) n c, .int .i64 m] (AW.of [(0, .cells rds 46)] 1 1 0)
      (fun v A1 => ∃ (ν : Nat → Nat) (o : Nat), v = .slice (some ⟨o, 0, none⟩) m m ∧ A1.objs o = some (.cells (secV ν n m) 130) ∧ 1 ≤ o ∧ (∀ i, i < m → A1.objs (ν i) = some (.cells rds 46) ∧ 1 ≤ ν i ∧ ν i ≠ o) ∧ (∀ i j, i < m → j < m → ν i = ν j → i = j)) := by
  refine AC.go Tryd.func12 rfl rfl ?_
  repeat' (first
  | refine GL.sf rfl rfl rfl rfl ?_
  | refine GL.done ?_
  | refine GP.thenN ?_
  | refine GT.seq ?_
  | refine GT.region ?_
  | refine GT.block ?_)
  refine GT.loop (fun q a L nx => ∃ (i : Nat), i ≤ m ∧ q = m - i ∧ 1 ≤ nx ∧ alook L 0 = some (.cells rds 46) ∧ asub [(0, .slice (some ⟨0, 0, none⟩) n c), (6, .int .i64 m), (7, .int .i64 i)] a ∧
      ((i = 0 ∧ aget a 5 = some (.slice none 0 0)) ∨ ∃ (ν : Nat → Nat) (o : Nat), 0 < i ∧ aget a 5 = some (.slice (some ⟨o, 0, none⟩) i i) ∧ alook L o = some (.cells (secV ν n i) 130) ∧ 1 ≤ o ∧ (∀ j, j < i → alook L (ν j) = some (.cells rds 46) ∧ 1 ≤ ν j ∧ ν j ≠ o) ∧ (∀ j j', j < i → j' < i → ν j = ν j' → j = j'))) m
    ⟨0, by omega, by omega, by decide, rfl, asub_cons rfl (asub_cons rfl (asub_cons rfl asub_nil)), .inl ⟨rfl, rfl⟩⟩ ?_
  rintro q a L nx ⟨i, hi, rfl, hnx, h0, hs, hcase⟩
  obtain ⟨fk, hfk⟩ := hflat
  rcases hcase with ⟨rfl, h5⟩ | ⟨ν, o, hpos, h5, hob, ho1, hν, hinj⟩
  · refine GT.resetL 1 (a1 := [(0, .slice (some ⟨0, 0, none⟩) n c), (5, .slice none 0 0), (6, .int .i64 m), (7, .int .i64 (0 : Int))]) (L' := [(0, .cells rds 46)]) (asub_cons (hs 0 _ rfl) (asub_cons h5 (asub_cons (hs 6 _ rfl) (asub_cons (hs 7 _ rfl) asub_nil)))) (subm_cons h0 subm_nil) hnx rfl rfl (Under.look (.cons rfl (Lt.flat hfk) .nil)) (.cons (.sl rfl) (.cons (.flat (j := 8) rfl) (.cons (.flat (j := 8) rfl) (.cons (.flat (j := 8) rfl) .nil)))) (fun g hg => absurd hg (Nat.not_lt_zero g)) ?_
    repeat' (first
    | refine GL.sf rfl rfl rfl rfl ?_
    | refine GL.sv rfl rfl rfl rfl ?_
    | refine GL.done ?_
    | refine GP.thenN ?_
    | refine GT.seq ?_
    | refine GT.region ?_
    | refine GL.v rfl rfl rfl (by first | exact GO.appendE rfl rfl rfl rfl rfl rfl rfl rfl rfl rfl rfl (asrc_all hn.1 hlen rfl) hone rfl (by decide) rfl (Nat.le_of_ble_eq_true rfl) hn.1 (by omega) | exact GO.add rfl rfl rfl (by omega)) ?_
    | refine GT.skip ?_
    | refine GT.block ?_
    | refine GP.inN ?_
    | (refine GT.condD rfl (fun h => ?_) (fun h => ?_) <;> try (exfalso; omega)))
    exact GP.invN (m - 1) (by omega) ⟨1, by omega, rfl, by decide, rfl, asub_cons rfl (asub_cons rfl (asub_cons rfl asub_nil)), .inr ⟨fun _ => 2, 4, by omega, rfl, rfl, by decide, fun j hj => ⟨rfl, show 1 ≤ 2 by decide, show 2 ≠ 4 by decide⟩, fun j j' hj hj' _ => by omega⟩⟩
  · refine GT.rename (fun j => if j = 0 then some 0 else if j = 900 then some o else if j < 1 + i then some (ν (j - 1)) else none) (LS rds n i) 901 [(0, .slice (some ⟨0, 0, none⟩) n c), (5, .slice (some ⟨900, 0, none⟩) i i), (6, .int .i64 m), (7, .int .i64 i)] ?_ ?_ ?_ ?_ ?_ ?_ (by decide) (by decide) (fun g hg => absurd hg (Nat.not_lt_zero g)) ?_
    · intro t v hv
      simp only [aget] at hv
      split at hv
      · rename_i e; subst e; cases hv; exact ⟨_, hs 0 _ rfl, .sl rfl⟩
      split at hv
      · rename_i e; subst e; cases hv; exact ⟨_, h5, .sl rfl⟩
      split at hv
      · rename_i e; subst e; cases hv; exact ⟨_, hs 6 _ rfl, .flat (k := 8) rfl⟩
      split at hv
      · rename_i e; subst e; cases hv; exact ⟨_, hs 7 _ rfl, .flat (k := 8) rfl⟩
      · cases hv
    · intro j y hy
      refine ⟨LS_lt (by omega) hy, ?_⟩
      simp only [alook] at hy
      split at hy
      · rename_i e; subst e; cases hy
        exact ⟨o, _, rfl, hob, rfl, secV_Rn fun j hj => by
          rw [if_neg (by omega), if_neg (by omega), if_pos (by omega), show 1 + j - 1 = j by omega]⟩
      split at hy
      · rename_i e; subst e; cases hy
        exact ⟨0, _, rfl, h0, rfl, .flat hfk⟩
      · rw [famO_look] at hy
        split at hy
        · cases hy
          exact ⟨ν (j - 1), _, by rw [if_neg (by omega), if_neg (by omega), if_pos (by omega)], (hν (j - 1) (by omega)).1, rfl, .flat hfk⟩
        · cases hy
    · intro j hj
      simp only [alook] at hj
      split at hj
      · cases hj
      split at hj
      · cases hj
      · rw [famO_look] at hj
        split at hj
        · cases hj
        · rw [if_neg (by omega), if_neg (by omega), if_neg (by omega)]
    · intro j j' k h1 h2
      have hν' := fun j (hj : j < i) => (hν j hj).2
      have key : ∀ j k, (if j = 0 then some 0 else if j = 900 then some o else if j < 1 + i then some (ν (j - 1)) else none) = some k → (j = 0 ∧ k = 0) ∨ (j = 900 ∧ k = o) ∨ (1 ≤ j ∧ j < 1 + i ∧ k = ν (j - 1)) := fun j k h => by
        split at h
        · exact .inl ⟨by assumption, (Option.some.inj h).symm⟩
        split at h
        · exact .inr (.inl ⟨by assumption, (Option.some.inj h).symm⟩)
        split at h
        · exact .inr (.inr ⟨by omega, by omega, (Option.some.inj h).symm⟩)
        · cases h
      rcases key j k h1 with ⟨e1, e2⟩ | ⟨e1, e2⟩ | ⟨e1, e2, e3⟩ <;> rcases key j' k h2 with ⟨f1, f2⟩ | ⟨f1, f2⟩ | ⟨f1, f2, f3⟩
      · omega
      · omega
      · have := hν' (j' - 1) (by omega); omega
      · omega
      · omega
      · have := hν' (j' - 1) (by omega); omega
      · have := hν' (j - 1) (by omega); omega
      · have := hν' (j - 1) (by omega); omega
      · have := hinj (j - 1) (j' - 1) (by omega) (by omega) (e3.symm.trans f3); omega
    · intro j k hj
      have hν' := fun j (hj : j < i) => (hν j hj).2
      split at hj
      · have := Option.some.inj hj; omega
      split at hj
      · have := Option.some.inj hj; omega
      split at hj
      · have := hν' (j - 1) (by omega); have := Option.some.inj hj; omega
      · cases hj
    · intro j k hj hj1
      rw [if_pos (by omega)] at hj; cases hj; omega
    rcases Nat.lt_or_ge i m with hlt | hge
    ·
      repeat' (first
      | refine GL.sf rfl rfl rfl rfl ?_
      | refine GL.done ?_
      | refine GP.thenN ?_
      | refine GT.seq ?_
      | refine GT.region ?_
      | refine GL.v rfl rfl rfl (by first | exact GO.appendE rfl rfl rfl rfl rfl rfl rfl rfl rfl rfl rfl (asrc_all hn.1 hlen rfl) hone rfl (by decide) rfl (Nat.le_of_ble_eq_true rfl) hn.1 (by omega) | exact GO.appendG rfl rfl rfl rfl rfl rfl rfl rfl rfl rfl rfl rfl rfl rfl (secV_len _ _ _) (by decide) rfl (Nat.le_of_ble_eq_true rfl) (by omega) | exact GO.add rfl rfl rfl (by omega)) ?_
      | refine GT.skip ?_
      | refine GT.block ?_
      | refine GP.inN ?_
      | (refine GT.condD rfl (fun h => ?_) (fun h => ?_) <;> try (exfalso; omega)))
      refine GP.invN (m - (i + 1)) (by omega) ⟨i + 1, by omega, rfl, by decide, rfl, asub_cons rfl (asub_cons rfl (asub_cons rfl asub_nil)), .inr ⟨fun j => if j < i then 1 + j else 902, 904, by omega, rfl, ?_, by decide, fun j hj => ?_, fun j j' hj hj' e => ?_⟩⟩
      · rw [secV_succ, secV_congr (ν := fun j => if j < i then 1 + j else 902) (ν' := fun j => 1 + j) (fun j hj => by simp [hj])]
        rw [if_neg (show ¬ i < i by omega)]
        rfl
      · dsimp only
        split
        · refine ⟨?_, by omega, by omega⟩
          simp only [alook_aset, alook_aerase, alook]
          (repeat rw [if_neg (by omega)])
          rw [famO_look, if_pos (by omega)]
        · exact ⟨rfl, by decide, by decide⟩
      · dsimp only at e
        split at e <;> split at e <;> omega
    · obtain rfl : i = m := by omega
      repeat' (first
      | refine GL.sf rfl rfl rfl rfl ?_
      | refine GL.done ?_
      | refine GP.thenN ?_
      | refine GT.seq ?_
      | refine GT.region ?_
      | refine GT.ret ?_
      | refine GT.exit ?_
      | refine GP.thenE ?_
      | refine GP.hit ?_
      | refine GP.invE ?_
      | (refine GT.condD rfl (fun h => ?_) (fun h => ?_) <;> try (exfalso; omega))
      | refine GP.endR1 rfl ?_)
      exact ⟨fun j => 1 + j, 900, rfl, rfl, by decide, fun j hj => ⟨by
        show alook (LS rds n i) (1 + j) = _
        simp only [alook]
        rw [if_neg (by omega), if_neg (by omega), famO_look, if_pos (by omega)], show 1 ≤ 1 + j by omega, show 1 + j ≠ 900 by omega⟩, fun j j' _ _ e => by have e : 1 + j = 1 + j' := e; omega⟩
end Go.M
namespace Go.M
open Go.Proofs Go.RowKit
set_option maxRecDepth 8000
set_option maxHeartbeats 4000000
def secF (N : Nat) (rds : List Value) (n m i : Nat) : AObj := if i < m then .cells rds 46 else .cells (secV (fun j => N + j) n m) 130
theorem d_seconds12 {A : AW} {x : Nat} (rds : List Value) (n c m : Nat) (hn : 0 < n ∧ n ≤ 1000) (hm : 0 < m ∧ m ≤ 800) (hlen : rds.length = n * 2) (hflat : ∃ k, noAddrs k rds = true) (hone : rds.all (·.oneCell') = true) (hx : A.rd x 0 rds.length = some rds) :
    AC Tryd.prog 12 [.slice (some ⟨x, 0, none⟩) n c, .int .i64 m] A (isR (.slice (some ⟨A.next + m, 0, none⟩) m m) (A.pushF (m + 1) (secF A.next rds n m))) := by
  obtain ⟨fk, hfk⟩ := hflat
  refine AC.mono (AC.givesF (Φ := fun v q F => q = m + 1 ∧ F = secF A.next rds n m ∧ v = .slice (some ⟨A.next + m, 0, none⟩) m m) (SmallX.nil.cons (k := 0) (b := x) (f := 0) (o := .cells rds 46) (.flat hx hfk)) (args := [.slice (some ⟨0, 0, none⟩) n c, .int .i64 m]) ?_ (.sl rfl rfl (.flat (k := 8) rfl .nil))) ?_
  · refine AC.mono (d_seconds12s rds n c m 0 hn hm hlen ⟨fk, hfk⟩ hone) ?_
    rintro v A1 ⟨ν, o, rfl, h1, h2, h3, h4⟩
    refine ⟨m + 1, secF A.next rds n m, fun i => if i < m then ν i else o, .slice (some ⟨A.next + m, 0, none⟩) m m, ⟨rfl, rfl, rfl⟩, fun i hi => ?_, fun i j hi hj e => ?_, fun i hi => ?_, .sl ?_⟩
    · dsimp only
      split
      · exact (h3 i (by assumption)).2.1
      · exact h2
    · dsimp only at e
      split at e <;> split at e
      · exact h4 i j (by assumption) (by assumption) e
      · exact absurd e (h3 i (by assumption)).2.2
      · exact absurd e.symm (h3 j (by assumption)).2.2
      · omega
    · by_cases q : i < m
      · refine ⟨.cells rds 46, by simp only [q, if_true]; exact (h3 i q).1, ?_⟩
        rw [secF, if_pos q]
        exact ⟨rfl, .flat hfk⟩
      · refine ⟨.cells (secV ν n m) 130, by simp only [q, if_false]; exact h1, ?_⟩
        rw [secF, if_neg q]
        exact ⟨rfl, secV_Rn fun j hj => by rw [rhoF_at (by omega), if_pos hj]⟩
    · rw [rhoF_at (by omega), if_neg (by omega)]
  · rintro v A1 ⟨q, F, ⟨rfl, rfl, rfl⟩, rfl⟩
    exact ⟨rfl, rfl⟩
theorem pushF_old {A : AW} {n j : Nat} {F : Nat → AObj} (h : j < A.next) : (A.pushF n F).objs j = A.objs j := by
  simp only [AW.pushF]; rw [if_neg (by omega)]
theorem pushF_new {A : AW} {n i : Nat} {F : Nat → AObj} (h : i < n) : (A.pushF n F).objs (A.next + i) = some (F i) := by
  simp only [AW.pushF]; rw [if_pos (by omega), show A.next + i - A.next = i by omega]
theorem rd_objs {A B : AW} {b : Nat} (h : A.objs b = B.objs b) (f n : Nat) : A.rd b f n = B.rd b f n := by unfold AW.rd; rw [h]
theorem rd_cells {A : AW} {b : Nat} {c : List Value} {e : TypeId} (h : A.objs b = some (.cells c e)) : A.rd b 0 c.length = some c := by unfold AW.rd; rw [h]; simp
/-- The monitor's view, behind seconds that were made. -/
theorem FMOk.made {A : AW} {p o n m : Nat} {sens rds : List Value} (hG : GOk A) (h3 : 3 ≤ A.next) (hp : A.rd p o sens.length = some sens) (hpn : p < A.next) (hs : ∃ k, noAddrs k sens = true) (hr : ∃ k, noAddrs k rds = true) :
    FMOk (A.pushF (m + 1) (secF A.next rds n m)) p o (A.next + m) (fun i => A.next + i) sens n m (fun _ => rds) := by
  obtain ⟨g0, g1, g2, c, e, g3⟩ := hG
  refine ⟨⟨g0, by rw [pushF_old (by omega)]; exact g1, by rw [pushF_old (by omega)]; exact g2, c, e, by rw [pushF_old (by omega)]; exact g3⟩, by rw [rd_objs (pushF_old hpn)]; exact hp, hs, ?_, fun i hi => ?_, fun _ _ => hr⟩
  · have h := pushF_new (A := A) (F := secF A.next rds n m) (show m < m + 1 by omega)
    rw [secF, if_neg (by omega)] at h
    have := rd_cells h
    rw [secV_len, Nat.mul_comm] at this
    exact this
  · have h := pushF_new (A := A) (F := secF A.next rds n m) (show i < m + 1 by omega)
    rw [secF, if_pos hi] at h
    exact rd_cells h
theorem d_within9 {A : AW} (r lo hi : Int) (m : Bool) : AC Tryd.prog 9 [.agg #[.int .i64 r, .bool m], .agg #[.int .i64 lo, .int .i64 hi]] A (isR (.bool (decide (m = false ∧ lo ≤ r ∧ r ≤ hi))) A) := by
  refine AC.is0 ?_ ⟨8, rfl⟩ (.flat (k := 16) rfl (.flat (k := 16) rfl .nil))
  refine AC.go Tryd.func9 rfl rfl ?_
  cases m with
  | true =>
    repeat' (first
    | refine GL.sf rfl rfl rfl rfl ?_
    | refine GL.done ?_
    | refine GP.thenN ?_
    | refine GT.seq ?_
    | refine GT.region ?_
    | refine GL.skipG rfl rfl rfl rfl rfl ?_
    | refine GT.ret ?_
    | refine GP.endR1 rfl ?_)
    rw [decide_eq_false (by simp)]
  | false =>
    repeat' (first
    | refine GL.sf rfl rfl rfl rfl ?_
    | refine GL.done ?_
    | refine GP.thenN ?_
    | refine GT.seq ?_
    | refine GT.region ?_
    | refine GL.unguardG rfl rfl rfl ?_
    | refine GL.skipG rfl rfl rfl rfl rfl ?_
    | refine GT.ret ?_
    | (refine GL.forkDG rfl rfl rfl (fun h => ?_) (fun h => ?_) <;> try (exfalso; omega))
    | refine GP.endR1 rfl ?_)
    all_goals simp [h]
end Go.M
namespace Go.M
open Go.Proofs Go.RowKit
set_option maxRecDepth 8000
set_option maxHeartbeats 4000000
theorem d_plant11_1 {A : AW} {p k : Nat} (s0 k0 : ByteArray) (lo0 hi0 d0 need sil : Int) (hp : A.rd p 0 5 = some [.string s0, .string k0, .int .i64 lo0, .int .i64 hi0, .int .i64 d0]) :
    AC Tryd.prog 11 [.agg #[.slice (some ⟨p, 0, none⟩) 1 k, .int .i64 need, .int .i64 sil]] A (isR (.agg #[.slice (some ⟨A.next, 0, none⟩) 1 1, .int .i64 need, .int .i64 sil]) (A.push (.cells [.string s0, .string k0, .int .i64 lo0, .int .i64 hi0, .int .i64 d0] 128))) := by
  refine AC.exact (AC.givesX (SmallX.nil.cons (k := 0) (b := p) (f := 0) (o := .cells [.string s0, .string k0, .int .i64 lo0, .int .i64 hi0, .int .i64 d0] 43) (.flat (k := 64) hp rfl)) (args := [.agg #[.slice (some ⟨0, 0, none⟩) 1 k, .int .i64 need, .int .i64 sil]]) ?_ (.agg (.sl rfl rfl (.flat (k := 8) rfl (.flat (k := 8) rfl .nil))) .nil))
  refine AC.go Tryd.func11 rfl rfl ?_
  clear hp
  repeat' (first
  | refine GT.unroll 2 ?_
  | refine GL.sf rfl rfl rfl rfl ?_
  | refine GL.nf rfl rfl rfl ?_
  | refine GL.sv rfl rfl rfl rfl ?_
  | refine GL.done ?_
  | refine GP.thenN ?_
  | refine GT.seq ?_
  | refine GT.region ?_
  | refine GL.v rfl rfl rfl (by exact GO.add rfl rfl rfl (by omega)) ?_
  | refine GT.skip ?_
  | refine GT.block ?_
  | refine GT.ret ?_
  | refine GT.exit ?_
  | refine GP.thenE ?_
  | refine GP.inN ?_
  | refine GP.hit ?_
  | refine GP.againN ?_
  | refine GP.againE ?_
  | refine GU.step ?_
  | refine GT.condT rfl ?_
  | refine GT.condF rfl ?_
  | refine GP.endR1 rfl ?_)
  refine ⟨_, _, ?_, ?_, ⟨64, ?_⟩, rfl, .agg (.sl (f := 0) (if_pos rfl) rfl (.flat (k := 8) rfl (.flat (k := 8) rfl .nil))) .nil⟩
  · rfl
  · decide
  · rfl
theorem d_plant11_2 {A : AW} {p k : Nat} (s0 k0 s1 k1 : ByteArray) (lo0 hi0 d0 lo1 hi1 d1 need sil : Int) (hp : A.rd p 0 10 = some [.string s0, .string k0, .int .i64 lo0, .int .i64 hi0, .int .i64 d0, .string s1, .string k1, .int .i64 lo1, .int .i64 hi1, .int .i64 d1]) :
    AC Tryd.prog 11 [.agg #[.slice (some ⟨p, 0, none⟩) 2 k, .int .i64 need, .int .i64 sil]] A (isR (.agg #[.slice (some ⟨A.next, 0, none⟩) 2 2, .int .i64 need, .int .i64 sil]) (A.push (.cells [.string s0, .string k0, .int .i64 lo0, .int .i64 hi0, .int .i64 d0, .string s1, .string k1, .int .i64 lo1, .int .i64 hi1, .int .i64 d1] 128))) := by
  refine AC.exact (AC.givesX (SmallX.nil.cons (k := 0) (b := p) (f := 0) (o := .cells [.string s0, .string k0, .int .i64 lo0, .int .i64 hi0, .int .i64 d0, .string s1, .string k1, .int .i64 lo1, .int .i64 hi1, .int .i64 d1] 43) (.flat (k := 64) hp rfl)) (args := [.agg #[.slice (some ⟨0, 0, none⟩) 2 k, .int .i64 need, .int .i64 sil]]) ?_ (.agg (.sl rfl rfl (.flat (k := 8) rfl (.flat (k := 8) rfl .nil))) .nil))
  refine AC.go Tryd.func11 rfl rfl ?_
  clear hp
  repeat' (first
  | refine GT.unroll 3 ?_
  | refine GL.sf rfl rfl rfl rfl ?_
  | refine GL.nf rfl rfl rfl ?_
  | refine GL.sv rfl rfl rfl rfl ?_
  | refine GL.done ?_
  | refine GP.thenN ?_
  | refine GT.seq ?_
  | refine GT.region ?_
  | refine GL.v rfl rfl rfl (by exact GO.add rfl rfl rfl (by omega)) ?_
  | refine GT.skip ?_
  | refine GT.block ?_
  | refine GT.ret ?_
  | refine GT.exit ?_
  | refine GP.thenE ?_
  | refine GP.inN ?_
  | refine GP.hit ?_
  | refine GP.againN ?_
  | refine GP.againE ?_
  | refine GU.step ?_
  | refine GT.condT rfl ?_
  | refine GT.condF rfl ?_
  | refine GP.endR1 rfl ?_)
  refine ⟨_, _, ?_, ?_, ⟨64, ?_⟩, rfl, .agg (.sl (f := 0) (if_pos rfl) rfl (.flat (k := 8) rfl (.flat (k := 8) rfl .nil))) .nil⟩
  · rfl
  · decide
  · rfl
theorem d_plant11_3 {A : AW} {p k : Nat} (s0 k0 s1 k1 s2 k2 : ByteArray) (lo0 hi0 d0 lo1 hi1 d1 lo2 hi2 d2 need sil : Int) (hp : A.rd p 0 15 = some [.string s0, .string k0, .int .i64 lo0, .int .i64 hi0, .int .i64 d0, .string s1, .string k1, .int .i64 lo1, .int .i64 hi1, .int .i64 d1, .string s2, .string k2, .int .i64 lo2, .int .i64 hi2, .int .i64 d2]) :
    AC Tryd.prog 11 [.agg #[.slice (some ⟨p, 0, none⟩) 3 k, .int .i64 need, .int .i64 sil]] A (isR (.agg #[.slice (some ⟨A.next, 0, none⟩) 3 3, .int .i64 need, .int .i64 sil]) (A.push (.cells [.string s0, .string k0, .int .i64 lo0, .int .i64 hi0, .int .i64 d0, .string s1, .string k1, .int .i64 lo1, .int .i64 hi1, .int .i64 d1, .string s2, .string k2, .int .i64 lo2, .int .i64 hi2, .int .i64 d2] 128))) := by
  refine AC.exact (AC.givesX (SmallX.nil.cons (k := 0) (b := p) (f := 0) (o := .cells [.string s0, .string k0, .int .i64 lo0, .int .i64 hi0, .int .i64 d0, .string s1, .string k1, .int .i64 lo1, .int .i64 hi1, .int .i64 d1, .string s2, .string k2, .int .i64 lo2, .int .i64 hi2, .int .i64 d2] 43) (.flat (k := 64) hp rfl)) (args := [.agg #[.slice (some ⟨0, 0, none⟩) 3 k, .int .i64 need, .int .i64 sil]]) ?_ (.agg (.sl rfl rfl (.flat (k := 8) rfl (.flat (k := 8) rfl .nil))) .nil))
  refine AC.go Tryd.func11 rfl rfl ?_
  clear hp
  repeat' (first
  | refine GT.unroll 4 ?_
  | refine GL.sf rfl rfl rfl rfl ?_
  | refine GL.nf rfl rfl rfl ?_
  | refine GL.sv rfl rfl rfl rfl ?_
  | refine GL.done ?_
  | refine GP.thenN ?_
  | refine GT.seq ?_
  | refine GT.region ?_
  | refine GL.v rfl rfl rfl (by exact GO.add rfl rfl rfl (by omega)) ?_
  | refine GT.skip ?_
  | refine GT.block ?_
  | refine GT.ret ?_
  | refine GT.exit ?_
  | refine GP.thenE ?_
  | refine GP.inN ?_
  | refine GP.hit ?_
  | refine GP.againN ?_
  | refine GP.againE ?_
  | refine GU.step ?_
  | refine GT.condT rfl ?_
  | refine GT.condF rfl ?_
  | refine GP.endR1 rfl ?_)
  refine ⟨_, _, ?_, ?_, ⟨64, ?_⟩, rfl, .agg (.sl (f := 0) (if_pos rfl) rfl (.flat (k := 8) rfl (.flat (k := 8) rfl .nil))) .nil⟩
  · rfl
  · decide
  · rfl
theorem d_plant11_4 {A : AW} {p k : Nat} (s0 k0 s1 k1 s2 k2 s3 k3 : ByteArray) (lo0 hi0 d0 lo1 hi1 d1 lo2 hi2 d2 lo3 hi3 d3 need sil : Int) (hp : A.rd p 0 20 = some [.string s0, .string k0, .int .i64 lo0, .int .i64 hi0, .int .i64 d0, .string s1, .string k1, .int .i64 lo1, .int .i64 hi1, .int .i64 d1, .string s2, .string k2, .int .i64 lo2, .int .i64 hi2, .int .i64 d2, .string s3, .string k3, .int .i64 lo3, .int .i64 hi3, .int .i64 d3]) :
    AC Tryd.prog 11 [.agg #[.slice (some ⟨p, 0, none⟩) 4 k, .int .i64 need, .int .i64 sil]] A (isR (.agg #[.slice (some ⟨A.next, 0, none⟩) 4 4, .int .i64 need, .int .i64 sil]) (A.push (.cells [.string s0, .string k0, .int .i64 lo0, .int .i64 hi0, .int .i64 d0, .string s1, .string k1, .int .i64 lo1, .int .i64 hi1, .int .i64 d1, .string s2, .string k2, .int .i64 lo2, .int .i64 hi2, .int .i64 d2, .string s3, .string k3, .int .i64 lo3, .int .i64 hi3, .int .i64 d3] 128))) := by
  refine AC.exact (AC.givesX (SmallX.nil.cons (k := 0) (b := p) (f := 0) (o := .cells [.string s0, .string k0, .int .i64 lo0, .int .i64 hi0, .int .i64 d0, .string s1, .string k1, .int .i64 lo1, .int .i64 hi1, .int .i64 d1, .string s2, .string k2, .int .i64 lo2, .int .i64 hi2, .int .i64 d2, .string s3, .string k3, .int .i64 lo3, .int .i64 hi3, .int .i64 d3] 43) (.flat (k := 64) hp rfl)) (args := [.agg #[.slice (some ⟨0, 0, none⟩) 4 k, .int .i64 need, .int .i64 sil]]) ?_ (.agg (.sl rfl rfl (.flat (k := 8) rfl (.flat (k := 8) rfl .nil))) .nil))
  refine AC.go Tryd.func11 rfl rfl ?_
  clear hp
  repeat' (first
  | refine GT.unroll 5 ?_
  | refine GL.sf rfl rfl rfl rfl ?_
  | refine GL.nf rfl rfl rfl ?_
  | refine GL.sv rfl rfl rfl rfl ?_
  | refine GL.done ?_
  | refine GP.thenN ?_
  | refine GT.seq ?_
  | refine GT.region ?_
  | refine GL.v rfl rfl rfl (by exact GO.add rfl rfl rfl (by omega)) ?_
  | refine GT.skip ?_
  | refine GT.block ?_
  | refine GT.ret ?_
  | refine GT.exit ?_
  | refine GP.thenE ?_
  | refine GP.inN ?_
  | refine GP.hit ?_
  | refine GP.againN ?_
  | refine GP.againE ?_
  | refine GU.step ?_
  | refine GT.condT rfl ?_
  | refine GT.condF rfl ?_
  | refine GP.endR1 rfl ?_)
  refine ⟨_, _, ?_, ?_, ⟨64, ?_⟩, rfl, .agg (.sl (f := 0) (if_pos rfl) rfl (.flat (k := 8) rfl (.flat (k := 8) rfl .nil))) .nil⟩
  · rfl
  · decide
  · rfl
theorem d_plant11_5 {A : AW} {p k : Nat} (s0 k0 s1 k1 s2 k2 s3 k3 s4 k4 : ByteArray) (lo0 hi0 d0 lo1 hi1 d1 lo2 hi2 d2 lo3 hi3 d3 lo4 hi4 d4 need sil : Int) (hp : A.rd p 0 25 = some [.string s0, .string k0, .int .i64 lo0, .int .i64 hi0, .int .i64 d0, .string s1, .string k1, .int .i64 lo1, .int .i64 hi1, .int .i64 d1, .string s2, .string k2, .int .i64 lo2, .int .i64 hi2, .int .i64 d2, .string s3, .string k3, .int .i64 lo3, .int .i64 hi3, .int .i64 d3, .string s4, .string k4, .int .i64 lo4, .int .i64 hi4, .int .i64 d4]) :
    AC Tryd.prog 11 [.agg #[.slice (some ⟨p, 0, none⟩) 5 k, .int .i64 need, .int .i64 sil]] A (isR (.agg #[.slice (some ⟨A.next, 0, none⟩) 5 5, .int .i64 need, .int .i64 sil]) (A.push (.cells [.string s0, .string k0, .int .i64 lo0, .int .i64 hi0, .int .i64 d0, .string s1, .string k1, .int .i64 lo1, .int .i64 hi1, .int .i64 d1, .string s2, .string k2, .int .i64 lo2, .int .i64 hi2, .int .i64 d2, .string s3, .string k3, .int .i64 lo3, .int .i64 hi3, .int .i64 d3, .string s4, .string k4, .int .i64 lo4, .int .i64 hi4, .int .i64 d4] 128))) := by
  refine AC.exact (AC.givesX (SmallX.nil.cons (k := 0) (b := p) (f := 0) (o := .cells [.string s0, .string k0, .int .i64 lo0, .int .i64 hi0, .int .i64 d0, .string s1, .string k1, .int .i64 lo1, .int .i64 hi1, .int .i64 d1, .string s2, .string k2, .int .i64 lo2, .int .i64 hi2, .int .i64 d2, .string s3, .string k3, .int .i64 lo3, .int .i64 hi3, .int .i64 d3, .string s4, .string k4, .int .i64 lo4, .int .i64 hi4, .int .i64 d4] 43) (.flat (k := 64) hp rfl)) (args := [.agg #[.slice (some ⟨0, 0, none⟩) 5 k, .int .i64 need, .int .i64 sil]]) ?_ (.agg (.sl rfl rfl (.flat (k := 8) rfl (.flat (k := 8) rfl .nil))) .nil))
  refine AC.go Tryd.func11 rfl rfl ?_
  clear hp
  repeat' (first
  | refine GT.unroll 6 ?_
  | refine GL.sf rfl rfl rfl rfl ?_
  | refine GL.nf rfl rfl rfl ?_
  | refine GL.sv rfl rfl rfl rfl ?_
  | refine GL.done ?_
  | refine GP.thenN ?_
  | refine GT.seq ?_
  | refine GT.region ?_
  | refine GL.v rfl rfl rfl (by exact GO.add rfl rfl rfl (by omega)) ?_
  | refine GT.skip ?_
  | refine GT.block ?_
  | refine GT.ret ?_
  | refine GT.exit ?_
  | refine GP.thenE ?_
  | refine GP.inN ?_
  | refine GP.hit ?_
  | refine GP.againN ?_
  | refine GP.againE ?_
  | refine GU.step ?_
  | refine GT.condT rfl ?_
  | refine GT.condF rfl ?_
  | refine GP.endR1 rfl ?_)
  refine ⟨_, _, ?_, ?_, ⟨64, ?_⟩, rfl, .agg (.sl (f := 0) (if_pos rfl) rfl (.flat (k := 8) rfl (.flat (k := 8) rfl .nil))) .nil⟩
  · rfl
  · decide
  · rfl
end Go.M
