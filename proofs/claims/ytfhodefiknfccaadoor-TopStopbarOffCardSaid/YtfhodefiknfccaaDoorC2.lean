/- Functions of the given program, walked (no condition beyond what each theorem says). -/
import Derived.Test.YtfhodefiknfccaaDoorC1
import Derived.Test.YtfhodefiknfccaaDoorA6
import Derived.Test.YtfhodefiknfccaaDoorE3
import Derived.Test.YtfhodefiknfccaaDoorB8
set_option linter.unusedVariables false
set_option linter.unusedSimpArgs false
namespace Go.M
open Go.Proofs Go.RowKit
set_option maxRecDepth 16000
set_option maxHeartbeats 16000000
theorem outC_setF {md lf x : Int} {c c' : Nat → Int} {al : Value} {i f : Nat} (hf : f = 2 + i) (hi : i < 8) (h1 : c' i = x) (h2 : ∀ j, j ≠ i → c' j = c j) : splice (outC md lf c al) f [.int .i64 x] = outC md lf c' al := by
  subst hf; exact outC_set hi h1 h2
theorem outC_atF {md lf x : Int} {c : Nat → Int} {al : Value} {i f : Nat} (hf : f = 2 + i) (hi : i < 8) (hx : c i = x) : (outC md lf c al)[f]? = some (.int .i64 x) := by
  subst hf; subst hx; exact outC_at hi
theorem off2 {i : Nat} : 0 + 2 ^ 1 + (i : Int).toNat * 1 = 2 + i := by omega
theorem off2l {i : Nat} (h : i < 8) : 0 + 2 ^ 1 + (i : Int).toNat * 1 + 1 ≤ 11 := by omega
theorem stV_atF {md lf : Int} {c : Nat → Int} {i f : Nat} (hf : f = 2 + i) (hi : i < 8) : (stV md lf c)[f]? = some (.int .i64 (c i)) := by
  subst hf; exact stV_at hi
def alV (N : Nat) (al : List Nat) : Value := match al with
  | [] => .slice none 0 0
  | _ :: _ => .slice (some ⟨N, 0, none⟩) al.length al.length
def voteOf (l : List Sen) (need : Int) (al : List Nat) : Bool := decide (need ≤ (al.length : Int)) && al.any (nearB l)
/-- Mode, rest and counts after a second in a mode that counts. -/
def cntMd (l : List Sen) (rs : List (Int × Bool)) (need sil md : Int) (c : Nat → Int) : Int := bif voteOf l need (als l rs c l.length) then (if md = 2 then 3 else if sil = 0 then 2 else 1) else md
def cntLf (l : List Sen) (rs : List (Int × Bool)) (need sil md lf : Int) (c : Nat → Int) : Int := bif voteOf l need (als l rs c l.length) then (if md = 2 then 0 else sil) else lf
def cntC (l : List Sen) (rs : List (Int × Bool)) (need : Int) (c : Nat → Int) (j : Nat) : Int := bif voteOf l need (als l rs c l.length) then 0 else midC l rs c l.length j
theorem has_lit {A : AW} {a b n : Int} {t : Bool} (h : decide (a ≤ n ∧ n ≤ b) = t) : AC Tryd.prog 77 [.agg #[.int .i64 a, .int .i64 b], .int .i64 n] A (isR (.bool t) A) := by subst h; exact d_has77 a b n
abbrev CM (l : List Sen) (rs : List (Int × Bool)) (k : Nat) (need sil md lf : Int) (c : Nat → Int) (out : List Value) : LM :=
  [(5, .cells out 138), (4, .cells [.int .i64 0, .int .i64 0, .int .i64 0, .int .i64 0, .int .i64 0, .int .i64 0, .int .i64 0, .int .i64 0, .int .i64 0, .int .i64 0, .slice none 0 0] 138), (3, .cells (stV md lf c) 59), (2, .cells [.slice (some ⟨0, 0, none⟩) l.length k, .int .i64 need, .int .i64 sil] 53), (1, .cells (rdC rs) 46), (0, .cells (senC l) 128)]
abbrev CE (n k i : Nat) : AEnv := [(2, .slice (some ⟨1, 0, none⟩) n n), (3, .pointer (some ⟨2, 0, none⟩)), (4, .pointer (some ⟨3, 0, none⟩)), (6, .pointer (some ⟨4, 0, none⟩)), (7, .pointer (some ⟨5, 0, none⟩)), (13, .slice (some ⟨0, 0, none⟩) n k), (14, .int .i64 n), (15, .int .i64 i)]
theorem le11 {md lf : Int} {c : Nat → Int} {al : Value} {n : Nat} (h : n ≤ 11) : n ≤ (outC md lf c al).length := h
theorem natC_snoc (al : List Nat) (i : Nat) : natC (al ++ [i]) = natC al ++ [.int .i64 (i : Int)] := by simp
theorem alV_ne {N : Nat} {al : List Nat} (h : al ≠ []) : alV N al = .slice (some ⟨N, 0, none⟩) al.length al.length := by
  cases al with
  | nil => exact absurd rfl h
  | cons x t => rfl
abbrev CM' (l : List Sen) (rs : List (Int × Bool)) (k : Nat) (need sil md lf : Int) (c : Nat → Int) : LM :=
  [(4, .cells [.int .i64 0, .int .i64 0, .int .i64 0, .int .i64 0, .int .i64 0, .int .i64 0, .int .i64 0, .int .i64 0, .int .i64 0, .int .i64 0, .slice none 0 0] 138), (3, .cells (stV md lf c) 59), (2, .cells [.slice (some ⟨0, 0, none⟩) l.length k, .int .i64 need, .int .i64 sil] 53), (1, .cells (rdC rs) 46), (0, .cells (senC l) 128)]
theorem CM'_sub {l : List Sen} {rs : List (Int × Bool)} {k : Nat} {need sil md lf : Int} {c : Nat → Int} {out : List Value} {j : Nat} {y : AObj} (h : alook (CM' l rs k need sil md lf c) j = some y) : alook (CM l rs k need sil md lf c out) j = some y := by
  by_cases q : j = 5
  · subst q; cases h
  · show alook ((5, _) :: CM' l rs k need sil md lf c) j = some y
    rw [alook_tl q]; exact h
theorem CM'_under {l : List Sen} {rs : List (Int × Bool)} {k : Nat} {need sil md lf : Int} {c : Nat → Int} : ∀ j y, alook (CM' l rs k need sil md lf c) j = some y → j < 6 ∧ ObjLt 6 y := by
  obtain ⟨fj, hflat⟩ := senC_flat l
  obtain ⟨fr, hrf⟩ := rdC_flat rs
  exact Under.look (.cons rfl (Lt.flat (j := 32) rfl) (.cons rfl (Lt.flat (j := 32) rfl) (.cons rfl (.cons (.sl rfl) (.flat (j := 8) rfl)) (.cons rfl (Lt.flat hrf) (.cons rfl (Lt.flat hflat) .nil)))))
theorem arO {ρ : Nat → Option (Nat × Nat)} {md lf : Int} {c : Nat → Int} {u v : Value} (h : AR ρ [u] [v]) : AR ρ [.agg (outC md lf c u).toArray] [.agg (outC md lf c v).toArray] :=
  .agg (.flat (k := 8) rfl (.flat (k := 8) rfl (.flat (k := 8) rfl (.flat (k := 8) rfl (.flat (k := 8) rfl (.flat (k := 8) rfl (.flat (k := 8) rfl (.flat (k := 8) rfl (.flat (k := 8) rfl (.flat (k := 8) rfl h)))))))))) .nil
/-- What a reading is to its sensor. -/
theorem round_cases (y : Sen) (r : Int) (m : Bool) (c : Int) :
    (m = false ∧ decide (y.lo ≤ r ∧ r ≤ y.hi) = true ∧ cntI y (r, m) c = 0 ∧ (!goodB y (r, m) && decide (min y.d (c + 1) = y.d)) = false) ∨
    (m = true ∧ ¬ min y.d (c + 1) = y.d ∧ cntI y (r, m) c = min y.d (c + 1) ∧ (!goodB y (r, m) && decide (min y.d (c + 1) = y.d)) = false) ∨
    (m = true ∧ min y.d (c + 1) = y.d ∧ cntI y (r, m) c = min y.d (c + 1) ∧ (!goodB y (r, m) && decide (min y.d (c + 1) = y.d)) = true) ∨
    (m = false ∧ decide (y.lo ≤ r ∧ r ≤ y.hi) = false ∧ ¬ min y.d (c + 1) = y.d ∧ cntI y (r, m) c = min y.d (c + 1) ∧ (!goodB y (r, m) && decide (min y.d (c + 1) = y.d)) = false) ∨
    (m = false ∧ decide (y.lo ≤ r ∧ r ≤ y.hi) = false ∧ min y.d (c + 1) = y.d ∧ cntI y (r, m) c = min y.d (c + 1) ∧ (!goodB y (r, m) && decide (min y.d (c + 1) = y.d)) = true) := by
  unfold cntI goodB
  cases m with
  | true =>
    by_cases h : min y.d (c + 1) = y.d
    · exact .inr (.inr (.inl ⟨rfl, h, rfl, by simp [h]⟩))
    · exact .inr (.inl ⟨rfl, h, rfl, by simp [h]⟩)
  | false =>
    cases q : decide (y.lo ≤ r ∧ r ≤ y.hi) with
    | true => exact .inl ⟨rfl, rfl, by simp, by simp⟩
    | false =>
      by_cases h : min y.d (c + 1) = y.d
      · exact .inr (.inr (.inr (.inr ⟨rfl, rfl, h, by simp, by simp [h]⟩)))
      · exact .inr (.inr (.inr (.inl ⟨rfl, rfl, h, by simp, by simp [h]⟩)))
/-- The small memory of counting. -/
abbrev cntArgs (l : List Sen) (need sil md lf : Int) (c : Nat → Int) (p x k : Nat) : List Value := [.agg #[.slice (some ⟨p, 0, none⟩) l.length k, .int .i64 need, .int .i64 sil], .agg (stV md lf c).toArray, .slice (some ⟨x, 0, none⟩) l.length l.length]
theorem d_counted194S {k : Nat} (l : List Sen) (rs : List (Int × Bool)) (need sil md lf : Int) (c : Nat → Int) (hl : 0 < l.length ∧ l.length ≤ 8) (hrs : rs.length = l.length) (hd : ∀ (i : Nat) (y : Sen), l[i]? = some y → 1 ≤ y.d ∧ y.d ≤ 60) (hcb : ∀ j, 0 ≤ c j ∧ c j ≤ 60) (hneed : 1 ≤ need) :
    AC Tryd.prog 194 (cntArgs l need sil md lf c 0 1 k) (AW.of [(1, .cells (rdC rs) 46), (0, .cells (senC l) 128)] 2 2 0)
      (fun v A1 => (als l rs c l.length = [] ∧ v = .agg (outC (cntMd l rs need sil md c) (cntLf l rs need sil md lf c) (cntC l rs need c) (.slice none 0 0)).toArray) ∨
        ∃ nm, als l rs c l.length ≠ [] ∧ A1.objs nm = some (.cells (natC (als l rs c l.length)) 3) ∧ 2 ≤ nm ∧ v = .agg (outC (cntMd l rs need sil md c) (cntLf l rs need sil md lf c) (cntC l rs need c) (.slice (some ⟨nm, 0, none⟩) (als l rs c l.length).length (als l rs c l.length).length)).toArray) := by
  obtain ⟨fj, hflat⟩ := senC_flat l
  obtain ⟨fr, hrf⟩ := rdC_flat rs
  have hslen := senC_len l
  have hrlen := rdC_len rs
  refine AC.go Tryd.func194 rfl rfl ?_
  repeat' (first
  | refine GL.sf rfl rfl rfl rfl ?_
  | refine GL.sv rfl rfl rfl rfl ?_
  | refine GL.sn rfl rfl rfl ?_
  | refine GL.done ?_
  | refine GP.thenN ?_
  | refine GT.seq ?_
  | refine GT.region ?_
  | refine GT.block ?_)
  refine GT.loop (fun q a L nx => ∃ i : Nat, i ≤ l.length ∧ q = l.length - i ∧ 6 ≤ nx ∧ asub (CE l.length k i) a ∧
      ((als l rs c i = [] ∧ subm (CM l rs k need sil md lf c (outC md lf (midC l rs c i) (.slice none 0 0))) L) ∨
        ∃ o, als l rs c i ≠ [] ∧ 6 ≤ o ∧ alook L o = some (.cells (natC (als l rs c i)) 3) ∧ subm (CM l rs k need sil md lf c (outC md lf (midC l rs c i) (.slice (some ⟨o, 0, none⟩) (als l rs c i).length (als l rs c i).length))) L)) l.length
    ⟨0, by omega, by omega, Nat.le_of_ble_eq_true rfl, asub_cons rfl (asub_cons rfl (asub_cons rfl (asub_cons rfl (asub_cons rfl (asub_cons rfl (asub_cons rfl (asub_cons rfl asub_nil))))))), .inl ⟨rfl, subm_cons rfl (subm_cons rfl (subm_cons rfl (subm_cons rfl (subm_cons rfl (subm_cons rfl subm_nil)))))⟩⟩ ?_
  rintro q a L nx ⟨i, hi, rfl, hnx, hs, hcase⟩
  have hE : EnvLt 6 (CE l.length k i) := .cons (.sl rfl) (.cons (.ptr rfl) (.cons (.ptr rfl) (.cons (.ptr rfl) (.cons (.ptr rfl) (.cons (.sl rfl) (.cons (.flat (j := 8) rfl) (.cons (.flat (j := 8) rfl) .nil)))))))
  have hals : ∀ j ∈ als l rs c l.length, ∃ y, l[j]? = some y := fun j hj => by
    have := List.mem_range.1 (List.mem_filter.1 hj).1
    exact ⟨_, List.getElem?_eq_getElem this⟩
  have hrd : ∀ j, j < l.length → ∃ (y : Sen) (r : Int) (m : Bool), l[j]? = some y ∧ rs[j]? = some (r, m) := fun j hj => by
    obtain ⟨x, hx⟩ : ∃ x, rs[j]? = some x := ⟨_, List.getElem?_eq_getElem (by omega)⟩
    exact ⟨_, x.1, x.2, List.getElem?_eq_getElem hj, hx⟩
  rcases hcase with ⟨hnil, hsub⟩ | ⟨o, hne, ho, hob, hsub⟩
  · refine GT.resetL 6 hs hsub hnx rfl rfl (Under.look (.cons rfl (Lt.flat (j := 32) rfl) (.cons rfl (Lt.flat (j := 32) rfl) (.cons rfl (Lt.flat (j := 32) rfl) (.cons rfl (.cons (.sl rfl) (.flat (j := 8) rfl)) (.cons rfl (Lt.flat hrf) (.cons rfl (Lt.flat hflat) .nil))))))) hE (fun g hg => absurd hg (Nat.not_lt_zero g)) ?_
    clear hs hsub hnx
    rcases Nat.lt_or_ge i l.length with hlt | hge
    · obtain ⟨y, r, m, hy, hx⟩ := hrd i hlt
      have hi8 : i < 8 := by omega
      have hdy := hd i y hy
      have hci := hcb i
      have g5 : ((senC l).drop (0 + (i : Int).toNat * 5)).take 5 = [.string y.s, .string y.k, .int .i64 y.lo, .int .i64 y.hi, .int .i64 y.d] := by simpa using senC_five l i y hy
      obtain ⟨h0, h1⟩ := rdC_at rs i (r, m) hx
      replace h0 : (rdC rs)[0 + (i : Int).toNat * 2]? = some (.int .i64 r) := by simpa using h0
      replace h1 : (rdC rs)[0 + (i : Int).toNat * 2 + 1]? = some (.bool m) := by simpa using h1
      have hm2 : ∀ j, j ≠ i → midC l rs c (i + 1) j = midC l rs c i j := fun j hj => by rw [midC_succ, if_neg hj]
      have hm0 : midC l rs c (i + 1) i = cntI y (r, m) (c i) := by rw [midC_succ, if_pos rfl]; unfold newC; rw [hy, hx]
      have hal0 : alB l rs c i = (!goodB y (r, m) && decide (min y.d (c i + 1) = y.d)) := by unfold alB; rw [hy, hx]
      rcases round_cases y r m (c i) with ⟨rfl, hin, hc1, hc2⟩ | ⟨rfl, hin, hc1, hc2⟩ | ⟨rfl, hin, hc1, hc2⟩ | ⟨rfl, hin, hmn, hc1, hc2⟩ | ⟨rfl, hin, hmn, hc1, hc2⟩
      all_goals have hm1 := hm0.trans hc1
      all_goals rw [hc2] at hal0
      all_goals
        repeat' (first
        | refine GT.draws (id := 5) [[], [], [0, 1], [0, 1, 2], [0, 1, 2, 3], [0, 1, 2, 3, 4], [0, 1, 2, 3, 4, 5], [0, 1, 2, 3, 4, 5, 6], [0, 1, 2, 3, 4, 5, 6, 7], [0, 1, 2, 3, 4, 5, 6], [0, 1, 2, 3, 4, 5, 6], [0, 1, 2, 3, 4, 5, 6, 9, 10], [0, 1, 2, 3, 4, 5, 6, 9, 10, 11], [0, 1, 2, 3, 4, 5, 6, 9, 10, 11, 12], [0, 1, 2, 3, 4, 5, 6, 7, 8, 9, 10, 11, 12, 13], [0, 1, 2, 3, 4, 5, 6, 7, 8, 9, 10, 11, 12, 13, 14]] [] (by kernel_rfl) ?_
        | refine GT.draws (id := 7) [[], [], [1], [], [], [3, 4], [3, 4, 5], [3, 4, 5, 6], [1, 2, 3, 4, 5, 6, 7], [], [9], [0, 1, 2, 3, 4, 5, 6, 7, 8, 9, 10], [0, 1, 2, 3, 4, 5, 6, 7, 8, 9, 10, 11]] [12] (by kernel_rfl) ?_
        | refine GT.draws (id := 8) [[], [], [1], [0, 1, 2], [0, 1, 2, 3], [], [5], [0, 1, 2, 3, 4, 5, 6]] [] (by kernel_rfl) ?_
        | refine GL.sf rfl rfl rfl rfl ?_
        | refine GL.sv rfl rfl rfl rfl ?_
        | refine GL.sn rfl rfl rfl ?_
        | refine GL.done ?_
        | refine GP.thenN ?_
        | refine GT.seq ?_
        | refine GT.region ?_
        | refine GD.li rfl rfl (by first | exact onAt.none rfl | exact onAt.yes rfl rfl rfl) rfl (by repeat first | exact AllG.nil rfl | refine AllG.cons rfl (by first | exact GO.sf rfl rfl | exact GO.sv rfl rfl | exact GO.call rfl rfl Tryd.func77 rfl rfl rfl (has_lit hin) | exact GO.loadC rfl rfl rfl rfl rfl h1 | exact GO.loadC rfl rfl rfl rfl rfl h0 | exact GO.indexS (s := 2) rfl rfl rfl rfl rfl (by omega) | exact GO.indexA (s := 1) rfl rfl rfl rfl rfl (by omega) | exact GO.loadC rfl rfl rfl rfl rfl (stV_atF off2 hi8) | exact GO.loadC rfl rfl rfl rfl rfl (outC_atF off2 hi8 hm1) | exact GO.add rfl rfl rfl (by omega)) ?_) ?_
        | refine GD.off rfl rfl rfl rfl rfl (by exact .inl rfl) rfl ?_
        | refine GD.done rfl rfl rfl ?_
        | refine GD.hO rfl rfl rfl (by exact onAt.none rfl) rfl (by exact GO.storeC (vs := [.int .i64 _]) rfl rfl rfl rfl rfl rfl rfl (Nat.le_of_ble_eq_true rfl) (le11 (off2l hi8)) (outC_setF off2 hi8 hm1 hm2)) ?_ ?_
        | exact AllJs.nil rfl
        | refine GL.vN rfl rfl (by exact GO.storeC (vs := [.int .i64 _]) rfl rfl rfl rfl rfl rfl rfl (Nat.le_of_ble_eq_true rfl) (le11 (off2l hi8)) (outC_setF off2 hi8 hm1 hm2)) ?_
        | refine GL.v rfl rfl rfl (by first | exact GO.loadG (s := 5) rfl rfl rfl rfl rfl rfl (by omega) g5 | exact GO.indexS (s := 5) rfl rfl rfl rfl rfl (by omega) | exact GO.indexA (s := 1) rfl rfl rfl rfl rfl (by omega) | exact GO.add rfl rfl rfl (by omega)) ?_
        | refine GT.skip ?_
        | refine GT.block ?_
        | refine GT.exit ?_
        | refine GP.thenE ?_
        | refine GP.inN ?_
        | refine GP.hit ?_
        | refine GT.condT rfl ?_
        | refine GT.condF rfl ?_
        | (refine GT.condD rfl (fun h => ?_) (fun h => ?_) <;> try (exfalso; omega)))
      ·
        exact GP.invN (l.length - (i + 1)) (by omega) ⟨i + 1, by omega, rfl, Nat.le_of_ble_eq_true rfl, asub_cons rfl (asub_cons rfl (asub_cons rfl (asub_cons rfl (asub_cons rfl (asub_cons rfl (asub_cons rfl (asub_cons rfl asub_nil))))))), .inl ⟨by rw [als_succ, if_neg (by rw [hal0]; decide)]; exact hnil, subm_cons rfl (subm_cons rfl (subm_cons rfl (subm_cons rfl (subm_cons rfl (subm_cons rfl subm_nil)))))⟩⟩
      ·
        exact GP.invN (l.length - (i + 1)) (by omega) ⟨i + 1, by omega, rfl, Nat.le_of_ble_eq_true rfl, asub_cons rfl (asub_cons rfl (asub_cons rfl (asub_cons rfl (asub_cons rfl (asub_cons rfl (asub_cons rfl (asub_cons rfl asub_nil))))))), .inl ⟨by rw [als_succ, if_neg (by rw [hal0]; decide)]; exact hnil, subm_cons rfl (subm_cons rfl (subm_cons rfl (subm_cons rfl (subm_cons rfl (subm_cons rfl subm_nil)))))⟩⟩
      ·
        have hal1 : als l rs c (i + 1) = [i] := by rw [als_succ, if_pos hal0, hnil]; rfl
        exact GP.invN (l.length - (i + 1)) (by omega) ⟨i + 1, by omega, rfl, Nat.le_of_ble_eq_true rfl, asub_cons rfl (asub_cons rfl (asub_cons rfl (asub_cons rfl (asub_cons rfl (asub_cons rfl (asub_cons rfl (asub_cons rfl asub_nil))))))), .inr ⟨8, by rw [hal1]; exact List.cons_ne_nil _ _, Nat.le_of_ble_eq_true rfl, by rw [hal1]; rfl, by rw [hal1]; exact subm_cons rfl (subm_cons rfl (subm_cons rfl (subm_cons rfl (subm_cons rfl (subm_cons rfl subm_nil)))))⟩⟩
      ·
        exact GP.invN (l.length - (i + 1)) (by omega) ⟨i + 1, by omega, rfl, Nat.le_of_ble_eq_true rfl, asub_cons rfl (asub_cons rfl (asub_cons rfl (asub_cons rfl (asub_cons rfl (asub_cons rfl (asub_cons rfl (asub_cons rfl asub_nil))))))), .inl ⟨by rw [als_succ, if_neg (by rw [hal0]; decide)]; exact hnil, subm_cons rfl (subm_cons rfl (subm_cons rfl (subm_cons rfl (subm_cons rfl (subm_cons rfl subm_nil)))))⟩⟩
      ·
        have hal1 : als l rs c (i + 1) = [i] := by rw [als_succ, if_pos hal0, hnil]; rfl
        exact GP.invN (l.length - (i + 1)) (by omega) ⟨i + 1, by omega, rfl, Nat.le_of_ble_eq_true rfl, asub_cons rfl (asub_cons rfl (asub_cons rfl (asub_cons rfl (asub_cons rfl (asub_cons rfl (asub_cons rfl (asub_cons rfl asub_nil))))))), .inr ⟨8, by rw [hal1]; exact List.cons_ne_nil _ _, Nat.le_of_ble_eq_true rfl, by rw [hal1]; rfl, by rw [hal1]; exact subm_cons rfl (subm_cons rfl (subm_cons rfl (subm_cons rfl (subm_cons rfl (subm_cons rfl subm_nil)))))⟩⟩
    · have hil : i = l.length := by omega
      have hv0 : voteOf l need (als l rs c l.length) = false := by rw [← hil, hnil]; unfold voteOf; simp
      have hfin : (Value.agg (outC md lf (midC l rs c i) (.slice none 0 0)).toArray) = .agg (outC (cntMd l rs need sil md c) (cntLf l rs need sil md lf c) (cntC l rs need c) (.slice none 0 0)).toArray := by
        unfold cntMd cntLf cntC; rw [hv0, ← hil]; rfl
      rw [← hfin, ← hil]
      repeat' (first
      | (refine GL.eqAny rfl rfl rfl rfl rfl rfl rfl rfl Tryd.eqGuardType57 ⟨_, d_aeq57 _ _ _ _ _ _ _ _ _ _ _ _ _ _ _ _⟩ rfl (fun b => ?_))
      | refine GL.sf rfl rfl rfl rfl ?_
      | refine GL.sv rfl rfl rfl rfl ?_
      | refine GL.sn rfl rfl rfl ?_
      | refine GL.done ?_
      | refine GP.thenN ?_
      | refine GT.seq ?_
      | refine GT.region ?_
      | refine GL.unguardG rfl rfl rfl ?_
      | refine GL.skipG rfl rfl rfl rfl rfl ?_
      | refine GL.v rfl rfl rfl (by exact GO.call rfl rfl Tryd.func121 rfl rfl rfl (d_vote121a _ _ hneed rfl)) ?_
      | refine GT.ret ?_
      | refine GT.exit ?_
      | refine GP.thenR ?_
      | refine GP.thenE ?_
      | refine GP.hit ?_
      | refine GP.invE ?_
      | refine GT.condT rfl ?_
      | (refine GT.condD rfl (fun h => ?_) (fun h => ?_) <;> try (exfalso; omega))
      | (refine GL.forkBG rfl rfl rfl (fun h => ?_) (fun h => ?_))
      | refine GP.endR1 rfl ?_)
      all_goals exact .inl ⟨hnil, rfl⟩
  · have hnl : (natC (als l rs c i)).length = (als l rs c i).length * 1 := by simp
    have hal9 : (als l rs c i).length ≤ 8 := by have := als_len (l := l) (rs := rs) (c := c) (i := i); omega
    refine GT.resetO (L' := CM' l rs k need sil md lf c) 6 o 5 hs (fun j y hj => hsub j y (CM'_sub hj)) rfl rfl rfl CM'_under hE ho trivial hob (natC_flat _) (hsub 5 _ rfl) rfl (fun ρ h1 h2 => Rn.cons (.flat (k := 8) rfl) (Rn.cons (.flat (k := 8) rfl) (Rn.append (.flat (k := 16) rfl) (.sl h2)))) rfl ?_
    clear hs hsub hnx ho hob
    rcases Nat.lt_or_ge i l.length with hlt | hge
    · obtain ⟨y, r, m, hy, hx⟩ := hrd i hlt
      have hi8 : i < 8 := by omega
      have hdy := hd i y hy
      have hci := hcb i
      have g5 : ((senC l).drop (0 + (i : Int).toNat * 5)).take 5 = [.string y.s, .string y.k, .int .i64 y.lo, .int .i64 y.hi, .int .i64 y.d] := by simpa using senC_five l i y hy
      obtain ⟨h0, h1⟩ := rdC_at rs i (r, m) hx
      replace h0 : (rdC rs)[0 + (i : Int).toNat * 2]? = some (.int .i64 r) := by simpa using h0
      replace h1 : (rdC rs)[0 + (i : Int).toNat * 2 + 1]? = some (.bool m) := by simpa using h1
      have hm2 : ∀ j, j ≠ i → midC l rs c (i + 1) j = midC l rs c i j := fun j hj => by rw [midC_succ, if_neg hj]
      have hm0 : midC l rs c (i + 1) i = cntI y (r, m) (c i) := by rw [midC_succ, if_pos rfl]; unfold newC; rw [hy, hx]
      have hal0 : alB l rs c i = (!goodB y (r, m) && decide (min y.d (c i + 1) = y.d)) := by unfold alB; rw [hy, hx]
      rcases round_cases y r m (c i) with ⟨rfl, hin, hc1, hc2⟩ | ⟨rfl, hin, hc1, hc2⟩ | ⟨rfl, hin, hc1, hc2⟩ | ⟨rfl, hin, hmn, hc1, hc2⟩ | ⟨rfl, hin, hmn, hc1, hc2⟩
      all_goals have hm1 := hm0.trans hc1
      all_goals rw [hc2] at hal0
      all_goals
        repeat' (first
        | refine GT.draws (id := 5) [[], [], [0, 1], [0, 1, 2], [0, 1, 2, 3], [0, 1, 2, 3, 4], [0, 1, 2, 3, 4, 5], [0, 1, 2, 3, 4, 5, 6], [0, 1, 2, 3, 4, 5, 6, 7], [0, 1, 2, 3, 4, 5, 6], [0, 1, 2, 3, 4, 5, 6], [0, 1, 2, 3, 4, 5, 6, 9, 10], [0, 1, 2, 3, 4, 5, 6, 9, 10, 11], [0, 1, 2, 3, 4, 5, 6, 9, 10, 11, 12], [0, 1, 2, 3, 4, 5, 6, 7, 8, 9, 10, 11, 12, 13], [0, 1, 2, 3, 4, 5, 6, 7, 8, 9, 10, 11, 12, 13, 14]] [] (by kernel_rfl) ?_
        | refine GT.draws (id := 7) [[], [], [1], [], [], [3, 4], [3, 4, 5], [3, 4, 5, 6], [1, 2, 3, 4, 5, 6, 7], [], [9], [0, 1, 2, 3, 4, 5, 6, 7, 8, 9, 10], [0, 1, 2, 3, 4, 5, 6, 7, 8, 9, 10, 11]] [12] (by kernel_rfl) ?_
        | refine GT.draws (id := 8) [[], [], [1], [0, 1, 2], [0, 1, 2, 3], [], [5], [0, 1, 2, 3, 4, 5, 6]] [] (by kernel_rfl) ?_
        | refine GL.sf rfl rfl rfl rfl ?_
        | refine GL.sv rfl rfl rfl rfl ?_
        | refine GL.sn rfl rfl rfl ?_
        | refine GL.done ?_
        | refine GP.thenN ?_
        | refine GT.seq ?_
        | refine GT.region ?_
        | refine GD.li rfl rfl (by first | exact onAt.none rfl | exact onAt.yes rfl rfl rfl) rfl (by repeat first | exact AllG.nil rfl | refine AllG.cons rfl (by first | exact GO.sf rfl rfl | exact GO.sv rfl rfl | exact GO.call rfl rfl Tryd.func77 rfl rfl rfl (has_lit hin) | exact GO.loadC rfl rfl rfl rfl rfl h1 | exact GO.loadC rfl rfl rfl rfl rfl h0 | exact GO.indexS (s := 2) rfl rfl rfl rfl rfl (by omega) | exact GO.indexA (s := 1) rfl rfl rfl rfl rfl (by omega) | exact GO.loadC rfl rfl rfl rfl rfl (stV_atF off2 hi8) | exact GO.loadC rfl rfl rfl rfl rfl (outC_atF off2 hi8 hm1) | exact GO.add rfl rfl rfl (by omega)) ?_) ?_
        | refine GD.off rfl rfl rfl rfl rfl (by exact .inl rfl) rfl ?_
        | refine GD.done rfl rfl rfl ?_
        | refine GD.hO rfl rfl rfl (by exact onAt.none rfl) rfl (by exact GO.storeC (vs := [.int .i64 _]) rfl rfl rfl rfl rfl rfl rfl (Nat.le_of_ble_eq_true rfl) (le11 (off2l hi8)) (outC_setF off2 hi8 hm1 hm2)) ?_ ?_
        | exact AllJs.nil rfl
        | refine GL.vN rfl rfl (by exact GO.storeC (vs := [.int .i64 _]) rfl rfl rfl rfl rfl rfl rfl (Nat.le_of_ble_eq_true rfl) (le11 (off2l hi8)) (outC_setF off2 hi8 hm1 hm2)) ?_
        | refine GL.v rfl rfl rfl (by first | exact GO.loadG (s := 5) rfl rfl rfl rfl rfl rfl (by omega) g5 | exact GO.indexS (s := 5) rfl rfl rfl rfl rfl (by omega) | exact GO.indexA (s := 1) rfl rfl rfl rfl rfl (by omega) | exact GO.appendN (olds := natC (als l rs c i)) rfl rfl rfl rfl rfl rfl rfl rfl rfl rfl rfl rfl rfl rfl hnl (Nat.le_of_ble_eq_true rfl) rfl (Nat.le_of_ble_eq_true rfl) (Nat.le_of_ble_eq_true rfl) (Nat.le_trans (m := 8 + 8) (Nat.add_le_add hal9 (Nat.le_of_ble_eq_true rfl)) (Nat.le_of_ble_eq_true rfl)) | exact GO.add rfl rfl rfl (by omega)) ?_
        | refine GT.skip ?_
        | refine GT.block ?_
        | refine GT.exit ?_
        | refine GP.thenE ?_
        | refine GP.inN ?_
        | refine GP.hit ?_
        | refine GT.condT rfl ?_
        | refine GT.condF rfl ?_
        | (refine GT.condD rfl (fun h => ?_) (fun h => ?_) <;> try (exfalso; omega)))
      ·
        exact GP.invN (l.length - (i + 1)) (by omega) ⟨i + 1, by omega, rfl, Nat.le_of_ble_eq_true rfl, asub_cons rfl (asub_cons rfl (asub_cons rfl (asub_cons rfl (asub_cons rfl (asub_cons rfl (asub_cons rfl (asub_cons rfl asub_nil))))))), .inr ⟨6, by rw [als_succ, if_neg (by rw [hal0]; decide)]; exact hne, Nat.le_of_ble_eq_true rfl, by rw [als_succ, if_neg (by rw [hal0]; decide)]; rfl, by rw [als_succ, if_neg (by rw [hal0]; decide)]; exact subm_cons rfl (subm_cons rfl (subm_cons rfl (subm_cons rfl (subm_cons rfl (subm_cons rfl subm_nil)))))⟩⟩
      ·
        exact GP.invN (l.length - (i + 1)) (by omega) ⟨i + 1, by omega, rfl, Nat.le_of_ble_eq_true rfl, asub_cons rfl (asub_cons rfl (asub_cons rfl (asub_cons rfl (asub_cons rfl (asub_cons rfl (asub_cons rfl (asub_cons rfl asub_nil))))))), .inr ⟨6, by rw [als_succ, if_neg (by rw [hal0]; decide)]; exact hne, Nat.le_of_ble_eq_true rfl, by rw [als_succ, if_neg (by rw [hal0]; decide)]; rfl, by rw [als_succ, if_neg (by rw [hal0]; decide)]; exact subm_cons rfl (subm_cons rfl (subm_cons rfl (subm_cons rfl (subm_cons rfl (subm_cons rfl subm_nil)))))⟩⟩
      ·
        have hal1 : als l rs c (i + 1) = als l rs c i ++ [i] := by rw [als_succ, if_pos hal0]
        exact GP.invN (l.length - (i + 1)) (by omega) ⟨i + 1, by omega, rfl, Nat.le_of_ble_eq_true rfl, asub_cons rfl (asub_cons rfl (asub_cons rfl (asub_cons rfl (asub_cons rfl (asub_cons rfl (asub_cons rfl (asub_cons rfl asub_nil))))))), .inr ⟨9, by rw [hal1]; simp, Nat.le_of_ble_eq_true rfl, by rw [hal1]; rw [natC_snoc]; rfl, by rw [hal1, List.length_append]; exact subm_cons rfl (subm_cons rfl (subm_cons rfl (subm_cons rfl (subm_cons rfl (subm_cons rfl subm_nil)))))⟩⟩
      ·
        exact GP.invN (l.length - (i + 1)) (by omega) ⟨i + 1, by omega, rfl, Nat.le_of_ble_eq_true rfl, asub_cons rfl (asub_cons rfl (asub_cons rfl (asub_cons rfl (asub_cons rfl (asub_cons rfl (asub_cons rfl (asub_cons rfl asub_nil))))))), .inr ⟨6, by rw [als_succ, if_neg (by rw [hal0]; decide)]; exact hne, Nat.le_of_ble_eq_true rfl, by rw [als_succ, if_neg (by rw [hal0]; decide)]; rfl, by rw [als_succ, if_neg (by rw [hal0]; decide)]; exact subm_cons rfl (subm_cons rfl (subm_cons rfl (subm_cons rfl (subm_cons rfl (subm_cons rfl subm_nil)))))⟩⟩
      ·
        have hal1 : als l rs c (i + 1) = als l rs c i ++ [i] := by rw [als_succ, if_pos hal0]
        exact GP.invN (l.length - (i + 1)) (by omega) ⟨i + 1, by omega, rfl, Nat.le_of_ble_eq_true rfl, asub_cons rfl (asub_cons rfl (asub_cons rfl (asub_cons rfl (asub_cons rfl (asub_cons rfl (asub_cons rfl (asub_cons rfl asub_nil))))))), .inr ⟨9, by rw [hal1]; simp, Nat.le_of_ble_eq_true rfl, by rw [hal1]; rw [natC_snoc]; rfl, by rw [hal1, List.length_append]; exact subm_cons rfl (subm_cons rfl (subm_cons rfl (subm_cons rfl (subm_cons rfl (subm_cons rfl subm_nil)))))⟩⟩
    · have hil : i = l.length := by omega
      have hal8 : (als l rs c i).length ≤ 8 := by have := als_len (l := l) (rs := rs) (c := c) (i := i); omega
      have hpos : 0 < (als l rs c i).length := List.length_pos_iff.2 hne
      have k121 := fun {A : AW} {p x : Nat} hp hx => d_voteG121 (A := A) (p := p) (x := x) (k := k) (c := (als l rs c i).length) l need sil (als l rs c i) (by rw [hil]; exact hals) (by omega) (by omega) hp hx
      cases hvo : voteOf l need (als l rs c i) with
      | false =>
        rw [show (decide (need ≤ ((als l rs c i).length : Int)) && (als l rs c i).any (nearB l)) = false from hvo] at k121
        have hvo' := hvo
        rw [hil] at hvo'
        have hfin : ∀ u, (Value.agg (outC md lf (midC l rs c i) u).toArray) = .agg (outC (cntMd l rs need sil md c) (cntLf l rs need sil md lf c) (cntC l rs need c) u).toArray := by
          intro u; unfold cntMd cntLf cntC; rw [hvo', ← hil]; rfl
        repeat' (first
        | (refine GL.eqAny rfl rfl rfl rfl rfl rfl rfl rfl Tryd.eqGuardType57 ⟨_, d_aeq57 _ _ _ _ _ _ _ _ _ _ _ _ _ _ _ _⟩ rfl (fun b => ?_))
        | refine GL.sf rfl rfl rfl rfl ?_
        | refine GL.sv rfl rfl rfl rfl ?_
        | refine GL.sn rfl rfl rfl ?_
        | refine GL.done ?_
        | refine GP.thenN ?_
        | refine GT.seq ?_
        | refine GT.region ?_
        | refine GL.unguardG rfl rfl rfl ?_
        | refine GL.skipG rfl rfl rfl rfl rfl ?_
        | refine GL.v rfl rfl rfl (by exact GO.call rfl rfl Tryd.func121 rfl rfl rfl (k121 (rd_self rfl) (rd_self rfl))) ?_
        | refine GT.ret ?_
        | refine GT.exit ?_
        | refine GP.thenR ?_
        | refine GP.thenE ?_
        | refine GP.hit ?_
        | refine GP.invE ?_
        | refine GT.condT rfl ?_
        | (refine GT.condD rfl (fun h => ?_) (fun h => ?_) <;> try (exfalso; omega))
        | (refine GL.forkDG rfl rfl rfl (fun h => ?_) (fun h => ?_) <;> try (exfalso; omega))
        | (refine GL.forkBG rfl rfl rfl (fun h => ?_) (fun h => ?_))
        | refine GP.endR1 rfl ?_)
        all_goals exact .inr ⟨6, hil ▸ hne, by rw [← hil]; rfl, Nat.le_of_ble_eq_true rfl, by rw [← hfin, ← hil]; rfl⟩
      | true =>
        rw [show (decide (need ≤ ((als l rs c i).length : Int)) && (als l rs c i).any (nearB l)) = true from hvo] at k121
        have hvo' := hvo
        rw [hil] at hvo'
        have hfin : ∀ u, (Value.agg (outC (if md = 2 then 3 else if sil = 0 then 2 else 1) (if md = 2 then 0 else sil) (fun _ => 0) u).toArray) = .agg (outC (cntMd l rs need sil md c) (cntLf l rs need sil md lf c) (cntC l rs need c) u).toArray := by
          intro u; unfold cntMd cntLf cntC; rw [hvo']; rfl
        repeat' (first
        | (refine GL.eqAny rfl rfl rfl rfl rfl rfl rfl rfl Tryd.eqGuardType57 ⟨_, d_aeq57 _ _ _ _ _ _ _ _ _ _ _ _ _ _ _ _⟩ rfl (fun b => ?_))
        | refine GL.sf rfl rfl rfl rfl ?_
        | refine GL.sv rfl rfl rfl rfl ?_
        | refine GL.sn rfl rfl rfl ?_
        | refine GL.done ?_
        | refine GP.thenN ?_
        | refine GT.seq ?_
        | refine GT.region ?_
        | refine GL.unguardG rfl rfl rfl ?_
        | refine GL.skipG rfl rfl rfl rfl rfl ?_
        | refine GL.v rfl rfl rfl (by exact GO.call rfl rfl Tryd.func121 rfl rfl rfl (k121 (rd_self rfl) (rd_self rfl))) ?_
        | refine GT.skip ?_
        | refine GT.block ?_
        | refine GT.ret ?_
        | refine GT.exit ?_
        | refine GP.thenE ?_
        | refine GP.inN ?_
        | refine GP.hit ?_
        | refine GP.invE ?_
        | refine GT.condF rfl ?_
        | (refine GT.condD rfl (fun h => ?_) (fun h => ?_) <;> try (exfalso; omega))
        | (refine GL.forkDG rfl rfl rfl (fun h => ?_) (fun h => ?_) <;> try (exfalso; omega))
        | (refine GL.forkBG rfl rfl rfl (fun h => ?_) (fun h => ?_))
        | refine GP.endR1 rfl ?_)
        all_goals exact .inr ⟨6, hil ▸ hne, by rw [← hil]; rfl, Nat.le_of_ble_eq_true rfl, by
          rw [← hfin, ← hil]
          first
          | (rw [if_pos ‹md = 2›, if_pos ‹md = 2›]; rfl)
          | (rw [if_neg ‹¬md = 2›, if_neg ‹¬md = 2›, if_pos ‹sil = 0›, ‹sil = 0›]; rfl)
          | (rw [if_neg ‹¬md = 2›, if_neg ‹¬md = 2›, if_neg ‹¬sil = 0›]; rfl)⟩
theorem d_counted194N {A : AW} {p x k : Nat} (l : List Sen) (rs : List (Int × Bool)) (need sil md lf : Int) (c : Nat → Int) (hl : 0 < l.length ∧ l.length ≤ 8) (hrs : rs.length = l.length) (hd : ∀ (i : Nat) (y : Sen), l[i]? = some y → 1 ≤ y.d ∧ y.d ≤ 60) (hcb : ∀ j, 0 ≤ c j ∧ c j ≤ 60) (hneed : 1 ≤ need)
    (hp : A.rd p 0 (senC l).length = some (senC l)) (hx : A.rd x 0 (rdC rs).length = some (rdC rs)) (he : als l rs c l.length = []) :
    AC Tryd.prog 194 (cntArgs l need sil md lf c p x k) A (isR (.agg (outC (cntMd l rs need sil md c) (cntLf l rs need sil md lf c) (cntC l rs need c) (.slice none 0 0)).toArray) A) := by
  obtain ⟨fj, hflat⟩ := senC_flat l
  obtain ⟨fr, hrf⟩ := rdC_flat rs
  refine AC.isX ((SmallX.nil.cons (k := 0) (b := p) (f := 0) (o := .cells (senC l) 128) (.flat hp hflat)).cons (b := x) (f := 0) (o := .cells (rdC rs) 46) (.flat hx hrf)) (args := cntArgs l need sil md lf c 0 1 k)
    (AC.mono (d_counted194S l rs need sil md lf c hl hrs hd hcb hneed) fun v A1 h => ?_) ⟨32, rfl⟩ (.agg (.sl rfl rfl (.flat (k := 8) rfl (.flat (k := 8) rfl .nil))) (.flat (k := 32) rfl (.sl rfl rfl .nil)))
  rcases h with h | ⟨nm, h, _⟩
  · exact h.2
  · exact absurd he h
theorem d_counted194P {A : AW} {p x k : Nat} (l : List Sen) (rs : List (Int × Bool)) (need sil md lf : Int) (c : Nat → Int) (hl : 0 < l.length ∧ l.length ≤ 8) (hrs : rs.length = l.length) (hd : ∀ (i : Nat) (y : Sen), l[i]? = some y → 1 ≤ y.d ∧ y.d ≤ 60) (hcb : ∀ j, 0 ≤ c j ∧ c j ≤ 60) (hneed : 1 ≤ need)
    (hp : A.rd p 0 (senC l).length = some (senC l)) (hx : A.rd x 0 (rdC rs).length = some (rdC rs)) (he : als l rs c l.length ≠ []) :
    AC Tryd.prog 194 (cntArgs l need sil md lf c p x k) A (isR (.agg (outC (cntMd l rs need sil md c) (cntLf l rs need sil md lf c) (cntC l rs need c) (.slice (some ⟨A.next, 0, none⟩) (als l rs c l.length).length (als l rs c l.length).length)).toArray) (A.push (.cells (natC (als l rs c l.length)) 3))) := by
  obtain ⟨fj, hflat⟩ := senC_flat l
  obtain ⟨fr, hrf⟩ := rdC_flat rs
  refine AC.mono (AC.givesX (Φ := fun cs => cs = natC (als l rs c l.length)) (e := 3) ((SmallX.nil.cons (k := 0) (b := p) (f := 0) (o := .cells (senC l) 128) (.flat hp hflat)).cons (b := x) (f := 0) (o := .cells (rdC rs) 46) (.flat hx hrf)) (args := cntArgs l need sil md lf c 0 1 k)
    (v2 := .agg (outC (cntMd l rs need sil md c) (cntLf l rs need sil md lf c) (cntC l rs need c) (.slice (some ⟨A.next, 0, none⟩) (als l rs c l.length).length (als l rs c l.length).length)).toArray)
    (AC.mono (d_counted194S l rs need sil md lf c hl hrs hd hcb hneed) fun v A1 h => ?_) (.agg (.sl rfl rfl (.flat (k := 8) rfl (.flat (k := 8) rfl .nil))) (.flat (k := 32) rfl (.sl rfl rfl .nil)))) (fun v A1 hv => ?_)
  · rcases h with h | ⟨nm, _, h1, h2, rfl⟩
    · exact absurd h.1 he
    · exact ⟨nm, _, h1, h2, natC_flat _, rfl, arO (.sl (f := 0) (g := 0) (if_pos rfl) rfl .nil)⟩
  · obtain ⟨cs, rfl, rfl, rfl⟩ := hv
    exact ⟨rfl, rfl⟩
end Go.M
