/- Functions of the given program, walked (no condition beyond what each theorem says). -/
import Derived.Test.YtfhodefiknfccaaDoorC3
import Derived.Test.YtfhodefiknfccaaDoorC5
set_option linter.unusedVariables false
set_option linter.unusedSimpArgs false
namespace Go.M
open Go.Proofs Go.RowKit
set_option maxRecDepth 16000
set_option maxHeartbeats 8000000
def useB (md : Int) : Bool := decide (md = 0) || decide (md = 2)
theorem d_useful76N {A : AW} (md lf : Int) (c : Nat → Int) : AC Tryd.prog 76 [.agg (outC md lf c (.slice none 0 0)).toArray] A (isR (.bool (useB md)) A) := by
  refine AC.isX (SmallX.nil (A := A)) (args := [.agg (outC md lf c (.slice none 0 0)).toArray]) ?_ ⟨8, rfl⟩ (.flat (k := 32) rfl .nil)
  refine AC.go Tryd.func76 rfl rfl ?_
  repeat' (first
  | refine GL.sf rfl rfl rfl rfl ?_
  | refine GL.done ?_
  | refine GP.thenN ?_
  | refine GT.seq ?_
  | refine GT.region ?_
  | refine GL.unguardG rfl rfl rfl ?_
  | refine GL.skipG rfl rfl rfl rfl rfl ?_
  | refine GT.ret ?_
  | (refine GL.forkDG rfl rfl rfl (fun h => ?_) (fun h => ?_) <;> try (exfalso; omega))
  | refine GP.endR1 rfl ?_)
  · simp [useB, *]
  · simp [useB, *]
theorem d_useful76P {A : AW} {b k1 k2 : Nat} (md lf : Int) (c : Nat → Int) (hb : A.rd b 0 0 = some []) : AC Tryd.prog 76 [.agg (outC md lf c (.slice (some ⟨b, 0, none⟩) k1 k2)).toArray] A (isR (.bool (useB md)) A) := by
  refine AC.isX (SmallX.nil.cons (k := 0) (b := b) (f := 0) (o := .cells [] 3) (.flat (k := 8) hb rfl)) (args := [.agg (outC md lf c (.slice (some ⟨0, 0, none⟩) k1 k2)).toArray]) ?_ ⟨8, rfl⟩ (arO (.sl rfl rfl .nil))
  refine AC.go Tryd.func76 rfl rfl ?_
  clear hb
  repeat' (first
  | refine GL.sf rfl rfl rfl rfl ?_
  | refine GL.done ?_
  | refine GP.thenN ?_
  | refine GT.seq ?_
  | refine GT.region ?_
  | refine GL.unguardG rfl rfl rfl ?_
  | refine GL.skipG rfl rfl rfl rfl rfl ?_
  | refine GT.ret ?_
  | (refine GL.forkDG rfl rfl rfl (fun h => ?_) (fun h => ?_) <;> try (exfalso; omega))
  | refine GP.endR1 rfl ?_)
  · simp [useB, *]
  · simp [useB, *]
/-- The present run, and the longest, after 'i' seconds. -/
def runF (md : Nat → Int) (ex : List Int) : Nat → Int
  | 0 => 0
  | i + 1 => bif useB (md (i + 1)) && !decide (0 ≤ ex.getD i 0 ∧ ex.getD i 0 ≤ 0) then runF md ex i + 1 else 0
def bestF (md : Nat → Int) (ex : List Int) : Nat → Int
  | 0 => 0
  | i + 1 => max (bestF md ex i) (runF md ex (i + 1))
theorem runF_le {md : Nat → Int} {ex : List Int} : ∀ i : Nat, 0 ≤ runF md ex i ∧ runF md ex i ≤ i
  | 0 => ⟨Int.le_refl 0, Int.le_refl 0⟩
  | i + 1 => by
    obtain ⟨h1, h2⟩ := runF_le (md := md) (ex := ex) i
    unfold runF
    cases useB (md (i + 1)) && !decide (0 ≤ ex.getD i 0 ∧ ex.getD i 0 ≤ 0) with
    | true => simp only [cond_true]; omega
    | false => simp only [cond_false]; omega
abbrev FX (sens : List Value) (n m : Nat) (rd : Nat → List Value) (ex : List Int) : LM := (999, .cells (intC ex) 3) :: FM sens n m rd
theorem FM_ne {sens : List Value} {n m : Nat} {rd : Nat → List Value} {j : Nat} {o : AObj} (h : alook (FM sens n m rd) j = some o) (hm : m ≤ 256) : j < 999 := by
  rcases Nat.lt_or_ge j 999 with q | q
  · exact q
  · exfalso
    have hj := FM_lt (by omega) h
    obtain rfl : j = 999 := by omega
    simp only [FM, alook] at h
    (repeat rw [if_neg (by omega)] at h)
    rw [fam_look, if_neg (by omega)] at h
    cases h
/-- What stays, and what changes, while the run is counted. -/
abbrev SX (sens : List Value) (n m k cx : Nat) (rd : Nat → List Value) (need sil : Int) (ex : List Int) (rec : AObj) (st : List Value) (run best : Int) : LM :=
  (1011, .cells st 59) :: (1010, rec) :: (1009, .dfr) :: (1008, .cells [.slice (some ⟨4, 0, none⟩) m m] 55) :: (1007, boxP n k need sil) :: (1006, .cells [.int .i64 run] 3) :: (1005, .cells [.int .i64 best] 3) :: (1002, .cells [.int .i64 0, .int .i64 0] 26) :: (1001, .cells [.slice (some ⟨999, 0, none⟩) ex.length cx] 83) :: FX sens n m rd ex
theorem SX_ok {sens : List Value} {n m k cx : Nat} {rd : Nat → List Value} {need sil run best : Int} {ex : List Int} {rec : AObj} {st : List Value} (hm : m ≤ 256) (hs : ∃ k, noAddrs k sens = true) (hr : ∀ i, i < m → ∃ k, noAddrs k (rd i) = true) (hrec : ObjLt 1012 rec) (hst : ∃ j, noAddrs j st = true) :
    ∀ j y, alook (SX sens n m k cx rd need sil ex rec st run best) j = some y → j < 1012 ∧ ObjLt 1012 y := by
  intro j y hy
  rw [alook] at hy
  split at hy
  · obtain ⟨q, hq⟩ := hst; cases hy; subst j; exact ⟨by decide, Lt.flat hq⟩
  rw [alook] at hy
  split at hy
  · cases hy; subst j; exact ⟨by decide, hrec⟩
  rw [alook] at hy
  split at hy
  · cases hy; subst j; exact ⟨by decide, trivial⟩
  rw [alook] at hy
  split at hy
  · cases hy; subst j; exact ⟨by decide, .cons (.sl rfl) .nil⟩
  rw [alook] at hy
  split at hy
  · cases hy; subst j; exact ⟨by decide, .cons (.sl rfl) (.flat (j := 8) rfl)⟩
  rw [alook] at hy
  split at hy
  · cases hy; subst j; exact ⟨by decide, .flat (j := 8) rfl⟩
  rw [alook] at hy
  split at hy
  · cases hy; subst j; exact ⟨by decide, .flat (j := 8) rfl⟩
  rw [alook] at hy
  split at hy
  · cases hy; subst j; exact ⟨by decide, .flat (j := 8) rfl⟩
  rw [alook] at hy
  split at hy
  · cases hy; subst j; exact ⟨by decide, .cons (.sl rfl) .nil⟩
  rw [alook] at hy
  split at hy
  · obtain ⟨q, hq⟩ := intC_flat ex; cases hy; subst j; exact ⟨by decide, Lt.flat hq⟩
  have h1 := FM_lt (by omega) hy
  exact ⟨by omega, (FM_ok (by omega) (by decide) hs hr j y hy).2⟩
abbrev EX (m i : Nat) : AEnv := [(0, .func (.yield 1010) #[] #[]), (1, .pointer (some ⟨1008, 0, none⟩)), (2, .pointer (some ⟨1007, 0, none⟩)), (4, .pointer (some ⟨1011, 0, none⟩)), (8, .slice (some ⟨4, 0, none⟩) m m), (9, .int .i64 m), (10, .int .i64 i)]
theorem EX_lt {m i : Nat} : EnvLt 1012 (EX m i) := .cons (Lt.yield rfl) (.cons (.ptr rfl) (.cons (.ptr rfl) (.cons (.ptr rfl) (.cons (.sl rfl) (.cons (.flat (j := 8) rfl) (.cons (.flat (j := 8) rfl) .nil))))))
theorem d_exposed33 {md lf : Nat → Int} {c : Nat → Nat → Int} {sens : List Value} {n m k cx : Nat} {rd : Nat → List Value} {need sil : Int} {ex : List Int} (hm : 0 < m ∧ m ≤ 256) (hs : ∃ k, noAddrs k sens = true) (hr : ∀ i, i < m → ∃ k, noAddrs k (rd i) = true) (hcl : Closure86 sens n m k rd need sil) (hpl : Plant84 sens n m k rd need sil)
    (h00 : md 0 = 0 ∧ lf 0 = 0 ∧ c 0 = fun _ => 0) (hc : ∀ i, i < m → Step sens (rd i) n k need sil (md i) (lf i) (c i) (md (i + 1)) (lf (i + 1)) (c (i + 1))) (hxl : ex.length = m) (hex : ∀ z ∈ ex, -10000 ≤ z ∧ z ≤ 10000) :
    AC Tryd.prog 33 [.agg #[.slice (some ⟨3, 0, none⟩) n k, .int .i64 need, .int .i64 sil], .slice (some ⟨4, 0, none⟩) m m, .slice (some ⟨999, 0, none⟩) ex.length cx, .agg #[.int .i64 0, .int .i64 0]] (AW.of (FX sens n m rd ex) 1000 1000 3)
      (fun u _ => u = .tuple #[.int .i64 (bestF md ex m), .int .i64 0]) := by
  have hw : (!decide ((ex.length : Int) = (m : Int))) = false := by rw [hxl]; simp
  refine AC.goF Tryd.func33 rfl rfl ?_
  repeat' (first
  | refine GL.v rfl rfl rfl (GO.call rfl rfl Tryd.func41 rfl rfl rfl (AC.go Tryd.func41 rfl rfl (by repeat' (first | exact ⟨rfl, rfl⟩ | refine GL.sf rfl rfl rfl rfl ?_ | refine GL.done ?_ | refine GP.thenN ?_ | refine GT.seq ?_ | refine GT.region ?_ | refine GL.v rfl rfl rfl (by exact GO.mkfn rfl (fun _ h => by cases h) rfl rfl) ?_ | refine GT.ret ?_ | refine GP.endR1 rfl ?_)))) ?_
  | refine GT.draws (id := 1) [[], [], [0, 1], [], [3], [], [5], [3, 4, 5, 6], [0, 1, 2, 3, 4, 5, 6, 7], [], [0, 1, 2, 3, 4, 5, 6, 7, 8, 9], [0, 1, 2, 3, 4, 5, 6, 7, 8, 9, 10], [], [0, 1, 2, 3, 4, 5, 6, 7, 8, 9, 10, 11, 12], [0, 1, 2, 3, 4, 5, 6, 7, 8, 9, 10, 11, 12, 13], [0, 1, 2, 3, 4, 5, 6, 7, 8, 9, 10, 11, 12, 13, 14], [0, 1, 2, 3, 4, 5, 6, 7, 8, 9, 10, 11, 12, 13, 14, 15]] [10, 14] (by kernel_rfl) ?_
  | refine GP.fthen ?_
  | refine GF.range2 ?_
  | refine GP.range ?_
  | refine GF.seq ?_
  | refine GL.sf rfl rfl rfl rfl ?_
  | refine GL.sn rfl rfl rfl ?_
  | refine GL.done ?_
  | refine GP.thenN ?_
  | refine GT.seq ?_
  | refine GT.region ?_
  | refine GD.li rfl rfl (by exact onAt.none rfl) rfl (by repeat first | exact AllG.nil rfl | refine AllG.cons rfl (by first | exact GO.sf rfl rfl | exact GO.sv rfl rfl | exact GO.call rfl rfl Tryd.func40 rfl rfl rfl (d_seconds40at hm hs hr hcl hpl (fun j o h => by have hj := FM_lt (by omega) h; have hj2 := FM_ne h (by omega); simp only [FX, alook_aset, alook]; (repeat rw [if_neg (by omega)]); exact h)) | exact GO.call rfl rfl Tryd.func72 rfl rfl rfl (d_when72x _ hw _) | exact GO.call rfl rfl Tryd.func71 rfl rfl rfl (d_first71z (by omega) (rd_zeros rfl)) | exact GO.call rfl rfl Tryd.func75 rfl rfl rfl (d_limits75 0 0 (by omega) (by omega) (by omega)) | exact GO.call rfl rfl Tryd.func71 rfl rfl rfl (d_first71 [0, 0, 0, 0] rfl rfl rfl)) ?_) ?_
  | refine GD.he rfl rfl rfl (by exact onAt.none rfl) rfl (by first | exact GO.sf rfl rfl | exact GO.push (GO.call rfl rfl Tryd.func73 rfl rfl rfl (d_mapped73 ex hex (by omega) (rd_self rfl)))) ?_ ?_
  | refine GD.done rfl rfl rfl ?_
  | exact AllJs.nil rfl
  | refine GT.skip ?_
  | refine GT.condF rfl ?_)
  refine GRange.of (a := [(36, .func (.func 89) #[] #[.pointer (some ⟨1008, 0, none⟩), .pointer (some ⟨1007, 0, none⟩)]), (6, .pointer (some ⟨1001, 0, none⟩)), (7, .pointer (some ⟨1002, 0, none⟩)), (11, .pointer (some ⟨1005, 0, none⟩)), (12, .pointer (some ⟨1006, 0, none⟩))]) (asub_cons rfl (asub_cons rfl (asub_cons rfl (asub_cons rfl (asub_cons rfl asub_nil))))) rfl rfl rfl rfl (fun f => ?_)
  refine AC.go Tryd.func89 rfl rfl ?_
  repeat' (first
  | refine GL.sf rfl rfl rfl rfl ?_
  | refine GL.sv rfl rfl rfl rfl ?_
  | refine GL.done ?_
  | refine GP.thenN ?_
  | refine GT.seq ?_
  | refine GT.region ?_
  | refine GT.block ?_)
  generalize hrec : (AObj.loop _ _ _ _ _ _ _) = rec
  have hrl : ObjLt 1012 rec := by
    subst hrec
    intro t v hv
    exact EnvLt.get (.cons (.func .nil (.cons (.ptr rfl) (.ptr rfl)) (by intro l h; cases h)) (.cons (.ptr rfl) (.cons (.ptr rfl) (.cons (.ptr rfl) (.cons (.ptr rfl) .nil))))) hv
  refine GT.loop (fun q a L nx => ∃ i : Nat, i ≤ m ∧ q = m - i ∧ 1012 ≤ nx ∧ asub (EX m i) a ∧ subm (SX sens n m k cx rd need sil ex rec (stV (md i) (lf i) (c i)) (runF md ex i) (bestF md ex i)) L) m
    ⟨0, by omega, by omega, by decide, asub_cons rfl (asub_cons rfl (asub_cons rfl (asub_cons rfl (asub_cons rfl (asub_cons rfl (asub_cons rfl asub_nil)))))), subm_cons (by rw [h00.1, h00.2.1, h00.2.2]; rfl) (subm_cons (rfl) (subm_cons rfl (subm_cons rfl (subm_cons rfl (subm_cons (rfl) (subm_cons (rfl) (subm_cons rfl (subm_cons rfl (subm_cons rfl (fun j o h => by have hj := FM_lt (by omega) h; have hj2 := FM_ne h (by omega); simp only [alook_aset, alook_aerase, alook]; (repeat rw [if_neg (by omega)]); exact h))))))))))⟩ ?_
  rintro q a L nx ⟨i, hi, rfl, hnx, hsa, hsub⟩
  refine GT.resetL 1012 hsa hsub hnx rfl rfl (SX_ok hm.2 hs hr hrl ⟨16, rfl⟩) EX_lt (fun g hg => by
    match g, hg with
    | 0, _ => rfl
    | 1, _ => rfl
    | 2, _ => rfl) ?_
  clear hsa hsub hnx
  have hrl2 := runF_le (md := md) (ex := ex) i
  rcases Nat.lt_or_ge i m with hlt | hge
  · have hl0 : ((secC n m).drop (0 + (i : Int).toNat * 2)).take 2 = [.slice (some ⟨5 + i, 0, none⟩) n n, .int .i64 0] := by simpa using secC_at n m i hlt
    have hlen := secC_len n m
    obtain ⟨z, hzi⟩ : ∃ z, ex[i]? = some z := ⟨_, List.getElem?_eq_getElem (by omega)⟩
    have hzx : (intC ex)[0 + (i : Int).toNat * 1]? = some (.int .i64 z) := by simp [hzi]
    have hgd : ex.getD i 0 = z := by rw [List.getD_eq_getElem?_getD, hzi]; rfl
    have hrn0 : runF md ex (i + 1) = bif useB (md (i + 1)) && !decide (0 ≤ z ∧ z ≤ 0) then runF md ex i + 1 else 0 := by rw [← hgd]; rfl
    have hbn : bestF md ex (i + 1) = max (bestF md ex i) (runF md ex (i + 1)) := rfl
    cases hu : useB (md (i + 1)) <;> cases hz : decide ((0 : Int) ≤ z ∧ z ≤ 0)
    all_goals rw [hu, hz] at hrn0
    all_goals have hrn : runF md ex (i + 1) = _ := hrn0
    all_goals rcases hc i hlt with hcc | ⟨al, hcc⟩
    all_goals have k76N := fun {A : AW} => d_useful76N (A := A) (md (i + 1)) (lf (i + 1)) (c (i + 1))
    all_goals have k76P := fun {A : AW} {b k1 k2 : Nat} hb => d_useful76P (A := A) (b := b) (k1 := k1) (k2 := k2) (md (i + 1)) (lf (i + 1)) (c (i + 1)) hb
    all_goals rw [hu] at k76N k76P
    all_goals
      repeat' (first
      | refine GL.v rfl rfl rfl (GO.yield rfl rfl rfl rfl (congrArg some hrec.symm) rfl rfl rfl (by repeat' (first | exact GP.yBody rfl ⟨rfl, rfl⟩ | refine GP.yAssign (congrArg some hrec.symm) ?_ | refine GT.draws (id := 9) [[], [0], [0, 1], [0, 1, 2], [0, 1, 2, 3], [0, 1, 2, 3], [0, 1, 2, 3], [0, 1, 2, 3, 5, 6], [0, 1, 2, 3, 5, 6, 7], [0, 1, 2, 3, 4, 5, 6, 7, 8], [0, 1, 2, 3, 4, 5, 6, 7, 8, 9]] [] (by kernel_rfl) ?_ | refine GL.sf rfl rfl rfl rfl ?_ | refine GL.sv rfl rfl rfl rfl ?_ | refine GL.sn rfl rfl rfl ?_ | refine GL.done ?_ | refine GP.thenN ?_ | refine GT.seq ?_ | refine GT.region ?_ | refine GD.li rfl rfl (by first | exact onAt.none rfl | exact onAt.yes rfl rfl rfl) rfl (by repeat first | exact AllG.nil rfl | refine AllG.cons rfl (by first | exact GO.sf rfl rfl | exact GO.sv rfl rfl | exact GO.call rfl rfl Tryd.func76 rfl rfl rfl (k76N) | exact GO.indexS (s := 1) rfl rfl rfl rfl rfl (by omega) | exact GO.loadC rfl rfl rfl rfl rfl hzx | exact GO.call rfl rfl Tryd.func77 rfl rfl rfl (has_lit hz) | exact GO.call rfl rfl Tryd.func76 rfl rfl rfl (k76P (rd_zero rfl))) ?_) ?_ | refine GD.off rfl rfl rfl rfl rfl (by exact .inl rfl) rfl ?_ | refine GD.done rfl rfl rfl ?_ | refine GL.v rfl rfl rfl (by exact GO.add rfl rfl rfl (by omega)) ?_ | refine GT.skip ?_ | refine GT.block ?_ | refine GP.inN ?_ | refine GT.condT rfl ?_ | refine GT.condF rfl ?_))) ?_
      | refine GL.sf rfl rfl rfl rfl ?_
      | refine GL.sn rfl rfl rfl ?_
      | refine GL.done ?_
      | refine GP.thenN ?_
      | refine GT.seq ?_
      | refine GT.region ?_
      | refine GL.v rfl rfl rfl (by first | exact GO.indexS (s := 2) rfl rfl rfl rfl rfl (by omega) | exact GO.loadG (s := 2) rfl rfl rfl rfl rfl rfl (by omega) hl0 | exact GO.call rfl rfl Tryd.func90 rfl rfl rfl (hcc _ _ _ 3 (5 + i) (rd_of rfl) (rd_of (by simp only [FX, alook_aset, alook_aerase, alook]; (repeat rw [if_neg (by omega)]); rw [fam_look, if_pos (by omega), show 5 + i - 5 = i by omega])) ⟨rfl, rfl, rfl, _, _, rfl⟩) | exact GO.add rfl rfl rfl (by omega)) ?_
      | refine GT.skip ?_
      | refine GT.block ?_
      | refine GP.inN ?_
      | refine GT.condF rfl ?_
      | (refine GT.condD rfl (fun h => ?_) (fun h => ?_) <;> try (exfalso; omega)))
    all_goals exact GP.invN (m - (i + 1)) (by omega) ⟨i + 1, by omega, rfl, by decide, asub_cons rfl (asub_cons rfl (asub_cons rfl (asub_cons rfl (asub_cons rfl (asub_cons rfl (asub_cons rfl asub_nil)))))), subm_cons rfl (subm_cons (congrArg some hrec) (subm_cons rfl (subm_cons rfl (subm_cons rfl (subm_cons (by rw [hrn]; rfl) (subm_cons (by rw [hbn, hrn]; rfl) (subm_cons rfl (subm_cons rfl (subm_cons rfl (fun j o h => by have hj := FM_lt (by omega) h; have hj2 := FM_ne h (by omega); simp only [FX, alook_aset, alook_aerase, alook]; (repeat rw [if_neg (by omega)]); exact h))))))))))⟩
  · obtain rfl : i = m := by omega
    repeat' (first
    | refine GL.sf rfl rfl rfl rfl ?_
    | refine GL.done ?_
    | refine GP.thenN ?_
    | refine GT.seq ?_
    | refine GT.region ?_
    | refine GT.exit ?_
    | refine GP.thenE ?_
    | refine GP.hit ?_
    | refine GP.invE ?_
    | (refine GT.condD rfl (fun h => ?_) (fun h => ?_) <;> try (exfalso; omega))
    | refine GP.endN0 rfl ?_)
    refine ⟨_, _, rfl, rfl, rfl, ?_⟩
    repeat' (first
    | refine GP.fend2 rfl rfl ?_
    | refine GL.sf rfl rfl rfl rfl ?_
    | refine GL.done ?_)
    rfl
end Go.M
