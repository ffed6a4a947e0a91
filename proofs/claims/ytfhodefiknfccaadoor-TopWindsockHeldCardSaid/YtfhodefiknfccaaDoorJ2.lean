/- Functions of the given program, walked (no condition beyond what each theorem says). -/
import Derived.Test.YtfhodefiknfccaaDoorJ1
set_option linter.unusedVariables false
set_option linter.unusedSimpArgs false
namespace Go.M
open Go.Proofs Go.RowKit
set_option maxRecDepth 8000
set_option maxHeartbeats 16000000
theorem w_permitted67 {A : AW} {p q ca cb : Nat} {ν : Nat → Nat} {x' y' : Bool} (l : List Ar) (d : List Ld) (y0 : Mv) (hV : ScV x' y' true l d [y0] ca cb 1) (hO : ScOk l d [y0]) (h : ScAt A p q 0 ν l d []) :
    AC Tryd.prog 67 [.slice (slA x' p) l.length ca, .slice (slA y' q) d.length cb, .agg y0.vs.toArray] A (isR (.bool (!anyHit agB d [y0] l)) A) := by
  refine AC.isX (h.small (k := 30) (by have := hO.al; omega)) (args := [.slice (slA x' 5) l.length ca, .slice (slA y' 3) d.length cb, .agg y0.vs.toArray]) ?_ ⟨8, rfl⟩ (.slV ScRho5 (.slV ScRho3 (.flat (k := 32) rfl .nil)))
  clear h
  refine AC.goF Tryd.func67 rfl rfl ?_
  repeat' (first
  | refine GL.v rfl rfl rfl (GO.call rfl rfl Tryd.func100 rfl rfl rfl (AC.go Tryd.func100 rfl rfl (by repeat' (first | exact ⟨rfl, rfl⟩ | refine GL.sf rfl rfl rfl rfl ?_ | refine GL.done ?_ | refine GP.thenN ?_ | refine GT.seq ?_ | refine GT.region ?_ | refine GL.v rfl rfl rfl (by exact GO.mkfn rfl (fun _ h => by cases h) rfl rfl) ?_ | refine GT.ret ?_ | refine GP.endR1 rfl ?_)))) ?_
  | refine GP.fthen ?_
  | refine GF.range2 ?_
  | refine GP.range ?_
  | refine GF.seq ?_
  | refine GL.sf rfl rfl rfl rfl ?_
  | refine GL.done ?_
  | refine GT.region ?_)
  refine GRange.ofR (a := [(11, .func (.func 133) #[] #[.pointer (some ⟨34, 0, none⟩), .pointer (some ⟨35, 0, none⟩), .pointer (some ⟨33, 0, none⟩)]), (6, .pointer (some ⟨31, 0, none⟩))]) (asub_cons rfl (asub_cons rfl (asub_nil))) rfl rfl rfl rfl (fun f => ?_)
  refine AC.go Tryd.func133 rfl rfl ?_
  repeat' (first
  | refine GL.sf rfl rfl rfl rfl ?_
  | refine GL.sv rfl rfl rfl rfl ?_
  | refine GL.done ?_
  | refine GP.thenN ?_
  | refine GT.seq ?_
  | refine GT.region ?_
  | refine GT.block ?_)
  have hq1 := hO.al
  have hq2 : [y0].length ≤ 32 := Nat.le_of_ble_eq_true rfl
  have hq3 := hO.dl
  generalize hrec : (AObj.loop _ _ _ _ _ _ _) = rec
  have hrl : ∀ k, Nat.ble 38 k = true → ObjLt k rec := by
    intro k hk
    have hk : 38 ≤ k := Nat.le_of_ble_eq_true hk
    have hb : ∀ i, i < 38 → Nat.blt i k = true := fun i hi => Nat.ble_eq_true_of_le (show i + 1 ≤ k by omega)
    subst hrec
    intro t v hv
    exact EnvLt.get (.cons (.func .nil (.cons (.ptr (hb _ (by decide))) (.cons (.ptr (hb _ (by decide))) (.ptr (hb _ (by decide))))) (by intro l h; cases h)) (.cons (.ptr (hb _ (by decide))) .nil)) hv
  refine GT.loop (fun q a L nx => ∃ i : Nat, i ≤ d.length ∧ q = d.length - i ∧ 38 ≤ nx ∧ (Bef d i fun x => ∀ y ∈ [y0], ∀ z ∈ l, agB x y z = false) ∧ asub [(0, .func (.yield 37) #[] #[]), (1, .pointer (some ⟨34, 0, none⟩)), (2, .pointer (some ⟨35, 0, none⟩)), (3, .pointer (some ⟨33, 0, none⟩)), (11, .slice (slA y' 3) d.length cb), (12, .int .i64 d.length), (13, .int .i64 i)] a ∧ subm ((37, rec) :: (36, .dfr) :: (35, .cells [.slice (some ⟨32, 0, none⟩) 1 1] 94) :: (34, .cells [.slice (slA y' 3) d.length cb] 108) :: (33, .cells [.slice (slA x' 5) l.length ca] 106) :: (32, .cells y0.vs 103) :: (31, .cells [.bool false] 4) :: (30, .cells y0.vs 103) :: ScM l d []) L) d.length
    ⟨0, by omega, by omega, Nat.le_of_ble_eq_true rfl, Bef.zero, asub_cons rfl (asub_cons rfl (asub_cons rfl (asub_cons rfl (asub_cons rfl (asub_cons rfl (asub_cons rfl (asub_nil))))))), subm_cons rfl (subm_cons rfl (subm_cons rfl (subm_cons rfl (subm_cons rfl (subm_cons rfl (subm_cons rfl (subm_cons rfl ((fun j o h => by have hj := ScM_lt hO.al h; simp only [alook_aset, alook_aerase, alook]; (repeat rw [if_neg (by omega)]); exact h)))))))))⟩ ?_
  rintro q a L nx ⟨i, hi, rfl, hnx, hk1, hs, hsub⟩
  refine GT.resetL 38 hs hsub hnx rfl rfl (und_cons rfl (hrl _ rfl) (und_cons rfl (trivial) (und_cons rfl (Lt.sl rfl) (und_cons rfl (Lt.slV rfl) (und_cons rfl (Lt.slV rfl) (und_cons rfl (Lt.flat (j := 16) rfl) (und_cons rfl (Lt.flat (j := 8) rfl) (und_cons rfl (Lt.flat (j := 16) rfl) (ScM_und 38 rfl hO.al))))))))) (.cons (.yield rfl) (.cons (.ptr rfl) (.cons (.ptr rfl) (.cons (.ptr rfl) (.cons (.slV rfl) (.cons (.flat (j := 8) rfl) (.cons (.flat (j := 8) rfl) .nil))))))) (fun g hg => by
      match g, hg with
      | 0, _ => rfl
      | 1, _ => rfl
      | 2, _ => rfl) ?_
  clear hs hsub hnx
  rcases Nat.lt_or_ge i d.length with hlt | hge
  · obtain ⟨x, hx⟩ : ∃ x, d[i]? = some x := ⟨_, List.getElem?_eq_getElem hlt⟩
    have hxok := hO.ld.ok i x hx
    obtain rfl : y' = true := by
      cases y'
      · exfalso; have := (hV.b rfl).1; subst this; simp at hlt
      · rfl
    have gx : ((ldC d).drop (0 + (i : Int).toNat * 4)).take 4 = x.vs := by simpa using ldC_at d i x hx
    have hdl := ldC_len d
    repeat' (first
    | refine GL.sf rfl rfl rfl rfl ?_
    | refine GL.sv rfl rfl rfl rfl ?_
    | refine GL.sn rfl rfl rfl ?_
    | refine GL.done ?_
    | refine GP.thenN ?_
    | refine GT.seq ?_
    | refine GT.region ?_
    | refine GL.v rfl rfl rfl (by first | exact GO.indexS (s := 4) rfl rfl rfl rfl rfl (by omega) | exact GO.loadG (s := 4) rfl rfl rfl rfl rfl rfl (by omega) gx) ?_
    | refine GT.skip ?_
    | refine GT.block ?_
    | (refine GT.condD rfl (fun h => ?_) (fun h => ?_) <;> try (exfalso; omega)))
    refine GT.loop (fun q a L nx => ∃ k : Nat, k ≤ 1 ∧ q = 1 - k ∧ 39 ≤ nx ∧ (Bef [y0] k fun y => ∀ z ∈ l, agB x y z = false) ∧ asub [(5, .int .i64 i), (6, .pointer (some ⟨38, 0, none⟩)), (18, .slice (some ⟨32, 0, none⟩) 1 1), (19, .int .i64 1), (20, .int .i64 k), (0, .func (.yield 37) #[] #[]), (1, .pointer (some ⟨34, 0, none⟩)), (2, .pointer (some ⟨35, 0, none⟩)), (3, .pointer (some ⟨33, 0, none⟩)), (11, .slice (slA true 3) d.length cb), (12, .int .i64 d.length), (13, .int .i64 i)] a ∧ subm ((38, .cells x.vs 163) :: (37, rec) :: (36, .dfr) :: (35, .cells [.slice (some ⟨32, 0, none⟩) 1 1] 94) :: (34, .cells [.slice (slA true 3) d.length cb] 108) :: (33, .cells [.slice (slA x' 5) l.length ca] 106) :: (32, .cells y0.vs 103) :: (31, .cells [.bool false] 4) :: (30, .cells y0.vs 103) :: ScM l d []) L) 1
      ⟨0, by omega, by omega, Nat.le_of_ble_eq_true rfl, Bef.zero, asub_cons rfl (asub_cons rfl (asub_cons rfl (asub_cons rfl (asub_cons rfl (asub_cons rfl (asub_cons rfl (asub_cons rfl (asub_cons rfl (asub_cons rfl (asub_cons rfl (asub_cons rfl (asub_nil)))))))))))), subm_cons rfl (subm_cons rfl (subm_cons rfl (subm_cons rfl (subm_cons rfl (subm_cons rfl (subm_cons rfl (subm_cons rfl (subm_cons rfl ((fun j o h => by have hj := ScM_lt hO.al h; simp only [alook_aset, alook_aerase, alook]; (repeat rw [if_neg (by omega)]); exact h))))))))))⟩ ?_
    rintro q a L nx ⟨k, hk, rfl, hnx, hk2, hs, hsub⟩
    refine GT.resetL 39 hs hsub hnx rfl rfl (und_cons rfl (Lt.flat (j := 16) rfl) (und_cons rfl (hrl _ rfl) (und_cons rfl (trivial) (und_cons rfl (Lt.sl rfl) (und_cons rfl (Lt.slV rfl) (und_cons rfl (Lt.slV rfl) (und_cons rfl (Lt.flat (j := 16) rfl) (und_cons rfl (Lt.flat (j := 8) rfl) (und_cons rfl (Lt.flat (j := 16) rfl) (ScM_und 39 rfl hO.al)))))))))) (.cons (.flat (j := 8) rfl) (.cons (.ptr rfl) (.cons (.sl rfl) (.cons (.flat (j := 8) rfl) (.cons (.flat (j := 8) rfl) (.cons (.yield rfl) (.cons (.ptr rfl) (.cons (.ptr rfl) (.cons (.ptr rfl) (.cons (.sl rfl) (.cons (.flat (j := 8) rfl) (.cons (.flat (j := 8) rfl) .nil)))))))))))) (fun g hg => by
      match g, hg with
      | 0, _ => rfl
      | 1, _ => rfl
      | 2, _ => rfl) ?_
    clear hs hsub hnx
    rcases Nat.lt_or_ge k 1 with hltm | hgem
    · obtain ⟨y, hy⟩ : ∃ y, [y0][k]? = some y := ⟨_, List.getElem?_eq_getElem hltm⟩
      have hyok := hO.mv.ok k y hy
      have gy : (y0.vs.drop (0 + (k : Int).toNat * 8)).take 8 = y.vs := by
        obtain rfl : k = 0 := by omega
        simp at hy
        subst hy; rfl
      repeat' (first
      | refine GL.sf rfl rfl rfl rfl ?_
      | refine GL.sv rfl rfl rfl rfl ?_
      | refine GL.sn rfl rfl rfl ?_
      | refine GL.done ?_
      | refine GP.thenN ?_
      | refine GT.seq ?_
      | refine GT.region ?_
      | refine GL.v rfl rfl rfl (by first | exact GO.indexS (s := 8) rfl rfl rfl rfl rfl (by omega) | exact GO.loadG (s := 8) rfl rfl rfl rfl rfl rfl (show 0 + (k : Int).toNat * 8 + 8 ≤ 8 by omega) gy) ?_
      | refine GT.skip ?_
      | refine GT.block ?_
      | (refine GT.condD rfl (fun h => ?_) (fun h => ?_) <;> try (exfalso; omega)))
      refine GT.loop (fun q a L nx => ∃ n : Nat, n ≤ l.length ∧ q = l.length - n ∧ 40 ≤ nx ∧ (Bef l n fun z => agB x y z = false) ∧ asub [(7, .int .i64 k), (8, .pointer (some ⟨39, 0, none⟩)), (25, .slice (slA x' 5) l.length ca), (26, .int .i64 l.length), (27, .int .i64 n), (5, .int .i64 i), (6, .pointer (some ⟨38, 0, none⟩)), (18, .slice (some ⟨32, 0, none⟩) 1 1), (19, .int .i64 1), (20, .int .i64 k), (0, .func (.yield 37) #[] #[]), (1, .pointer (some ⟨34, 0, none⟩)), (2, .pointer (some ⟨35, 0, none⟩)), (3, .pointer (some ⟨33, 0, none⟩)), (11, .slice (slA true 3) d.length cb), (12, .int .i64 d.length), (13, .int .i64 i)] a ∧ subm ((39, .cells y.vs 103) :: (38, .cells x.vs 163) :: (37, rec) :: (36, .dfr) :: (35, .cells [.slice (some ⟨32, 0, none⟩) 1 1] 94) :: (34, .cells [.slice (slA true 3) d.length cb] 108) :: (33, .cells [.slice (slA x' 5) l.length ca] 106) :: (32, .cells y0.vs 103) :: (31, .cells [.bool false] 4) :: (30, .cells y0.vs 103) :: ScM l d []) L) l.length
        ⟨0, by omega, by omega, Nat.le_of_ble_eq_true rfl, Bef.zero, asub_cons rfl (asub_cons rfl (asub_cons rfl (asub_cons rfl (asub_cons rfl (asub_cons rfl (asub_cons rfl (asub_cons rfl (asub_cons rfl (asub_cons rfl (asub_cons rfl (asub_cons rfl (asub_cons rfl (asub_cons rfl (asub_cons rfl (asub_cons rfl (asub_cons rfl (asub_nil))))))))))))))))), subm_cons rfl (subm_cons rfl (subm_cons rfl (subm_cons rfl (subm_cons rfl (subm_cons rfl (subm_cons rfl (subm_cons rfl (subm_cons rfl (subm_cons rfl ((fun j o h => by have hj := ScM_lt hO.al h; simp only [alook_aset, alook_aerase, alook]; (repeat rw [if_neg (by omega)]); exact h)))))))))))⟩ ?_
      rintro q a L nx ⟨n, hn, rfl, hnx, hk3, hs, hsub⟩
      refine GT.resetL 40 hs hsub hnx rfl rfl (und_cons rfl (Lt.flat (j := 16) rfl) (und_cons rfl (Lt.flat (j := 16) rfl) (und_cons rfl (hrl _ rfl) (und_cons rfl (trivial) (und_cons rfl (Lt.sl rfl) (und_cons rfl (Lt.slV rfl) (und_cons rfl (Lt.slV rfl) (und_cons rfl (Lt.flat (j := 16) rfl) (und_cons rfl (Lt.flat (j := 8) rfl) (und_cons rfl (Lt.flat (j := 16) rfl) (ScM_und 40 rfl hO.al))))))))))) (.cons (.flat (j := 8) rfl) (.cons (.ptr rfl) (.cons (.slV rfl) (.cons (.flat (j := 8) rfl) (.cons (.flat (j := 8) rfl) (.cons (.flat (j := 8) rfl) (.cons (.ptr rfl) (.cons (.sl rfl) (.cons (.flat (j := 8) rfl) (.cons (.flat (j := 8) rfl) (.cons (.yield rfl) (.cons (.ptr rfl) (.cons (.ptr rfl) (.cons (.ptr rfl) (.cons (.sl rfl) (.cons (.flat (j := 8) rfl) (.cons (.flat (j := 8) rfl) .nil))))))))))))))))) (fun g hg => by
      match g, hg with
      | 0, _ => rfl
      | 1, _ => rfl
      | 2, _ => rfl) ?_
      clear hs hsub hnx
      rcases Nat.lt_or_ge n l.length with hltl | hgel
      · obtain ⟨z, hz⟩ : ∃ z, l[n]? = some z := ⟨_, List.getElem?_eq_getElem hltl⟩
        have hzok := hO.ar.ok n z hz
        obtain rfl : x' = true := by
          cases x'
          · exfalso; have := (hV.a rfl).1; subst this; simp at hltl
          · rfl
        have gz : ((arC (fun j => 6 + j) 0 l).drop (0 + (n : Int).toNat * 4)).take 4 = z.vs (6 + n) := by simpa using arC_at (ν := fun j => 6 + j) l 0 n z hz
        have hal := arC_len (ν := fun j => 6 + j) l 0
        have hpo : alook (famB (fun i => .cells (ptC (arP l i)) 97) 6 l.length ++ []) (6 + n) = some (.cells (ptC z.ps) 97) := by rw [famB_look, if_pos (by omega), show 6 + n - 6 = n by omega, arP_at hz]
        have ka := fun {A : AW} {b : Nat} hG hb => w_against134 (A := A) (x := b) hG x y z hyok hzok hb
        cases hag : agB x y z with
        | false =>
          rw [hag] at ka
          repeat' (first
          | refine GL.sf rfl rfl rfl rfl ?_
          | refine GL.sn rfl rfl rfl ?_
          | refine GL.done ?_
          | refine GP.thenN ?_
          | refine GT.seq ?_
          | refine GT.region ?_
          | refine GL.skipG rfl rfl rfl rfl rfl ?_
          | refine GL.v rfl rfl rfl (by first | exact GO.indexS (s := 4) rfl rfl rfl rfl rfl (by omega) | exact GO.loadG (s := 4) rfl rfl rfl rfl rfl rfl (by omega) gz | exact GO.call rfl rfl Tryd.func134 rfl rfl rfl (ka ⟨rfl, rd_zero2 rfl, rd_zero2 rfl, rfl⟩ (rd_self (by simp only [alook_aset, alook_aerase, alook]; (repeat rw [if_neg (by omega)]); exact hpo))) | exact GO.add rfl rfl rfl (by omega)) ?_
          | refine GT.skip ?_
          | refine GT.block ?_
          | refine GP.inN ?_
          | refine GT.condF rfl ?_
          | (refine GT.condD rfl (fun h => ?_) (fun h => ?_) <;> try (exfalso; omega)))
          exact GP.invN (l.length - (n + 1)) (by omega) ⟨n + 1, by omega, rfl, Nat.le_of_ble_eq_true rfl, hk3.succ hz (by exact hag), asub_cons rfl (asub_cons rfl (asub_cons rfl (asub_cons rfl (asub_cons rfl (asub_cons rfl (asub_cons rfl (asub_cons rfl (asub_cons rfl (asub_cons rfl (asub_cons rfl (asub_cons rfl (asub_cons rfl (asub_cons rfl (asub_cons rfl (asub_cons rfl (asub_cons rfl (asub_nil))))))))))))))))), subm_cons rfl (subm_cons rfl (subm_cons rfl (subm_cons rfl (subm_cons rfl (subm_cons rfl (subm_cons rfl (subm_cons rfl (subm_cons rfl (subm_cons rfl ((fun j o h => by have hj := ScM_lt hO.al h; simp only [alook_aset, alook_aerase, alook]; (repeat rw [if_neg (by omega)]); exact h)))))))))))⟩
        | true =>
          rw [hag] at ka
          repeat' (first
          | refine GL.v rfl rfl rfl (GO.yield rfl rfl rfl rfl (congrArg some hrec.symm) rfl rfl rfl (by repeat' (first | exact GP.yBody rfl ⟨rfl, rfl⟩ | refine GP.yAssign (congrArg some hrec.symm) ?_ | exact GP.yRet rfl ⟨rfl, rfl⟩ | refine GL.sn rfl rfl rfl ?_ | refine GL.done ?_ | refine GP.thenN ?_ | refine GT.seq ?_ | refine GT.region ?_ | refine GT.skip ?_ | refine GT.block ?_ | refine GT.ret ?_ | refine GP.inR ?_))) ?_
          | refine GL.sf rfl rfl rfl rfl ?_
          | refine GL.sn rfl rfl rfl ?_
          | refine GL.done ?_
          | refine GP.thenN ?_
          | refine GT.seq ?_
          | refine GT.region ?_
          | refine GL.unguardG rfl rfl rfl ?_
          | refine GL.v rfl rfl rfl (by first | exact GO.indexS (s := 4) rfl rfl rfl rfl rfl (by omega) | exact GO.loadG (s := 4) rfl rfl rfl rfl rfl rfl (by omega) gz | exact GO.call rfl rfl Tryd.func134 rfl rfl rfl (ka ⟨rfl, rd_zero2 rfl, rd_zero2 rfl, rfl⟩ (rd_self (by simp only [alook_aset, alook_aerase, alook]; (repeat rw [if_neg (by omega)]); exact hpo)))) ?_
          | refine GT.skip ?_
          | refine GT.block ?_
          | refine GT.ret ?_
          | refine GP.thenR ?_
          | refine GP.inR ?_
          | refine GP.invR ?_
          | refine GT.condT rfl ?_
          | (refine GT.condD rfl (fun h => ?_) (fun h => ?_) <;> try (exfalso; omega))
          | refine GP.endR0 rfl ?_)
          have hh : anyHit agB d [y0] l = true := anyHit_of hx hy hz hag
          refine .inr ⟨_, _, rfl, rfl, rfl, _, rfl, ?_⟩
          rw [hh]; rfl
      · obtain rfl : n = l.length := by omega
        repeat' (first
        | refine GL.sf rfl rfl rfl rfl ?_
        | refine GL.done ?_
        | refine GP.thenN ?_
        | refine GT.seq ?_
        | refine GT.region ?_
        | refine GL.v rfl rfl rfl (by exact GO.add rfl rfl rfl (by omega)) ?_
        | refine GT.exit ?_
        | refine GP.thenE ?_
        | refine GP.inN ?_
        | refine GP.hit ?_
        | refine GP.invE ?_
        | (refine GT.condD rfl (fun h => ?_) (fun h => ?_) <;> try (exfalso; omega)))
        exact GP.invN (1 - (k + 1)) (by omega) ⟨k + 1, by omega, rfl, Nat.le_of_ble_eq_true rfl, hk2.succ hy hk3.all, asub_cons rfl (asub_cons rfl (asub_cons rfl (asub_cons rfl (asub_cons rfl (asub_cons rfl (asub_cons rfl (asub_cons rfl (asub_cons rfl (asub_cons rfl (asub_cons rfl (asub_cons rfl (asub_nil)))))))))))), subm_cons rfl (subm_cons rfl (subm_cons rfl (subm_cons rfl (subm_cons rfl (subm_cons rfl (subm_cons rfl (subm_cons rfl (subm_cons rfl ((fun j o h => by have hj := ScM_lt hO.al h; simp only [alook_aset, alook_aerase, alook]; (repeat rw [if_neg (by omega)]); exact h))))))))))⟩
    · obtain rfl : k = 1 := by omega
      repeat' (first
      | refine GL.sf rfl rfl rfl rfl ?_
      | refine GL.done ?_
      | refine GP.thenN ?_
      | refine GT.seq ?_
      | refine GT.region ?_
      | refine GL.v rfl rfl rfl (by exact GO.add rfl rfl rfl (by omega)) ?_
      | refine GT.exit ?_
      | refine GP.thenE ?_
      | refine GP.inN ?_
      | refine GP.hit ?_
      | refine GP.invE ?_
      | refine GT.condF rfl ?_)
      exact GP.invN (d.length - (i + 1)) (by omega) ⟨i + 1, by omega, rfl, Nat.le_of_ble_eq_true rfl, hk1.succ hx hk2.all, asub_cons rfl (asub_cons rfl (asub_cons rfl (asub_cons rfl (asub_cons rfl (asub_cons rfl (asub_cons rfl (asub_nil))))))), subm_cons rfl (subm_cons rfl (subm_cons rfl (subm_cons rfl (subm_cons rfl (subm_cons rfl (subm_cons rfl (subm_cons rfl ((fun j o h => by have hj := ScM_lt hO.al h; simp only [alook_aset, alook_aerase, alook]; (repeat rw [if_neg (by omega)]); exact h)))))))))⟩
  · obtain rfl : i = d.length := by omega
    repeat' (first
    | refine GL.sf rfl rfl rfl rfl ?_
    | refine GL.done ?_
    | refine GP.thenN ?_
    | refine GT.seq ?_
    | refine GT.region ?_
    | refine GT.exit ?_
    | refine GP.thenE ?_
    | refine GP.hit ?_
    | refine GP.invE ?_
    | (refine GT.condD rfl (fun h => ?_) (fun h => ?_) <;> try (exfalso; omega))
    | refine GP.endN0 rfl ?_)
    have hno : anyHit agB d [y0] l = false := anyHit_no hk1.all
    refine .inl ⟨_, _, rfl, rfl, rfl, ?_⟩
    repeat' (first
    | refine GP.fend1 rfl rfl ?_
    | refine GL.sn rfl rfl rfl ?_
    | refine GL.done ?_)
    rw [hno]; rfl
theorem mvC_one {y : Mv} : mvC [y] = y.vs := by simp [mvC]
theorem w_permitted28 {A : AW} {p q ca cb : Nat} {ν : Nat → Nat} {x' y' : Bool} (l : List Ar) (d : List Ld) (y0 : Mv) (hV : ScV x' y' true l d [y0] ca cb 1) (hO : ScOk l d [y0]) (h : ScAt A p q 0 ν l d []) :
    AC Tryd.prog 28 [.slice (slA x' p) l.length ca, .slice (slA y' q) d.length cb, .agg y0.vs.toArray] A (isR (.tuple #[.bool (!anyHit agB d [y0] l), .int .i64 0]) A) := by
  refine AC.isX (h.small (k := 30) (by have := hO.al; omega)) (args := [.slice (slA x' 5) l.length ca, .slice (slA y' 3) d.length cb, .agg y0.vs.toArray]) ?_ ⟨8, rfl⟩ (.slV ScRho5 (.slV ScRho3 (.flat (k := 32) rfl .nil)))
  clear h
  refine AC.go Tryd.func28 rfl rfl ?_
  have hal := hO.al
  have e : ∀ {B : LM} {nx : Nat}, subm (ScM l d []) B → alook B 31 = some (.cells y0.vs 103) → ScAt (AW.of B nx 30 3) 5 3 31 (fun j => 6 + j) l d [y0] := fun hs hm =>
    have h := ScAt.low hs
    ⟨h.gw, h.ar, h.ld, by rw [mvC_one]; exact rd_self hm⟩
  have e0 : ∀ {B : LM} {nx : Nat}, subm (ScM l d []) B → ScAt (AW.of B nx 30 3) 5 3 0 (fun j => 6 + j) l d [] := fun hs =>
    have h := ScAt.low hs
    ⟨h.gw, h.ar, h.ld, h.gw.g0⟩
  have k1 := fun {B : LM} {nx : Nat} (hs : subm (ScM l d []) B) (hm : alook B 31 = some (.cells y0.vs 103)) => w_scene66 (A := AW.of B nx 30 3) (p := 5) (q := 3) (r := 31) (x := x') (y := y') (z := true) l d [y0] hV hO (e hs hm)
  have k2 := fun {B : LM} {nx : Nat} (hs : subm (ScM l d []) B) => w_permitted67 (A := AW.of B nx 30 3) (p := 5) (q := 3) l d y0 hV hO (e0 hs)
  repeat' (first
  | refine GL.sf rfl rfl rfl rfl ?_
  | refine GL.done ?_
  | refine GP.thenN ?_
  | refine GT.seq ?_
  | refine GT.region ?_
  | refine GL.v rfl rfl rfl (by first | exact GO.call rfl rfl Tryd.func66 rfl rfl rfl (k1 (fun j o h => by have hj := ScM_lt hal h; simp only [alook_aset, alook_aerase, alook]; (repeat rw [if_neg (by omega)]); exact h) rfl) | exact GO.call rfl rfl Tryd.func67 rfl rfl rfl (k2 (fun j o h => by have hj := ScM_lt hal h; simp only [alook_aset, alook_aerase, alook]; (repeat rw [if_neg (by omega)]); exact h))) ?_
  | refine GT.skip ?_
  | refine GT.ret ?_
  | refine GT.condF rfl ?_
  | refine GP.endR2 rfl ?_)
  rfl
end Go.M
