/- Functions of the given program, walked (no condition beyond what each theorem says). -/
import Derived.Test.YtfhodefiknfccaaDoorH9
set_option linter.unusedVariables false
set_option linter.unusedSimpArgs false
namespace Go.M
open Go.Proofs Go.RowKit
set_option maxRecDepth 8000
set_option maxHeartbeats 16000000
/-- What holds for the elements before the i-th. -/
def Bef {α : Type} (l : List α) (i : Nat) (p : α → Prop) : Prop := ∀ j x, j < i → l[j]? = some x → p x
theorem Bef.zero {α : Type} {l : List α} {p : α → Prop} : Bef l 0 p := fun j x h => by omega
theorem Bef.succ {α : Type} {l : List α} {i : Nat} {x : α} {p : α → Prop} (h : Bef l i p) (hx : l[i]? = some x) (hp : p x) : Bef l (i + 1) p := fun j y hj hy => by
  rcases Nat.lt_or_ge j i with q | q
  · exact h j y q hy
  · obtain rfl : j = i := by omega
    rw [hx] at hy; cases hy; exact hp
theorem Bef.all {α : Type} {l : List α} {p : α → Prop} (h : Bef l l.length p) : ∀ x ∈ l, p x := fun x hx => by
  obtain ⟨j, hj⟩ := List.getElem?_of_mem hx
  exact h j x (List.getElem?_eq_some_iff.1 hj).1 hj
def anyHit (g : Ld → Mv → Ar → Bool) (d : List Ld) (m : List Mv) (l : List Ar) : Bool := d.any fun x => m.any fun y => l.any fun z => g x y z
theorem anyHit_of {g : Ld → Mv → Ar → Bool} {d : List Ld} {m : List Mv} {l : List Ar} {i k n : Nat} {x : Ld} {y : Mv} {z : Ar} (hx : d[i]? = some x) (hy : m[k]? = some y) (hz : l[n]? = some z) (h : g x y z = true) : anyHit g d m l = true :=
  List.any_eq_true.2 ⟨x, List.mem_of_getElem? hx, List.any_eq_true.2 ⟨y, List.mem_of_getElem? hy, List.any_eq_true.2 ⟨z, List.mem_of_getElem? hz, h⟩⟩⟩
theorem anyHit_no {g : Ld → Mv → Ar → Bool} {d : List Ld} {m : List Mv} {l : List Ar} (h : ∀ x ∈ d, ∀ y ∈ m, ∀ z ∈ l, g x y z = false) : anyHit g d m l = false :=
  List.any_eq_false.2 fun x hx => by
    rw [Bool.not_eq_true]
    exact List.any_eq_false.2 fun y hy => by
      rw [Bool.not_eq_true]
      exact List.any_eq_false.2 fun z hz => by rw [h x hx y hy z hz]; decide
def hasT (a b t : Int) : Bool := decide (a ≤ t ∧ t < b)
theorem w_has101h {A : AW} (a b t : Int) : AC Tryd.prog 101 [.agg #[.int .i64 a, .int .i64 b], .int .i64 t] A (isR (.bool (hasT a b t)) A) := w_has101 a b t
def hitT (t : Int) (x : Ld) (y : Mv) (z : Ar) : Bool := agB x y z && (hasT x.a x.b t && hasT y.a y.b t)
/-- Is a tick clear? -/
def clearB (l : List Ar) (d : List Ld) (m : List Mv) (t : Int) : Bool := !anyHit (hitT t) d m l
theorem w_clear62 {A : AW} {p q r ca cb cc : Nat} {ν : Nat → Nat} {x' y' z' : Bool} (l : List Ar) (d : List Ld) (m : List Mv) (t : Int) (ht : 0 ≤ t ∧ t ≤ 100000000) (hV : ScV x' y' z' l d m ca cb cc) (hO : ScOk l d m) (h : ScAt A p q r ν l d m) :
    AC Tryd.prog 62 [.slice (slA x' p) l.length ca, .slice (slA y' q) d.length cb, .slice (slA z' r) m.length cc, .int .i64 t] A (isR (.tuple #[.bool (clearB l d m t), .int .i64 0]) A) := by
  refine AC.isX (h.small (k := 30) (by have := hO.al; omega)) (args := [.slice (slA x' 5) l.length ca, .slice (slA y' 3) d.length cb, .slice (slA z' 4) m.length cc, .int .i64 t]) ?_ ⟨8, rfl⟩ (.slV ScRho5 (.slV ScRho3 (.slV ScRho4 (.flat (k := 8) rfl .nil))))
  clear h
  refine AC.goF Tryd.func62 rfl rfl ?_
  repeat' (first
  | refine GL.v rfl rfl rfl (GO.call rfl rfl Tryd.func100 rfl rfl rfl (AC.go Tryd.func100 rfl rfl (by repeat' (first | exact ⟨rfl, rfl⟩ | refine GL.sf rfl rfl rfl rfl ?_ | refine GL.done ?_ | refine GP.thenN ?_ | refine GT.seq ?_ | refine GT.region ?_ | refine GL.v rfl rfl rfl (by exact GO.mkfn rfl (fun _ h => by cases h) rfl rfl) ?_ | refine GT.ret ?_ | refine GP.endR1 rfl ?_)))) ?_
  | refine GP.fthen ?_
  | refine GF.range2 ?_
  | refine GP.range ?_
  | refine GF.seq ?_
  | refine GT.draws (id := 1) [[], [], [], [0, 1, 2], [], [0, 1, 2, 3, 4], [0, 1, 2, 3, 4, 5], [0, 1, 2, 3, 4, 5, 6], [0, 1, 2, 3, 4, 5, 6, 7]] [6] (by kernel_rfl) ?_
  | refine GL.sf rfl rfl rfl rfl ?_
  | refine GL.sv rfl rfl rfl rfl ?_
  | refine GL.done ?_
  | refine GP.thenN ?_
  | refine GT.seq ?_
  | refine GT.region ?_
  | refine GD.li rfl rfl (by exact onAt.none rfl) rfl (by repeat first | exact AllG.nil rfl | refine AllG.cons rfl (by first | exact GO.sf rfl rfl | exact GO.sv rfl rfl | exact GO.call rfl rfl Tryd.func66 rfl rfl rfl (w_scene66 l d m hV hO (ScAt.low (fun j o h => by have hj := ScM_lt hO.al h; simp only [alook]; (repeat rw [if_neg (by omega)]); exact h))) | exact GO.call rfl rfl Tryd.func99 rfl rfl rfl (w_within99ok _ _ _ ht) | exact GO.call rfl rfl Tryd.func98 rfl rfl rfl (w_first98 [0, 0] rfl rfl rfl)) ?_) ?_
  | refine GD.he rfl rfl rfl (by exact onAt.none rfl) rfl (by exact GO.sf rfl rfl) ?_ ?_
  | refine GD.done rfl rfl rfl ?_
  | exact AllJs.nil rfl
  | refine GT.skip ?_
  | refine GT.condF rfl ?_)
  refine GRange.ofR (a := [(26, .func (.func 133) #[] #[.pointer (some ⟨37, 0, none⟩), .pointer (some ⟨38, 0, none⟩), .pointer (some ⟨36, 0, none⟩)]), (5, .pointer (some ⟨30, 0, none⟩)), (6, .pointer (some ⟨31, 0, none⟩)), (7, .pointer (some ⟨32, 0, none⟩)), (8, .pointer (some ⟨33, 0, none⟩)), (9, .pointer (some ⟨34, 0, none⟩))]) (asub_cons rfl (asub_cons rfl (asub_cons rfl (asub_cons rfl (asub_cons rfl (asub_cons rfl (asub_nil))))))) rfl rfl rfl rfl (fun f => ?_)
  refine AC.go Tryd.func133 rfl rfl ?_
  repeat' (first
  | refine GL.sf rfl rfl rfl rfl ?_
  | refine GL.sv rfl rfl rfl rfl ?_
  | refine GL.done ?_
  | refine GP.thenN ?_
  | refine GT.seq ?_
  | refine GT.region ?_
  | refine GT.block ?_)
  have hq1 := hO.al
  have hq2 : m.length ≤ 32 := hO.ml
  have hq3 := hO.dl
  generalize hrec : (AObj.loop _ _ _ _ _ _ _) = rec
  have hrl : ∀ k, Nat.ble 41 k = true → ObjLt k rec := by
    intro k hk
    have hk : 41 ≤ k := Nat.le_of_ble_eq_true hk
    have hb : ∀ i, i < 41 → Nat.blt i k = true := fun i hi => Nat.ble_eq_true_of_le (show i + 1 ≤ k by omega)
    subst hrec
    intro t v hv
    exact EnvLt.get (.cons (.func .nil (.cons (.ptr (hb _ (by decide))) (.cons (.ptr (hb _ (by decide))) (.ptr (hb _ (by decide))))) (by intro l h; cases h)) (.cons (.ptr (hb _ (by decide))) (.cons (.ptr (hb _ (by decide))) (.cons (.ptr (hb _ (by decide))) (.cons (.ptr (hb _ (by decide))) (.cons (.ptr (hb _ (by decide))) .nil)))))) hv
  refine GT.loop (fun q a L nx => ∃ i : Nat, i ≤ d.length ∧ q = d.length - i ∧ 41 ≤ nx ∧ (Bef d i fun x => ∀ y ∈ m, ∀ z ∈ l, (hitT t) x y z = false) ∧ asub [(0, .func (.yield 40) #[] #[]), (1, .pointer (some ⟨37, 0, none⟩)), (2, .pointer (some ⟨38, 0, none⟩)), (3, .pointer (some ⟨36, 0, none⟩)), (11, .slice (slA y' 3) d.length cb), (12, .int .i64 d.length), (13, .int .i64 i)] a ∧ subm ((40, rec) :: (39, .dfr) :: (38, .cells [.slice (slA z' 4) m.length cc] 94) :: (37, .cells [.slice (slA y' 3) d.length cb] 108) :: (36, .cells [.slice (slA x' 5) l.length ca] 106) :: (34, .cells [.int .i64 0] 48) :: (33, .cells [.bool false] 4) :: (32, .cells [.int .i64 t] 3) :: (31, .cells [.slice (slA z' 4) m.length cc] 94) :: (30, .cells [.slice (slA y' 3) d.length cb] 108) :: ScM l d m) L) d.length
    ⟨0, by omega, by omega, Nat.le_of_ble_eq_true rfl, Bef.zero, asub_cons rfl (asub_cons rfl (asub_cons rfl (asub_cons rfl (asub_cons rfl (asub_cons rfl (asub_cons rfl (asub_nil))))))), subm_cons rfl (subm_cons rfl (subm_cons rfl (subm_cons rfl (subm_cons rfl (subm_cons rfl (subm_cons rfl (subm_cons rfl (subm_cons rfl (subm_cons rfl ((fun j o h => by have hj := ScM_lt hO.al h; simp only [alook_aset, alook_aerase, alook]; (repeat rw [if_neg (by omega)]); exact h)))))))))))⟩ ?_
  rintro q a L nx ⟨i, hi, rfl, hnx, hk1, hs, hsub⟩
  refine GT.resetL 41 hs hsub hnx rfl rfl (und_cons rfl (hrl _ rfl) (und_cons rfl (trivial) (und_cons rfl (Lt.slV rfl) (und_cons rfl (Lt.slV rfl) (und_cons rfl (Lt.slV rfl) (und_cons rfl (Lt.flat (j := 8) rfl) (und_cons rfl (Lt.flat (j := 8) rfl) (und_cons rfl (Lt.flat (j := 8) rfl) (und_cons rfl (Lt.slV rfl) (und_cons rfl (Lt.slV rfl) (ScM_und 41 rfl hO.al))))))))))) (.cons (.yield rfl) (.cons (.ptr rfl) (.cons (.ptr rfl) (.cons (.ptr rfl) (.cons (.slV rfl) (.cons (.flat (j := 8) rfl) (.cons (.flat (j := 8) rfl) .nil))))))) (fun g hg => by
      match g, hg with
      | 0, _ => rfl
      | 1, _ => rfl
      | 2, _ => rfl) ?_
  clear hs hsub hnx
  rcases Nat.lt_or_ge i d.length with hlt | hge
  · obtain ⟨x, hx⟩ : ∃ x, d[i]? = some x := ⟨_, List.getElem?_eq_getElem hlt⟩
    have hxok := hO.ld.ok i x hx
    obtain rfl : y' = true := by
      cases y'
      · exfalso; have := (hV.b rfl).1; subst this; simp at hlt
      · rfl
    have gx : ((ldC d).drop (0 + (i : Int).toNat * 4)).take 4 = x.vs := by simpa using ldC_at d i x hx
    have hdl := ldC_len d
    repeat' (first
    | refine GL.sf rfl rfl rfl rfl ?_
    | refine GL.sv rfl rfl rfl rfl ?_
    | refine GL.sn rfl rfl rfl ?_
    | refine GL.done ?_
    | refine GP.thenN ?_
    | refine GT.seq ?_
    | refine GT.region ?_
    | refine GL.v rfl rfl rfl (by first | exact GO.indexS (s := 4) rfl rfl rfl rfl rfl (by omega) | exact GO.loadG (s := 4) rfl rfl rfl rfl rfl rfl (by omega) gx) ?_
    | refine GT.skip ?_
    | refine GT.block ?_
    | (refine GT.condD rfl (fun h => ?_) (fun h => ?_) <;> try (exfalso; omega)))
    refine GT.loop (fun q a L nx => ∃ k : Nat, k ≤ m.length ∧ q = m.length - k ∧ 42 ≤ nx ∧ (Bef m k fun y => ∀ z ∈ l, (hitT t) x y z = false) ∧ asub [(5, .int .i64 i), (6, .pointer (some ⟨41, 0, none⟩)), (18, .slice (slA z' 4) m.length cc), (19, .int .i64 m.length), (20, .int .i64 k), (0, .func (.yield 40) #[] #[]), (1, .pointer (some ⟨37, 0, none⟩)), (2, .pointer (some ⟨38, 0, none⟩)), (3, .pointer (some ⟨36, 0, none⟩)), (11, .slice (slA true 3) d.length cb), (12, .int .i64 d.length), (13, .int .i64 i)] a ∧ subm ((41, .cells x.vs 163) :: (40, rec) :: (39, .dfr) :: (38, .cells [.slice (slA z' 4) m.length cc] 94) :: (37, .cells [.slice (slA true 3) d.length cb] 108) :: (36, .cells [.slice (slA x' 5) l.length ca] 106) :: (34, .cells [.int .i64 0] 48) :: (33, .cells [.bool false] 4) :: (32, .cells [.int .i64 t] 3) :: (31, .cells [.slice (slA z' 4) m.length cc] 94) :: (30, .cells [.slice (slA true 3) d.length cb] 108) :: ScM l d m) L) m.length
      ⟨0, by omega, by omega, Nat.le_of_ble_eq_true rfl, Bef.zero, asub_cons rfl (asub_cons rfl (asub_cons rfl (asub_cons rfl (asub_cons rfl (asub_cons rfl (asub_cons rfl (asub_cons rfl (asub_cons rfl (asub_cons rfl (asub_cons rfl (asub_cons rfl (asub_nil)))))))))))), subm_cons rfl (subm_cons rfl (subm_cons rfl (subm_cons rfl (subm_cons rfl (subm_cons rfl (subm_cons rfl (subm_cons rfl (subm_cons rfl (subm_cons rfl (subm_cons rfl ((fun j o h => by have hj := ScM_lt hO.al h; simp only [alook_aset, alook_aerase, alook]; (repeat rw [if_neg (by omega)]); exact h))))))))))))⟩ ?_
    rintro q a L nx ⟨k, hk, rfl, hnx, hk2, hs, hsub⟩
    refine GT.resetL 42 hs hsub hnx rfl rfl (und_cons rfl (Lt.flat (j := 16) rfl) (und_cons rfl (hrl _ rfl) (und_cons rfl (trivial) (und_cons rfl (Lt.slV rfl) (und_cons rfl (Lt.slV rfl) (und_cons rfl (Lt.slV rfl) (und_cons rfl (Lt.flat (j := 8) rfl) (und_cons rfl (Lt.flat (j := 8) rfl) (und_cons rfl (Lt.flat (j := 8) rfl) (und_cons rfl (Lt.slV rfl) (und_cons rfl (Lt.slV rfl) (ScM_und 42 rfl hO.al)))))))))))) (.cons (.flat (j := 8) rfl) (.cons (.ptr rfl) (.cons (.slV rfl) (.cons (.flat (j := 8) rfl) (.cons (.flat (j := 8) rfl) (.cons (.yield rfl) (.cons (.ptr rfl) (.cons (.ptr rfl) (.cons (.ptr rfl) (.cons (.sl rfl) (.cons (.flat (j := 8) rfl) (.cons (.flat (j := 8) rfl) .nil)))))))))))) (fun g hg => by
      match g, hg with
      | 0, _ => rfl
      | 1, _ => rfl
      | 2, _ => rfl) ?_
    clear hs hsub hnx
    rcases Nat.lt_or_ge k m.length with hltm | hgem
    · obtain ⟨y, hy⟩ : ∃ y, m[k]? = some y := ⟨_, List.getElem?_eq_getElem hltm⟩
      have hyok := hO.mv.ok k y hy
      obtain rfl : z' = true := by
        cases z'
        · exfalso; have := (hV.c rfl).1; subst this; simp at hltm
        · rfl
      have gy : ((mvC m).drop (0 + (k : Int).toNat * 8)).take 8 = y.vs := by simpa using mvC_at m k y hy
      have hml := mvC_len m
      repeat' (first
      | refine GL.sf rfl rfl rfl rfl ?_
      | refine GL.sv rfl rfl rfl rfl ?_
      | refine GL.sn rfl rfl rfl ?_
      | refine GL.done ?_
      | refine GP.thenN ?_
      | refine GT.seq ?_
      | refine GT.region ?_
      | refine GL.v rfl rfl rfl (by first | exact GO.indexS (s := 8) rfl rfl rfl rfl rfl (by omega) | exact GO.loadG (s := 8) rfl rfl rfl rfl rfl rfl (by omega) gy) ?_
      | refine GT.skip ?_
      | refine GT.block ?_
      | (refine GT.condD rfl (fun h => ?_) (fun h => ?_) <;> try (exfalso; omega)))
      refine GT.loop (fun q a L nx => ∃ n : Nat, n ≤ l.length ∧ q = l.length - n ∧ 43 ≤ nx ∧ (Bef l n fun z => (hitT t) x y z = false) ∧ asub [(7, .int .i64 k), (8, .pointer (some ⟨42, 0, none⟩)), (25, .slice (slA x' 5) l.length ca), (26, .int .i64 l.length), (27, .int .i64 n), (5, .int .i64 i), (6, .pointer (some ⟨41, 0, none⟩)), (18, .slice (slA true 4) m.length cc), (19, .int .i64 m.length), (20, .int .i64 k), (0, .func (.yield 40) #[] #[]), (1, .pointer (some ⟨37, 0, none⟩)), (2, .pointer (some ⟨38, 0, none⟩)), (3, .pointer (some ⟨36, 0, none⟩)), (11, .slice (slA true 3) d.length cb), (12, .int .i64 d.length), (13, .int .i64 i)] a ∧ subm ((42, .cells y.vs 103) :: (41, .cells x.vs 163) :: (40, rec) :: (39, .dfr) :: (38, .cells [.slice (slA true 4) m.length cc] 94) :: (37, .cells [.slice (slA true 3) d.length cb] 108) :: (36, .cells [.slice (slA x' 5) l.length ca] 106) :: (34, .cells [.int .i64 0] 48) :: (33, .cells [.bool false] 4) :: (32, .cells [.int .i64 t] 3) :: (31, .cells [.slice (slA true 4) m.length cc] 94) :: (30, .cells [.slice (slA true 3) d.length cb] 108) :: ScM l d m) L) l.length
        ⟨0, by omega, by omega, Nat.le_of_ble_eq_true rfl, Bef.zero, asub_cons rfl (asub_cons rfl (asub_cons rfl (asub_cons rfl (asub_cons rfl (asub_cons rfl (asub_cons rfl (asub_cons rfl (asub_cons rfl (asub_cons rfl (asub_cons rfl (asub_cons rfl (asub_cons rfl (asub_cons rfl (asub_cons rfl (asub_cons rfl (asub_cons rfl (asub_nil))))))))))))))))), subm_cons rfl (subm_cons rfl (subm_cons rfl (subm_cons rfl (subm_cons rfl (subm_cons rfl (subm_cons rfl (subm_cons rfl (subm_cons rfl (subm_cons rfl (subm_cons rfl (subm_cons rfl ((fun j o h => by have hj := ScM_lt hO.al h; simp only [alook_aset, alook_aerase, alook]; (repeat rw [if_neg (by omega)]); exact h)))))))))))))⟩ ?_
      rintro q a L nx ⟨n, hn, rfl, hnx, hk3, hs, hsub⟩
      refine GT.resetL 43 hs hsub hnx rfl rfl (und_cons rfl (Lt.flat (j := 16) rfl) (und_cons rfl (Lt.flat (j := 16) rfl) (und_cons rfl (hrl _ rfl) (und_cons rfl (trivial) (und_cons rfl (Lt.slV rfl) (und_cons rfl (Lt.slV rfl) (und_cons rfl (Lt.slV rfl) (und_cons rfl (Lt.flat (j := 8) rfl) (und_cons rfl (Lt.flat (j := 8) rfl) (und_cons rfl (Lt.flat (j := 8) rfl) (und_cons rfl (Lt.slV rfl) (und_cons rfl (Lt.slV rfl) (ScM_und 43 rfl hO.al))))))))))))) (.cons (.flat (j := 8) rfl) (.cons (.ptr rfl) (.cons (.slV rfl) (.cons (.flat (j := 8) rfl) (.cons (.flat (j := 8) rfl) (.cons (.flat (j := 8) rfl) (.cons (.ptr rfl) (.cons (.slV rfl) (.cons (.flat (j := 8) rfl) (.cons (.flat (j := 8) rfl) (.cons (.yield rfl) (.cons (.ptr rfl) (.cons (.ptr rfl) (.cons (.ptr rfl) (.cons (.sl rfl) (.cons (.flat (j := 8) rfl) (.cons (.flat (j := 8) rfl) .nil))))))))))))))))) (fun g hg => by
      match g, hg with
      | 0, _ => rfl
      | 1, _ => rfl
      | 2, _ => rfl) ?_
      clear hs hsub hnx
      rcases Nat.lt_or_ge n l.length with hltl | hgel
      · obtain ⟨z, hz⟩ : ∃ z, l[n]? = some z := ⟨_, List.getElem?_eq_getElem hltl⟩
        have hzok := hO.ar.ok n z hz
        obtain rfl : x' = true := by
          cases x'
          · exfalso; have := (hV.a rfl).1; subst this; simp at hltl
          · rfl
        have gz : ((arC (fun j => 6 + j) 0 l).drop (0 + (n : Int).toNat * 4)).take 4 = z.vs (6 + n) := by simpa using arC_at (ν := fun j => 6 + j) l 0 n z hz
        have hal := arC_len (ν := fun j => 6 + j) l 0
        have hpo : alook (famB (fun i => .cells (ptC (arP l i)) 97) 6 l.length ++ []) (6 + n) = some (.cells (ptC z.ps) 97) := by rw [famB_look, if_pos (by omega), show 6 + n - 6 = n by omega, arP_at hz]
        have ka := fun {A : AW} {b : Nat} hG hb => w_against134 (A := A) (x := b) hG x y z hyok hzok hb
        cases hag : agB x y z with
        | false =>
          rw [hag] at ka
          repeat' (first
          | refine GL.sf rfl rfl rfl rfl ?_
          | refine GL.sn rfl rfl rfl ?_
          | refine GL.done ?_
          | refine GP.thenN ?_
          | refine GT.seq ?_
          | refine GT.region ?_
          | refine GL.skipG rfl rfl rfl rfl rfl ?_
          | refine GL.v rfl rfl rfl (by first | exact GO.indexS (s := 4) rfl rfl rfl rfl rfl (by omega) | exact GO.loadG (s := 4) rfl rfl rfl rfl rfl rfl (by omega) gz | exact GO.call rfl rfl Tryd.func134 rfl rfl rfl (ka ⟨rfl, rd_zero2 rfl, rd_zero2 rfl, rfl⟩ (rd_self (by simp only [alook_aset, alook_aerase, alook]; (repeat rw [if_neg (by omega)]); exact hpo))) | exact GO.add rfl rfl rfl (by omega)) ?_
          | refine GT.skip ?_
          | refine GT.block ?_
          | refine GP.inN ?_
          | refine GT.condF rfl ?_
          | (refine GT.condD rfl (fun h => ?_) (fun h => ?_) <;> try (exfalso; omega)))
          exact GP.invN (l.length - (n + 1)) (by omega) ⟨n + 1, by omega, rfl, Nat.le_of_ble_eq_true rfl, hk3.succ hz (by unfold hitT; rw [hag]; rfl), asub_cons rfl (asub_cons rfl (asub_cons rfl (asub_cons rfl (asub_cons rfl (asub_cons rfl (asub_cons rfl (asub_cons rfl (asub_cons rfl (asub_cons rfl (asub_cons rfl (asub_cons rfl (asub_cons rfl (asub_cons rfl (asub_cons rfl (asub_cons rfl (asub_cons rfl (asub_nil))))))))))))))))), subm_cons rfl (subm_cons rfl (subm_cons rfl (subm_cons rfl (subm_cons rfl (subm_cons rfl (subm_cons rfl (subm_cons rfl (subm_cons rfl (subm_cons rfl (subm_cons rfl (subm_cons rfl ((fun j o h => by have hj := ScM_lt hO.al h; simp only [alook_aset, alook_aerase, alook]; (repeat rw [if_neg (by omega)]); exact h)))))))))))))⟩
        | true =>
          rw [hag] at ka
          have k1 := fun {A : AW} => w_has101h (A := A) x.a x.b t
          have k2 := fun {A : AW} => w_has101h (A := A) y.a y.b t
          have gx2 : ((ldC d).drop (0 + (i : Int).toNat * 4 + 2)).take 2 = [.int .i64 x.a, .int .i64 x.b] := by
            have := congrArg (fun u => (u.drop 2).take 2) gx
            simpa [List.drop_take, List.drop_drop, List.take_take] using this
          have gy2 : ((mvC m).drop (0 + (k : Int).toNat * 8 + 6)).take 2 = [.int .i64 y.a, .int .i64 y.b] := by
            have := congrArg (fun u => (u.drop 6).take 2) gy
            simpa [List.drop_take, List.drop_drop, List.take_take] using this
          have hfx : 0 + (i : Int).toNat * 4 + 2 + 2 ≤ (ldC d).length := by omega
          have hfy : 0 + (k : Int).toNat * 8 + 6 + 2 ≤ (mvC m).length := by omega
          cases h1 : hasT x.a x.b t with
          | false =>
            rw [h1] at k1
            repeat' (first
            | refine GL.v rfl rfl rfl (GO.yield rfl rfl rfl rfl (congrArg some hrec.symm) rfl rfl rfl (by repeat' (first | exact GP.yBody rfl ⟨rfl, rfl⟩ | refine GP.yAssign (congrArg some hrec.symm) ?_ | refine GT.draws (id := 6) [[], [], [1], [0, 1, 2], [0, 1, 2, 3], [0, 1, 2, 3, 4], [], [0, 1, 2, 3, 4, 5, 6], [0, 1, 2, 3, 4, 5, 6, 7], [0, 1, 2, 3, 4, 5, 6, 7, 8], [0, 1, 2, 3, 4, 5, 6, 7, 8], [0, 1, 2, 3, 4, 5, 6, 7, 8, 10], [0, 1, 2, 3, 4, 5, 6, 7, 8, 9, 10, 11], [0, 1, 2, 3, 4, 5, 6, 7, 8, 9, 10, 11, 12], [0, 1, 2, 3, 4, 5, 6, 7, 8, 9, 10, 11, 12, 13], [0, 1, 2, 3, 4, 5, 6, 7, 8], [0, 1, 2, 3, 4, 5, 6, 7, 8, 9, 10, 11, 12, 13, 14, 15], [0, 1, 2, 3, 4, 5, 6, 7, 8, 9, 10, 11, 12, 13, 14, 15, 16]] [] (by kernel_rfl) ?_ | refine GL.sf rfl rfl rfl rfl ?_ | refine GL.sn rfl rfl rfl ?_ | refine GL.done ?_ | refine GP.thenN ?_ | refine GT.seq ?_ | refine GT.region ?_ | refine GD.li rfl rfl (by exact onAt.none rfl) rfl (by repeat first | exact AllG.nil rfl | refine AllG.cons rfl (by first | exact GO.sf rfl rfl | exact GO.sv rfl rfl | exact GO.indexS (s := 4) rfl rfl rfl rfl rfl (by omega) | exact GO.call rfl rfl Tryd.func101 rfl rfl rfl (k1) | exact GO.loadG (s := 2) rfl rfl rfl rfl rfl rfl hfx gx2) ?_) ?_ | refine GD.off rfl rfl rfl rfl rfl (by exact .inl rfl) rfl ?_ | refine GD.done rfl rfl rfl ?_ | refine GT.skip ?_ | refine GT.block ?_ | refine GP.inN ?_ | refine GT.condF rfl ?_))) ?_
            | refine GL.sf rfl rfl rfl rfl ?_
            | refine GL.sn rfl rfl rfl ?_
            | refine GL.done ?_
            | refine GP.thenN ?_
            | refine GT.seq ?_
            | refine GT.region ?_
            | refine GL.unguardG rfl rfl rfl ?_
            | refine GL.v rfl rfl rfl (by first | exact GO.indexS (s := 4) rfl rfl rfl rfl rfl (by omega) | exact GO.loadG (s := 4) rfl rfl rfl rfl rfl rfl (by omega) gz | exact GO.call rfl rfl Tryd.func134 rfl rfl rfl (ka ⟨rfl, rd_zero2 rfl, rd_zero2 rfl, rfl⟩ (rd_self (by simp only [alook_aset, alook_aerase, alook]; (repeat rw [if_neg (by omega)]); exact hpo))) | exact GO.add rfl rfl rfl (by omega)) ?_
            | refine GT.skip ?_
            | refine GT.block ?_
            | refine GP.inN ?_
            | refine GT.condF rfl ?_
            | (refine GT.condD rfl (fun h => ?_) (fun h => ?_) <;> try (exfalso; omega)))
            exact GP.invN (l.length - (n + 1)) (by omega) ⟨n + 1, by omega, rfl, Nat.le_of_ble_eq_true rfl, hk3.succ hz (by unfold hitT; rw [hag, h1]; rfl), asub_cons rfl (asub_cons rfl (asub_cons rfl (asub_cons rfl (asub_cons rfl (asub_cons rfl (asub_cons rfl (asub_cons rfl (asub_cons rfl (asub_cons rfl (asub_cons rfl (asub_cons rfl (asub_cons rfl (asub_cons rfl (asub_cons rfl (asub_cons rfl (asub_cons rfl (asub_nil))))))))))))))))), subm_cons rfl (subm_cons rfl (subm_cons (congrArg some hrec) (subm_cons rfl (subm_cons rfl (subm_cons rfl (subm_cons rfl (subm_cons rfl (subm_cons rfl (subm_cons rfl (subm_cons rfl (subm_cons rfl ((fun j o h => by have hj := ScM_lt hO.al h; simp only [alook_aset, alook_aerase, alook]; (repeat rw [if_neg (by omega)]); exact h)))))))))))))⟩
          | true =>
            rw [h1] at k1
            cases h2 : hasT y.a y.b t with
            | false =>
              rw [h2] at k2
              repeat' (first
              | refine GL.v rfl rfl rfl (GO.yield rfl rfl rfl rfl (congrArg some hrec.symm) rfl rfl rfl (by repeat' (first | exact GP.yBody rfl ⟨rfl, rfl⟩ | refine GP.yAssign (congrArg some hrec.symm) ?_ | refine GT.draws (id := 6) [[], [], [1], [0, 1, 2], [0, 1, 2, 3], [0, 1, 2, 3, 4], [], [0, 1, 2, 3, 4, 5, 6], [0, 1, 2, 3, 4, 5, 6, 7], [0, 1, 2, 3, 4, 5, 6, 7, 8], [0, 1, 2, 3, 4, 5, 6, 7, 8], [0, 1, 2, 3, 4, 5, 6, 7, 8, 10], [0, 1, 2, 3, 4, 5, 6, 7, 8, 9, 10, 11], [0, 1, 2, 3, 4, 5, 6, 7, 8, 9, 10, 11, 12], [0, 1, 2, 3, 4, 5, 6, 7, 8, 9, 10, 11, 12, 13], [0, 1, 2, 3, 4, 5, 6, 7, 8], [0, 1, 2, 3, 4, 5, 6, 7, 8, 9, 10, 11, 12, 13, 14, 15], [0, 1, 2, 3, 4, 5, 6, 7, 8, 9, 10, 11, 12, 13, 14, 15, 16]] [] (by kernel_rfl) ?_ | refine GL.sf rfl rfl rfl rfl ?_ | refine GL.sn rfl rfl rfl ?_ | refine GL.done ?_ | refine GP.thenN ?_ | refine GT.seq ?_ | refine GT.region ?_ | refine GD.li rfl rfl (by first | exact onAt.none rfl | exact onAt.yes rfl rfl rfl) rfl (by repeat first | exact AllG.nil rfl | refine AllG.cons rfl (by first | exact GO.sf rfl rfl | exact GO.sv rfl rfl | exact GO.indexS (s := 4) rfl rfl rfl rfl rfl (by omega) | exact GO.call rfl rfl Tryd.func101 rfl rfl rfl (k1) | exact GO.call rfl rfl Tryd.func101 rfl rfl rfl (k2) | exact GO.indexS (s := 8) rfl rfl rfl rfl rfl (by omega) | exact GO.loadG (s := 2) rfl rfl rfl rfl rfl rfl hfx gx2 | exact GO.loadG (s := 2) rfl rfl rfl rfl rfl rfl hfy gy2) ?_) ?_ | refine GD.done rfl rfl rfl ?_ | refine GT.skip ?_ | refine GT.block ?_ | refine GP.inN ?_ | refine GT.condF rfl ?_))) ?_
              | refine GL.sf rfl rfl rfl rfl ?_
              | refine GL.sn rfl rfl rfl ?_
              | refine GL.done ?_
              | refine GP.thenN ?_
              | refine GT.seq ?_
              | refine GT.region ?_
              | refine GL.unguardG rfl rfl rfl ?_
              | refine GL.v rfl rfl rfl (by first | exact GO.indexS (s := 4) rfl rfl rfl rfl rfl (by omega) | exact GO.loadG (s := 4) rfl rfl rfl rfl rfl rfl (by omega) gz | exact GO.call rfl rfl Tryd.func134 rfl rfl rfl (ka ⟨rfl, rd_zero2 rfl, rd_zero2 rfl, rfl⟩ (rd_self (by simp only [alook_aset, alook_aerase, alook]; (repeat rw [if_neg (by omega)]); exact hpo))) | exact GO.add rfl rfl rfl (by omega)) ?_
              | refine GT.skip ?_
              | refine GT.block ?_
              | refine GP.inN ?_
              | refine GT.condF rfl ?_
              | (refine GT.condD rfl (fun h => ?_) (fun h => ?_) <;> try (exfalso; omega)))
              exact GP.invN (l.length - (n + 1)) (by omega) ⟨n + 1, by omega, rfl, Nat.le_of_ble_eq_true rfl, hk3.succ hz (by unfold hitT; rw [hag, h1, h2]; rfl), asub_cons rfl (asub_cons rfl (asub_cons rfl (asub_cons rfl (asub_cons rfl (asub_cons rfl (asub_cons rfl (asub_cons rfl (asub_cons rfl (asub_cons rfl (asub_cons rfl (asub_cons rfl (asub_cons rfl (asub_cons rfl (asub_cons rfl (asub_cons rfl (asub_cons rfl (asub_nil))))))))))))))))), subm_cons rfl (subm_cons rfl (subm_cons (congrArg some hrec) (subm_cons rfl (subm_cons rfl (subm_cons rfl (subm_cons rfl (subm_cons rfl (subm_cons rfl (subm_cons rfl (subm_cons rfl (subm_cons rfl ((fun j o h => by have hj := ScM_lt hO.al h; simp only [alook_aset, alook_aerase, alook]; (repeat rw [if_neg (by omega)]); exact h)))))))))))))⟩
            | true =>
              rw [h2] at k2
              repeat' (first
              | refine GL.v rfl rfl rfl (GO.yield rfl rfl rfl rfl (congrArg some hrec.symm) rfl rfl rfl (by repeat' (first | exact GP.yBody rfl ⟨rfl, rfl⟩ | refine GP.yAssign (congrArg some hrec.symm) ?_ | exact GP.yRet rfl ⟨rfl, rfl⟩ | refine GT.draws (id := 6) [[], [], [1], [0, 1, 2], [0, 1, 2, 3], [0, 1, 2, 3, 4], [], [0, 1, 2, 3, 4, 5, 6], [0, 1, 2, 3, 4, 5, 6, 7], [0, 1, 2, 3, 4, 5, 6, 7, 8], [0, 1, 2, 3, 4, 5, 6, 7, 8], [0, 1, 2, 3, 4, 5, 6, 7, 8, 10], [0, 1, 2, 3, 4, 5, 6, 7, 8, 9, 10, 11], [0, 1, 2, 3, 4, 5, 6, 7, 8, 9, 10, 11, 12], [0, 1, 2, 3, 4, 5, 6, 7, 8, 9, 10, 11, 12, 13], [0, 1, 2, 3, 4, 5, 6, 7, 8], [0, 1, 2, 3, 4, 5, 6, 7, 8, 9, 10, 11, 12, 13, 14, 15], [0, 1, 2, 3, 4, 5, 6, 7, 8, 9, 10, 11, 12, 13, 14, 15, 16]] [] (by kernel_rfl) ?_ | refine GL.sf rfl rfl rfl rfl ?_ | refine GL.sn rfl rfl rfl ?_ | refine GL.done ?_ | refine GP.thenN ?_ | refine GT.seq ?_ | refine GT.region ?_ | refine GD.li rfl rfl (by first | exact onAt.none rfl | exact onAt.yes rfl rfl rfl) rfl (by repeat first | exact AllG.nil rfl | refine AllG.cons rfl (by first | exact GO.sf rfl rfl | exact GO.sv rfl rfl | exact GO.indexS (s := 4) rfl rfl rfl rfl rfl (by omega) | exact GO.call rfl rfl Tryd.func101 rfl rfl rfl (k1) | exact GO.call rfl rfl Tryd.func101 rfl rfl rfl (k2) | exact GO.indexS (s := 8) rfl rfl rfl rfl rfl (by omega) | exact GO.loadG (s := 2) rfl rfl rfl rfl rfl rfl hfx gx2 | exact GO.loadG (s := 2) rfl rfl rfl rfl rfl rfl hfy gy2) ?_) ?_ | refine GD.done rfl rfl rfl ?_ | refine GT.block ?_ | refine GT.ret ?_ | refine GP.inR ?_ | refine GT.condT rfl ?_))) ?_
              | refine GL.sf rfl rfl rfl rfl ?_
              | refine GL.sn rfl rfl rfl ?_
              | refine GL.done ?_
              | refine GP.thenN ?_
              | refine GT.seq ?_
              | refine GT.region ?_
              | refine GL.unguardG rfl rfl rfl ?_
              | refine GL.v rfl rfl rfl (by first | exact GO.indexS (s := 4) rfl rfl rfl rfl rfl (by omega) | exact GO.loadG (s := 4) rfl rfl rfl rfl rfl rfl (by omega) gz | exact GO.call rfl rfl Tryd.func134 rfl rfl rfl (ka ⟨rfl, rd_zero2 rfl, rd_zero2 rfl, rfl⟩ (rd_self (by simp only [alook_aset, alook_aerase, alook]; (repeat rw [if_neg (by omega)]); exact hpo)))) ?_
              | refine GT.skip ?_
              | refine GT.block ?_
              | refine GT.ret ?_
              | refine GP.thenR ?_
              | refine GP.inR ?_
              | refine GP.invR ?_
              | refine GT.condT rfl ?_
              | (refine GT.condD rfl (fun h => ?_) (fun h => ?_) <;> try (exfalso; omega))
              | refine GP.endR0 rfl ?_)
              have hh : clearB l d m t = false := by unfold clearB; rw [anyHit_of hx hy hz (by unfold hitT; rw [hag, h1, h2]; rfl)]; rfl
              refine .inr ⟨_, _, rfl, rfl, rfl, _, rfl, ?_⟩
              rw [hh]
      · obtain rfl : n = l.length := by omega
        repeat' (first
        | refine GL.sf rfl rfl rfl rfl ?_
        | refine GL.done ?_
        | refine GP.thenN ?_
        | refine GT.seq ?_
        | refine GT.region ?_
        | refine GL.v rfl rfl rfl (by exact GO.add rfl rfl rfl (by omega)) ?_
        | refine GT.exit ?_
        | refine GP.thenE ?_
        | refine GP.inN ?_
        | refine GP.hit ?_
        | refine GP.invE ?_
        | (refine GT.condD rfl (fun h => ?_) (fun h => ?_) <;> try (exfalso; omega)))
        exact GP.invN (m.length - (k + 1)) (by omega) ⟨k + 1, by omega, rfl, Nat.le_of_ble_eq_true rfl, hk2.succ hy hk3.all, asub_cons rfl (asub_cons rfl (asub_cons rfl (asub_cons rfl (asub_cons rfl (asub_cons rfl (asub_cons rfl (asub_cons rfl (asub_cons rfl (asub_cons rfl (asub_cons rfl (asub_cons rfl (asub_nil)))))))))))), subm_cons rfl (subm_cons rfl (subm_cons rfl (subm_cons rfl (subm_cons rfl (subm_cons rfl (subm_cons rfl (subm_cons rfl (subm_cons rfl (subm_cons rfl (subm_cons rfl ((fun j o h => by have hj := ScM_lt hO.al h; simp only [alook_aset, alook_aerase, alook]; (repeat rw [if_neg (by omega)]); exact h))))))))))))⟩
    · obtain rfl : k = m.length := by omega
      repeat' (first
      | refine GL.sf rfl rfl rfl rfl ?_
      | refine GL.done ?_
      | refine GP.thenN ?_
      | refine GT.seq ?_
      | refine GT.region ?_
      | refine GL.v rfl rfl rfl (by exact GO.add rfl rfl rfl (by omega)) ?_
      | refine GT.exit ?_
      | refine GP.thenE ?_
      | refine GP.inN ?_
      | refine GP.hit ?_
      | refine GP.invE ?_
      | (refine GT.condD rfl (fun h => ?_) (fun h => ?_) <;> try (exfalso; omega)))
      exact GP.invN (d.length - (i + 1)) (by omega) ⟨i + 1, by omega, rfl, Nat.le_of_ble_eq_true rfl, hk1.succ hx hk2.all, asub_cons rfl (asub_cons rfl (asub_cons rfl (asub_cons rfl (asub_cons rfl (asub_cons rfl (asub_cons rfl (asub_nil))))))), subm_cons rfl (subm_cons rfl (subm_cons rfl (subm_cons rfl (subm_cons rfl (subm_cons rfl (subm_cons rfl (subm_cons rfl (subm_cons rfl (subm_cons rfl ((fun j o h => by have hj := ScM_lt hO.al h; simp only [alook_aset, alook_aerase, alook]; (repeat rw [if_neg (by omega)]); exact h)))))))))))⟩
  · obtain rfl : i = d.length := by omega
    repeat' (first
    | refine GL.sf rfl rfl rfl rfl ?_
    | refine GL.done ?_
    | refine GP.thenN ?_
    | refine GT.seq ?_
    | refine GT.region ?_
    | refine GT.exit ?_
    | refine GP.thenE ?_
    | refine GP.hit ?_
    | refine GP.invE ?_
    | (refine GT.condD rfl (fun h => ?_) (fun h => ?_) <;> try (exfalso; omega))
    | refine GP.endN0 rfl ?_)
    have hno : anyHit (hitT t) d m l = false := anyHit_no hk1.all
    refine .inl ⟨_, _, rfl, rfl, rfl, ?_⟩
    have hh : clearB l d m t = true := by unfold clearB; rw [hno]; rfl
    rw [hh]
    repeat' (first
    | refine GP.fend2 rfl rfl ?_
    | refine GL.sn rfl rfl rfl ?_
    | refine GL.done ?_)
    rfl
end Go.M
