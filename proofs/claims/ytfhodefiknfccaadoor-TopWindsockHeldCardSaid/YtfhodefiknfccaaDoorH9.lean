/- Functions of the given program, walked (no condition beyond what each theorem says). -/
import Derived.Test.YtfhodefiknfccaaDoorH8
import Derived.Test.YtfhodefiknfccaaDoorA6
set_option linter.unusedVariables false
set_option linter.unusedSimpArgs false
namespace Go.M
open Go.Proofs Go.RowKit
set_option maxRecDepth 8000
set_option maxHeartbeats 8000000
def arP (l : List Ar) (i : Nat) : Pts := match l[i]? with
  | some a => a.ps
  | none => []
theorem arP_at {l : List Ar} {i : Nat} {a : Ar} (h : l[i]? = some a) : arP l i = a.ps := by unfold arP; rw [h]
/-- The areas at the name 'b', their polygons behind. -/
abbrev ArM (l : List Ar) (b : Nat) (R : LM) : LM := (b, .cells (arC (fun j => b + 1 + j) 0 l) 162) :: (famB (fun i => .cells (ptC (arP l i)) 97) (b + 1) l.length ++ R)
theorem ArM_poly {l : List Ar} {b i : Nat} {R : LM} (h : i < l.length) : alook (ArM l b R) (b + 1 + i) = some (.cells (ptC (arP l i)) 97) := by
  simp only [alook]
  rw [if_neg (by omega), famB_look, if_pos (by omega), show b + 1 + i - (b + 1) = i by omega]
theorem ArM_old {l : List Ar} {b j : Nat} {R : LM} (h : j < b) : alook (ArM l b R) j = alook R j := by
  simp only [alook]
  rw [if_neg (by omega), famB_look, if_neg (by omega)]
theorem ArM_new {l : List Ar} {b j : Nat} {R : LM} (h : b + 1 + l.length ≤ j) : alook (ArM l b R) j = alook R j := by
  simp only [alook]
  rw [if_neg (by omega), famB_look, if_neg (by omega)]
/-- Areas somewhere in a memory. -/
structure ArAt (A : AW) (p : Nat) (ν : Nat → Nat) (l : List Ar) : Prop where
  rd : A.rd p 0 (arC ν 0 l).length = some (arC ν 0 l)
  ps : ∀ i a, l[i]? = some a → A.rd (ν i) 0 (ptC a.ps).length = some (ptC a.ps)
def ArRho (b p : Nat) (ν : Nat → Nat) (n : Nat) (ρ : Nat → Option (Nat × Nat)) (j : Nat) : Option (Nat × Nat) := if j = b then some (p, 0) else if b + 1 ≤ j ∧ j < b + 1 + n then some (ν (j - (b + 1)), 0) else ρ j
theorem ArAt.small {A : AW} {p b G K : Nat} {ν : Nat → Nat} {l : List Ar} {R : LM} {ρ : Nat → Option (Nat × Nat)} (h : ArAt A p ν l) (s : SmallX A R b G ρ) (hK : b + 1 + l.length ≤ K) : SmallX A (ArM l b R) K G (ArRho b p ν l.length ρ) := by
  have hmono : ∀ j x, ρ j = some x → ArRho b p ν l.length ρ j = some x := fun j x hj => by
    have := s.hk j x hj
    unfold ArRho
    rw [if_neg (by omega), if_neg (by omega)]; exact hj
  refine ⟨fun j x hx => ?_, fun j hj => ?_, fun j y hy => ?_, s.hgl, fun g hg => ?_, Nat.le_trans s.hGk (by omega)⟩
  · unfold ArRho at hx
    split at hx
    · omega
    split at hx
    · omega
    · have := s.hk j x hx; omega
  · simp only [alook] at hj
    split at hj
    · cases hj
    rename_i q
    rw [famB_look] at hj
    split at hj
    · cases hj
    rename_i q2
    unfold ArRho
    rw [if_neg (fun e => q e.symm), if_neg q2]; exact s.hd j hj
  · simp only [alook] at hy
    split at hy
    · rename_i q
      subst q; cases hy
      refine ⟨by omega, (p, 0), by unfold ArRho; rw [if_pos rfl], ?_⟩
      refine ⟨arC ν 0 l, ?_, arC_AR l 0 fun i hi => ?_⟩
      · rw [arC_len, ← arC_len (ν := ν) l 0]; exact h.rd
      · unfold ArRho
        rw [if_neg (by omega), if_pos (by omega), show b + 1 + (0 + i) - (b + 1) = 0 + i by omega]
    · rename_i q
      rw [famB_look] at hy
      split at hy
      · rename_i q2
        cases hy
        obtain ⟨a, ha⟩ : ∃ a, l[j - (b + 1)]? = some a := ⟨_, List.getElem?_eq_getElem (show j - (b + 1) < l.length by omega)⟩
        obtain ⟨f, hf⟩ := ptC_flat a.ps
        refine ⟨by omega, (ν (j - (b + 1)), 0), by unfold ArRho; rw [if_neg (by omega), if_pos q2], ?_⟩
        rw [arP_at ha]
        exact .flat (h.ps _ a ha) hf
      · obtain ⟨h1, x, h2, h3⟩ := s.hL j y hy
        exact ⟨by omega, x, hmono j x h2, h3.mono hmono⟩
  · exact hmono g _ (s.hG g hg)
theorem ArM_under {l : List Ar} {b K : Nat} {R : LM} (hK : b + 1 + l.length ≤ K) (h : ∀ j y, alook R j = some y → j < K ∧ ObjLt K y) : ∀ j y, alook (ArM l b R) j = some y → j < K ∧ ObjLt K y := by
  intro j y hy
  simp only [alook] at hy
  split at hy
  · rename_i q
    subst q; cases hy
    exact ⟨by omega, arC_Lt l 0 fun i hi => by omega⟩
  · rw [famB_look] at hy
    split at hy
    · rename_i q2
      cases hy
      obtain ⟨f, hf⟩ := ptC_flat (arP l (j - (b + 1)))
      exact ⟨by omega, Lt.flat hf⟩
    · exact h j y hy
/-- A valid list of areas. -/
structure ArOk (l : List Ar) : Prop where
  ok : ∀ (i : Nat) (x : Ar), l[i]? = some x → x.Ok
  ne : ∀ (i j : Nat) (x y : Ar), j < i → l[i]? = some x → l[j]? = some y → (x.s == y.s) = false
def arNm (l : List Ar) (j : Nat) : ByteArray := match l[j]? with
  | some x => x.s
  | none => ⟨#[]⟩
theorem w_named136 {A : AW} {p c : Nat} {ν : Nat → Nat} (l : List Ar) (hV : ArOk l) (hl : l.length ≤ 16) (h : ArAt A p ν l) :
    AC Tryd.prog 136 [.slice (some ⟨p, 0, none⟩) l.length c, .int .i64 16, .func (.func 137) #[] #[], .func (.func 138) #[] #[]] A (isR (.int .i64 0) A) := by
  have hlen := arC_len (ν := fun j => 0 + 1 + j) l 0
  refine AC.isX (h.small SmallX.nil (K := 100) (by omega)) (args := [.slice (some ⟨0, 0, none⟩) l.length c, .int .i64 16, .func (.func 137) #[] #[], .func (.func 138) #[] #[]]) ?_ ⟨8, rfl⟩ (.sl rfl rfl (.flat (k := 8) rfl (.flat (k := 8) rfl (.flat (k := 8) rfl .nil))))
  refine AC.go Tryd.func136 rfl rfl ?_
  clear h
  repeat' (first
  | refine GL.sf rfl rfl rfl rfl ?_
  | refine GL.sv rfl rfl rfl rfl ?_
  | refine GL.done ?_
  | refine GP.thenN ?_
  | refine GT.seq ?_
  | refine GT.region ?_
  | refine GT.skip ?_
  | refine GT.block ?_
  | (refine GT.condD rfl (fun h => ?_) (fun h => ?_) <;> try (exfalso; omega)))
  refine GT.loop (fun q a L nx => ∃ i : Nat, i ≤ l.length ∧ q = l.length - i ∧ 101 ≤ nx ∧ asub [(2, .func (.func 137) #[] #[]), (3, .func (.func 138) #[] #[]), (9, .map (some 100)), (19, .slice (some ⟨0, 0, none⟩) l.length c), (20, .int .i64 l.length), (21, .int .i64 i)] a ∧ subm ((100, .map (esN (arNm l) i) i) :: ArM l 0 []) L) l.length
    ⟨0, by omega, by omega, Nat.le_of_ble_eq_true rfl, asub_cons rfl (asub_cons rfl (asub_cons rfl (asub_cons rfl (asub_cons rfl (asub_cons rfl asub_nil))))), fun _ _ h => h⟩ ?_
  rintro q a L nx ⟨i, hi, rfl, hnx, hs, hsub⟩
  refine GT.resetL 101 hs hsub hnx rfl rfl (fun j y hy => by
    rw [alook] at hy
    split at hy
    · rename_i e; subst e; cases hy; exact ⟨by decide, esN_lt i⟩
    · exact ArM_under (by omega) (fun j y h => by cases h) j y hy) (.cons (.flat (j := 8) rfl) (.cons (.flat (j := 8) rfl) (.cons (.map rfl) (.cons (.sl rfl) (.cons (.flat (j := 8) rfl) (.cons (.flat (j := 8) rfl) .nil)))))) (fun g hg => absurd hg (Nat.not_lt_zero g)) ?_
  clear hs hsub hnx
  rcases Nat.lt_or_ge i l.length with hlt | hge
  · obtain ⟨x, hx⟩ : ∃ x, l[i]? = some x := ⟨_, List.getElem?_eq_getElem hlt⟩
    have hok := hV.ok i x hx
    have hnm : arNm l i = x.s := by unfold arNm; rw [hx]
    have hf : Instr.findNow .string (.string x.s) (esN (arNm l) i) 0 = some none := findNow_esN fun j hj => by
      obtain ⟨y, hy⟩ : ∃ y, l[j]? = some y := ⟨_, List.getElem?_eq_getElem (by omega)⟩
      unfold arNm
      rw [hy]
      exact hV.ne i j x y hj hx hy
    have g : ((arC (fun j => 0 + 1 + j) 0 l).drop (0 + (i : Int).toNat * 4)).take 4 = x.vs (0 + 1 + i) := by simpa using arC_at (ν := fun j => 0 + 1 + j) l 0 i x hx
    have hfam : alook (famB (fun i => .cells (ptC (arP l i)) 97) (0 + 1) l.length ++ []) (0 + 1 + i) = some (.cells (ptC x.ps) 97) := by
      rw [famB_look, if_pos (by omega), show 0 + 1 + i - (0 + 1) = i by omega, arP_at hx]
    repeat' (first
    | refine GT.draws (id := 8) [[], [0], [0, 1], [0, 1, 2], [], [], [4, 5], [0, 1, 2, 3, 4, 5, 6], [], [], [0, 1, 2, 3, 4, 5, 6, 7, 8, 9], [0, 1, 2, 3, 4, 5, 6, 7, 8, 9, 10], [0, 1, 2, 3, 4, 5, 6, 7, 8, 9, 10, 11], [0, 1, 2, 3, 4, 5, 6, 7, 8, 9, 10, 11, 12]] [11] (by kernel_rfl) ?_
    | refine GL.mapNew rfl rfl rfl rfl rfl rfl rfl rfl rfl rfl hf rfl ?_
    | refine GL.sf rfl rfl rfl rfl ?_
    | refine GL.sn rfl rfl rfl ?_
    | refine GL.done ?_
    | refine GP.thenN ?_
    | refine GT.seq ?_
    | refine GT.region ?_
    | refine GD.li rfl rfl (by exact onAt.none rfl) rfl (by repeat first | exact AllG.nil rfl | refine AllG.cons rfl (by first | exact GO.sf rfl rfl | exact GO.call rfl rfl Tryd.func145 rfl rfl rfl (d_isname145 _ hok.1) | exact GO.call rfl rfl Tryd.func132 rfl rfl rfl (w_when132 _ _) | exact GO.lookupNone rfl rfl rfl rfl rfl rfl hf rfl | exact GO.callV rfl rfl rfl Tryd.func138 rfl rfl rfl (w_check138 x hok (rd_self (by simp only [alook_aset, alook_aerase, alook]; (repeat rw [if_neg (by omega)]); exact hfam))) | exact GO.call rfl rfl Tryd.func98 rfl rfl rfl (w_first98 [0, 0, 0] rfl rfl rfl)) ?_) ?_
    | refine GD.he rfl rfl rfl (by exact onAt.none rfl) rfl (by exact GO.sf rfl rfl) ?_ ?_
    | refine GD.done rfl rfl rfl ?_
    | exact AllJs.nil rfl
    | refine GL.v rfl rfl rfl (by first | exact GO.indexS (s := 4) rfl rfl rfl rfl rfl (by omega) | exact GO.loadG (s := 4) rfl rfl rfl rfl rfl rfl (by omega) g | exact GO.callV rfl rfl rfl Tryd.func137 rfl rfl rfl (w_label137 x (rd_self (by simp only [alook_aset, alook_aerase, alook]; (repeat rw [if_neg (by omega)]); exact hfam))) | exact GO.add rfl rfl rfl (by omega)) ?_
    | refine GT.skip ?_
    | refine GT.block ?_
    | refine GP.inN ?_
    | refine GT.condF rfl ?_
    | (refine GT.condD rfl (fun h => ?_) (fun h => ?_) <;> try (exfalso; omega)))
    exact GP.invN (l.length - (i + 1)) (by omega) ⟨i + 1, by omega, rfl, Nat.le_of_ble_eq_true rfl, asub_cons rfl (asub_cons rfl (asub_cons rfl (asub_cons rfl (asub_cons rfl (asub_cons rfl asub_nil))))), subm_cons (by rw [esN_succ, hnm]; rfl) (fun j y hy => by
      have hj := (ArM_under (K := 100) (by omega) (fun j y h => by cases h) j y hy).1
      repeat (first
        | exact hy
        | refine Eq.trans (alook_aset _ _ _ _) ?_
        | refine Eq.trans (if_neg (show ¬ j = 100 by omega)) ?_
        | refine Eq.trans (if_neg (show ¬ j = 101 by omega)) ?_
        | refine Eq.trans (if_neg (show ¬ j = 102 by omega)) ?_
        | refine Eq.trans (if_neg (show ¬ 100 = j by omega)) ?_
        | refine Eq.trans (if_neg (show ¬ 101 = j by omega)) ?_
        | refine Eq.trans (if_neg (show ¬ 102 = j by omega)) ?_))⟩
  ·
    repeat' (first
    | refine GL.sf rfl rfl rfl rfl ?_
    | refine GL.done ?_
    | refine GP.thenN ?_
    | refine GT.seq ?_
    | refine GT.region ?_
    | refine GT.ret ?_
    | refine GT.exit ?_
    | refine GP.thenE ?_
    | refine GP.hit ?_
    | refine GP.invE ?_
    | (refine GT.condD rfl (fun h => ?_) (fun h => ?_) <;> try (exfalso; omega))
    | refine GP.endR1 rfl ?_)
    rfl
theorem w_areas109 {A : AW} {p c : Nat} {ν : Nat → Nat} (l : List Ar) (hV : ArOk l) (hl : l.length ≤ 16) (h : ArAt A p ν l) : AC Tryd.prog 109 [.slice (some ⟨p, 0, none⟩) l.length c] A (isR (.int .i64 0) A) := by
  refine AC.isX (h.small SmallX.nil (K := 100) (by omega)) (args := [.slice (some ⟨0, 0, none⟩) l.length c]) ?_ ⟨8, rfl⟩ (.sl rfl rfl .nil)
  have h0 : ArAt (AW.of (ArM l 0 []) 100 100 0) 0 (fun j => 0 + 1 + j) l := ⟨rd_self rfl, fun i a ha => by
    rw [← arP_at ha]
    exact rd_self (ArM_poly (List.getElem?_eq_some_iff.1 ha).1)⟩
  refine AC.go Tryd.func109 rfl rfl ?_
  clear h
  repeat' (first
  | refine GL.sf rfl rfl rfl rfl ?_
  | refine GL.done ?_
  | refine GP.thenN ?_
  | refine GT.seq ?_
  | refine GT.region ?_
  | refine GL.v rfl rfl rfl (by exact GO.call rfl rfl Tryd.func136 rfl rfl rfl (w_named136 l hV hl h0)) ?_
  | refine GT.ret ?_
  | refine GP.endR1 rfl ?_)
  rfl
end Go.M
namespace Go.M
open Go.Proofs Go.RowKit
set_option maxRecDepth 8000
set_option maxHeartbeats 8000000
/-- The address of a slice that may be nil. -/
def slA (b : Bool) (p : Nat) : Option Addr := match b with
  | true => some ⟨p, 0, none⟩
  | false => none
theorem Lt.slV {k p n c : Nat} {b : Bool} (h : Nat.blt p k = true) : Lt k [.slice (slA b p) n c] := by
  cases b
  · exact Lt.flat (j := 8) rfl
  · exact Lt.sl h
theorem AR.slV {ρ : Nat → Option (Nat × Nat)} {j p n c : Nat} {b : Bool} {vs us : List Value} (h : ρ j = some (p, 0)) (hr : AR ρ vs us) : AR ρ (.slice (slA b j) n c :: vs) (.slice (slA b p) n c :: us) := by
  cases b
  · exact .flat (k := 8) rfl hr
  · exact .sl (f := 0) (g := 0) h rfl hr
theorem Rn.slV {ρ : Nat → Option Nat} {j i n c : Nat} {b : Bool} (h : ρ j = some i) : Rn ρ [.slice (slA b j) n c] [.slice (slA b i) n c] := by
  cases b
  · exact Rn.flat (k := 8) rfl
  · exact Rn.sl h
theorem w_areas109n {A : AW} : AC Tryd.prog 109 [.slice none 0 0] A (isR (.int .i64 0) A) := by
  refine AC.is0 ?_ ⟨8, rfl⟩ (.flat (k := 8) rfl .nil)
  refine AC.go Tryd.func109 rfl rfl ?_
  repeat' (first
  | refine GL.v rfl rfl rfl (GO.call rfl rfl Tryd.func136 rfl rfl rfl (AC.go Tryd.func136 rfl rfl (by repeat' (first | exact ⟨rfl, rfl⟩ | refine GT.unroll 1 ?_ | refine GL.sf rfl rfl rfl rfl ?_ | refine GL.done ?_ | refine GP.thenN ?_ | refine GT.seq ?_ | refine GT.region ?_ | refine GT.skip ?_ | refine GT.block ?_ | refine GT.ret ?_ | refine GT.exit ?_ | refine GP.thenE ?_ | refine GP.hit ?_ | refine GP.againE ?_ | refine GU.step ?_ | refine GT.condF rfl ?_ | refine GP.endR1 rfl ?_)))) ?_
  | refine GL.sf rfl rfl rfl rfl ?_
  | refine GL.done ?_
  | refine GP.thenN ?_
  | refine GT.seq ?_
  | refine GT.region ?_
  | refine GT.ret ?_
  | refine GP.endR1 rfl ?_)
  rfl
theorem w_areas109V {A : AW} {p c : Nat} {ν : Nat → Nat} {b : Bool} (l : List Ar) (hb : b = false → l = [] ∧ c = 0) (hV : ArOk l) (hl : l.length ≤ 16) (h : ArAt A p ν l) : AC Tryd.prog 109 [.slice (slA b p) l.length c] A (isR (.int .i64 0) A) := by
  cases b
  · obtain ⟨rfl, rfl⟩ := hb rfl
    exact w_areas109n
  · exact w_areas109 l hV hl h
theorem w_check110V {A : AW} {p c : Nat} {b : Bool} (l : List Ld) (hb : b = false → l = [] ∧ c = 0) (hV : LdOk l) (hl : l.length ≤ 32) (hp : A.rd p 0 (ldC l).length = some (ldC l)) : AC Tryd.prog 110 [.slice (slA b p) l.length c] A (isR (.int .i64 0) A) := by
  cases b
  · obtain ⟨rfl, rfl⟩ := hb rfl
    exact w_check110n
  · exact w_check110 l hV hl hp
theorem w_check111V {A : AW} {p c : Nat} {b : Bool} (l : List Mv) (hb : b = false → l = [] ∧ c = 0) (hV : MvOk l) (hl : l.length ≤ 32) (hp : A.rd p 0 (mvC l).length = some (mvC l)) : AC Tryd.prog 111 [.slice (slA b p) l.length c] A (isR (.int .i64 0) A) := by
  cases b
  · obtain ⟨rfl, rfl⟩ := hb rfl
    exact w_check111n
  · exact w_check111 l hV hl hp
/-- A scene's places in a memory. -/
structure ScAt (A : AW) (p q r : Nat) (ν : Nat → Nat) (l : List Ar) (d : List Ld) (m : List Mv) : Prop where
  gw : GW A
  ar : ArAt A p ν l
  ld : A.rd q 0 (ldC d).length = some (ldC d)
  mv : A.rd r 0 (mvC m).length = some (mvC m)
/-- A scene that is valid. -/
structure ScOk (l : List Ar) (d : List Ld) (m : List Mv) : Prop where
  ar : ArOk l
  al : l.length ≤ 16
  ld : LdOk d
  dl : d.length ≤ 32
  mv : MvOk m
  ml : m.length ≤ 32
abbrev ScM (l : List Ar) (d : List Ld) (m : List Mv) : LM := (5, .cells (arC (fun j => 6 + j) 0 l) 162) :: (4, .cells (mvC m) 103) :: (3, .cells (ldC d) 163) :: (2, .cells sidesC 274) :: (1, .cells [] 0) :: (0, .cells [] 0) :: (famB (fun i => .cells (ptC (arP l i)) 97) 6 l.length ++ [])
theorem ScM_eq {l : List Ar} {d : List Ld} {m : List Mv} (j : Nat) : alook (ScM l d m) j = alook (ArM l 5 ((4, .cells (mvC m) 103) :: (3, .cells (ldC d) 163) :: WG)) j := by
  simp only [alook, famB_look]
  repeat' split
  all_goals first | rfl | (exfalso; omega)
theorem SmallX.congr {A : AW} {L L' : LM} {k G : Nat} {ρ : Nat → Option (Nat × Nat)} (h : SmallX A L k G ρ) (he : ∀ j, alook L' j = alook L j) : SmallX A L' k G ρ :=
  ⟨h.hk, fun j hj => h.hd j (by rw [← he]; exact hj), fun j y hy => h.hL j y (by rw [← he]; exact hy), h.hgl, h.hG, h.hGk⟩
def ScRho (p q r : Nat) (ν : Nat → Nat) (n : Nat) : Nat → Option (Nat × Nat) := ArRho 5 p ν n (onto 4 r 0 (onto 3 q 0 (fun j => if j < 3 then some (j, 0) else none)))
theorem ScAt.small {A : AW} {p q r k : Nat} {ν : Nat → Nat} {l : List Ar} {d : List Ld} {m : List Mv} (h : ScAt A p q r ν l d m) (hk : 6 + l.length ≤ k) : SmallX A (ScM l d m) k 3 (ScRho p q r ν l.length) := by
  obtain ⟨fd, hfd⟩ := ldC_flat d
  obtain ⟨fm, hfm⟩ := mvC_flat m
  refine SmallX.congr ?_ ScM_eq
  exact h.ar.small ((h.gw.small.cons (b := q) (f := 0) (o := .cells (ldC d) 163) (.flat h.ld hfd)).cons (b := r) (f := 0) (o := .cells (mvC m) 103) (.flat h.mv hfm)) hk
theorem ScRho5 {p q r : Nat} {ν : Nat → Nat} {n : Nat} : ScRho p q r ν n 5 = some (p, 0) := by unfold ScRho ArRho; rw [if_pos rfl]
theorem ScRho4 {p q r : Nat} {ν : Nat → Nat} {n : Nat} : ScRho p q r ν n 4 = some (r, 0) := by unfold ScRho ArRho; rw [if_neg (by decide), if_neg (by omega)]; rfl
theorem ScRho3 {p q r : Nat} {ν : Nat → Nat} {n : Nat} : ScRho p q r ν n 3 = some (q, 0) := by unfold ScRho ArRho; rw [if_neg (by decide), if_neg (by omega)]; rfl
/-- All objects are below a name, and point below it. -/
abbrev Und (k : Nat) (L : LM) : Prop := ∀ j y, alook L j = some y → j < k ∧ ObjLt k y
theorem und_cons {k i : Nat} {y : AObj} {L : LM} (h : Nat.blt i k = true) (hy : ObjLt k y) (hr : Und k L) : Und k ((i, y) :: L) := fun j x hx => by
  simp only [alook] at hx
  split at hx
  · rename_i q; subst q; cases hx; exact ⟨Nat.le_of_ble_eq_true h, hy⟩
  · exact hr j x hx
theorem und_famP {k b : Nat} {l : List Ar} (h : b + l.length ≤ k) : Und k (famB (fun i => .cells (ptC (arP l i)) 97) b l.length ++ []) := fun j y hy => by
  rw [famB_look] at hy
  split at hy
  · rename_i q
    cases hy
    obtain ⟨f, hf⟩ := ptC_flat (arP l (j - b))
    exact ⟨by omega, Lt.flat hf⟩
  · cases hy
theorem ScM_und {l : List Ar} {d : List Ld} {m : List Mv} (k : Nat) (hk : Nat.ble 30 k = true) (hl : l.length ≤ 16) : Und k (ScM l d m) := by
  have hk : 30 ≤ k := Nat.le_of_ble_eq_true hk
  have e : ∀ i, i < 6 → Nat.blt i k = true := fun i hi => Nat.ble_eq_true_of_le (show i + 1 ≤ k by omega)
  obtain ⟨fd, hfd⟩ := ldC_flat d
  obtain ⟨fm, hfm⟩ := mvC_flat m
  exact und_cons (e 5 (by decide)) (arC_Lt l 0 fun i hi => by omega) (und_cons (e 4 (by decide)) (Lt.flat hfm) (und_cons (e 3 (by decide)) (Lt.flat hfd) (und_cons (e 2 (by decide)) (Lt.flat (j := 16) rfl) (und_cons (e 1 (by decide)) (Lt.flat (j := 8) rfl) (und_cons (e 0 (by decide)) (Lt.flat (j := 8) rfl) (und_famP (by omega)))))))
theorem ScM_lt {l : List Ar} {d : List Ld} {m : List Mv} {j : Nat} {y : AObj} (hl : l.length ≤ 16) (h : alook (ScM l d m) j = some y) : j < 30 := (ScM_und 30 rfl hl j y h).1
theorem ScM_poly {l : List Ar} {d : List Ld} {m : List Mv} {i : Nat} (h : i < l.length) : alook (ScM l d m) (6 + i) = some (.cells (ptC (arP l i)) 97) := by
  rw [ScM_eq]; exact ArM_poly (b := 5) h
/-- A memory whose low names are a scene's. -/
theorem ScAt.low {X : LM} {nx ro : Nat} {l : List Ar} {d : List Ld} {m : List Mv} (h : subm (ScM l d m) X) : ScAt (AW.of X nx ro 3) 5 3 4 (fun j => 6 + j) l d m :=
  ⟨⟨rfl, rd_zero2 (h 0 _ rfl), rd_zero2 (h 1 _ rfl), rd_self (h 2 _ rfl)⟩, ⟨rd_self (h 5 _ rfl), fun i a ha => by
    rw [← arP_at ha]
    exact rd_self (h _ _ (ScM_poly (List.getElem?_eq_some_iff.1 ha).1))⟩, rd_self (h 3 _ rfl), rd_self (h 4 _ rfl)⟩
theorem subm_refl {L : LM} : subm L L := fun _ _ h => h
/-- Which slices of a scene are not nil. -/
structure ScV (a b c : Bool) (l : List Ar) (d : List Ld) (m : List Mv) (ca cb cc : Nat) : Prop where
  a : a = false → l = [] ∧ ca = 0
  b : b = false → d = [] ∧ cb = 0
  c : c = false → m = [] ∧ cc = 0
theorem w_scene66 {A : AW} {p q r ca cb cc : Nat} {ν : Nat → Nat} {x y z : Bool} (l : List Ar) (d : List Ld) (m : List Mv) (hV : ScV x y z l d m ca cb cc) (hO : ScOk l d m) (h : ScAt A p q r ν l d m) :
    AC Tryd.prog 66 [.slice (slA x p) l.length ca, .slice (slA y q) d.length cb, .slice (slA z r) m.length cc] A (isR (.int .i64 0) A) := by
  refine AC.isX (h.small (k := 30) (by have := hO.al; omega)) (args := [.slice (slA x 5) l.length ca, .slice (slA y 3) d.length cb, .slice (slA z 4) m.length cc]) ?_ ⟨8, rfl⟩ (.slV ScRho5 (.slV ScRho3 (.slV ScRho4 .nil)))
  have hs := ScAt.low (X := ScM l d m) (nx := 30) (ro := 30) subm_refl
  refine AC.go Tryd.func66 rfl rfl ?_
  clear h
  repeat' (first
  | refine GL.sf rfl rfl rfl rfl ?_
  | refine GL.done ?_
  | refine GP.thenN ?_
  | refine GT.seq ?_
  | refine GT.region ?_
  | refine GL.v rfl rfl rfl (by first | exact GO.call rfl rfl Tryd.func109 rfl rfl rfl (w_areas109V l hV.a hO.ar hO.al hs.ar) | exact GO.call rfl rfl Tryd.func110 rfl rfl rfl (w_check110V d hV.b hO.ld hO.dl hs.ld) | exact GO.call rfl rfl Tryd.func111 rfl rfl rfl (w_check111V m hV.c hO.mv hO.ml hs.mv) | exact GO.call rfl rfl Tryd.func98 rfl rfl rfl (w_first98 [0, 0, 0] rfl rfl rfl)) ?_
  | refine GT.ret ?_
  | refine GP.endR1 rfl ?_)
  rfl
end Go.M
