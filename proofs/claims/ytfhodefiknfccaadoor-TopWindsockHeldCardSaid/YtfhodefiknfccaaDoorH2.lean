/- Functions of the given program, walked (no condition beyond what each theorem says). -/
import Derived.Test.YtfhodefiknfccaaDoorH1
set_option linter.unusedVariables false
set_option linter.unusedSimpArgs false
namespace Go.M
open Go.Proofs Go.RowKit
set_option maxRecDepth 8000
set_option maxHeartbeats 4000000
open Classical in
noncomputable def nameB (s : ByteArray) : Bool := decide (NameOk s)
open Classical in
theorem nameB_ok {s : ByteArray} (h : NameOk s) : nameB s = true := by unfold nameB; exact decide_eq_true h
open Classical in
theorem nameB_no {s : ByteArray} (h : ¬ NameOk s) : nameB s = false := by unfold nameB; exact decide_eq_false h
open Classical in
theorem nameB_of {s : ByteArray} (h : nameB s = true) : NameOk s := by unfold nameB at h; exact of_decide_eq_true h
theorem w_isname93 {A : AW} (s : ByteArray) : AC Tryd.prog 93 [.string s] A (isR (.bool (nameB s)) A) := by
  refine AC.is0 ?_ ⟨8, rfl⟩ (.flat (k := 8) rfl .nil)
  refine AC.go Tryd.func93 rfl rfl ?_
  have hsz : s.data.toList.length = s.size := by rw [Array.length_toList]; rfl
  have out : ∀ (hlt : ¬(0 < s.size ∧ s.size ≤ 24)), nameB s = false := fun hlt => nameB_no fun h => hlt ⟨h.1, h.2.1⟩
  repeat' (first
  | (rw [out (by omega)]; done)
  | refine GL.sf rfl rfl rfl rfl ?_
  | refine GL.done ?_
  | refine GP.thenN ?_
  | refine GT.seq ?_
  | refine GT.region ?_
  | refine GL.unguardG rfl rfl rfl ?_
  | refine GL.skipG rfl rfl rfl rfl rfl ?_
  | refine GT.skip ?_
  | refine GT.block ?_
  | refine GT.ret ?_
  | refine GP.thenR ?_
  | refine GT.condT rfl ?_
  | (refine GT.condD rfl (fun h => ?_) (fun h => ?_) <;> try (exfalso; omega))
  | (refine GL.forkDG rfl rfl rfl (fun h => ?_) (fun h => ?_) <;> try (exfalso; omega))
  | refine GP.endR1 rfl ?_)
  refine GT.loop (fun k a L nx => ∃ i : Nat, i ≤ s.size ∧ k = s.size - i ∧ (∀ j b, j < i → s.data.toList[j]? = some b → okB j b) ∧ asub [(0, .string s), (3, .int .i64 i)] a ∧ L = [] ∧ nx = 0) s.size
    ⟨0, by omega, by omega, by simp, asub_cons rfl (asub_cons rfl asub_nil), rfl, rfl⟩ ?_
  rintro k a L nx ⟨i, hi, rfl, hz, hs, rfl, rfl⟩
  refine GT.keep hs ?_
  clear hs
  rcases Nat.lt_or_ge i s.size with hlt | hge
  · obtain ⟨b, hb⟩ : ∃ b, s.data.toList[i]? = some b := ⟨_, List.getElem?_eq_getElem (by rw [hsz]; exact hlt)⟩
    have hb' : s.data.toList[(i : Int).toNat]? = some b := by simpa using hb
    have bad : ¬ okB i b → nameB s = false := fun h => nameB_no fun hn => h (hn.2.2 i b hb)
    repeat' (first
    | (rw [bad (by unfold okB; omega)]; done)
    | refine GL.sf rfl rfl rfl rfl ?_
    | refine GL.done ?_
    | refine GP.thenN ?_
    | refine GT.seq ?_
    | refine GT.region ?_
    | refine GL.unguardG rfl rfl rfl ?_
    | refine GL.skipG rfl rfl rfl rfl rfl ?_
    | refine GL.skipUG rfl rfl rfl rfl rfl ?_
    | refine GL.v rfl rfl rfl (by first | exact GO.indexStr rfl rfl rfl rfl (by omega) hb' | exact GO.add rfl rfl rfl (by omega)) ?_
    | refine GT.skip ?_
    | refine GT.block ?_
    | refine GT.ret ?_
    | refine GP.thenR ?_
    | refine GP.inN ?_
    | refine GP.inR ?_
    | refine GP.invR ?_
    | refine GT.condT rfl ?_
    | refine GT.condF rfl ?_
    | (refine GT.condD rfl (fun h => ?_) (fun h => ?_) <;> try (exfalso; omega))
    | (refine GT.condN rfl (fun h => ?_) (fun h => ?_) <;> try (exfalso; omega))
    | (refine GL.forkDG rfl rfl rfl (fun h => ?_) (fun h => ?_) <;> try (exfalso; omega))
    | (refine GL.forkNG rfl rfl rfl (fun h => ?_) (fun h => ?_) <;> try (exfalso; omega))
    | refine GP.endR1 rfl ?_)
    all_goals exact GP.invN (s.size - (i + 1)) (by omega) ⟨i + 1, by omega, rfl, okStep hb hz (by unfold okB; omega), asub_cons rfl (asub_cons rfl asub_nil), rfl, rfl⟩
  ·
    repeat' (first
    | refine GL.sf rfl rfl rfl rfl ?_
    | refine GL.done ?_
    | refine GP.thenN ?_
    | refine GT.seq ?_
    | refine GT.region ?_
    | refine GT.ret ?_
    | refine GT.exit ?_
    | refine GP.thenE ?_
    | refine GP.hit ?_
    | refine GP.invE ?_
    | (refine GT.condD rfl (fun h => ?_) (fun h => ?_) <;> try (exfalso; omega))
    | refine GP.endR1 rfl ?_)
    rw [nameB_ok ⟨by omega, by omega, fun j c hc => hz j c (by have := (List.getElem?_eq_some_iff.1 hc).1; omega) hc⟩]
theorem w_name54 {A : AW} (s : ByteArray) : AC Tryd.prog 54 [.string s] A (isR (.int .i64 (whenI (!nameB s) 8)) A) := by
  refine AC.is0 ?_ ⟨8, rfl⟩ (.flat (k := 8) rfl .nil)
  refine AC.go Tryd.func54 rfl rfl ?_
  repeat' (first
  | refine GL.sf rfl rfl rfl rfl ?_
  | refine GL.done ?_
  | refine GP.thenN ?_
  | refine GT.seq ?_
  | refine GT.region ?_
  | refine GL.v rfl rfl rfl (by first | exact GO.call rfl rfl Tryd.func93 rfl rfl rfl (w_isname93 _) | exact GO.call rfl rfl Tryd.func55 rfl rfl rfl (d_when55 _ _)) ?_
  | refine GT.ret ?_
  | refine GP.endR1 rfl ?_)
  rfl
theorem name_of {s : ByteArray} (h : whenI (!nameB s) 8 = 0) : NameOk s := by
  have k := of_whenI h (by decide)
  exact nameB_of (by simpa using k)
noncomputable def moveNs (m : Mv) : List Int := [whenI (!nameB m.s) 8, whenI (withinB m.sz 0 3) 3, boxE m.lx m.ly m.hx m.hy, whenI (ticksB m.a m.b) 14]
theorem w_move61 {A : AW} (m : Mv) : AC Tryd.prog 61 [.agg m.vs.toArray] A (isR (.int .i64 (firstNZ (moveNs m))) A) := by
  refine AC.is0 ?_ ⟨8, rfl⟩ (.flat (k := 32) rfl .nil)
  refine AC.go Tryd.func61 rfl rfl ?_
  repeat' (first
  | refine GT.draws (id := 1) [[], [0], [0, 1], [], [3], [0, 1, 2, 3, 4], [], [6], [0, 1, 2, 3, 4, 5, 6, 7], [], [9], [0, 1, 2, 3, 4, 5, 6, 7, 8, 9, 10], [0, 1, 2, 3, 4, 5, 6, 7, 8, 9, 10, 11], [0, 1, 2, 3, 4, 5, 6, 7, 8, 9, 10, 11, 12], [0, 1, 2, 3, 4, 5, 6, 7, 8, 9, 10, 11, 12, 13]] [12] (by kernel_rfl) ?_
  | refine GL.sf rfl rfl rfl rfl ?_
  | refine GL.done ?_
  | refine GP.thenN ?_
  | refine GT.seq ?_
  | refine GT.region ?_
  | refine GD.li rfl rfl (by exact onAt.none rfl) rfl (by repeat first | exact AllG.nil rfl | refine AllG.cons rfl (by first | exact GO.sf rfl rfl | exact GO.call rfl rfl Tryd.func54 rfl rfl rfl (w_name54 _) | exact GO.call rfl rfl Tryd.func56 rfl rfl rfl (w_size56 _) | exact GO.call rfl rfl Tryd.func97 rfl rfl rfl (w_box97 _ _ _ _) | exact GO.call rfl rfl Tryd.func60 rfl rfl rfl (w_ticks60 _ _) | exact GO.call rfl rfl Tryd.func53 rfl rfl rfl (d_first53 (moveNs m) rfl rfl rfl)) ?_) ?_
  | refine GD.he rfl rfl rfl (by exact onAt.none rfl) rfl (by exact GO.sf rfl rfl) ?_ ?_
  | refine GD.done rfl rfl rfl ?_
  | exact AllJs.nil rfl
  | refine GT.ret ?_
  | refine GP.endR1 rfl ?_)
  rfl
theorem move_ok {m : Mv} (h : firstNZ (moveNs m) = 0) : m.Ok := by
  have k := of_firstNZ h
  simp only [moveNs, List.mem_cons, List.not_mem_nil, or_false, forall_eq_or_imp, forall_eq] at k
  exact ⟨name_of k.1, of_withinB (of_whenI k.2.1 (by decide)), box_ok k.2.2.1, span_ok k.2.2.2⟩
theorem strC_flat : ∀ ss : List ByteArray, ∃ j, noAddrs j (ss.map Value.string) = true
  | [] => ⟨1, rfl⟩
  | s :: ss => by
    obtain ⟨j, h⟩ := strC_flat ss
    exact ⟨j + 1, by simpa [noAddrs] using h⟩
def hasS (ss : List ByteArray) (s : ByteArray) : Bool := ss.any fun x => x.data.toList == s.data.toList
theorem w_word26 {A : AW} {b c : Nat} (ss : List ByteArray) (s : ByteArray) (hl : ss.length ≤ 1000) (h : A.rd b 0 (ss.map Value.string).length = some (ss.map Value.string)) : AC Tryd.prog 26 [.slice (some ⟨b, 0, none⟩) ss.length c, .string s] A (isR (.bool (hasS ss s)) A) := by
  obtain ⟨fj, hf⟩ := strC_flat ss
  refine AC.isX (SmallX.nil.cons (k := 0) (b := b) (f := 0) (o := .cells (ss.map Value.string) 9) (.flat h hf)) (args := [.slice (some ⟨0, 0, none⟩) ss.length c, .string s]) ?_ ⟨8, rfl⟩ (.sl rfl rfl (.flat (k := 8) rfl .nil))
  refine AC.go Tryd.func26 rfl rfl ?_
  clear h
  repeat' (first
  | refine GL.sf rfl rfl rfl rfl ?_
  | refine GL.done ?_
  | refine GP.thenN ?_
  | refine GT.seq ?_
  | refine GT.region ?_
  | refine GT.block ?_)
  refine GT.loop (fun k a L nx => ∃ i : Nat, i ≤ ss.length ∧ k = ss.length - i ∧ (∀ x ∈ ss.take i, (x.data.toList == s.data.toList) = false) ∧ asub [(0, .slice (some ⟨0, 0, none⟩) ss.length c), (1, .string s), (5, .int .i64 i)] a ∧ L = [(0, .cells (ss.map Value.string) 9)] ∧ nx = 1) ss.length
    ⟨0, by omega, by omega, by simp, asub_cons rfl (asub_cons rfl (asub_cons rfl asub_nil)), rfl, rfl⟩ ?_
  rintro k a L nx ⟨i, hi, rfl, hz, hs, rfl, rfl⟩
  refine GT.keep hs ?_
  clear hs
  rcases Nat.lt_or_ge i ss.length with hlt | hge
  · obtain ⟨x, hx⟩ : ∃ x, ss[i]? = some x := ⟨_, List.getElem?_eq_getElem hlt⟩
    have hx' : (ss.map Value.string)[0 + (i : Int).toNat * 1]? = some (.string x) := by simp [hx]
    repeat' (first
    | refine GL.sf rfl rfl rfl rfl ?_
    | refine GL.sv rfl rfl rfl rfl ?_
    | refine GL.done ?_
    | refine GP.thenN ?_
    | refine GT.seq ?_
    | refine GT.region ?_
    | refine GL.v rfl rfl rfl (by first | exact GO.indexS rfl rfl rfl rfl rfl (by omega) | exact GO.loadC rfl rfl rfl rfl rfl hx' | exact GO.add rfl rfl rfl (by omega)) ?_
    | refine GT.skip ?_
    | refine GT.block ?_
    | refine GT.ret ?_
    | refine GP.thenR ?_
    | refine GP.inN ?_
    | refine GP.inR ?_
    | refine GP.invR ?_
    | (refine GT.condD rfl (fun h => ?_) (fun h => ?_) <;> try (exfalso; omega))
    | (refine GT.condB rfl (fun h => ?_) (fun h => ?_))
    | refine GP.endR1 rfl ?_)
    · have : hasS ss s = true := List.any_eq_true.2 ⟨x, List.mem_of_getElem? hx, h⟩
      rw [this]
    · exact GP.invN (ss.length - (i + 1)) (by omega) ⟨i + 1, by omega, rfl, fun y hy => by
        rw [List.take_add_one, List.mem_append, hx] at hy
        rcases hy with hy | hy
        · exact hz y hy
        · simp at hy; subst hy; exact h, asub_cons rfl (asub_cons rfl (asub_cons rfl asub_nil)), rfl, rfl⟩
  ·
    repeat' (first
    | refine GL.sf rfl rfl rfl rfl ?_
    | refine GL.sv rfl rfl rfl rfl ?_
    | refine GL.done ?_
    | refine GP.thenN ?_
    | refine GT.seq ?_
    | refine GT.region ?_
    | refine GT.ret ?_
    | refine GT.exit ?_
    | refine GP.thenE ?_
    | refine GP.hit ?_
    | refine GP.invE ?_
    | (refine GT.condD rfl (fun h => ?_) (fun h => ?_) <;> try (exfalso; omega))
    | refine GP.endR1 rfl ?_)
    have : hasS ss s = false := by
      unfold hasS
      rw [List.any_eq_false]
      intro x hx
      rw [List.take_of_length_le hge] at hz
      rw [hz x hx]; decide
    rw [this]
theorem w_word26n {A : AW} (s : ByteArray) : AC Tryd.prog 26 [.slice none 0 0, .string s] A (isR (.bool false) A) := by
  refine AC.is0 ?_ ⟨8, rfl⟩ (.flat (k := 8) rfl (.flat (k := 8) rfl .nil))
  refine AC.go Tryd.func26 rfl rfl ?_
  repeat' (first
  | refine GT.unroll 1 ?_
  | refine GL.sf rfl rfl rfl rfl ?_
  | refine GL.done ?_
  | refine GP.thenN ?_
  | refine GT.seq ?_
  | refine GT.region ?_
  | refine GT.block ?_
  | refine GT.ret ?_
  | refine GT.exit ?_
  | refine GP.thenE ?_
  | refine GP.hit ?_
  | refine GP.againE ?_
  | refine GU.step ?_
  | refine GT.condF rfl ?_
  | refine GP.endR1 rfl ?_)
  rfl
end Go.M
namespace Go.M
open Go.Proofs Go.RowKit
set_option maxRecDepth 8000
set_option maxHeartbeats 8000000
abbrev Pts := List (Int × Int)
def ptC (ps : Pts) : List Value := ps.flatMap fun p => [.int .i64 p.1, .int .i64 p.2]
theorem ptC_cons (p : Int × Int) (ps : Pts) : ptC (p :: ps) = .int .i64 p.1 :: .int .i64 p.2 :: ptC ps := by simp [ptC]
theorem ptC_len : ∀ ps : Pts, (ptC ps).length = ps.length * 2
  | [] => rfl
  | p :: ps => by rw [ptC_cons]; simp [ptC_len ps]; omega
theorem ptC_flat : ∀ ps : Pts, ∃ j, noAddrs j (ptC ps) = true
  | [] => ⟨1, rfl⟩
  | p :: ps => by
    obtain ⟨j, h⟩ := ptC_flat ps
    rw [ptC_cons]
    exact ⟨j + 2, by simpa [noAddrs] using h⟩
theorem ptC_two : ∀ (ps : Pts) (i : Nat) (x : Int × Int), ps[i]? = some x → ((ptC ps).drop (i * 2)).take 2 = [.int .i64 x.1, .int .i64 x.2]
  | [], i, x, h => by simp at h
  | y :: ps, 0, x, h => by
    simp at h; subst h
    rw [ptC_cons]; rfl
  | y :: ps, i + 1, x, h => by
    have := ptC_two ps i x (by simpa using h)
    rw [ptC_cons, show (i + 1) * 2 = i * 2 + 1 + 1 by omega]
    simpa using this
def pt (ps : Pts) (i : Nat) : Int × Int := ps.getD i (0, 0)
theorem pt_at {ps : Pts} {i : Nat} (h : i < ps.length) : ps[i]? = some (pt ps i) := by
  unfold pt
  rw [List.getD_eq_getElem?_getD, List.getElem?_eq_getElem h]; rfl
theorem pt_two {ps : Pts} {i : Nat} (h : i < ps.length) : ((ptC ps).drop (i * 2)).take 2 = [.int .i64 (pt ps i).1, .int .i64 (pt ps i).2] := ptC_two ps i _ (pt_at h)
/-- The cross product of a side and a corner. -/
def crS (ps : Pts) (i : Nat) (p : Int × Int) : Int := crossI (pt ps i).1 (pt ps i).2 (pt ps ((i + 1) % ps.length)).1 (pt ps ((i + 1) % ps.length)).2 p.1 p.2
structure PolyOk (ps : Pts) : Prop where
  len : 3 ≤ ps.length ∧ ps.length ≤ 8
  in6 : ∀ i, i < ps.length → In6 (pt ps i).1 ∧ In6 (pt ps i).2
  turn : ∀ i, i < ps.length → 0 < crS ps i (pt ps ((i + 2) % ps.length))
  left : ∀ i k, i < ps.length → k < ps.length → 0 ≤ crS ps i (pt ps k)
  ne : ∀ i k, k < i → i < ps.length → ¬ (pt ps k = pt ps i)
theorem modI {i n : Nat} {e : Int} (hn : 0 < n) (he : e = (i : Int)) : e % (n : Int) = ((i % n : Nat) : Int) := by subst he; rfl
theorem mod_lt {i n : Nat} (hn : 0 < n) : i % n < n := Nat.mod_lt i hn
theorem w_next96 {A : AW} {b c : Nat} (ps : Pts) (i : Nat) (h0 : 0 < ps.length ∧ ps.length ≤ 100) (hi : i ≤ 1000) (hb : A.rd b 0 (ptC ps).length = some (ptC ps)) :
    AC Tryd.prog 96 [.slice (some ⟨b, 0, none⟩) ps.length c, .int .i64 (i : Int)] A (isR (.agg #[.int .i64 (pt ps ((i + 1) % ps.length)).1, .int .i64 (pt ps ((i + 1) % ps.length)).2]) A) := by
  obtain ⟨fj, hf⟩ := ptC_flat ps
  refine AC.isX (SmallX.nil.cons (k := 0) (b := b) (f := 0) (o := .cells (ptC ps) 97) (.flat hb hf)) (args := [.slice (some ⟨0, 0, none⟩) ps.length c, .int .i64 (i : Int)]) ?_ ⟨8, rfl⟩ (.sl rfl rfl (.flat (k := 8) rfl .nil))
  refine AC.go Tryd.func96 rfl rfl ?_
  clear hb
  have hlen := ptC_len ps
  have hm := mod_lt (i := i + 1) h0.1
  have e1 : ((i : Int) + 1) % (ps.length : Int) = (((i + 1) % ps.length : Nat) : Int) := modI h0.1 (by omega)
  have g := pt_two hm
  generalize hj : (i + 1) % ps.length = j at *
  have g2 : ((ptC ps).drop (0 + (j : Int).toNat * 2)).take 2 = [.int .i64 (pt ps j).1, .int .i64 (pt ps j).2] := by simpa using g
  repeat' (first
  | refine GL.v rfl rfl rfl (GO.remE rfl rfl rfl (by omega) (by omega) e1) ?_
  | refine GL.sf rfl rfl rfl rfl ?_
  | refine GL.sv rfl rfl rfl rfl ?_
  | refine GL.sn rfl rfl rfl ?_
  | refine GL.done ?_
  | refine GP.thenN ?_
  | refine GT.seq ?_
  | refine GT.region ?_
  | refine GL.v rfl rfl rfl (by first | exact GO.indexS (s := 2) rfl rfl rfl rfl rfl (by omega) | exact GO.loadG (s := 2) rfl rfl rfl rfl rfl rfl (by omega) g2 | exact GO.add rfl rfl rfl (by omega)) ?_
  | refine GT.ret ?_
  | refine GP.endR1 rfl ?_)
  rfl
end Go.M
namespace Go.M
open Go.Proofs Go.RowKit
set_option maxRecDepth 8000
set_option maxHeartbeats 8000000
theorem w_ap97 {cs : List Value} {f : Nat} : apart Tryd.prog 3 cs f = cs[f]? := by simp [apart, Tryd.underlying3, isAggT]
theorem w_aeq97 (a b c d : Int) : aeq Tryd.prog 20 97 (.agg #[.int .i64 a, .int .i64 b]) (.agg #[.int .i64 c, .int .i64 d]) = some (decide (a = c ∧ b = d)) := by
  simp [aeq, aeqF, Tryd.underlying97, w_ap97, Tryd.underlying3, Bool.decide_and]
  rfl
def ptE (p : Int × Int) : Int := firstNZ (rpointNs p.1 p.2)
theorem ptE_ok {p : Int × Int} (h : ptE p = 0) : In6 p.1 ∧ In6 p.2 := point_ok h
open Classical in
noncomputable def polyB (ps : Pts) : Bool := decide (PolyOk ps)
open Classical in
theorem polyB_ok {ps : Pts} (h : PolyOk ps) : polyB ps = true := by unfold polyB; exact decide_eq_true h
open Classical in
theorem polyB_no {ps : Pts} (h : ¬ PolyOk ps) : polyB ps = false := by unfold polyB; exact decide_eq_false h
open Classical in
theorem polyB_of {ps : Pts} (h : polyB ps = true) : PolyOk ps := by unfold polyB at h; exact of_decide_eq_true h
def lenNs (n : Nat) : List Int := [whenI (decide ((n : Int) < 3)) 16, whenI (decide (8 < (n : Int))) 5]
noncomputable def polyE (ps : Pts) : Int := if firstNZ (lenNs ps.length) ≠ 0 then firstNZ (lenNs ps.length) else if firstNZ (ps.map ptE) ≠ 0 then firstNZ (ps.map ptE) else whenI (!polyB ps) 1
theorem poly_ok {ps : Pts} (h : polyE ps = 0) : PolyOk ps := by
  unfold polyE at h
  split at h
  · exact absurd h (by assumption)
  split at h
  · exact absurd h (by assumption)
  · have k := of_whenI h (by decide)
    exact polyB_of (by simpa using k)
theorem len_ok {n : Nat} (h : firstNZ (lenNs n) = 0) : 3 ≤ n ∧ n ≤ 8 := by
  have k := of_firstNZ h
  simp only [lenNs, List.mem_cons, List.not_mem_nil, or_false, forall_eq_or_imp, forall_eq] at k
  have h1 := of_whenI k.1 (by decide)
  have h2 := of_whenI k.2 (by decide)
  simp at h1 h2
  omega
theorem w_poly58s (ps : Pts) (c : Nat) (hl : ps.length ≤ 1000000) : AC Tryd.prog 58 [.slice (some ⟨0, 0, none⟩) ps.length c] (AW.of [(0, .cells (ptC ps) 97)] 1 1 0) (fun v _ => v = .int .i64 (polyE ps)) := by
  obtain ⟨fj, hf⟩ := ptC_flat ps
  have hlen := ptC_len ps
  refine AC.go Tryd.func58 rfl rfl ?_
  repeat' (first
  | refine GL.sf rfl rfl rfl rfl ?_
  | refine GL.sv rfl rfl rfl rfl ?_
  | refine GL.done ?_
  | refine GP.thenN ?_
  | refine GT.seq ?_
  | refine GT.region ?_
  | refine GL.v rfl rfl rfl (by first | exact GO.call rfl rfl Tryd.func55 rfl rfl rfl (d_when55 _ _) | exact GO.call rfl rfl Tryd.func53 rfl rfl rfl (d_first53 (lenNs ps.length) rfl rfl rfl)) ?_
  | refine GT.skip ?_
  | refine GT.block ?_
  | refine GT.ret ?_
  | refine GP.thenR ?_
  | (refine GT.condN rfl (fun h => ?_) (fun h => ?_) <;> try (exfalso; omega))
  | refine GP.endR1 rfl ?_)
  · show Value.int .i64 (firstNZ (lenNs ps.length)) = _
    unfold polyE
    rw [if_pos h]
  have hn := len_ok h
  have hp0 : polyE ps = if firstNZ (ps.map ptE) ≠ 0 then firstNZ (ps.map ptE) else whenI (!polyB ps) 1 := by unfold polyE; rw [if_neg (fun q => q h)]
  clear h
  refine GT.loop (fun q a L nx => ∃ i : Nat, i ≤ ps.length ∧ q = ps.length - i ∧ (∀ j, j < i → ptE (pt ps j) = 0) ∧ 1 ≤ nx ∧ asub [(0, .slice (some ⟨0, 0, none⟩) ps.length c), (4, .int .i64 i)] a ∧ subm [(0, .cells (ptC ps) 97)] L) ps.length
    ⟨0, by omega, by omega, fun j h => by omega, by decide, asub_cons rfl (asub_cons rfl asub_nil), subm_cons rfl subm_nil⟩ ?_
  rintro q a L nx ⟨i, hi, rfl, hz, hnx, hs, hsub⟩
  refine GT.resetL 1 hs hsub hnx rfl rfl (Under.look (.cons rfl (Lt.flat hf) .nil)) (.cons (.sl rfl) (.cons (.flat (j := 8) rfl) .nil)) (fun g hg => absurd hg (Nat.not_lt_zero g)) ?_
  clear hs hsub hnx
  rcases Nat.lt_or_ge i ps.length with hlt | hge
  · have g2 : ((ptC ps).drop (0 + (i : Int).toNat * 2)).take 2 = [.int .i64 (pt ps i).1, .int .i64 (pt ps i).2] := by simpa using pt_two hlt
    repeat' (first
    | refine GL.sf rfl rfl rfl rfl ?_
    | refine GL.sv rfl rfl rfl rfl ?_
    | refine GL.done ?_
    | refine GP.thenN ?_
    | refine GT.seq ?_
    | refine GT.region ?_
    | refine GL.v rfl rfl rfl (by first | exact GO.indexS (s := 2) rfl rfl rfl rfl rfl (by omega) | exact GO.loadG (s := 2) rfl rfl rfl rfl rfl rfl (by omega) g2 | exact GO.call rfl rfl Tryd.func94 rfl rfl rfl (w_point94 _ _) | exact GO.add rfl rfl rfl (by omega)) ?_
    | refine GT.skip ?_
    | refine GT.block ?_
    | refine GT.ret ?_
    | refine GP.thenR ?_
    | refine GP.inN ?_
    | refine GP.inR ?_
    | refine GP.invR ?_
    | (refine GT.condD rfl (fun h => ?_) (fun h => ?_) <;> try (exfalso; omega))
    | (refine GT.condN rfl (fun h => ?_) (fun h => ?_) <;> try (exfalso; omega))
    | refine GP.endR1 rfl ?_)
    · have hfz : firstNZ (ps.map ptE) = ptE (pt ps i) := firstNZ_take (i := i) (by rw [List.getElem?_map, pt_at hlt]; rfl) (fun y hy => by
        obtain ⟨j, hj⟩ := List.getElem?_of_mem hy
        rw [List.getElem?_take] at hj
        split at hj
        · rename_i q
          rw [List.getElem?_map, pt_at (by omega)] at hj
          simp at hj
          rw [← hj]; exact hz j q
        · cases hj) h
      have h : ptE (pt ps i) ≠ 0 := h
      show Value.int .i64 (ptE (pt ps i)) = _
      rw [hp0, hfz, if_pos h]
    · exact GP.invN (ps.length - (i + 1)) (by omega) ⟨i + 1, by omega, rfl, fun j hj => by
        rcases Nat.lt_or_ge j i with q | q
        · exact hz j q
        · obtain rfl : j = i := by omega
          exact h, Nat.le_of_ble_eq_true rfl, asub_cons rfl (asub_cons rfl asub_nil), subm_cons rfl subm_nil⟩
  · obtain rfl : i = ps.length := by omega
    clear hge hi
    have h6 : ∀ i, i < ps.length → In6 (pt ps i).1 ∧ In6 (pt ps i).2 := fun i hi => ptE_ok (hz i hi)
    have hp1 : polyE ps = whenI (!polyB ps) 1 := by
      have hz0 : firstNZ (ps.map ptE) = 0 := firstNZ_all fun y hy => by
        obtain ⟨p, hp, rfl⟩ := List.mem_map.1 hy
        obtain ⟨j, hj⟩ := List.getElem?_of_mem hp
        have hjl := (List.getElem?_eq_some_iff.1 hj).1
        rw [pt_at hjl] at hj
        cases hj
        exact hz j hjl
      rw [hp0, if_neg (fun q => q hz0)]
    have bad : ¬ PolyOk ps → polyE ps = 1 := fun q => by rw [hp1, polyB_no q]; rfl
    clear hp0 hz
    repeat' (first
    | refine GL.sf rfl rfl rfl rfl ?_
    | refine GL.sv rfl rfl rfl rfl ?_
    | refine GL.done ?_
    | refine GP.thenN ?_
    | refine GT.seq ?_
    | refine GT.region ?_
    | refine GT.block ?_
    | refine GT.exit ?_
    | refine GP.thenE ?_
    | refine GP.hit ?_
    | refine GP.invE ?_
    | (refine GT.condD rfl (fun h => ?_) (fun h => ?_) <;> try (exfalso; omega)))
    refine GT.loop (fun q a L nx => ∃ i : Nat, i ≤ ps.length ∧ q = ps.length - i ∧ (∀ j, j < i → 0 < crS ps j (pt ps ((j + 2) % ps.length)) ∧ (∀ k, k < ps.length → 0 ≤ crS ps j (pt ps k)) ∧ ∀ k, k < j → ¬ pt ps k = pt ps j) ∧ 1 ≤ nx ∧ asub [(0, .slice (some ⟨0, 0, none⟩) ps.length c), (6, .int .i64 i)] a ∧ subm [(0, .cells (ptC ps) 97)] L) ps.length
      ⟨0, by omega, by omega, fun j h => by omega, Nat.le_of_ble_eq_true rfl, asub_cons rfl (asub_cons rfl asub_nil), subm_cons rfl subm_nil⟩ ?_
    rintro q a L nx ⟨i, hi, rfl, hz, hnx, hs, hsub⟩
    refine GT.resetL 1 hs hsub hnx rfl rfl (Under.look (.cons rfl (Lt.flat hf) .nil)) (.cons (.sl rfl) (.cons (.flat (j := 8) rfl) .nil)) (fun g hg => absurd hg (Nat.not_lt_zero g)) ?_
    clear hs hsub hnx
    rcases Nat.lt_or_ge i ps.length with hlt | hge
    · have g2 : ((ptC ps).drop (0 + (i : Int).toNat * 2)).take 2 = [.int .i64 (pt ps i).1, .int .i64 (pt ps i).2] := by simpa using pt_two hlt
      have m1 := mod_lt (i := i + 1) (show 0 < ps.length by omega)
      have m2 := mod_lt (i := i + 1 + 1) (show 0 < ps.length by omega)
      have n1 := fun {A : AW} {b c : Nat} hb => w_next96 (A := A) (b := b) (c := c) ps i ⟨by omega, by omega⟩ (by omega) hb
      have n2 := fun {A : AW} {b c : Nat} hb => w_next96 (A := A) (b := b) (c := c) ps (i + 1) ⟨by omega, by omega⟩ (by omega) hb
      have c1 := fun {A : AW} => w_cross95 (A := A) (pt ps i).1 (pt ps i).2 (pt ps ((i + 1) % ps.length)).1 (pt ps ((i + 1) % ps.length)).2 (pt ps ((i + 1 + 1) % ps.length)).1 (pt ps ((i + 1 + 1) % ps.length)).2 (h6 i hlt).1 (h6 i hlt).2 (h6 _ m1).1 (h6 _ m1).2 (h6 _ m2).1 (h6 _ m2).2
      repeat' (first
      | refine GT.draws (id := 13) [[], [], [0, 1], [0, 1, 2], [], [], [4, 5], [], [], [8], [4, 5, 6, 7, 8, 9], [0, 1, 2, 3, 4, 5, 6, 7, 8, 9, 10], [0, 1, 2, 3, 4, 5, 6, 7, 8, 9, 10, 11]] [] (by kernel_rfl) ?_
      | refine GL.sf rfl rfl rfl rfl ?_
      | refine GL.sv rfl rfl rfl rfl ?_
      | refine GL.done ?_
      | refine GP.thenN ?_
      | refine GT.seq ?_
      | refine GT.region ?_
      | refine GD.li rfl rfl (by exact onAt.none rfl) rfl (by repeat first | exact AllG.nil rfl | refine AllG.cons rfl (by first | exact GO.sf rfl rfl | exact GO.indexS (s := 2) rfl rfl rfl rfl rfl (by omega) | exact GO.loadG (s := 2) rfl rfl rfl rfl rfl rfl (by omega) g2 | exact GO.call rfl rfl Tryd.func96 rfl rfl rfl (n1 (rd_self rfl)) | exact GO.call rfl rfl Tryd.func96 rfl rfl rfl (n2 (rd_self rfl)) | exact GO.call rfl rfl Tryd.func95 rfl rfl rfl (c1) | exact GO.add rfl rfl rfl (by omega)) ?_) ?_
      | refine GD.done rfl rfl rfl ?_
      | refine GT.skip ?_
      | refine GT.block ?_
      | refine GT.ret ?_
      | refine GP.thenR ?_
      | refine GP.inR ?_
      | refine GP.invR ?_
      | (refine GT.condD rfl (fun h => ?_) (fun h => ?_) <;> try (exfalso; omega))
      | refine GP.endR1 rfl ?_)
      · have : ¬ PolyOk ps := fun q => by
          have : 0 < crS ps i (pt ps ((i + 1 + 1) % ps.length)) := q.turn i hlt
          unfold crS at this
          omega
        rw [bad this]
      have ht : 0 < crS ps i (pt ps ((i + 1 + 1) % ps.length)) := by
        unfold crS
        omega
      refine GT.loop (fun q a L nx => ∃ k : Nat, k ≤ ps.length ∧ q = ps.length - k ∧ (∀ j, j < k → 0 ≤ crS ps i (pt ps j) ∧ (j < i → ¬ pt ps j = pt ps i)) ∧ 1 ≤ nx ∧ asub [(0, .slice (some ⟨0, 0, none⟩) ps.length c), (6, .int .i64 i), (7, .int .i64 k)] a ∧ subm [(0, .cells (ptC ps) 97)] L) ps.length
        ⟨0, by omega, by omega, fun j h => by omega, Nat.le_of_ble_eq_true rfl, asub_cons rfl (asub_cons rfl (asub_cons rfl asub_nil)), subm_cons rfl subm_nil⟩ ?_
      rintro q a L nx ⟨k, hk, rfl, hzk, hnx, hs, hsub⟩
      refine GT.resetL 1 hs hsub hnx rfl rfl (Under.look (.cons rfl (Lt.flat hf) .nil)) (.cons (.sl rfl) (.cons (.flat (j := 8) rfl) (.cons (.flat (j := 8) rfl) .nil))) (fun g hg => absurd hg (Nat.not_lt_zero g)) ?_
      clear hs hsub hnx
      rcases Nat.lt_or_ge k ps.length with hkl | hkg
      · have gk : ((ptC ps).drop (0 + (k : Int).toNat * 2)).take 2 = [.int .i64 (pt ps k).1, .int .i64 (pt ps k).2] := by simpa using pt_two hkl
        have ck := fun {A : AW} => w_cross95 (A := A) (pt ps i).1 (pt ps i).2 (pt ps ((i + 1) % ps.length)).1 (pt ps ((i + 1) % ps.length)).2 (pt ps k).1 (pt ps k).2 (h6 i hlt).1 (h6 i hlt).2 (h6 _ m1).1 (h6 _ m1).2 (h6 _ hkl).1 (h6 _ hkl).2
        repeat' (first
        | refine GT.draws (id := 18) [[], [], [0, 1], [0, 1, 2], [], [], [4, 5], [], [], [7, 8], [7, 8, 9], [0, 1, 2, 3, 4, 5, 6, 7, 8, 9, 10], [0, 1, 2, 3, 4, 5, 6, 7, 8, 9, 10, 11], [0, 1, 2, 3, 4, 5, 6, 7, 8, 9, 10, 11, 12], [0, 1, 2, 3, 4, 5, 6, 7, 8, 9, 10, 11, 12, 13], [0, 1, 2, 3, 4, 5, 6, 7, 8, 9, 10, 11, 12, 13], [0, 1, 2, 3, 4, 5, 6, 7, 8, 9, 10, 11, 12, 13, 14, 15], [0, 1, 2, 3, 4, 5, 6, 7, 8, 9, 10, 11, 12, 13, 14, 15, 16], [0, 1, 2, 3, 4, 5, 6, 7, 8, 9, 10, 11, 12, 13, 14, 15, 16, 17], [0, 1, 2, 3, 4, 5, 6, 7, 8, 9, 10, 11, 12, 13, 14, 15, 16, 17], [0, 1, 2, 3, 4, 5, 6, 7, 8, 9, 10, 11, 12, 13, 14, 15, 16, 17, 18, 19], [0, 1, 2, 3, 4, 5, 6, 7, 8, 9, 10, 11, 12, 13, 14, 15, 16, 17, 18, 19, 20], [0, 1, 2, 3, 4, 5, 6, 7, 8, 9, 10, 11, 12, 13, 14, 15, 16, 17], [0, 1, 2, 3, 4, 5, 6, 7, 8, 9, 10, 11, 12, 13, 14, 15, 16, 17], [0, 1, 2, 3, 4, 5, 6, 7, 8, 9, 10, 11, 12, 13, 14, 15, 16, 17, 22, 23], [0, 1, 2, 3, 4, 5, 6, 7, 8, 9, 10, 11, 12, 13, 14, 15, 16, 17, 22, 23, 24], [0, 1, 2, 3, 4, 5, 6, 7, 8, 9, 10, 11, 12, 13, 14, 15, 16, 17, 18, 19, 20, 21, 22, 23, 24, 25], [0, 1, 2, 3, 4, 5, 6, 7, 8, 9, 10, 11, 12, 13, 14, 15, 16, 17, 18, 19, 20, 21, 22, 23, 24, 25, 26], [0, 1, 2, 3, 4, 5, 6, 7, 8, 9, 10, 11, 12, 13, 14, 15, 16, 17, 18, 19, 20, 21, 22, 23, 24, 25, 26, 27]] [] (by kernel_rfl) ?_
        | refine GL.sf rfl rfl rfl rfl ?_
        | refine GL.sv rfl rfl rfl rfl ?_
        | refine GL.done ?_
        | refine GP.thenN ?_
        | refine GT.seq ?_
        | refine GT.region ?_
        | refine GD.li rfl rfl (by first | exact onAt.none rfl | exact onAt.yes rfl rfl rfl) rfl (by repeat first | exact AllG.nil rfl | refine AllG.cons rfl (by first | exact GO.sf rfl rfl | exact GO.indexS (s := 2) rfl rfl rfl rfl rfl (by omega) | exact GO.loadG (s := 2) rfl rfl rfl rfl rfl rfl (by omega) g2 | exact GO.loadG (s := 2) rfl rfl rfl rfl rfl rfl (by omega) gk | exact GO.call rfl rfl Tryd.func96 rfl rfl rfl (n1 (rd_self rfl)) | exact GO.call rfl rfl Tryd.func95 rfl rfl rfl (ck) | exact GO.eq rfl rfl rfl rfl rfl Tryd.eqGuardType97 (w_aeq97 _ _ _ _) rfl) ?_) ?_
        | refine GD.off rfl rfl rfl rfl rfl (by first | exact .inl rfl | exact .inr rfl) rfl ?_
        | refine GD.done rfl rfl rfl ?_
        | (refine GD.forkD rfl rfl rfl rfl (fun h => ?_) (fun h => ?_) <;> try (exfalso; omega))
        | refine GL.v rfl rfl rfl (by exact GO.add rfl rfl rfl (by omega)) ?_
        | refine GT.skip ?_
        | refine GT.block ?_
        | refine GT.ret ?_
        | refine GP.thenR ?_
        | refine GP.inN ?_
        | refine GP.inR ?_
        | refine GP.invR ?_
        | refine GT.condT rfl ?_
        | refine GT.condF rfl ?_
        | (refine GT.condD rfl (fun h => ?_) (fun h => ?_) <;> try (exfalso; omega))
        | refine GP.endR1 rfl ?_)
        all_goals first
          | (have hb : ¬ PolyOk ps := fun q => by
              have := q.left i k hlt hkl
              unfold crS at this
              omega
             rw [bad hb]; done)
          | (have hb : ¬ PolyOk ps := fun q => q.ne i k (by omega) hlt (Prod.ext h.1 h.2)
             rw [bad hb]; done)
          | exact GP.invN (ps.length - (k + 1)) (by omega) ⟨k + 1, by omega, rfl, fun j hj => by
              rcases Nat.lt_or_ge j k with q | q
              · exact hzk j q
              · obtain rfl : j = k := by omega
                exact ⟨by unfold crS; omega, fun hki e => by first | omega | exact h ⟨congrArg Prod.fst e, congrArg Prod.snd e⟩⟩, Nat.le_of_ble_eq_true rfl, asub_cons rfl (asub_cons rfl (asub_cons rfl asub_nil)), subm_cons rfl subm_nil⟩
      · obtain rfl : k = ps.length := by omega
        repeat' (first
        | refine GL.sf rfl rfl rfl rfl ?_
        | refine GL.sv rfl rfl rfl rfl ?_
        | refine GL.done ?_
        | refine GP.thenN ?_
        | refine GT.seq ?_
        | refine GT.region ?_
        | refine GL.v rfl rfl rfl (by exact GO.add rfl rfl rfl (by omega)) ?_
        | refine GT.exit ?_
        | refine GP.thenE ?_
        | refine GP.inN ?_
        | refine GP.hit ?_
        | refine GP.invE ?_
        | (refine GT.condD rfl (fun h => ?_) (fun h => ?_) <;> try (exfalso; omega)))
        exact GP.invN (ps.length - (i + 1)) (by omega) ⟨i + 1, by omega, rfl, fun j hj => by
          rcases Nat.lt_or_ge j i with q | q
          · exact hz j q
          · obtain rfl : j = i := by omega
            exact ⟨ht, fun k hk => (hzk k hk).1, fun k hk => (hzk k (by omega)).2 hk⟩, Nat.le_of_ble_eq_true rfl, asub_cons rfl (asub_cons rfl asub_nil), subm_cons rfl subm_nil⟩
    · obtain rfl : i = ps.length := by omega
      repeat' (first
      | refine GL.sf rfl rfl rfl rfl ?_
      | refine GL.sv rfl rfl rfl rfl ?_
      | refine GL.done ?_
      | refine GP.thenN ?_
      | refine GT.seq ?_
      | refine GT.region ?_
      | refine GT.ret ?_
      | refine GT.exit ?_
      | refine GP.thenE ?_
      | refine GP.hit ?_
      | refine GP.invE ?_
      | (refine GT.condD rfl (fun h => ?_) (fun h => ?_) <;> try (exfalso; omega))
      | refine GP.endR1 rfl ?_)
      have : PolyOk ps := ⟨hn, h6, fun i h => (hz i h).1, fun i k h hk => (hz i h).2.1 k hk, fun i k hk h => (hz i h).2.2 k hk⟩
      rw [hp1, polyB_ok this]; rfl
end Go.M
