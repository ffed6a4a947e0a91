/- Functions of the given program, walked (no condition beyond what each theorem says). -/
import Derived.Test.YtfhodefiknfccaaDoorJ9
import Derived.Test.YtfhodefiknfccaaDoorJ6
import Derived.Test.YtfhodefiknfccaaDoorH6
set_option linter.unusedVariables false
set_option linter.unusedSimpArgs false
namespace Go.M
open Go.Proofs Go.RowKit
set_option maxRecDepth 8000
set_option maxHeartbeats 8000000
theorem w_short18s (l : List Ld) (c : Nat) (hl : l.length ≤ 1000) : AC Tryd.prog 18 [.slice (some ⟨0, 0, none⟩) l.length c] (AW.of [(0, .cells (ldC l) 159)] 1 1 0) (fun v _ => (∃ x, v = .bool x) ∧ ∃ j, noAddrs j [v] = true) := by
  obtain ⟨fj, hflat⟩ := ldC_flat l
  have hlen := ldC_len l
  refine AC.go Tryd.func18 rfl rfl ?_
  repeat' (first
  | refine GL.sf rfl rfl rfl rfl ?_
  | refine GL.done ?_
  | refine GP.thenN ?_
  | refine GT.seq ?_
  | refine GT.region ?_
  | refine GT.block ?_)
  refine GT.loop (fun q a L nx => ∃ i : Nat, i ≤ l.length ∧ q = l.length - i ∧ asub [(0, .slice (some ⟨0, 0, none⟩) l.length c), (3, .int .i64 i)] a ∧ L = [(0, .cells (ldC l) 159)] ∧ nx = 1) l.length
    ⟨0, by omega, by omega, asub_cons rfl (asub_cons rfl asub_nil), rfl, rfl⟩ ?_
  rintro q a L nx ⟨i, hi, rfl, hs, rfl, rfl⟩
  refine GT.keep hs ?_
  clear hs
  rcases Nat.lt_or_ge i l.length with hlt | hge
  · obtain ⟨x, hx⟩ : ∃ x, l[i]? = some x := ⟨_, List.getElem?_eq_getElem hlt⟩
    have g0 : (ldC l)[0 + (i : Int).toNat * 4]? = some (.string x.s) := by
      have := congrArg (·[0]?) (ldC_at l i x hx)
      simpa [List.getElem?_take, List.getElem?_drop] using this
    repeat' (first
    | refine GL.sf rfl rfl rfl rfl ?_
    | refine GL.sv rfl rfl rfl rfl ?_
    | refine GL.done ?_
    | refine GP.thenN ?_
    | refine GT.seq ?_
    | refine GT.region ?_
    | refine GL.v rfl rfl rfl (by first | exact GO.indexS (s := 4) rfl rfl rfl rfl rfl (by omega) | exact GO.loadC rfl rfl rfl rfl rfl g0 | exact GO.add rfl rfl rfl (by omega)) ?_
    | refine GT.skip ?_
    | refine GT.block ?_
    | refine GT.ret ?_
    | refine GP.thenR ?_
    | refine GP.inN ?_
    | refine GP.inR ?_
    | refine GP.invR ?_
    | (refine GT.condD rfl (fun h => ?_) (fun h => ?_) <;> try (exfalso; omega))
    | refine GP.endR1 rfl ?_)
    all_goals first
      | exact ⟨⟨_, rfl⟩, 8, rfl⟩
      | exact GP.invN (l.length - (i + 1)) (by omega) ⟨i + 1, by omega, rfl, asub_cons rfl (asub_cons rfl asub_nil), rfl, rfl⟩
  ·
    repeat' (first
    | refine GL.sf rfl rfl rfl rfl ?_
    | refine GL.sv rfl rfl rfl rfl ?_
    | refine GL.done ?_
    | refine GP.thenN ?_
    | refine GT.seq ?_
    | refine GT.region ?_
    | refine GL.unguardG rfl rfl rfl ?_
    | refine GL.skipG rfl rfl rfl rfl rfl ?_
    | refine GT.ret ?_
    | refine GT.exit ?_
    | refine GP.thenE ?_
    | refine GP.hit ?_
    | refine GP.invE ?_
    | (refine GT.condD rfl (fun h => ?_) (fun h => ?_) <;> try (exfalso; omega))
    | (refine GL.forkDG rfl rfl rfl (fun h => ?_) (fun h => ?_) <;> try (exfalso; omega))
    | refine GP.endR1 rfl ?_)
    all_goals exact ⟨⟨_, rfl⟩, 8, rfl⟩
theorem w_short20s (l : List Mv) (c : Nat) (hl : l.length ≤ 1000) : AC Tryd.prog 20 [.slice (some ⟨0, 0, none⟩) l.length c] (AW.of [(0, .cells (mvC l) 112)] 1 1 0) (fun v _ => (∃ x, v = .bool x) ∧ ∃ j, noAddrs j [v] = true) := by
  obtain ⟨fj, hflat⟩ := mvC_flat l
  have hlen := mvC_len l
  refine AC.go Tryd.func20 rfl rfl ?_
  repeat' (first
  | refine GL.sf rfl rfl rfl rfl ?_
  | refine GL.done ?_
  | refine GP.thenN ?_
  | refine GT.seq ?_
  | refine GT.region ?_
  | refine GT.block ?_)
  refine GT.loop (fun q a L nx => ∃ i : Nat, i ≤ l.length ∧ q = l.length - i ∧ asub [(0, .slice (some ⟨0, 0, none⟩) l.length c), (3, .int .i64 i)] a ∧ L = [(0, .cells (mvC l) 112)] ∧ nx = 1) l.length
    ⟨0, by omega, by omega, asub_cons rfl (asub_cons rfl asub_nil), rfl, rfl⟩ ?_
  rintro q a L nx ⟨i, hi, rfl, hs, rfl, rfl⟩
  refine GT.keep hs ?_
  clear hs
  rcases Nat.lt_or_ge i l.length with hlt | hge
  · obtain ⟨x, hx⟩ : ∃ x, l[i]? = some x := ⟨_, List.getElem?_eq_getElem hlt⟩
    have g0 : (mvC l)[0 + (i : Int).toNat * 8]? = some (.string x.s) := by
      have := congrArg (·[0]?) (mvC_at l i x hx)
      simpa [List.getElem?_take, List.getElem?_drop] using this
    repeat' (first
    | refine GL.sf rfl rfl rfl rfl ?_
    | refine GL.sv rfl rfl rfl rfl ?_
    | refine GL.done ?_
    | refine GP.thenN ?_
    | refine GT.seq ?_
    | refine GT.region ?_
    | refine GL.v rfl rfl rfl (by first | exact GO.indexS (s := 8) rfl rfl rfl rfl rfl (by omega) | exact GO.loadC rfl rfl rfl rfl rfl g0 | exact GO.add rfl rfl rfl (by omega)) ?_
    | refine GT.skip ?_
    | refine GT.block ?_
    | refine GT.ret ?_
    | refine GP.thenR ?_
    | refine GP.inN ?_
    | refine GP.inR ?_
    | refine GP.invR ?_
    | (refine GT.condD rfl (fun h => ?_) (fun h => ?_) <;> try (exfalso; omega))
    | refine GP.endR1 rfl ?_)
    all_goals first
      | exact ⟨⟨_, rfl⟩, 8, rfl⟩
      | exact GP.invN (l.length - (i + 1)) (by omega) ⟨i + 1, by omega, rfl, asub_cons rfl (asub_cons rfl asub_nil), rfl, rfl⟩
  ·
    repeat' (first
    | refine GL.sf rfl rfl rfl rfl ?_
    | refine GL.sv rfl rfl rfl rfl ?_
    | refine GL.done ?_
    | refine GP.thenN ?_
    | refine GT.seq ?_
    | refine GT.region ?_
    | refine GL.unguardG rfl rfl rfl ?_
    | refine GL.skipG rfl rfl rfl rfl rfl ?_
    | refine GT.ret ?_
    | refine GT.exit ?_
    | refine GP.thenE ?_
    | refine GP.hit ?_
    | refine GP.invE ?_
    | (refine GT.condD rfl (fun h => ?_) (fun h => ?_) <;> try (exfalso; omega))
    | (refine GL.forkDG rfl rfl rfl (fun h => ?_) (fun h => ?_) <;> try (exfalso; omega))
    | refine GP.endR1 rfl ?_)
    all_goals exact ⟨⟨_, rfl⟩, 8, rfl⟩
theorem w_short18e {A : AW} {b : Option Addr} {c : Nat} : AC Tryd.prog 18 [.slice b 0 c] A (isR (.bool true) A) := by
  refine AC.isE ?_ ?_ ⟨8, rfl⟩
  · refine AC.go Tryd.func18 rfl rfl ?_
    repeat' (first
    | refine GT.unroll 1 ?_
    | refine GL.sf rfl rfl rfl rfl ?_
    | refine GL.done ?_
    | refine GP.thenN ?_
    | refine GT.seq ?_
    | refine GT.region ?_
    | refine GL.skipG rfl rfl rfl rfl rfl ?_
    | refine GT.block ?_
    | refine GT.ret ?_
    | refine GT.exit ?_
    | refine GP.thenE ?_
    | refine GP.hit ?_
    | refine GP.againE ?_
    | refine GU.step ?_
    | refine GT.condF rfl ?_
    | refine GP.endR1 rfl ?_)
    rfl
  · refine AC.go Tryd.func18 rfl rfl ?_
    repeat' (first
    | refine GT.unroll 1 ?_
    | refine GL.sf rfl rfl rfl rfl ?_
    | refine GL.done ?_
    | refine GP.thenN ?_
    | refine GT.seq ?_
    | refine GT.region ?_
    | refine GL.skipG rfl rfl rfl rfl rfl ?_
    | refine GT.block ?_
    | refine GT.ret ?_
    | refine GT.exit ?_
    | refine GP.thenE ?_
    | refine GP.hit ?_
    | refine GP.againE ?_
    | refine GU.step ?_
    | refine GT.condF rfl ?_
    | refine GP.endR1 rfl ?_)
    rfl
theorem w_short20e {A : AW} {b : Option Addr} {c : Nat} : AC Tryd.prog 20 [.slice b 0 c] A (isR (.bool true) A) := by
  refine AC.isE ?_ ?_ ⟨8, rfl⟩
  · refine AC.go Tryd.func20 rfl rfl ?_
    repeat' (first
    | refine GT.unroll 1 ?_
    | refine GL.sf rfl rfl rfl rfl ?_
    | refine GL.done ?_
    | refine GP.thenN ?_
    | refine GT.seq ?_
    | refine GT.region ?_
    | refine GL.skipG rfl rfl rfl rfl rfl ?_
    | refine GT.block ?_
    | refine GT.ret ?_
    | refine GT.exit ?_
    | refine GP.thenE ?_
    | refine GP.hit ?_
    | refine GP.againE ?_
    | refine GU.step ?_
    | refine GT.condF rfl ?_
    | refine GP.endR1 rfl ?_)
    rfl
  · refine AC.go Tryd.func20 rfl rfl ?_
    repeat' (first
    | refine GT.unroll 1 ?_
    | refine GL.sf rfl rfl rfl rfl ?_
    | refine GL.done ?_
    | refine GP.thenN ?_
    | refine GT.seq ?_
    | refine GT.region ?_
    | refine GL.skipG rfl rfl rfl rfl rfl ?_
    | refine GT.block ?_
    | refine GT.ret ?_
    | refine GT.exit ?_
    | refine GP.thenE ?_
    | refine GP.hit ?_
    | refine GP.againE ?_
    | refine GU.step ?_
    | refine GT.condF rfl ?_
    | refine GP.endR1 rfl ?_)
    rfl
theorem w_list19e {A : AW} {b : Option Addr} {c : Nat} : AC Tryd.prog 19 [.slice b 0 c] A (isR (.int .i64 0) A) := by
  refine AC.isE ?_ ?_ ⟨8, rfl⟩
  · refine AC.go Tryd.func19 rfl rfl ?_
    repeat' (first
    | refine GT.unroll 1 ?_
    | refine GL.sf rfl rfl rfl rfl ?_
    | refine GL.done ?_
    | refine GP.thenN ?_
    | refine GT.seq ?_
    | refine GT.region ?_
    | refine GT.skip ?_
    | refine GT.block ?_
    | refine GT.ret ?_
    | refine GT.exit ?_
    | refine GP.thenE ?_
    | refine GP.hit ?_
    | refine GP.againE ?_
    | refine GU.step ?_
    | refine GT.condF rfl ?_
    | refine GP.endR1 rfl ?_)
    rfl
  · refine AC.go Tryd.func19 rfl rfl ?_
    repeat' (first
    | refine GT.unroll 1 ?_
    | refine GL.sf rfl rfl rfl rfl ?_
    | refine GL.done ?_
    | refine GP.thenN ?_
    | refine GT.seq ?_
    | refine GT.region ?_
    | refine GT.skip ?_
    | refine GT.block ?_
    | refine GT.ret ?_
    | refine GT.exit ?_
    | refine GP.thenE ?_
    | refine GP.hit ?_
    | refine GP.againE ?_
    | refine GU.step ?_
    | refine GT.condF rfl ?_
    | refine GP.endR1 rfl ?_)
    rfl
theorem w_list21e {A : AW} {b : Option Addr} {c : Nat} : AC Tryd.prog 21 [.slice b 0 c] A (isR (.int .i64 0) A) := by
  refine AC.isE ?_ ?_ ⟨8, rfl⟩
  · refine AC.go Tryd.func21 rfl rfl ?_
    repeat' (first
    | refine GT.unroll 1 ?_
    | refine GL.sf rfl rfl rfl rfl ?_
    | refine GL.done ?_
    | refine GP.thenN ?_
    | refine GT.seq ?_
    | refine GT.region ?_
    | refine GT.skip ?_
    | refine GT.block ?_
    | refine GT.ret ?_
    | refine GT.exit ?_
    | refine GP.thenE ?_
    | refine GP.hit ?_
    | refine GP.againE ?_
    | refine GU.step ?_
    | refine GT.condF rfl ?_
    | refine GP.endR1 rfl ?_)
    rfl
  · refine AC.go Tryd.func21 rfl rfl ?_
    repeat' (first
    | refine GT.unroll 1 ?_
    | refine GL.sf rfl rfl rfl rfl ?_
    | refine GL.done ?_
    | refine GP.thenN ?_
    | refine GT.seq ?_
    | refine GT.region ?_
    | refine GT.skip ?_
    | refine GT.block ?_
    | refine GT.ret ?_
    | refine GT.exit ?_
    | refine GP.thenE ?_
    | refine GP.hit ?_
    | refine GP.againE ?_
    | refine GU.step ?_
    | refine GT.condF rfl ?_
    | refine GP.endR1 rfl ?_)
    rfl
theorem w_poly58e {A : AW} {b : Option Addr} {c : Nat} : AC Tryd.prog 58 [.slice b 0 c] A (isR (.int .i64 16) A) := by
  refine AC.isE ?_ ?_ ⟨8, rfl⟩
  · refine AC.go Tryd.func58 rfl rfl ?_
    repeat' (first
    | refine GL.sf rfl rfl rfl rfl ?_
    | refine GL.done ?_
    | refine GP.thenN ?_
    | refine GT.seq ?_
    | refine GT.region ?_
    | refine GL.v rfl rfl rfl (by first | exact GO.call rfl rfl Tryd.func55 rfl rfl rfl (d_when55 _ _) | exact GO.call rfl rfl Tryd.func53 rfl rfl rfl (d_first53 (lenNs 0) rfl rfl rfl)) ?_
    | refine GT.ret ?_
    | refine GP.thenR ?_
    | refine GT.condT rfl ?_
    | refine GP.endR1 rfl ?_)
    rfl
  · refine AC.go Tryd.func58 rfl rfl ?_
    repeat' (first
    | refine GL.sf rfl rfl rfl rfl ?_
    | refine GL.done ?_
    | refine GP.thenN ?_
    | refine GT.seq ?_
    | refine GT.region ?_
    | refine GL.v rfl rfl rfl (by first | exact GO.call rfl rfl Tryd.func55 rfl rfl rfl (d_when55 _ _) | exact GO.call rfl rfl Tryd.func53 rfl rfl rfl (d_first53 (lenNs 0) rfl rfl rfl)) ?_
    | refine GT.ret ?_
    | refine GP.thenR ?_
    | refine GT.condT rfl ?_
    | refine GP.endR1 rfl ?_)
    rfl
theorem w_short18 {A : AW} {b : Option Addr} {c : Nat} (l : List Ld) (hl : l.length ≤ 1000) (h : l = [] ∨ SlAt A b (ldC l)) : AC Tryd.prog 18 [.slice b l.length c] A (fun v A1 => (∃ x, v = .bool x) ∧ A1 = A) := by
  rcases h with rfl | ⟨p, rfl, h⟩
  · exact AC.mono w_short18e fun v A1 hv => ⟨⟨true, hv.1⟩, hv.2⟩
  · obtain ⟨fj, hflat⟩ := ldC_flat l
    exact AC.pureX (SmallX.nil.cons (k := 0) (b := p) (f := 0) (o := .cells (ldC l) 159) (.flat h hflat)) (args := [.slice (some ⟨0, 0, none⟩) l.length c]) (w_short18s l c hl) (.sl rfl rfl .nil)
theorem w_short20 {A : AW} {b : Option Addr} {c : Nat} (l : List Mv) (hl : l.length ≤ 1000) (h : l = [] ∨ SlAt A b (mvC l)) : AC Tryd.prog 20 [.slice b l.length c] A (fun v A1 => (∃ x, v = .bool x) ∧ A1 = A) := by
  rcases h with rfl | ⟨p, rfl, h⟩
  · exact AC.mono w_short20e fun v A1 hv => ⟨⟨true, hv.1⟩, hv.2⟩
  · obtain ⟨fj, hflat⟩ := mvC_flat l
    exact AC.pureX (SmallX.nil.cons (k := 0) (b := p) (f := 0) (o := .cells (mvC l) 112) (.flat h hflat)) (args := [.slice (some ⟨0, 0, none⟩) l.length c]) (w_short20s l c hl) (.sl rfl rfl .nil)
theorem w_list19V {A : AW} {b : Option Addr} {c : Nat} (l : List Ld) (hl : l.length ≤ 1000) (h : l = [] ∨ SlAt A b (ldC l)) : AC Tryd.prog 19 [.slice b l.length c] A (fun v A1 => (∃ e, v = .int .i64 e ∧ (e = 0 → LdOk l)) ∧ A1 = A) := by
  rcases h with rfl | ⟨p, rfl, h⟩
  · exact AC.mono w_list19e fun v A1 hv => ⟨⟨0, hv.1, fun _ => ⟨fun i x h => by simp at h, fun i j x y _ h => by simp at h⟩⟩, hv.2⟩
  · exact w_list19 l hl h
theorem w_list21V {A : AW} {b : Option Addr} {c : Nat} (l : List Mv) (hl : l.length ≤ 1000) (h : l = [] ∨ SlAt A b (mvC l)) : AC Tryd.prog 21 [.slice b l.length c] A (fun v A1 => (∃ e, v = .int .i64 e ∧ (e = 0 → MvOk l)) ∧ A1 = A) := by
  rcases h with rfl | ⟨p, rfl, h⟩
  · exact AC.mono w_list21e fun v A1 hv => ⟨⟨0, hv.1, fun _ => ⟨fun i x h => by simp at h, fun i j x y _ h => by simp at h⟩⟩, hv.2⟩
  · exact w_list21 l hl h
theorem polyE_nil : polyE [] = 16 := by
  unfold polyE
  rw [if_pos (by show firstNZ (lenNs 0) ≠ 0; decide)]; rfl
theorem w_poly58V {A : AW} {b : Option Addr} {c : Nat} (ps : Pts) (hl : ps.length ≤ 1000000) (h : ps = [] ∨ SlAt A b (ptC ps)) : AC Tryd.prog 58 [.slice b ps.length c] A (isR (.int .i64 (polyE ps)) A) := by
  rcases h with rfl | ⟨p, rfl, h⟩
  · rw [polyE_nil]; exact w_poly58e
  · obtain ⟨fj, hflat⟩ := ptC_flat ps
    exact AC.isX (SmallX.nil.cons (k := 0) (b := p) (f := 0) (o := .cells (ptC ps) 97) (.flat h hflat)) (args := [.slice (some ⟨0, 0, none⟩) ps.length c]) (w_poly58s ps c hl) ⟨8, rfl⟩ (.sl rfl rfl .nil)
theorem w_same31 {A : AW} {p q n c c' : Nat} (F : Nat → Int) (hn : n ≤ 1000) (hp : A.rd p 0 (intC F n).length = some (intC F n)) (hq : A.rd q 0 (intC F n).length = some (intC F n)) :
    AC Tryd.prog 31 [.slice (some ⟨p, 0, none⟩) n c, .slice (some ⟨q, 0, none⟩) n c'] A (isR (.bool true) A) := by
  obtain ⟨fj, hflat⟩ := intC_flat (F := F) (n := n)
  refine AC.isX ((SmallX.nil.cons (k := 0) (b := p) (f := 0) (o := .cells (intC F n) 3) (.flat hp hflat)).cons (b := q) (f := 0) (o := .cells (intC F n) 3) (.flat hq hflat)) (args := [.slice (some ⟨0, 0, none⟩) n c, .slice (some ⟨1, 0, none⟩) n c']) ?_ ⟨8, rfl⟩ (.sl rfl rfl (.sl rfl rfl .nil))
  refine AC.go Tryd.func31 rfl rfl ?_
  clear hp hq
  have hd : ¬ ¬ ((n : Int) = n) := fun h => h rfl
  repeat' (first
  | refine GL.sf rfl rfl rfl rfl ?_
  | refine GL.sv rfl rfl rfl rfl ?_
  | refine GL.done ?_
  | refine GP.thenN ?_
  | refine GT.seq ?_
  | refine GT.region ?_
  | refine GT.skip ?_
  | refine GT.block ?_
  | (refine GT.condN rfl (fun h => ?_) (fun h => ?_) <;> try (exfalso; omega)))
  refine GT.loop (fun q a L nx => ∃ i : Nat, i ≤ n ∧ q = n - i ∧ asub [(0, .slice (some ⟨0, 0, none⟩) n c), (1, .slice (some ⟨1, 0, none⟩) n c'), (5, .int .i64 i)] a ∧ L = [(1, .cells (intC F n) 3), (0, .cells (intC F n) 3)] ∧ nx = 2) n
    ⟨0, by omega, by omega, asub_cons rfl (asub_cons rfl (asub_cons rfl asub_nil)), rfl, rfl⟩ ?_
  rintro q a L nx ⟨i, hi, rfl, hs, rfl, rfl⟩
  refine GT.keep hs ?_
  clear hs
  rcases Nat.lt_or_ge i n with hlt | hge
  · have g0 : (intC F n)[0 + (i : Int).toNat * 1]? = some (.int .i64 (F i)) := by
      have := intC_at (F := F) hlt
      simpa using this
    repeat' (first
    | refine GT.draws (id := 6) [[], [], [0, 1], [0, 1, 2], [], [], [4, 5], [4, 5, 6], [0, 1, 2, 3, 4, 5, 6, 7]] [] (by kernel_rfl) ?_
    | refine GL.sf rfl rfl rfl rfl ?_
    | refine GL.sv rfl rfl rfl rfl ?_
    | refine GL.done ?_
    | refine GP.thenN ?_
    | refine GT.seq ?_
    | refine GT.region ?_
    | refine GD.li rfl rfl (by exact onAt.none rfl) rfl (by repeat first | exact AllG.nil rfl | refine AllG.cons rfl (by first | exact GO.sf rfl rfl | exact GO.indexS (s := 1) rfl rfl rfl rfl rfl (by omega) | exact GO.loadC rfl rfl rfl rfl rfl g0) ?_) ?_
    | refine GD.done rfl rfl rfl ?_
    | refine GL.v rfl rfl rfl (by exact GO.add rfl rfl rfl (by omega)) ?_
    | refine GT.skip ?_
    | refine GT.block ?_
    | refine GP.inN ?_
    | (refine GT.condD rfl (fun h => ?_) (fun h => ?_) <;> try (exfalso; omega))
    | (refine GT.condN rfl (fun h => ?_) (fun h => ?_) <;> try (exfalso; omega)))
    exact GP.invN (n - (i + 1)) (by omega) ⟨i + 1, by omega, rfl, asub_cons rfl (asub_cons rfl (asub_cons rfl asub_nil)), rfl, rfl⟩
  ·
    repeat' (first
    | refine GL.sf rfl rfl rfl rfl ?_
    | refine GL.sv rfl rfl rfl rfl ?_
    | refine GL.done ?_
    | refine GP.thenN ?_
    | refine GT.seq ?_
    | refine GT.region ?_
    | refine GT.ret ?_
    | refine GT.exit ?_
    | refine GP.thenE ?_
    | refine GP.hit ?_
    | refine GP.invE ?_
    | (refine GT.condD rfl (fun h => ?_) (fun h => ?_) <;> try (exfalso; omega))
    | refine GP.endR1 rfl ?_)
    rfl
end Go.M
