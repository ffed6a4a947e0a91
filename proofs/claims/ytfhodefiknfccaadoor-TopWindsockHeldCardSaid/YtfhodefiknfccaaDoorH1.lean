/- Functions of the given program, walked (no condition beyond what each theorem says). -/
import Derived.Test.YtfhodefiknfccaaDoorB4
set_option linter.unusedVariables false
set_option linter.unusedSimpArgs false
namespace Go.M
open Go.Proofs
set_option maxRecDepth 8000
set_option maxHeartbeats 4000000
theorem w_when104 {A : AW} (b : Bool) (e : Int) : AC Tryd.prog 104 [.bool b, .int .i64 e] A (isR (.int .i64 (whenI b e)) A) := by
  refine AC.is0 ?_ ⟨8, rfl⟩ (.flat (k := 8) rfl (.flat (k := 8) rfl .nil))
  refine AC.go Tryd.func104 rfl rfl ?_
  repeat' (first
  | refine GL.sf rfl rfl rfl rfl ?_
  | refine GL.done ?_
  | refine GP.thenN ?_
  | refine GT.seq ?_
  | refine GT.region ?_
  | refine GT.skip ?_
  | refine GT.ret ?_
  | refine GP.thenR ?_
  | (refine GT.condB rfl (fun h => ?_) (fun h => ?_))
  | refine GP.endR1 rfl ?_)
  all_goals (subst h; rfl)
theorem w_when132 {A : AW} (b : Bool) (e : Int) : AC Tryd.prog 132 [.bool b, .int .i64 e] A (isR (.int .i64 (whenI b e)) A) := by
  refine AC.is0 ?_ ⟨8, rfl⟩ (.flat (k := 8) rfl (.flat (k := 8) rfl .nil))
  refine AC.go Tryd.func132 rfl rfl ?_
  repeat' (first
  | refine GL.sf rfl rfl rfl rfl ?_
  | refine GL.done ?_
  | refine GP.thenN ?_
  | refine GT.seq ?_
  | refine GT.region ?_
  | refine GT.skip ?_
  | refine GT.ret ?_
  | refine GP.thenR ?_
  | (refine GT.condB rfl (fun h => ?_) (fun h => ?_))
  | refine GP.endR1 rfl ?_)
  all_goals (subst h; rfl)
theorem w_within135 {A : AW} (n lo hi : Int) : AC Tryd.prog 135 [.int .i64 n, .int .i64 lo, .int .i64 hi] A (isR (.int .i64 (whenI (withinB n lo hi) 3)) A) := by
  refine AC.is0 ?_ ⟨8, rfl⟩ (.flat (k := 8) rfl (.flat (k := 8) rfl (.flat (k := 8) rfl .nil)))
  refine AC.go Tryd.func135 rfl rfl ?_
  repeat' (first
  | refine GL.sf rfl rfl rfl rfl ?_
  | refine GL.done ?_
  | refine GP.thenN ?_
  | refine GT.seq ?_
  | refine GT.region ?_
  | refine GL.unguardG rfl rfl rfl ?_
  | refine GL.skipG rfl rfl rfl rfl rfl ?_
  | refine GL.v rfl rfl rfl (by exact GO.call rfl rfl Tryd.func104 rfl rfl rfl (w_when104 _ _)) ?_
  | refine GT.ret ?_
  | (refine GL.forkDG rfl rfl rfl (fun h => ?_) (fun h => ?_) <;> try (exfalso; omega))
  | refine GP.endR1 rfl ?_)
  · simp [withinB, h]
  · simp [withinB, h]
theorem w_within135ok {A : AW} (n lo hi : Int) (h : lo ≤ n ∧ n ≤ hi) : AC Tryd.prog 135 [.int .i64 n, .int .i64 lo, .int .i64 hi] A (isR (.int .i64 0) A) := by
  have := w_within135 (A := A) n lo hi
  rwa [whenI_zero (withinB_no h)] at this
theorem w_within99 {A : AW} (n lo hi : Int) : AC Tryd.prog 99 [.int .i64 n, .int .i64 lo, .int .i64 hi] A (isR (.int .i64 (whenI (withinB n lo hi) 3)) A) := by
  refine AC.is0 ?_ ⟨8, rfl⟩ (.flat (k := 8) rfl (.flat (k := 8) rfl (.flat (k := 8) rfl .nil)))
  refine AC.go Tryd.func99 rfl rfl ?_
  repeat' (first
  | refine GL.sf rfl rfl rfl rfl ?_
  | refine GL.done ?_
  | refine GP.thenN ?_
  | refine GT.seq ?_
  | refine GT.region ?_
  | refine GL.unguardG rfl rfl rfl ?_
  | refine GL.skipG rfl rfl rfl rfl rfl ?_
  | refine GL.v rfl rfl rfl (by exact GO.call rfl rfl Tryd.func132 rfl rfl rfl (w_when132 _ _)) ?_
  | refine GT.ret ?_
  | (refine GL.forkDG rfl rfl rfl (fun h => ?_) (fun h => ?_) <;> try (exfalso; omega))
  | refine GP.endR1 rfl ?_)
  · simp [withinB, h]
  · simp [withinB, h]
theorem w_within99ok {A : AW} (n lo hi : Int) (h : lo ≤ n ∧ n ≤ hi) : AC Tryd.prog 99 [.int .i64 n, .int .i64 lo, .int .i64 hi] A (isR (.int .i64 0) A) := by
  have := w_within99 (A := A) n lo hi
  rwa [whenI_zero (withinB_no h)] at this
theorem w_first98s (ns : List Int) (c : Nat) (hlen : ns.length ≤ 1000000) : AC Tryd.prog 98 [.slice (some ⟨0, 0, none⟩) ns.length c] (AW.of [(0, .cells (ns.map (.int .i64)) 48)] 1 1 0) (fun u _ => u = .int .i64 (firstNZ ns)) := by
  refine AC.go Tryd.func98 rfl rfl ?_
  repeat' (first
  | refine GL.sf rfl rfl rfl rfl ?_
  | refine GL.sv rfl rfl rfl rfl ?_
  | refine GL.done ?_
  | refine GP.thenN ?_
  | refine GT.seq ?_
  | refine GT.region ?_
  | refine GT.block ?_)
  refine GT.loop (fun k a L nx => ∃ i : Nat, i ≤ ns.length ∧ k = ns.length - i ∧ (∀ y ∈ ns.take i, y = 0) ∧ asub [(5, .slice (some ⟨0, 0, none⟩) ns.length c), (6, .int .i64 ns.length), (7, .int .i64 i)] a ∧ L = [(0, .cells (ns.map (.int .i64)) 48)] ∧ nx = 1) ns.length
    ⟨0, by omega, by omega, by simp, asub_cons rfl (asub_cons rfl (asub_cons rfl asub_nil)), rfl, rfl⟩ ?_
  rintro k a L nx ⟨i, hi, rfl, hz, hs, rfl, rfl⟩
  refine GT.keep hs ?_
  clear hs
  rcases Nat.lt_or_ge i ns.length with hlt | hge
  · obtain ⟨x, hx⟩ : ∃ x, ns[i]? = some x := ⟨_, List.getElem?_eq_getElem hlt⟩
    have hx' : (ns.map (Value.int .i64))[0 + (i : Int).toNat * 1]? = some (.int .i64 x) := by simp [hx]
    repeat' (first
    | refine GL.sf rfl rfl rfl rfl ?_
    | refine GL.done ?_
    | refine GP.thenN ?_
    | refine GT.seq ?_
    | refine GT.region ?_
    | refine GL.v rfl rfl rfl (by first | exact GO.indexS rfl rfl rfl rfl rfl (by omega) | exact GO.loadC rfl rfl rfl rfl rfl hx' | exact GO.add rfl rfl rfl (by omega)) ?_
    | refine GT.skip ?_
    | refine GT.block ?_
    | refine GT.ret ?_
    | refine GP.thenR ?_
    | refine GP.inN ?_
    | refine GP.inR ?_
    | refine GP.invR ?_
    | (refine GT.condD rfl (fun h => ?_) (fun h => ?_) <;> try (exfalso; omega))
    | (refine GT.condN rfl (fun h => ?_) (fun h => ?_) <;> try (exfalso; omega))
    | refine GP.endR1 rfl ?_)
    · rw [firstNZ_take hx hz h]
    · exact GP.invN (ns.length - (i + 1)) (by omega) ⟨i + 1, by omega, rfl, take_zero hx hz h, asub_cons rfl (asub_cons rfl (asub_cons rfl asub_nil)), rfl, rfl⟩
  ·
    repeat' (first
    | refine GL.sf rfl rfl rfl rfl ?_
    | refine GL.done ?_
    | refine GP.thenN ?_
    | refine GT.seq ?_
    | refine GT.region ?_
    | refine GT.ret ?_
    | refine GT.exit ?_
    | refine GP.thenE ?_
    | refine GP.hit ?_
    | refine GP.invE ?_
    | (refine GT.condD rfl (fun h => ?_) (fun h => ?_) <;> try (exfalso; omega))
    | refine GP.endR1 rfl ?_)
    rw [firstNZ_all (by rw [List.take_of_length_le hge] at hz; exact hz)]
theorem w_first98 {A : AW} {b f l c : Nat} (ns : List Int) (hl : ns.length = l) (hlen : Nat.ble l 1000000 = true) (h : A.rd b f l = some (ns.map (.int .i64))) : AC Tryd.prog 98 [.slice (some ⟨b, f, none⟩) l c] A (isR (.int .i64 (firstNZ ns)) A) := by
  subst hl
  exact AC.is1 (w_first98s ns c (Nat.le_of_ble_eq_true hlen)) ⟨8, rfl⟩ (b := b) (g := f) ⟨by simpa using h, plain_ints⟩ (.sl (g := 0) rfl rfl .nil)
theorem w_first102s (ns : List Int) (c : Nat) (hlen : ns.length ≤ 1000000) : AC Tryd.prog 102 [.slice (some ⟨0, 0, none⟩) ns.length c] (AW.of [(0, .cells (ns.map (.int .i64)) 48)] 1 1 0) (fun u _ => u = .int .i64 (firstNZ ns)) := by
  refine AC.go Tryd.func102 rfl rfl ?_
  repeat' (first
  | refine GL.sf rfl rfl rfl rfl ?_
  | refine GL.sv rfl rfl rfl rfl ?_
  | refine GL.done ?_
  | refine GP.thenN ?_
  | refine GT.seq ?_
  | refine GT.region ?_
  | refine GT.block ?_)
  refine GT.loop (fun k a L nx => ∃ i : Nat, i ≤ ns.length ∧ k = ns.length - i ∧ (∀ y ∈ ns.take i, y = 0) ∧ asub [(5, .slice (some ⟨0, 0, none⟩) ns.length c), (6, .int .i64 ns.length), (7, .int .i64 i)] a ∧ L = [(0, .cells (ns.map (.int .i64)) 48)] ∧ nx = 1) ns.length
    ⟨0, by omega, by omega, by simp, asub_cons rfl (asub_cons rfl (asub_cons rfl asub_nil)), rfl, rfl⟩ ?_
  rintro k a L nx ⟨i, hi, rfl, hz, hs, rfl, rfl⟩
  refine GT.keep hs ?_
  clear hs
  rcases Nat.lt_or_ge i ns.length with hlt | hge
  · obtain ⟨x, hx⟩ : ∃ x, ns[i]? = some x := ⟨_, List.getElem?_eq_getElem hlt⟩
    have hx' : (ns.map (Value.int .i64))[0 + (i : Int).toNat * 1]? = some (.int .i64 x) := by simp [hx]
    repeat' (first
    | refine GL.sf rfl rfl rfl rfl ?_
    | refine GL.done ?_
    | refine GP.thenN ?_
    | refine GT.seq ?_
    | refine GT.region ?_
    | refine GL.v rfl rfl rfl (by first | exact GO.indexS rfl rfl rfl rfl rfl (by omega) | exact GO.loadC rfl rfl rfl rfl rfl hx' | exact GO.add rfl rfl rfl (by omega)) ?_
    | refine GT.skip ?_
    | refine GT.block ?_
    | refine GT.ret ?_
    | refine GP.thenR ?_
    | refine GP.inN ?_
    | refine GP.inR ?_
    | refine GP.invR ?_
    | (refine GT.condD rfl (fun h => ?_) (fun h => ?_) <;> try (exfalso; omega))
    | (refine GT.condN rfl (fun h => ?_) (fun h => ?_) <;> try (exfalso; omega))
    | refine GP.endR1 rfl ?_)
    · rw [firstNZ_take hx hz h]
    · exact GP.invN (ns.length - (i + 1)) (by omega) ⟨i + 1, by omega, rfl, take_zero hx hz h, asub_cons rfl (asub_cons rfl (asub_cons rfl asub_nil)), rfl, rfl⟩
  ·
    repeat' (first
    | refine GL.sf rfl rfl rfl rfl ?_
    | refine GL.done ?_
    | refine GP.thenN ?_
    | refine GT.seq ?_
    | refine GT.region ?_
    | refine GT.ret ?_
    | refine GT.exit ?_
    | refine GP.thenE ?_
    | refine GP.hit ?_
    | refine GP.invE ?_
    | (refine GT.condD rfl (fun h => ?_) (fun h => ?_) <;> try (exfalso; omega))
    | refine GP.endR1 rfl ?_)
    rw [firstNZ_all (by rw [List.take_of_length_le hge] at hz; exact hz)]
theorem w_first102 {A : AW} {b f l c : Nat} (ns : List Int) (hl : ns.length = l) (hlen : Nat.ble l 1000000 = true) (h : A.rd b f l = some (ns.map (.int .i64))) : AC Tryd.prog 102 [.slice (some ⟨b, f, none⟩) l c] A (isR (.int .i64 (firstNZ ns)) A) := by
  subst hl
  exact AC.is1 (w_first102s ns c (Nat.le_of_ble_eq_true hlen)) ⟨8, rfl⟩ (b := b) (g := f) ⟨by simpa using h, plain_ints⟩ (.sl (g := 0) rfl rfl .nil)
def crossI (ax ay bx by' px py : Int) : Int := (bx - ax) * (py - ay) - (by' - ay) * (px - ax)
abbrev In6 (z : Int) : Prop := -1000000 ≤ z ∧ z ≤ 1000000
theorem prod_le {u v : Int} (hu : -2000000 ≤ u ∧ u ≤ 2000000) (hv : -2000000 ≤ v ∧ v ≤ 2000000) : -4000000000000 ≤ u * v ∧ u * v ≤ 4000000000000 := by
  have h1 : (u * v).natAbs ≤ 2000000 * 2000000 := by
    rw [Int.natAbs_mul]
    exact Nat.mul_le_mul (by omega) (by omega)
  omega
theorem w_cross95 {A : AW} (ax ay bx by' px py : Int) (h1 : In6 ax) (h2 : In6 ay) (h3 : In6 bx) (h4 : In6 by') (h5 : In6 px) (h6 : In6 py) : AC Tryd.prog 95 [.agg #[.int .i64 ax, .int .i64 ay], .agg #[.int .i64 bx, .int .i64 by'], .agg #[.int .i64 px, .int .i64 py]] A (isR (.int .i64 (crossI ax ay bx by' px py)) A) := by
  have p1 := prod_le (u := bx - ax) (v := py - ay) (by omega) (by omega)
  have p2 := prod_le (u := by' - ay) (v := px - ax) (by omega) (by omega)
  refine AC.is0 ?_ ⟨8, rfl⟩ (.flat (k := 16) rfl (.flat (k := 16) rfl (.flat (k := 16) rfl .nil)))
  refine AC.go Tryd.func95 rfl rfl ?_
  repeat' (first
  | refine GL.sf rfl rfl rfl rfl ?_
  | refine GL.done ?_
  | refine GP.thenN ?_
  | refine GT.seq ?_
  | refine GT.region ?_
  | refine GL.v rfl rfl rfl (by first | exact GO.sub rfl rfl rfl (by omega) | exact GO.mul rfl rfl rfl (by omega)) ?_
  | refine GT.ret ?_
  | refine GP.endR1 rfl ?_)
  rfl
theorem w_cross167 {A : AW} (ax ay bx by' px py : Int) (h1 : In6 ax) (h2 : In6 ay) (h3 : In6 bx) (h4 : In6 by') (h5 : In6 px) (h6 : In6 py) : AC Tryd.prog 167 [.agg #[.int .i64 ax, .int .i64 ay], .agg #[.int .i64 bx, .int .i64 by'], .agg #[.int .i64 px, .int .i64 py]] A (isR (.int .i64 (crossI ax ay bx by' px py)) A) := by
  have p1 := prod_le (u := bx - ax) (v := py - ay) (by omega) (by omega)
  have p2 := prod_le (u := by' - ay) (v := px - ax) (by omega) (by omega)
  refine AC.is0 ?_ ⟨8, rfl⟩ (.flat (k := 16) rfl (.flat (k := 16) rfl (.flat (k := 16) rfl .nil)))
  refine AC.go Tryd.func167 rfl rfl ?_
  repeat' (first
  | refine GL.sf rfl rfl rfl rfl ?_
  | refine GL.done ?_
  | refine GP.thenN ?_
  | refine GT.seq ?_
  | refine GT.region ?_
  | refine GL.v rfl rfl rfl (by first | exact GO.sub rfl rfl rfl (by omega) | exact GO.mul rfl rfl rfl (by omega)) ?_
  | refine GT.ret ?_
  | refine GP.endR1 rfl ?_)
  rfl
theorem w_size56 {A : AW} (n : Int) : AC Tryd.prog 56 [.int .i64 n] A (isR (.int .i64 (whenI (withinB n 0 3) 3)) A) := by
  refine AC.is0 ?_ ⟨8, rfl⟩ (.flat (k := 8) rfl .nil)
  refine AC.go Tryd.func56 rfl rfl ?_
  repeat' (first
  | refine GL.sf rfl rfl rfl rfl ?_
  | refine GL.done ?_
  | refine GP.thenN ?_
  | refine GT.seq ?_
  | refine GT.region ?_
  | refine GL.v rfl rfl rfl (by exact GO.call rfl rfl Tryd.func59 rfl rfl rfl (d_within59 _ _ _)) ?_
  | refine GT.ret ?_
  | refine GP.endR1 rfl ?_)
  rfl
theorem w_category57 {A : AW} (n : Int) : AC Tryd.prog 57 [.int .i64 n] A (isR (.int .i64 (whenI (withinB n 1 3) 3)) A) := by
  refine AC.is0 ?_ ⟨8, rfl⟩ (.flat (k := 8) rfl .nil)
  refine AC.go Tryd.func57 rfl rfl ?_
  repeat' (first
  | refine GL.sf rfl rfl rfl rfl ?_
  | refine GL.done ?_
  | refine GP.thenN ?_
  | refine GT.seq ?_
  | refine GT.region ?_
  | refine GL.v rfl rfl rfl (by exact GO.call rfl rfl Tryd.func59 rfl rfl rfl (d_within59 _ _ _)) ?_
  | refine GT.ret ?_
  | refine GP.endR1 rfl ?_)
  rfl
def ticksB (a b : Int) : Bool := decide (a < 0) || (decide (b ≤ a) || decide (100000000 < b))
theorem w_ticks60 {A : AW} (a b : Int) : AC Tryd.prog 60 [.agg #[.int .i64 a, .int .i64 b]] A (isR (.int .i64 (whenI (ticksB a b) 14)) A) := by
  refine AC.is0 ?_ ⟨8, rfl⟩ (.flat (k := 16) rfl .nil)
  refine AC.go Tryd.func60 rfl rfl ?_
  repeat' (first
  | refine GL.sf rfl rfl rfl rfl ?_
  | refine GL.done ?_
  | refine GP.thenN ?_
  | refine GT.seq ?_
  | refine GT.region ?_
  | refine GL.unguardG rfl rfl rfl ?_
  | refine GL.skipG rfl rfl rfl rfl rfl ?_
  | refine GL.v rfl rfl rfl (by exact GO.call rfl rfl Tryd.func55 rfl rfl rfl (d_when55 _ _)) ?_
  | refine GT.ret ?_
  | (refine GL.forkDG rfl rfl rfl (fun h => ?_) (fun h => ?_) <;> try (exfalso; omega))
  | refine GP.endR1 rfl ?_)
  all_goals simp [ticksB, *]
def rpointNs (x y : Int) : List Int := [whenI (withinB x (-1000000) 1000000) 3, whenI (withinB y (-1000000) 1000000) 3]
theorem w_point94 {A : AW} (x y : Int) : AC Tryd.prog 94 [.agg #[.int .i64 x, .int .i64 y]] A (isR (.int .i64 (firstNZ (rpointNs x y))) A) := by
  refine AC.is0 ?_ ⟨8, rfl⟩ (.flat (k := 16) rfl .nil)
  refine AC.go Tryd.func94 rfl rfl ?_
  repeat' (first
  | refine GT.draws (id := 1) [[], [0], [0, 1], [], [3], [0, 1, 2, 3, 4], [0, 1, 2, 3, 4, 5], [0, 1, 2, 3, 4, 5, 6], [0, 1, 2, 3, 4, 5, 6, 7]] [6] (by kernel_rfl) ?_
  | refine GL.sf rfl rfl rfl rfl ?_
  | refine GL.done ?_
  | refine GP.thenN ?_
  | refine GT.seq ?_
  | refine GT.region ?_
  | refine GD.li rfl rfl (by exact onAt.none rfl) rfl (by repeat first | exact AllG.nil rfl | refine AllG.cons rfl (by first | exact GO.sf rfl rfl | exact GO.call rfl rfl Tryd.func59 rfl rfl rfl (d_within59 _ _ _) | exact GO.call rfl rfl Tryd.func53 rfl rfl rfl (d_first53 (rpointNs x y) rfl rfl rfl)) ?_) ?_
  | refine GD.he rfl rfl rfl (by exact onAt.none rfl) rfl (by exact GO.sf rfl rfl) ?_ ?_
  | refine GD.done rfl rfl rfl ?_
  | exact AllJs.nil rfl
  | refine GT.ret ?_
  | refine GP.endR1 rfl ?_)
  rfl
theorem point_ok {x y : Int} (h : firstNZ (rpointNs x y) = 0) : In6 x ∧ In6 y := by
  have k := of_firstNZ h
  simp only [rpointNs, List.mem_cons, List.not_mem_nil, or_false, forall_eq_or_imp, forall_eq] at k
  exact ⟨of_withinB (of_whenI k.1 (by decide)), of_withinB (of_whenI k.2 (by decide))⟩
def BoxOk (lx ly hx hy : Int) : Prop := In6 lx ∧ In6 ly ∧ In6 hx ∧ In6 hy ∧ lx ≤ hx ∧ ly ≤ hy
def boxE (lx ly hx hy : Int) : Int := firstNZ [firstNZ (rpointNs lx ly), firstNZ (rpointNs hx hy), whenI (decide (hx < lx) || decide (hy < ly)) 11]
theorem box_ok {lx ly hx hy : Int} (h : boxE lx ly hx hy = 0) : BoxOk lx ly hx hy := by
  have k := of_firstNZ h
  simp only [List.mem_cons, List.not_mem_nil, or_false, forall_eq_or_imp, forall_eq] at k
  have k1 := point_ok k.1
  have k2 := point_ok k.2.1
  have k3 := of_whenI k.2.2 (by decide)
  simp at k3
  exact ⟨k1.1, k1.2, k2.1, k2.2, by omega, by omega⟩
theorem w_box97 {A : AW} (lx ly hx hy : Int) : AC Tryd.prog 97 [.agg #[.int .i64 lx, .int .i64 ly, .int .i64 hx, .int .i64 hy]] A (isR (.int .i64 (boxE lx ly hx hy)) A) := by
  refine AC.is0 ?_ ⟨8, rfl⟩ (.flat (k := 32) rfl .nil)
  refine AC.go Tryd.func97 rfl rfl ?_
  repeat' (first
  | refine GL.sf rfl rfl rfl rfl ?_
  | refine GL.done ?_
  | refine GP.thenN ?_
  | refine GT.seq ?_
  | refine GT.region ?_)
  repeat' (first
  | refine GT.draws (id := 1) [[], [0], [0, 1], [], [3], [0, 1, 2, 3, 4], [], [6], [6, 7], [], [9], [9, 10], [6, 7, 8, 9, 10, 11], [0, 1, 2, 3, 4, 5, 6, 7, 8, 9, 10, 11, 12], [0, 1, 2, 3, 4, 5, 6, 7, 8, 9, 10, 11, 12, 13], [0, 1, 2, 3, 4, 5, 6, 7, 8, 9, 10, 11, 12, 13, 14], [0, 1, 2, 3, 4, 5, 6, 7, 8, 9, 10, 11, 12, 13, 14, 15], [0, 1, 2, 3, 4, 5, 6, 7, 8, 9, 10, 11, 12, 13], [0, 1, 2, 3, 4, 5, 6, 7, 8, 9, 10, 11, 12, 13, 17], [0, 1, 2, 3, 4, 5, 6, 7, 8, 9, 10, 11, 12, 13, 17, 18], [0, 1, 2, 3, 4, 5, 6, 7, 8, 9, 10, 11, 12, 13, 14, 15, 16, 17, 18, 19], [0, 1, 2, 3, 4, 5, 6, 7, 8, 9, 10, 11, 12, 13, 14, 15, 16, 17, 18, 19, 20], [0, 1, 2, 3, 4, 5, 6, 7, 8, 9, 10, 11, 12, 13, 14, 15, 16, 17, 18, 19, 20, 21], [0, 1, 2, 3, 4, 5, 6, 7, 8, 9, 10, 11, 12, 13, 14, 15, 16, 17, 18, 19, 20, 21, 22], [0, 1, 2, 3, 4, 5, 6, 7, 8, 9, 10, 11, 12, 13, 14, 15, 16, 17, 18, 19, 20, 21, 22, 23], [0, 1, 2, 3, 4, 5, 6, 7, 8, 9, 10, 11, 12, 13, 14, 15, 16, 17, 18, 19, 20, 21, 22, 23, 24]] [23] (by kernel_rfl) ?_
  | refine GP.thenN ?_
  | refine GD.li rfl rfl (by first | exact onAt.none rfl | exact onAt.yes rfl rfl rfl) rfl (by repeat first | exact AllG.nil rfl | refine AllG.cons rfl (by first | exact GO.sf rfl rfl | exact GO.call rfl rfl Tryd.func94 rfl rfl rfl (w_point94 _ _) | exact GO.call rfl rfl Tryd.func55 rfl rfl rfl (d_when55 _ _) | exact GO.call rfl rfl Tryd.func53 rfl rfl rfl (d_first53 [firstNZ (rpointNs lx ly), firstNZ (rpointNs hx hy), whenI true 11] rfl rfl rfl) | exact GO.call rfl rfl Tryd.func53 rfl rfl rfl (d_first53 [firstNZ (rpointNs lx ly), firstNZ (rpointNs hx hy), whenI (decide (hy < ly)) 11] rfl rfl rfl)) ?_) ?_
  | refine GD.off rfl rfl rfl rfl rfl (by exact .inl rfl) rfl ?_
  | refine GD.he rfl rfl rfl (by exact onAt.none rfl) rfl (by exact GO.sf rfl rfl) ?_ ?_
  | refine GD.done rfl rfl rfl ?_
  | (refine GD.forkD rfl rfl rfl rfl (fun h => ?_) (fun h => ?_) <;> try (exfalso; omega))
  | exact AllJs.nil rfl
  | refine GT.ret ?_
  | refine GP.endR1 rfl ?_)
  · simp [boxE, h]
  · simp [boxE, h]
def SpanOk (a b : Int) : Prop := 0 ≤ a ∧ a < b ∧ b ≤ 100000000
theorem span_ok {a b : Int} (h : whenI (ticksB a b) 14 = 0) : SpanOk a b := by
  have k := of_whenI h (by decide)
  simp [ticksB] at k
  exact ⟨by omega, by omega, by omega⟩
theorem span_no {a b : Int} (h : SpanOk a b) : ticksB a b = false := by
  obtain ⟨h1, h2, h3⟩ := h
  simp [ticksB]; omega
/-- A move. -/
structure Mv where
  s : ByteArray
  sz : Int
  lx : Int
  ly : Int
  hx : Int
  hy : Int
  a : Int
  b : Int
abbrev Mv.vs (m : Mv) : List Value := [.string m.s, .int .i64 m.sz, .int .i64 m.lx, .int .i64 m.ly, .int .i64 m.hx, .int .i64 m.hy, .int .i64 m.a, .int .i64 m.b]
def Mv.Ok (m : Mv) : Prop := NameOk m.s ∧ (0 ≤ m.sz ∧ m.sz ≤ 3) ∧ BoxOk m.lx m.ly m.hx m.hy ∧ SpanOk m.a m.b
theorem w_ticks160 {A : AW} (a b : Int) (h : SpanOk a b) : AC Tryd.prog 160 [.agg #[.int .i64 a, .int .i64 b]] A (isR (.int .i64 0) A) := by
  obtain ⟨h1, h2, h3⟩ := h
  refine AC.is0 ?_ ⟨8, rfl⟩ (.flat (k := 16) rfl .nil)
  refine AC.go Tryd.func160 rfl rfl ?_
  repeat' (first
  | refine GL.sf rfl rfl rfl rfl ?_
  | refine GL.done ?_
  | refine GP.thenN ?_
  | refine GT.seq ?_
  | refine GT.region ?_
  | refine GL.unguardG rfl rfl rfl ?_
  | refine GL.v rfl rfl rfl (by exact GO.call rfl rfl Tryd.func132 rfl rfl rfl (w_when132 _ _)) ?_
  | refine GT.ret ?_
  | (refine GL.forkDG rfl rfl rfl (fun h => ?_) (fun h => ?_) <;> try (exfalso; omega))
  | refine GP.endR1 rfl ?_)
  all_goals first | rfl | (rw [whenI_zero (by simp; omega)])
theorem w_size157 {A : AW} (n : Int) (h : 0 ≤ n ∧ n ≤ 3) : AC Tryd.prog 157 [.int .i64 n] A (isR (.int .i64 0) A) := by
  refine AC.is0 ?_ ⟨8, rfl⟩ (.flat (k := 8) rfl .nil)
  refine AC.go Tryd.func157 rfl rfl ?_
  repeat' (first
  | refine GL.sf rfl rfl rfl rfl ?_
  | refine GL.done ?_
  | refine GP.thenN ?_
  | refine GT.seq ?_
  | refine GT.region ?_
  | refine GL.v rfl rfl rfl (by exact GO.call rfl rfl Tryd.func99 rfl rfl rfl (w_within99ok _ _ _ h)) ?_
  | refine GT.ret ?_
  | refine GP.endR1 rfl ?_)
  rfl
theorem w_category158 {A : AW} (n : Int) (h : 1 ≤ n ∧ n ≤ 3) : AC Tryd.prog 158 [.int .i64 n] A (isR (.int .i64 0) A) := by
  refine AC.is0 ?_ ⟨8, rfl⟩ (.flat (k := 8) rfl .nil)
  refine AC.go Tryd.func158 rfl rfl ?_
  repeat' (first
  | refine GL.sf rfl rfl rfl rfl ?_
  | refine GL.done ?_
  | refine GP.thenN ?_
  | refine GT.seq ?_
  | refine GT.region ?_
  | refine GL.v rfl rfl rfl (by exact GO.call rfl rfl Tryd.func99 rfl rfl rfl (w_within99ok _ _ _ h)) ?_
  | refine GT.ret ?_
  | refine GP.endR1 rfl ?_)
  rfl
theorem w_point170 {A : AW} (x y : Int) (hx : In6 x) (hy : In6 y) : AC Tryd.prog 170 [.agg #[.int .i64 x, .int .i64 y]] A (isR (.int .i64 0) A) := by
  refine AC.is0 ?_ ⟨8, rfl⟩ (.flat (k := 16) rfl .nil)
  refine AC.go Tryd.func170 rfl rfl ?_
  repeat' (first
  | refine GT.draws (id := 1) [[], [0], [0, 1], [], [3], [0, 1, 2, 3, 4], [0, 1, 2, 3, 4, 5], [0, 1, 2, 3, 4, 5, 6], [0, 1, 2, 3, 4, 5, 6, 7]] [6] (by kernel_rfl) ?_
  | refine GL.sf rfl rfl rfl rfl ?_
  | refine GL.done ?_
  | refine GP.thenN ?_
  | refine GT.seq ?_
  | refine GT.region ?_
  | refine GD.li rfl rfl (by exact onAt.none rfl) rfl (by repeat first | exact AllG.nil rfl | refine AllG.cons rfl (by first | exact GO.sf rfl rfl | exact GO.call rfl rfl Tryd.func99 rfl rfl rfl (w_within99ok _ _ _ hx) | exact GO.call rfl rfl Tryd.func99 rfl rfl rfl (w_within99ok _ _ _ hy) | exact GO.call rfl rfl Tryd.func98 rfl rfl rfl (w_first98 [0, 0] rfl rfl rfl)) ?_) ?_
  | refine GD.he rfl rfl rfl (by exact onAt.none rfl) rfl (by exact GO.sf rfl rfl) ?_ ?_
  | refine GD.done rfl rfl rfl ?_
  | exact AllJs.nil rfl
  | refine GT.ret ?_
  | refine GP.endR1 rfl ?_)
  rfl
theorem w_box161 {A : AW} (lx ly hx hy : Int) (h : BoxOk lx ly hx hy) : AC Tryd.prog 161 [.agg #[.int .i64 lx, .int .i64 ly, .int .i64 hx, .int .i64 hy]] A (isR (.int .i64 0) A) := by
  obtain ⟨h1, h2, h3, h4, h5, h6⟩ := h
  have e : decide (hy < ly) = false := decide_eq_false (by omega)
  refine AC.is0 ?_ ⟨8, rfl⟩ (.flat (k := 32) rfl .nil)
  refine AC.go Tryd.func161 rfl rfl ?_
  repeat' (first
  | refine GT.draws (id := 1) [[], [0], [0, 1], [], [3], [0, 1, 2, 3, 4], [], [6], [6, 7], [], [9], [9, 10], [6, 7, 8, 9, 10, 11], [0, 1, 2, 3, 4, 5, 6, 7, 8, 9, 10, 11, 12], [0, 1, 2, 3, 4, 5, 6, 7, 8, 9, 10, 11, 12, 13], [0, 1, 2, 3, 4, 5, 6, 7, 8, 9, 10, 11, 12, 13, 14], [0, 1, 2, 3, 4, 5, 6, 7, 8, 9, 10, 11, 12, 13, 14, 15], [0, 1, 2, 3, 4, 5, 6, 7, 8, 9, 10, 11, 12, 13], [0, 1, 2, 3, 4, 5, 6, 7, 8, 9, 10, 11, 12, 13, 17], [0, 1, 2, 3, 4, 5, 6, 7, 8, 9, 10, 11, 12, 13, 17, 18], [0, 1, 2, 3, 4, 5, 6, 7, 8, 9, 10, 11, 12, 13, 14, 15, 16, 17, 18, 19], [0, 1, 2, 3, 4, 5, 6, 7, 8, 9, 10, 11, 12, 13, 14, 15, 16, 17, 18, 19, 20], [0, 1, 2, 3, 4, 5, 6, 7, 8, 9, 10, 11, 12, 13, 14, 15, 16, 17, 18, 19, 20, 21], [0, 1, 2, 3, 4, 5, 6, 7, 8, 9, 10, 11, 12, 13, 14, 15, 16, 17, 18, 19, 20, 21, 22], [0, 1, 2, 3, 4, 5, 6, 7, 8, 9, 10, 11, 12, 13, 14, 15, 16, 17, 18, 19, 20, 21, 22, 23], [0, 1, 2, 3, 4, 5, 6, 7, 8, 9, 10, 11, 12, 13, 14, 15, 16, 17, 18, 19, 20, 21, 22, 23, 24]] [23] (by kernel_rfl) ?_
  | refine GL.sf rfl rfl rfl rfl ?_
  | refine GL.done ?_
  | refine GP.thenN ?_
  | refine GT.seq ?_
  | refine GT.region ?_
  | refine GD.li rfl rfl (by first | exact onAt.none rfl | exact onAt.yes rfl rfl rfl) rfl (by repeat first | exact AllG.nil rfl | refine AllG.cons rfl (by first | exact GO.sf rfl rfl | exact GO.call rfl rfl Tryd.func170 rfl rfl rfl (w_point170 _ _ h1 h2) | exact GO.call rfl rfl Tryd.func170 rfl rfl rfl (w_point170 _ _ h3 h4) | exact GO.call rfl rfl Tryd.func132 rfl rfl rfl (w_when132 _ _) | exact GO.call rfl rfl Tryd.func98 rfl rfl rfl (w_first98 [0, 0, whenI (decide (hy < ly)) 11] rfl rfl rfl)) ?_) ?_
  | refine GD.he rfl rfl rfl (by exact onAt.none rfl) rfl (by exact GO.sf rfl rfl) ?_ ?_
  | refine GD.done rfl rfl rfl ?_
  | (refine GD.forkD rfl rfl rfl rfl (fun h => ?_) (fun h => ?_) <;> try (exfalso; omega))
  | exact AllJs.nil rfl
  | refine GT.ret ?_
  | refine GP.endR1 rfl ?_)
  all_goals (rw [e]; rfl)
theorem w_has101 {A : AW} (a b n : Int) : AC Tryd.prog 101 [.agg #[.int .i64 a, .int .i64 b], .int .i64 n] A (isR (.bool (decide (a ≤ n ∧ n < b))) A) := by
  refine AC.is0 ?_ ⟨8, rfl⟩ (.flat (k := 16) rfl (.flat (k := 8) rfl .nil))
  refine AC.go Tryd.func101 rfl rfl ?_
  repeat' (first
  | refine GL.sf rfl rfl rfl rfl ?_
  | refine GL.done ?_
  | refine GP.thenN ?_
  | refine GT.seq ?_
  | refine GT.region ?_
  | refine GL.unguardG rfl rfl rfl ?_
  | refine GL.skipG rfl rfl rfl rfl rfl ?_
  | refine GT.ret ?_
  | (refine GL.forkDG rfl rfl rfl (fun h => ?_) (fun h => ?_) <;> try (exfalso; omega))
  | refine GP.endR1 rfl ?_)
  all_goals simp [h]
theorem w_common154 {A : AW} (a b c d : Int) : AC Tryd.prog 154 [.agg #[.int .i64 a, .int .i64 b], .agg #[.int .i64 c, .int .i64 d]] A (isR (.bool (decide (a < d ∧ c < b))) A) := by
  refine AC.is0 ?_ ⟨8, rfl⟩ (.flat (k := 16) rfl (.flat (k := 16) rfl .nil))
  refine AC.go Tryd.func154 rfl rfl ?_
  repeat' (first
  | refine GL.sf rfl rfl rfl rfl ?_
  | refine GL.done ?_
  | refine GP.thenN ?_
  | refine GT.seq ?_
  | refine GT.region ?_
  | refine GL.unguardG rfl rfl rfl ?_
  | refine GL.skipG rfl rfl rfl rfl rfl ?_
  | refine GT.ret ?_
  | (refine GL.forkDG rfl rfl rfl (fun h => ?_) (fun h => ?_) <;> try (exfalso; omega))
  | refine GP.endR1 rfl ?_)
  all_goals simp [h]
theorem w_view107 {A : AW} (n : Int) (h : 0 ≤ n ∧ n ≤ 10000) : AC Tryd.prog 107 [.int .i64 n] A (isR (.int .i64 0) A) := by
  refine AC.is0 ?_ ⟨8, rfl⟩ (.flat (k := 8) rfl .nil)
  refine AC.go Tryd.func107 rfl rfl ?_
  repeat' (first
  | refine GL.sf rfl rfl rfl rfl ?_
  | refine GL.done ?_
  | refine GP.thenN ?_
  | refine GT.seq ?_
  | refine GT.region ?_
  | refine GL.v rfl rfl rfl (by exact GO.call rfl rfl Tryd.func135 rfl rfl rfl (w_within135ok _ _ _ h)) ?_
  | refine GT.ret ?_
  | refine GP.endR1 rfl ?_)
  rfl
/-- A rule. -/
def RuleOk (p e l m : Int) : Prop := (0 ≤ p ∧ p ≤ 10000) ∧ (0 ≤ e ∧ e ≤ 10000) ∧ (0 ≤ l ∧ l ≤ 10000) ∧ (1 ≤ m ∧ m ≤ 100) ∧ e ≤ p ∧ p ≤ l
theorem w_rule17 {A : AW} (p e l m : Int) : AC Tryd.prog 17 [.agg #[.int .i64 p, .int .i64 e, .int .i64 l, .int .i64 m]] A (fun v A1 => (∃ x, v = .int .i64 x ∧ (x = 0 → RuleOk p e l m)) ∧ A1 = A) := by
  have key : ∀ b : Bool, b = (decide (p < e) || decide (l < p)) → firstNZ [whenI (withinB p 0 10000) 3, whenI (withinB e 0 10000) 3, whenI (withinB l 0 10000) 3, whenI (withinB m 1 100) 3, whenI b 11] = 0 → RuleOk p e l m := fun b hb h => by
    have k := of_firstNZ h
    simp only [List.mem_cons, List.not_mem_nil, or_false, forall_eq_or_imp, forall_eq] at k
    obtain ⟨k1, k2, k3, k4, k5⟩ := k
    have k5 := of_whenI k5 (by decide)
    rw [hb] at k5
    simp at k5
    exact ⟨of_withinB (of_whenI k1 (by decide)), of_withinB (of_whenI k2 (by decide)), of_withinB (of_whenI k3 (by decide)), of_withinB (of_whenI k4 (by decide)), by omega, by omega⟩
  refine AC.pure0 (R := fun v => ∃ x, v = .int .i64 x ∧ (x = 0 → RuleOk p e l m)) ?_ (.flat (k := 32) rfl .nil)
  refine AC.go Tryd.func17 rfl rfl ?_
  repeat' (first
  | refine GT.draws (id := 1) [[], [0], [0, 1], [], [3], [0, 1, 2, 3, 4], [], [6], [0, 1, 2, 3, 4, 5, 6, 7], [], [9], [0, 1, 2, 3, 4, 5, 6, 7, 8, 9, 10], [], [12], [], [14], [12, 13, 14, 15], [0, 1, 2, 3, 4, 5, 6, 7, 8, 9, 10, 11, 12, 13, 14, 15, 16], [0, 1, 2, 3, 4, 5, 6, 7, 8, 9, 10, 11, 12, 13, 14, 15, 16, 17], [0, 1, 2, 3, 4, 5, 6, 7, 8, 9, 10, 11, 12, 13, 14, 15, 16, 17, 18], [0, 1, 2, 3, 4, 5, 6, 7, 8, 9, 10, 11, 12, 13, 14, 15, 16, 17], [0, 1, 2, 3, 4, 5, 6, 7, 8, 9, 10, 11, 12, 13, 14, 15, 16, 17, 20], [0, 1, 2, 3, 4, 5, 6, 7, 8, 9, 10, 11, 12, 13, 14, 15, 16, 17, 18, 19, 20, 21], [0, 1, 2, 3, 4, 5, 6, 7, 8, 9, 10, 11, 12, 13, 14, 15, 16, 17, 18, 19, 20, 21, 22], [0, 1, 2, 3, 4, 5, 6, 7, 8, 9, 10, 11, 12, 13, 14, 15, 16, 17, 18, 19, 20, 21, 22, 23], [0, 1, 2, 3, 4, 5, 6, 7, 8, 9, 10, 11, 12, 13, 14, 15, 16, 17, 18, 19, 20, 21, 22, 23, 24], [0, 1, 2, 3, 4, 5, 6, 7, 8, 9, 10, 11, 12, 13, 14, 15, 16, 17, 18, 19, 20, 21, 22, 23, 24, 25], [0, 1, 2, 3, 4, 5, 6, 7, 8, 9, 10, 11, 12, 13, 14, 15, 16, 17, 18, 19, 20, 21, 22, 23, 24, 25, 26]] [25] (by kernel_rfl) ?_
  | refine GL.sf rfl rfl rfl rfl ?_
  | refine GL.done ?_
  | refine GP.thenN ?_
  | refine GT.seq ?_
  | refine GT.region ?_
  | refine GD.li rfl rfl (by first | exact onAt.none rfl | exact onAt.yes rfl rfl rfl) rfl (by repeat first | exact AllG.nil rfl | refine AllG.cons rfl (by first | exact GO.sf rfl rfl | exact GO.call rfl rfl Tryd.func59 rfl rfl rfl (d_within59 _ _ _) | exact GO.call rfl rfl Tryd.func55 rfl rfl rfl (d_when55 _ _) | exact GO.call rfl rfl Tryd.func53 rfl rfl rfl (d_first53 [whenI (withinB p 0 10000) 3, whenI (withinB e 0 10000) 3, whenI (withinB l 0 10000) 3, whenI (withinB m 1 100) 3, whenI true 11] rfl rfl rfl) | exact GO.call rfl rfl Tryd.func53 rfl rfl rfl (d_first53 [whenI (withinB p 0 10000) 3, whenI (withinB e 0 10000) 3, whenI (withinB l 0 10000) 3, whenI (withinB m 1 100) 3, whenI (decide (l < p)) 11] rfl rfl rfl)) ?_) ?_
  | refine GD.off rfl rfl rfl rfl rfl (by exact .inl rfl) rfl ?_
  | refine GD.he rfl rfl rfl (by exact onAt.none rfl) rfl (by exact GO.sf rfl rfl) ?_ ?_
  | refine GD.done rfl rfl rfl ?_
  | (refine GD.forkD rfl rfl rfl rfl (fun h => ?_) (fun h => ?_) <;> try (exfalso; omega))
  | exact AllJs.nil rfl
  | refine GT.ret ?_
  | refine GP.endR1 rfl ?_)
  · exact ⟨⟨_, rfl, key true (by simp [h])⟩, 8, rfl⟩
  · exact ⟨⟨_, rfl, key (decide (l < p)) (by simp [h])⟩, 8, rfl⟩
theorem w_rule103 {A : AW} (p e l m : Int) (h : RuleOk p e l m) : AC Tryd.prog 103 [.agg #[.int .i64 p, .int .i64 e, .int .i64 l, .int .i64 m]] A (isR (.int .i64 0) A) := by
  obtain ⟨h1, h2, h3, h4, h5, h6⟩ := h
  have e1 : decide (l < p) = false := decide_eq_false (by omega)
  refine AC.is0 ?_ ⟨8, rfl⟩ (.flat (k := 32) rfl .nil)
  refine AC.go Tryd.func103 rfl rfl ?_
  repeat' (first
  | refine GT.draws (id := 1) [[], [0], [0, 1], [], [3], [0, 1, 2, 3, 4], [], [6], [0, 1, 2, 3, 4, 5, 6, 7], [], [9], [0, 1, 2, 3, 4, 5, 6, 7, 8, 9, 10], [], [12], [], [14], [12, 13, 14, 15], [0, 1, 2, 3, 4, 5, 6, 7, 8, 9, 10, 11, 12, 13, 14, 15, 16], [0, 1, 2, 3, 4, 5, 6, 7, 8, 9, 10, 11, 12, 13, 14, 15, 16, 17], [0, 1, 2, 3, 4, 5, 6, 7, 8, 9, 10, 11, 12, 13, 14, 15, 16, 17, 18], [0, 1, 2, 3, 4, 5, 6, 7, 8, 9, 10, 11, 12, 13, 14, 15, 16, 17], [0, 1, 2, 3, 4, 5, 6, 7, 8, 9, 10, 11, 12, 13, 14, 15, 16, 17, 20], [0, 1, 2, 3, 4, 5, 6, 7, 8, 9, 10, 11, 12, 13, 14, 15, 16, 17, 18, 19, 20, 21], [0, 1, 2, 3, 4, 5, 6, 7, 8, 9, 10, 11, 12, 13, 14, 15, 16, 17, 18, 19, 20, 21, 22], [0, 1, 2, 3, 4, 5, 6, 7, 8, 9, 10, 11, 12, 13, 14, 15, 16, 17, 18, 19, 20, 21, 22, 23], [0, 1, 2, 3, 4, 5, 6, 7, 8, 9, 10, 11, 12, 13, 14, 15, 16, 17, 18, 19, 20, 21, 22, 23, 24], [0, 1, 2, 3, 4, 5, 6, 7, 8, 9, 10, 11, 12, 13, 14, 15, 16, 17, 18, 19, 20, 21, 22, 23, 24, 25], [0, 1, 2, 3, 4, 5, 6, 7, 8, 9, 10, 11, 12, 13, 14, 15, 16, 17, 18, 19, 20, 21, 22, 23, 24, 25, 26]] [25] (by kernel_rfl) ?_
  | refine GL.sf rfl rfl rfl rfl ?_
  | refine GL.done ?_
  | refine GP.thenN ?_
  | refine GT.seq ?_
  | refine GT.region ?_
  | refine GD.li rfl rfl (by first | exact onAt.none rfl | exact onAt.yes rfl rfl rfl) rfl (by repeat first | exact AllG.nil rfl | refine AllG.cons rfl (by first | exact GO.sf rfl rfl | exact GO.call rfl rfl Tryd.func107 rfl rfl rfl (w_view107 _ h1) | exact GO.call rfl rfl Tryd.func107 rfl rfl rfl (w_view107 _ h2) | exact GO.call rfl rfl Tryd.func107 rfl rfl rfl (w_view107 _ h3) | exact GO.call rfl rfl Tryd.func135 rfl rfl rfl (w_within135ok _ _ _ h4) | exact GO.call rfl rfl Tryd.func104 rfl rfl rfl (w_when104 _ _) | exact GO.call rfl rfl Tryd.func102 rfl rfl rfl (w_first102 [0, 0, 0, 0, whenI (decide (l < p)) 11] rfl rfl rfl)) ?_) ?_
  | refine GD.he rfl rfl rfl (by exact onAt.none rfl) rfl (by exact GO.sf rfl rfl) ?_ ?_
  | refine GD.done rfl rfl rfl ?_
  | (refine GD.forkD rfl rfl rfl rfl (fun h => ?_) (fun h => ?_) <;> try (exfalso; omega))
  | exact AllJs.nil rfl
  | refine GT.ret ?_
  | refine GP.endR1 rfl ?_)
  all_goals (rw [e1]; rfl)
theorem GO.remE {P : Program} {n : Nat} {a : AEnv} {o : Oper} {L : LM} {nx ro gl : Nat} {t t2 : TypeId} {X Y : Operand} {i j r : Int} {k : IntKind} (ho : o.op = .binOp .rem t X Y t2) (hx : aev gl a X = some (.int k i)) (hy : aev gl a Y = some (.int k j)) (h1 : 0 < j) (h2 : 0 ≤ i) (hr : i % j = r) : GO P n o a L nx ro gl (isR (.int k r) (AW.of L nx ro gl)) := by
  subst hr
  exact GO.rem ho hx hy h1 h2
end Go.M
