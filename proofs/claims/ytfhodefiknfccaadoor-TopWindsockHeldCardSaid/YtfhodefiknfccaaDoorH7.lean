/- Functions of the given program, walked (no condition beyond what each theorem says). -/
import Derived.Test.YtfhodefiknfccaaDoorH3
set_option linter.unusedVariables false
set_option linter.unusedSimpArgs false
namespace Go.M
open Go.Proofs Go.RowKit
set_option maxRecDepth 8000
set_option maxHeartbeats 8000000
/-- The function value that tells whether a point is beyond the side. -/
abbrev sepV (b1 b2 : Nat) : Value := .func (.func 166) #[] #[.pointer (some ⟨b1, 0, none⟩), .pointer (some ⟨b2, 0, none⟩)]
theorem w_sep166 {A : AW} {x c b1 b2 : Nat} (ps : Pts) (i : Nat) (p : Int × Int) (hp : PolyOk ps) (hi : i < ps.length) (h6 : In6 p.1 ∧ In6 p.2) (hx : A.rd x 0 (ptC ps).length = some (ptC ps)) (e1 : A.rd b1 0 1 = some [.slice (some ⟨x, 0, none⟩) ps.length c]) (e2 : A.rd b2 0 1 = some [.int .i64 (i : Int)]) :
    AC Tryd.prog 166 [.agg #[.int .i64 p.1, .int .i64 p.2], .pointer (some ⟨b1, 0, none⟩), .pointer (some ⟨b2, 0, none⟩)] A (isR (.bool (decide (crS ps i p < 0))) A) := by
  obtain ⟨fz, hfz⟩ := ptC_flat ps
  have hlen := ptC_len ps
  have hn := hp.len
  have m1 := mod_lt (i := i + 1) (show 0 < ps.length by omega)
  have r1 : ((i : Int) + 1) % (ps.length : Int) = (((i + 1) % ps.length : Nat) : Int) := modI (by omega) (by omega)
  have kx := fun {A : AW} => w_cross167 (A := A) (pt ps i).1 (pt ps i).2 (pt ps ((i + 1) % ps.length)).1 (pt ps ((i + 1) % ps.length)).2 p.1 p.2 (hp.in6 i hi).1 (hp.in6 i hi).2 (hp.in6 _ m1).1 (hp.in6 _ m1).2 h6.1 h6.2
  refine AC.isX (((SmallX.nil.cons (k := 0) (b := x) (f := 0) (o := .cells (ptC ps) 97) (.flat hx hfz)).cons (b := b1) (f := 0) (o := .cells [.slice (some ⟨0, 0, none⟩) ps.length c] 149) ⟨_, e1, .sl rfl rfl .nil⟩).cons (b := b2) (f := 0) (o := .cells [.int .i64 (i : Int)] 3) (.flat (k := 8) e2 rfl))
    (args := [.agg #[.int .i64 p.1, .int .i64 p.2], .pointer (some ⟨1, 0, none⟩), .pointer (some ⟨2, 0, none⟩)]) ?_ ⟨8, rfl⟩ (.flat (k := 16) rfl (.ptr (f := 0) rfl rfl (.ptr (f := 0) rfl rfl .nil)))
  refine AC.go Tryd.func166 rfl rfl ?_
  clear hx e1 e2
  unfold crS
  generalize hj1 : (i + 1) % ps.length = j1 at *
  have g2 : ((ptC ps).drop (0 + (i : Int).toNat * 2)).take 2 = [.int .i64 (pt ps i).1, .int .i64 (pt ps i).2] := by simpa using pt_two hi
  have g3 : ((ptC ps).drop (0 + (j1 : Int).toNat * 2)).take 2 = [.int .i64 (pt ps j1).1, .int .i64 (pt ps j1).2] := by simpa using pt_two m1
  repeat' (first
  | refine GT.draws (id := 1) [[], [], [0, 1], [0, 1, 2], [], [], [5], [], [7], [5, 6, 7, 8], [4, 5, 6, 7, 8, 9], [4, 5, 6, 7, 8, 9, 10], [], [0, 1, 2, 3, 4, 5, 6, 7, 8, 9, 10, 11, 12], [0, 1, 2, 3, 4, 5, 6, 7, 8, 9, 10, 11, 12, 13], [0, 1, 2, 3, 4, 5, 6, 7, 8, 9, 10, 11, 12, 13, 14]] [] (by kernel_rfl) ?_
  | refine GL.sf rfl rfl rfl rfl ?_
  | refine GL.done ?_
  | refine GP.thenN ?_
  | refine GT.seq ?_
  | refine GT.region ?_
  | refine GD.li rfl rfl (by exact onAt.none rfl) rfl (by repeat first | exact AllG.nil rfl | refine AllG.cons rfl (by first | exact GO.sf rfl rfl | exact GO.sv rfl rfl | exact GO.remE rfl rfl rfl (by omega) (by omega) r1 | exact GO.indexS (s := 2) rfl rfl rfl rfl rfl (by omega) | exact GO.loadG (s := 2) rfl rfl rfl rfl rfl rfl (by omega) g2 | exact GO.loadG (s := 2) rfl rfl rfl rfl rfl rfl (by omega) g3 | exact GO.call rfl rfl Tryd.func167 rfl rfl rfl (kx) | exact GO.add rfl rfl rfl (by omega)) ?_) ?_
  | refine GD.done rfl rfl rfl ?_
  | refine GT.ret ?_
  | refine GP.endR1 rfl ?_)
  rfl
/-- The memory: a list of points, the polygon, the boxes of its slice and of the index, the function. -/
abbrev SepM (cs ps : Pts) (i c : Nat) : LM := [(4, .cells [sepV 2 3] 270), (3, .cells [.int .i64 (i : Int)] 3), (2, .cells [.slice (some ⟨1, 0, none⟩) ps.length c] 149), (1, .cells (ptC ps) 97), (0, .cells (ptC cs) 97)]
def SepRho (y x b1 b2 b3 : Nat) : Nat → Option (Nat × Nat) := onto 4 b3 0 (onto 3 b2 0 (onto 2 b1 0 (onto 1 x 0 (onto 0 y 0 (fun _ => none)))))
theorem sep_small {A : AW} {y x b1 b2 b3 c : Nat} (cs ps : Pts) (i : Nat) (hy : A.rd y 0 (ptC cs).length = some (ptC cs)) (hx : A.rd x 0 (ptC ps).length = some (ptC ps)) (e1 : A.rd b1 0 1 = some [.slice (some ⟨x, 0, none⟩) ps.length c]) (e2 : A.rd b2 0 1 = some [.int .i64 (i : Int)]) (e3 : A.rd b3 0 1 = some [sepV b1 b2]) :
    SmallX A (SepM cs ps i c) 5 0 (SepRho y x b1 b2 b3) := by
  obtain ⟨fz, hfz⟩ := ptC_flat ps
  obtain ⟨fy, hfy⟩ := ptC_flat cs
  exact ((((SmallX.nil.cons (k := 0) (b := y) (f := 0) (o := .cells (ptC cs) 97) (.flat hy hfy)).cons (b := x) (f := 0) (o := .cells (ptC ps) 97) (.flat hx hfz)).cons (b := b1) (f := 0) (o := .cells [.slice (some ⟨1, 0, none⟩) ps.length c] 149) ⟨_, e1, .sl rfl rfl .nil⟩).cons (b := b2) (f := 0) (o := .cells [.int .i64 (i : Int)] 3) (.flat (k := 8) e2 rfl)).cons (b := b3) (f := 0) (o := .cells [sepV 2 3] 270) ⟨_, e3, .func (by intro l h; cases h) .nil (.ptr (f := 0) (g := 0) rfl rfl (.ptr (f := 0) (g := 0) rfl rfl .nil)) .nil⟩
theorem w_not174s {A : AW} {x b1 b2 b3 c : Nat} (ps : Pts) (i : Nat) (p : Int × Int) (hp : PolyOk ps) (hi : i < ps.length) (h6 : In6 p.1 ∧ In6 p.2) (hx : A.rd x 0 (ptC ps).length = some (ptC ps)) (e1 : A.rd b1 0 1 = some [.slice (some ⟨x, 0, none⟩) ps.length c]) (e2 : A.rd b2 0 1 = some [.int .i64 (i : Int)]) (e3 : A.rd b3 0 1 = some [sepV b1 b2]) :
    AC Tryd.prog 174 [.agg #[.int .i64 p.1, .int .i64 p.2], .pointer (some ⟨b3, 0, none⟩)] A (isR (.bool (!decide (crS ps i p < 0))) A) := by
  refine AC.isX (sep_small [] ps i (y := x) (by
    have h := hx
    unfold AW.rd at h ⊢
    split at h
    · simp [ptC]
    · cases h) hx e1 e2 e3) (args := [.agg #[.int .i64 p.1, .int .i64 p.2], .pointer (some ⟨4, 0, none⟩)]) ?_ ⟨8, rfl⟩ (.flat (k := 16) rfl (.ptr (f := 0) rfl rfl .nil))
  refine AC.go Tryd.func174 rfl rfl ?_
  clear hx e1 e2 e3
  repeat' (first
  | refine GL.sf rfl rfl rfl rfl ?_
  | refine GL.done ?_
  | refine GP.thenN ?_
  | refine GT.seq ?_
  | refine GT.region ?_
  | refine GL.v rfl rfl rfl (by exact GO.callV rfl rfl rfl Tryd.func166 rfl rfl rfl (w_sep166 ps i p hp hi h6 (rd_self rfl) rfl rfl)) ?_
  | refine GT.ret ?_
  | refine GP.endR1 rfl ?_)
  rfl
theorem w_index175s {A : AW} {y x b1 b2 b3 c cc : Nat} (cs ps : Pts) (i : Nat) (hp : PolyOk ps) (hi : i < ps.length) (hcl : cs.length ≤ 1000) (h6 : ∀ k, k < cs.length → In6 (pt cs k).1 ∧ In6 (pt cs k).2) (hy : A.rd y 0 (ptC cs).length = some (ptC cs)) (hx : A.rd x 0 (ptC ps).length = some (ptC ps)) (e1 : A.rd b1 0 1 = some [.slice (some ⟨x, 0, none⟩) ps.length c]) (e2 : A.rd b2 0 1 = some [.int .i64 (i : Int)]) (e3 : A.rd b3 0 1 = some [sepV b1 b2]) :
    AC Tryd.prog 175 [.slice (some ⟨y, 0, none⟩) cs.length cc, .func (.func 174) #[] #[.pointer (some ⟨b3, 0, none⟩)]] A (fun v A1 => (∃ e : Int, v = .int .i64 e ∧ decide (0 ≤ e) = cs.any fun p => !decide (crS ps i p < 0)) ∧ A1 = A) := by
  have hlen := ptC_len cs
  refine AC.pureX (R := fun v => ∃ e : Int, v = .int .i64 e ∧ decide (0 ≤ e) = cs.any fun p => !decide (crS ps i p < 0)) (sep_small cs ps i hy hx e1 e2 e3) (args := [.slice (some ⟨0, 0, none⟩) cs.length cc, .func (.func 174) #[] #[.pointer (some ⟨4, 0, none⟩)]]) (AC.mono (R := fun v _ => ∃ e : Int, v = .int .i64 e ∧ decide (0 ≤ e) = cs.any fun p => !decide (crS ps i p < 0)) ?_ (fun v _ ⟨k, e, h⟩ => ⟨⟨k, e, h⟩, by subst e; exact ⟨8, rfl⟩⟩)) (.sl rfl rfl (.func (by intro l h; cases h) .nil (.ptr (f := 0) (g := 0) rfl rfl .nil) .nil))
  refine AC.go Tryd.func175 rfl rfl ?_
  clear hy hx e1 e2 e3
  repeat' (first
  | refine GL.sf rfl rfl rfl rfl ?_
  | refine GL.sv rfl rfl rfl rfl ?_
  | refine GL.done ?_
  | refine GP.thenN ?_
  | refine GT.seq ?_
  | refine GT.region ?_
  | refine GT.block ?_)
  refine GT.loop (fun q a L nx => ∃ k : Nat, k ≤ cs.length ∧ q = cs.length - k ∧ (∀ j, j < k → crS ps i (pt cs j) < 0) ∧ asub [(0, .slice (some ⟨0, 0, none⟩) cs.length cc), (1, .func (.func 174) #[] #[.pointer (some ⟨4, 0, none⟩)]), (7, .int .i64 cs.length), (8, .int .i64 k)] a ∧ L = SepM cs ps i c ∧ nx = 5) cs.length
    ⟨0, by omega, by omega, fun j h => by omega, asub_cons rfl (asub_cons rfl (asub_cons rfl (asub_cons rfl asub_nil))), rfl, rfl⟩ ?_
  rintro q a L nx ⟨k, hk, rfl, hz, hs, rfl, rfl⟩
  refine GT.keep hs ?_
  clear hs
  rcases Nat.lt_or_ge k cs.length with hkl | hkg
  · have gk : ((ptC cs).drop (0 + (k : Int).toNat * 2)).take 2 = [.int .i64 (pt cs k).1, .int .i64 (pt cs k).2] := by simpa using pt_two hkl
    by_cases hc : crS ps i (pt cs k) < 0
    · have kn := fun {A : AW} {x b1 b2 b3 c : Nat} hx e1 e2 e3 => w_not174s (A := A) (x := x) (b1 := b1) (b2 := b2) (b3 := b3) (c := c) ps i (pt cs k) hp hi (h6 k hkl) hx e1 e2 e3
      rw [decide_eq_true hc] at kn
      repeat' (first
      | refine GL.sf rfl rfl rfl rfl ?_
      | refine GL.done ?_
      | refine GP.thenN ?_
      | refine GT.seq ?_
      | refine GT.region ?_
      | refine GL.v rfl rfl rfl (by first | exact GO.indexS (s := 2) rfl rfl rfl rfl rfl (by omega) | exact GO.loadG (s := 2) rfl rfl rfl rfl rfl rfl (by omega) gk | exact GO.callV rfl rfl rfl Tryd.func174 rfl rfl rfl (kn (rd_self rfl) rfl rfl rfl) | exact GO.add rfl rfl rfl (by omega)) ?_
      | refine GT.skip ?_
      | refine GT.block ?_
      | refine GP.inN ?_
      | refine GT.condF rfl ?_
      | (refine GT.condD rfl (fun h => ?_) (fun h => ?_) <;> try (exfalso; omega)))
      exact GP.invN (cs.length - (k + 1)) (by omega) ⟨k + 1, by omega, rfl, (fun j hj => by
        rcases Nat.lt_or_ge j k with q | q
        · exact hz j q
        · obtain rfl : j = k := by omega
          exact hc), asub_cons rfl (asub_cons rfl (asub_cons rfl (asub_cons rfl asub_nil))), rfl, rfl⟩
    · have kn := fun {A : AW} {x b1 b2 b3 c : Nat} hx e1 e2 e3 => w_not174s (A := A) (x := x) (b1 := b1) (b2 := b2) (b3 := b3) (c := c) ps i (pt cs k) hp hi (h6 k hkl) hx e1 e2 e3
      rw [decide_eq_false hc] at kn
      repeat' (first
      | refine GL.sf rfl rfl rfl rfl ?_
      | refine GL.done ?_
      | refine GP.thenN ?_
      | refine GT.seq ?_
      | refine GT.region ?_
      | refine GL.v rfl rfl rfl (by first | exact GO.indexS (s := 2) rfl rfl rfl rfl rfl (by omega) | exact GO.loadG (s := 2) rfl rfl rfl rfl rfl rfl (by omega) gk | exact GO.callV rfl rfl rfl Tryd.func174 rfl rfl rfl (kn (rd_self rfl) rfl rfl rfl)) ?_
      | refine GT.skip ?_
      | refine GT.block ?_
      | refine GT.ret ?_
      | refine GP.thenR ?_
      | refine GP.inR ?_
      | refine GP.invR ?_
      | refine GT.condT rfl ?_
      | (refine GT.condD rfl (fun h => ?_) (fun h => ?_) <;> try (exfalso; omega))
      | refine GP.endR1 rfl ?_)
      refine ⟨_, rfl, ?_⟩
      rw [decide_eq_true (by omega)]
      exact (List.any_eq_true.2 ⟨pt cs k, List.mem_of_getElem? (pt_at hkl), by rw [decide_eq_false hc]; rfl⟩).symm
  ·
    repeat' (first
    | refine GL.sf rfl rfl rfl rfl ?_
    | refine GL.done ?_
    | refine GP.thenN ?_
    | refine GT.seq ?_
    | refine GT.region ?_
    | refine GT.ret ?_
    | refine GT.exit ?_
    | refine GP.thenE ?_
    | refine GP.hit ?_
    | refine GP.invE ?_
    | (refine GT.condD rfl (fun h => ?_) (fun h => ?_) <;> try (exfalso; omega))
    | refine GP.endR1 rfl ?_)
    refine ⟨-1, rfl, ?_⟩
    rw [decide_eq_false (by omega)]
    symm
    rw [List.any_eq_false]
    intro p hpm
    obtain ⟨j, hj⟩ := List.getElem?_of_mem hpm
    have hjl := (List.getElem?_eq_some_iff.1 hj).1
    rw [pt_at hjl] at hj
    cases hj
    rw [decide_eq_true (hz j (by omega))]; decide
theorem w_contains172s {A : AW} {y x b1 b2 b3 c cc : Nat} (cs ps : Pts) (i : Nat) (hp : PolyOk ps) (hi : i < ps.length) (hcl : cs.length ≤ 1000) (h6 : ∀ k, k < cs.length → In6 (pt cs k).1 ∧ In6 (pt cs k).2) (hy : A.rd y 0 (ptC cs).length = some (ptC cs)) (hx : A.rd x 0 (ptC ps).length = some (ptC ps)) (e1 : A.rd b1 0 1 = some [.slice (some ⟨x, 0, none⟩) ps.length c]) (e2 : A.rd b2 0 1 = some [.int .i64 (i : Int)]) (e3 : A.rd b3 0 1 = some [sepV b1 b2]) :
    AC Tryd.prog 172 [.slice (some ⟨y, 0, none⟩) cs.length cc, .func (.func 174) #[] #[.pointer (some ⟨b3, 0, none⟩)]] A (isR (.bool (cs.any fun p => !decide (crS ps i p < 0))) A) := by
  refine AC.isX (sep_small cs ps i hy hx e1 e2 e3) (args := [.slice (some ⟨0, 0, none⟩) cs.length cc, .func (.func 174) #[] #[.pointer (some ⟨4, 0, none⟩)]]) ?_ ⟨8, rfl⟩ (.sl rfl rfl (.func (by intro l h; cases h) .nil (.ptr (f := 0) (g := 0) rfl rfl .nil) .nil))
  refine AC.go Tryd.func172 rfl rfl ?_
  clear hy hx e1 e2 e3
  repeat' (first
  | (refine GL.any rfl rfl rfl (GO.call rfl rfl Tryd.func175 rfl rfl rfl (w_index175s cs ps i hp hi hcl h6 (rd_self rfl) (rd_self rfl) rfl rfl rfl)) ?_; rintro v A1 ⟨⟨e, rfl, he⟩, rfl⟩; refine ⟨_, _, rfl, ?_⟩)
  | refine GL.sf rfl rfl rfl rfl ?_
  | refine GL.done ?_
  | refine GP.thenN ?_
  | refine GT.seq ?_
  | refine GT.region ?_
  | refine GT.ret ?_
  | refine GP.endR1 rfl ?_)
  rw [he]
/-- Are all points of a list beyond the side? -/
theorem w_all164s {A : AW} {y x b1 b2 c cc : Nat} (cs ps : Pts) (i : Nat) (hp : PolyOk ps) (hi : i < ps.length) (hcl : cs.length ≤ 1000) (h6 : ∀ k, k < cs.length → In6 (pt cs k).1 ∧ In6 (pt cs k).2) (hy : A.rd y 0 (ptC cs).length = some (ptC cs)) (hx : A.rd x 0 (ptC ps).length = some (ptC ps)) (e1 : A.rd b1 0 1 = some [.slice (some ⟨x, 0, none⟩) ps.length c]) (e2 : A.rd b2 0 1 = some [.int .i64 (i : Int)]) :
    AC Tryd.prog 164 [.slice (some ⟨y, 0, none⟩) cs.length cc, sepV b1 b2] A (isR (.bool (cs.all fun p => decide (crS ps i p < 0))) A) := by
  obtain ⟨fz, hfz⟩ := ptC_flat ps
  obtain ⟨fy, hfy⟩ := ptC_flat cs
  refine AC.isX ((((SmallX.nil.cons (k := 0) (b := y) (f := 0) (o := .cells (ptC cs) 97) (.flat hy hfy)).cons (b := x) (f := 0) (o := .cells (ptC ps) 97) (.flat hx hfz)).cons (b := b1) (f := 0) (o := .cells [.slice (some ⟨1, 0, none⟩) ps.length c] 149) ⟨_, e1, .sl rfl rfl .nil⟩).cons (b := b2) (f := 0) (o := .cells [.int .i64 (i : Int)] 3) (.flat (k := 8) e2 rfl))
    (args := [.slice (some ⟨0, 0, none⟩) cs.length cc, sepV 2 3]) ?_ ⟨8, rfl⟩ (.sl rfl rfl (.func (by intro l h; cases h) .nil (.ptr (f := 0) (g := 0) rfl rfl (.ptr (f := 0) (g := 0) rfl rfl .nil)) .nil))
  refine AC.go Tryd.func164 rfl rfl ?_
  clear hy hx e1 e2
  repeat' (first
  | refine GL.sf rfl rfl rfl rfl ?_
  | refine GL.done ?_
  | refine GP.thenN ?_
  | refine GT.seq ?_
  | refine GT.region ?_
  | refine GL.v rfl rfl rfl (by first | exact GO.call rfl rfl Tryd.func172 rfl rfl rfl (w_contains172s cs ps i hp hi hcl h6 (rd_self rfl) (rd_self rfl) rfl rfl rfl) | exact GO.mkfn rfl (fun _ h => by cases h) rfl rfl) ?_
  | refine GT.ret ?_
  | refine GP.endR1 rfl ?_)
  rw [List.any_eq_not_all_not]
  simp
end Go.M
namespace Go.M
open Go.Proofs Go.RowKit
set_option maxRecDepth 8000
set_option maxHeartbeats 8000000
structure Bx where
  lx : Int
  ly : Int
  hx : Int
  hy : Int
abbrev Bx.vs (b : Bx) : List Value := [.int .i64 b.lx, .int .i64 b.ly, .int .i64 b.hx, .int .i64 b.hy]
/-- Is a point beyond the k-th side of a box? -/
def sdB (b : Bx) (k : Nat) (p : Int × Int) : Bool := match k with
  | 0 => decide (p.1 < b.lx)
  | 1 => decide (b.hx < p.1)
  | 2 => decide (p.2 < b.ly)
  | _ => decide (b.hy < p.2)
theorem w_side197 {A : AW} (b : Bx) (p : Int × Int) : AC Tryd.prog 197 [.agg b.vs.toArray, .agg #[.int .i64 p.1, .int .i64 p.2]] A (isR (.bool (sdB b 0 p)) A) := by
  refine AC.is0 ?_ ⟨8, rfl⟩ (.flat (k := 32) rfl (.flat (k := 16) rfl .nil))
  refine AC.go Tryd.func197 rfl rfl ?_
  repeat' (first
  | refine GL.sf rfl rfl rfl rfl ?_
  | refine GL.done ?_
  | refine GP.thenN ?_
  | refine GT.seq ?_
  | refine GT.region ?_
  | refine GT.ret ?_
  | refine GP.endR1 rfl ?_)
  rfl
theorem w_side198 {A : AW} (b : Bx) (p : Int × Int) : AC Tryd.prog 198 [.agg b.vs.toArray, .agg #[.int .i64 p.1, .int .i64 p.2]] A (isR (.bool (sdB b 1 p)) A) := by
  refine AC.is0 ?_ ⟨8, rfl⟩ (.flat (k := 32) rfl (.flat (k := 16) rfl .nil))
  refine AC.go Tryd.func198 rfl rfl ?_
  repeat' (first
  | refine GL.sf rfl rfl rfl rfl ?_
  | refine GL.done ?_
  | refine GP.thenN ?_
  | refine GT.seq ?_
  | refine GT.region ?_
  | refine GT.ret ?_
  | refine GP.endR1 rfl ?_)
  rfl
theorem w_side199 {A : AW} (b : Bx) (p : Int × Int) : AC Tryd.prog 199 [.agg b.vs.toArray, .agg #[.int .i64 p.1, .int .i64 p.2]] A (isR (.bool (sdB b 2 p)) A) := by
  refine AC.is0 ?_ ⟨8, rfl⟩ (.flat (k := 32) rfl (.flat (k := 16) rfl .nil))
  refine AC.go Tryd.func199 rfl rfl ?_
  repeat' (first
  | refine GL.sf rfl rfl rfl rfl ?_
  | refine GL.done ?_
  | refine GP.thenN ?_
  | refine GT.seq ?_
  | refine GT.region ?_
  | refine GT.ret ?_
  | refine GP.endR1 rfl ?_)
  rfl
theorem w_side200 {A : AW} (b : Bx) (p : Int × Int) : AC Tryd.prog 200 [.agg b.vs.toArray, .agg #[.int .i64 p.1, .int .i64 p.2]] A (isR (.bool (sdB b 3 p)) A) := by
  refine AC.is0 ?_ ⟨8, rfl⟩ (.flat (k := 32) rfl (.flat (k := 16) rfl .nil))
  refine AC.go Tryd.func200 rfl rfl ?_
  repeat' (first
  | refine GL.sf rfl rfl rfl rfl ?_
  | refine GL.done ?_
  | refine GP.thenN ?_
  | refine GT.seq ?_
  | refine GT.region ?_
  | refine GT.ret ?_
  | refine GP.endR1 rfl ?_)
  rfl
abbrev sdF (k : Nat) : Value := .func (.func (197 + k)) #[] #[]
abbrev sdV (b1 b2 : Nat) : Value := .func (.func 168) #[] #[.pointer (some ⟨b1, 0, none⟩), .pointer (some ⟨b2, 0, none⟩)]
theorem w_side168 {A : AW} {b1 b2 : Nat} (b : Bx) (k : Nat) (hk : k < 4) (p : Int × Int) (e1 : A.rd b1 0 1 = some [sdF k]) (e2 : A.rd b2 0 4 = some b.vs) :
    AC Tryd.prog 168 [.agg #[.int .i64 p.1, .int .i64 p.2], .pointer (some ⟨b1, 0, none⟩), .pointer (some ⟨b2, 0, none⟩)] A (isR (.bool (sdB b k p)) A) := by
  refine AC.isX ((SmallX.nil.cons (k := 0) (b := b2) (f := 0) (o := .cells b.vs 99) (.flat (k := 8) e2 rfl)).cons (b := b1) (f := 0) (o := .cells [sdF k] 273) (.flat (k := 8) e1 rfl))
    (args := [.agg #[.int .i64 p.1, .int .i64 p.2], .pointer (some ⟨1, 0, none⟩), .pointer (some ⟨0, 0, none⟩)]) ?_ ⟨8, rfl⟩ (.flat (k := 16) rfl (.ptr (f := 0) rfl rfl (.ptr (f := 0) rfl rfl .nil)))
  refine AC.go Tryd.func168 rfl rfl ?_
  clear e1 e2
  match k, hk with
  | 0, _ =>
    repeat' (first
    | refine GL.sf rfl rfl rfl rfl ?_
    | refine GL.done ?_
    | refine GP.thenN ?_
    | refine GT.seq ?_
    | refine GT.region ?_
    | refine GL.v rfl rfl rfl (by exact GO.callV rfl rfl rfl Tryd.func197 rfl rfl rfl (w_side197 b p)) ?_
    | refine GT.ret ?_
    | refine GP.endR1 rfl ?_)
    rfl
  | 1, _ =>
    repeat' (first
    | refine GL.sf rfl rfl rfl rfl ?_
    | refine GL.done ?_
    | refine GP.thenN ?_
    | refine GT.seq ?_
    | refine GT.region ?_
    | refine GL.v rfl rfl rfl (by exact GO.callV rfl rfl rfl Tryd.func198 rfl rfl rfl (w_side198 b p)) ?_
    | refine GT.ret ?_
    | refine GP.endR1 rfl ?_)
    rfl
  | 2, _ =>
    repeat' (first
    | refine GL.sf rfl rfl rfl rfl ?_
    | refine GL.done ?_
    | refine GP.thenN ?_
    | refine GT.seq ?_
    | refine GT.region ?_
    | refine GL.v rfl rfl rfl (by exact GO.callV rfl rfl rfl Tryd.func199 rfl rfl rfl (w_side199 b p)) ?_
    | refine GT.ret ?_
    | refine GP.endR1 rfl ?_)
    rfl
  | 3, _ =>
    repeat' (first
    | refine GL.sf rfl rfl rfl rfl ?_
    | refine GL.done ?_
    | refine GP.thenN ?_
    | refine GT.seq ?_
    | refine GT.region ?_
    | refine GL.v rfl rfl rfl (by exact GO.callV rfl rfl rfl Tryd.func200 rfl rfl rfl (w_side200 b p)) ?_
    | refine GT.ret ?_
    | refine GP.endR1 rfl ?_)
    rfl
abbrev SdM (cs : Pts) (b : Bx) (k : Nat) : LM := [(3, .cells [sdV 2 1] 270), (2, .cells [sdF k] 273), (1, .cells b.vs 99), (0, .cells (ptC cs) 97)]
def SdRho (y b1 b2 b3 : Nat) : Nat → Option (Nat × Nat) := onto 3 b3 0 (onto 2 b1 0 (onto 1 b2 0 (onto 0 y 0 (fun _ => none))))
theorem sd_small {A : AW} {y b1 b2 b3 : Nat} (cs : Pts) (b : Bx) (k : Nat) (hy : A.rd y 0 (ptC cs).length = some (ptC cs)) (e1 : A.rd b1 0 1 = some [sdF k]) (e2 : A.rd b2 0 4 = some b.vs) (e3 : A.rd b3 0 1 = some [sdV b1 b2]) :
    SmallX A (SdM cs b k) 4 0 (SdRho y b1 b2 b3) := by
  obtain ⟨fy, hfy⟩ := ptC_flat cs
  exact (((SmallX.nil.cons (k := 0) (b := y) (f := 0) (o := .cells (ptC cs) 97) (.flat hy hfy)).cons (b := b2) (f := 0) (o := .cells b.vs 99) (.flat (k := 8) e2 rfl)).cons (b := b1) (f := 0) (o := .cells [sdF k] 273) (.flat (k := 8) e1 rfl)).cons (b := b3) (f := 0) (o := .cells [sdV 2 1] 270) ⟨_, e3, .func (by intro l h; cases h) .nil (.ptr (f := 0) (g := 0) rfl rfl (.ptr (f := 0) (g := 0) rfl rfl .nil)) .nil⟩
theorem w_not174d {A : AW} {y b1 b2 b3 : Nat} (cs : Pts) (b : Bx) (k : Nat) (hk : k < 4) (p : Int × Int) (hy : A.rd y 0 (ptC cs).length = some (ptC cs)) (e1 : A.rd b1 0 1 = some [sdF k]) (e2 : A.rd b2 0 4 = some b.vs) (e3 : A.rd b3 0 1 = some [sdV b1 b2]) :
    AC Tryd.prog 174 [.agg #[.int .i64 p.1, .int .i64 p.2], .pointer (some ⟨b3, 0, none⟩)] A (isR (.bool (!sdB b k p)) A) := by
  refine AC.isX (sd_small cs b k hy e1 e2 e3) (args := [.agg #[.int .i64 p.1, .int .i64 p.2], .pointer (some ⟨3, 0, none⟩)]) ?_ ⟨8, rfl⟩ (.flat (k := 16) rfl (.ptr (f := 0) rfl rfl .nil))
  refine AC.go Tryd.func174 rfl rfl ?_
  clear hy e1 e2 e3
  repeat' (first
  | refine GL.sf rfl rfl rfl rfl ?_
  | refine GL.done ?_
  | refine GP.thenN ?_
  | refine GT.seq ?_
  | refine GT.region ?_
  | refine GL.v rfl rfl rfl (by exact GO.callV rfl rfl rfl Tryd.func168 rfl rfl rfl (w_side168 (b1 := 2) (b2 := 1) b k hk p rfl rfl)) ?_
  | refine GT.ret ?_
  | refine GP.endR1 rfl ?_)
  rfl
theorem w_index175d {A : AW} {y b1 b2 b3 cc : Nat} (cs : Pts) (b : Bx) (k : Nat) (hk : k < 4) (hcl : cs.length ≤ 1000) (hy : A.rd y 0 (ptC cs).length = some (ptC cs)) (e1 : A.rd b1 0 1 = some [sdF k]) (e2 : A.rd b2 0 4 = some b.vs) (e3 : A.rd b3 0 1 = some [sdV b1 b2]) :
    AC Tryd.prog 175 [.slice (some ⟨y, 0, none⟩) cs.length cc, .func (.func 174) #[] #[.pointer (some ⟨b3, 0, none⟩)]] A (fun v A1 => (∃ e : Int, v = .int .i64 e ∧ decide (0 ≤ e) = cs.any fun p => !sdB b k p) ∧ A1 = A) := by
  have hlen := ptC_len cs
  refine AC.pureX (R := fun v => ∃ e : Int, v = .int .i64 e ∧ decide (0 ≤ e) = cs.any fun p => !sdB b k p) (sd_small cs b k hy e1 e2 e3) (args := [.slice (some ⟨0, 0, none⟩) cs.length cc, .func (.func 174) #[] #[.pointer (some ⟨3, 0, none⟩)]]) (AC.mono (R := fun v _ => ∃ e : Int, v = .int .i64 e ∧ decide (0 ≤ e) = cs.any fun p => !sdB b k p) ?_ (fun v _ ⟨k, e, h⟩ => ⟨⟨k, e, h⟩, by subst e; exact ⟨8, rfl⟩⟩)) (.sl rfl rfl (.func (by intro l h; cases h) .nil (.ptr (f := 0) (g := 0) rfl rfl .nil) .nil))
  refine AC.go Tryd.func175 rfl rfl ?_
  clear hy e1 e2 e3
  repeat' (first
  | refine GL.sf rfl rfl rfl rfl ?_
  | refine GL.sv rfl rfl rfl rfl ?_
  | refine GL.done ?_
  | refine GP.thenN ?_
  | refine GT.seq ?_
  | refine GT.region ?_
  | refine GT.block ?_)
  refine GT.loop (fun q a L nx => ∃ j : Nat, j ≤ cs.length ∧ q = cs.length - j ∧ (∀ i, i < j → sdB b k (pt cs i) = true) ∧ asub [(0, .slice (some ⟨0, 0, none⟩) cs.length cc), (1, .func (.func 174) #[] #[.pointer (some ⟨3, 0, none⟩)]), (7, .int .i64 cs.length), (8, .int .i64 j)] a ∧ L = SdM cs b k ∧ nx = 4) cs.length
    ⟨0, by omega, by omega, fun j h => by omega, asub_cons rfl (asub_cons rfl (asub_cons rfl (asub_cons rfl asub_nil))), rfl, rfl⟩ ?_
  rintro q a L nx ⟨j, hj, rfl, hz, hs, rfl, rfl⟩
  refine GT.keep hs ?_
  clear hs
  rcases Nat.lt_or_ge j cs.length with hkl | hkg
  · have gk : ((ptC cs).drop (0 + (j : Int).toNat * 2)).take 2 = [.int .i64 (pt cs j).1, .int .i64 (pt cs j).2] := by simpa using pt_two hkl
    have kn := fun {A : AW} hy e1 e2 e3 => w_not174d (A := A) (y := 0) (b1 := 2) (b2 := 1) (b3 := 3) cs b k hk (pt cs j) hy e1 e2 e3
    cases hc : sdB b k (pt cs j) with
    | true =>
      rw [hc] at kn
      repeat' (first
      | refine GL.sf rfl rfl rfl rfl ?_
      | refine GL.done ?_
      | refine GP.thenN ?_
      | refine GT.seq ?_
      | refine GT.region ?_
      | refine GL.v rfl rfl rfl (by first | exact GO.indexS (s := 2) rfl rfl rfl rfl rfl (by omega) | exact GO.loadG (s := 2) rfl rfl rfl rfl rfl rfl (by omega) gk | exact GO.callV rfl rfl rfl Tryd.func174 rfl rfl rfl (kn (rd_self rfl) rfl rfl rfl) | exact GO.add rfl rfl rfl (by omega)) ?_
      | refine GT.skip ?_
      | refine GT.block ?_
      | refine GP.inN ?_
      | refine GT.condF rfl ?_
      | (refine GT.condD rfl (fun h => ?_) (fun h => ?_) <;> try (exfalso; omega)))
      exact GP.invN (cs.length - (j + 1)) (by omega) ⟨j + 1, by omega, rfl, (fun i hi => by
        rcases Nat.lt_or_ge i j with q | q
        · exact hz i q
        · obtain rfl : i = j := by omega
          exact hc), asub_cons rfl (asub_cons rfl (asub_cons rfl (asub_cons rfl asub_nil))), rfl, rfl⟩
    | false =>
      rw [hc] at kn
      repeat' (first
      | refine GL.sf rfl rfl rfl rfl ?_
      | refine GL.done ?_
      | refine GP.thenN ?_
      | refine GT.seq ?_
      | refine GT.region ?_
      | refine GL.v rfl rfl rfl (by first | exact GO.indexS (s := 2) rfl rfl rfl rfl rfl (by omega) | exact GO.loadG (s := 2) rfl rfl rfl rfl rfl rfl (by omega) gk | exact GO.callV rfl rfl rfl Tryd.func174 rfl rfl rfl (kn (rd_self rfl) rfl rfl rfl)) ?_
      | refine GT.skip ?_
      | refine GT.block ?_
      | refine GT.ret ?_
      | refine GP.thenR ?_
      | refine GP.inR ?_
      | refine GP.invR ?_
      | refine GT.condT rfl ?_
      | (refine GT.condD rfl (fun h => ?_) (fun h => ?_) <;> try (exfalso; omega))
      | refine GP.endR1 rfl ?_)
      refine ⟨_, rfl, ?_⟩
      rw [decide_eq_true (by omega)]
      exact (List.any_eq_true.2 ⟨pt cs j, List.mem_of_getElem? (pt_at hkl), by rw [hc]; rfl⟩).symm
  ·
    repeat' (first
    | refine GL.sf rfl rfl rfl rfl ?_
    | refine GL.done ?_
    | refine GP.thenN ?_
    | refine GT.seq ?_
    | refine GT.region ?_
    | refine GT.ret ?_
    | refine GT.exit ?_
    | refine GP.thenE ?_
    | refine GP.hit ?_
    | refine GP.invE ?_
    | (refine GT.condD rfl (fun h => ?_) (fun h => ?_) <;> try (exfalso; omega))
    | refine GP.endR1 rfl ?_)
    refine ⟨-1, rfl, ?_⟩
    rw [decide_eq_false (by omega)]
    symm
    rw [List.any_eq_false]
    intro p hpm
    obtain ⟨i, hi⟩ := List.getElem?_of_mem hpm
    have hil := (List.getElem?_eq_some_iff.1 hi).1
    rw [pt_at hil] at hi
    cases hi
    rw [hz i (by omega)]; decide
theorem w_contains172d {A : AW} {y b1 b2 b3 cc : Nat} (cs : Pts) (b : Bx) (k : Nat) (hk : k < 4) (hcl : cs.length ≤ 1000) (hy : A.rd y 0 (ptC cs).length = some (ptC cs)) (e1 : A.rd b1 0 1 = some [sdF k]) (e2 : A.rd b2 0 4 = some b.vs) (e3 : A.rd b3 0 1 = some [sdV b1 b2]) :
    AC Tryd.prog 172 [.slice (some ⟨y, 0, none⟩) cs.length cc, .func (.func 174) #[] #[.pointer (some ⟨b3, 0, none⟩)]] A (isR (.bool (cs.any fun p => !sdB b k p)) A) := by
  refine AC.isX (sd_small cs b k hy e1 e2 e3) (args := [.slice (some ⟨0, 0, none⟩) cs.length cc, .func (.func 174) #[] #[.pointer (some ⟨3, 0, none⟩)]]) ?_ ⟨8, rfl⟩ (.sl rfl rfl (.func (by intro l h; cases h) .nil (.ptr (f := 0) (g := 0) rfl rfl .nil) .nil))
  refine AC.go Tryd.func172 rfl rfl ?_
  clear hy e1 e2 e3
  repeat' (first
  | (refine GL.any rfl rfl rfl (GO.call rfl rfl Tryd.func175 rfl rfl rfl (w_index175d (b1 := 2) (b2 := 1) (b3 := 3) cs b k hk hcl (rd_self rfl) rfl rfl rfl)) ?_; rintro v A1 ⟨⟨e, rfl, he⟩, rfl⟩; refine ⟨_, _, rfl, ?_⟩)
  | refine GL.sf rfl rfl rfl rfl ?_
  | refine GL.done ?_
  | refine GP.thenN ?_
  | refine GT.seq ?_
  | refine GT.region ?_
  | refine GT.ret ?_
  | refine GP.endR1 rfl ?_)
  rw [he]
/-- Are all points of a list beyond the k-th side of a box? -/
theorem w_all164d {A : AW} {y b1 b2 cc : Nat} (cs : Pts) (b : Bx) (k : Nat) (hk : k < 4) (hcl : cs.length ≤ 1000) (hy : A.rd y 0 (ptC cs).length = some (ptC cs)) (e1 : A.rd b1 0 1 = some [sdF k]) (e2 : A.rd b2 0 4 = some b.vs) :
    AC Tryd.prog 164 [.slice (some ⟨y, 0, none⟩) cs.length cc, sdV b1 b2] A (isR (.bool (cs.all fun p => sdB b k p)) A) := by
  obtain ⟨fy, hfy⟩ := ptC_flat cs
  refine AC.isX (((SmallX.nil.cons (k := 0) (b := y) (f := 0) (o := .cells (ptC cs) 97) (.flat hy hfy)).cons (b := b2) (f := 0) (o := .cells b.vs 99) (.flat (k := 8) e2 rfl)).cons (b := b1) (f := 0) (o := .cells [sdF k] 273) (.flat (k := 8) e1 rfl))
    (args := [.slice (some ⟨0, 0, none⟩) cs.length cc, sdV 2 1]) ?_ ⟨8, rfl⟩ (.sl rfl rfl (.func (by intro l h; cases h) .nil (.ptr (f := 0) (g := 0) rfl rfl (.ptr (f := 0) (g := 0) rfl rfl .nil)) .nil))
  refine AC.go Tryd.func164 rfl rfl ?_
  clear hy e1 e2
  repeat' (first
  | refine GL.sf rfl rfl rfl rfl ?_
  | refine GL.done ?_
  | refine GP.thenN ?_
  | refine GT.seq ?_
  | refine GT.region ?_
  | refine GL.v rfl rfl rfl (by first | exact GO.call rfl rfl Tryd.func172 rfl rfl rfl (w_contains172d (b1 := 2) (b2 := 1) (b3 := 3) cs b k hk hcl (rd_self rfl) rfl rfl rfl) | exact GO.mkfn rfl (fun _ h => by cases h) rfl rfl) ?_
  | refine GT.ret ?_
  | refine GP.endR1 rfl ?_)
  rw [List.any_eq_not_all_not]
  simp
end Go.M
