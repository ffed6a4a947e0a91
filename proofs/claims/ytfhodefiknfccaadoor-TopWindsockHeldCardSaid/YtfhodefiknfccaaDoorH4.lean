/- Functions of the given program, walked (no condition beyond what each theorem says). -/
import Derived.Test.YtfhodefiknfccaaDoorH3
import Derived.Test.YtfhodefiknfccaaDoorA7
set_option linter.unusedVariables false
set_option linter.unusedSimpArgs false
namespace Go.M
open Go.Proofs Go.RowKit
set_option maxRecDepth 8000
set_option maxHeartbeats 8000000
theorem zC_rd {A : AW} {b m : Nat} (h : A.rd b 0 (zC m).length = some (zC m)) : A.rd b 0 m = some ((List.replicate m (0 : Int)).map (.int .i64)) := by
  rw [List.map_replicate]
  rwa [List.length_replicate] at h
theorem w_first98z {A : AW} {b m c : Nat} (hm : m ≤ 1000) (h : A.rd b 0 (zC m).length = some (zC m)) : AC Tryd.prog 98 [.slice (some ⟨b, 0, none⟩) m c] A (isR (.int .i64 0) A) := by
  have k := w_first98 (A := A) (b := b) (f := 0) (l := m) (c := c) (List.replicate m 0) List.length_replicate (Nat.ble_eq_true_of_le (by omega)) (zC_rd h)
  rwa [show firstNZ (List.replicate m 0) = 0 from firstNZ_all fun y hy => (List.mem_replicate.1 hy).2] at k
theorem w_polygon159 {A : AW} {x c : Nat} (ps : Pts) (hp : PolyOk ps) (hc : ps.length ≤ c) (hx : A.rd x 0 (ptC ps).length = some (ptC ps)) : AC Tryd.prog 159 [.slice (some ⟨x, 0, none⟩) ps.length c] A (isR (.int .i64 0) A) := by
  obtain ⟨fz, hfz⟩ := ptC_flat ps
  have hlen := ptC_len ps
  have hn := hp.len
  have e1 : decide ((ps.length : Int) < 3) = false := decide_eq_false (by omega)
  have e2 : decide ((8 : Int) < ps.length) = false := decide_eq_false (by omega)
  have e3 : firstNZ [whenI (decide ((ps.length : Int) < 3)) 16, whenI (decide ((8 : Int) < ps.length)) 5, 0] = 0 := by rw [e1, e2]; rfl
  refine AC.isX (SmallX.nil.cons (k := 0) (b := x) (f := 0) (o := .cells (ptC ps) 97) (.flat hx hfz)) (args := [.slice (some ⟨0, 0, none⟩) ps.length c]) ?_ ⟨8, rfl⟩ (.sl rfl rfl .nil)
  refine AC.go Tryd.func159 rfl rfl ?_
  clear hx
  repeat' (first
  | refine GL.sf rfl rfl rfl rfl ?_
  | refine GL.sv rfl rfl rfl rfl ?_
  | refine GL.done ?_
  | refine GP.thenN ?_
  | refine GT.seq ?_
  | refine GT.region ?_
  | refine GL.v rfl rfl rfl (by first | exact GO.call rfl rfl Tryd.func132 rfl rfl rfl (w_when132 _ _) | exact GO.push (GO.call rfl rfl Tryd.func169 rfl rfl rfl (w_mapped169 ps hp.in6 ⟨by omega, by omega⟩ (rd_self rfl))) | exact GO.call rfl rfl Tryd.func98 rfl rfl rfl (w_first98z (by omega) (rd_self rfl)) | exact GO.call rfl rfl Tryd.func98 rfl rfl rfl (w_first98 [whenI (decide ((ps.length : Int) < 3)) 16, whenI (decide ((8 : Int) < ps.length)) 5, 0] rfl rfl rfl)) ?_
  | refine GT.skip ?_
  | refine GT.block ?_
  | (refine GT.condN rfl (fun h => ?_) (fun h => ?_) <;> try (exfalso; omega)))
  refine GT.loop (fun q a L nx => ∃ i : Nat, i ≤ ps.length ∧ q = ps.length - i ∧ 1 ≤ nx ∧ asub [(0, .slice (some ⟨0, 0, none⟩) ps.length c), (26, .int .i64 ps.length), (27, .int .i64 i)] a ∧ subm [(0, .cells (ptC ps) 97)] L) ps.length
    ⟨0, by omega, by omega, Nat.le_of_ble_eq_true rfl, asub_cons rfl (asub_cons rfl (asub_cons rfl asub_nil)), subm_cons rfl subm_nil⟩ ?_
  rintro q a L nx ⟨i, hi, rfl, hnx, hs, hsub⟩
  refine GT.resetL 1 hs hsub hnx rfl rfl (Under.look (.cons rfl (Lt.flat hfz) .nil)) (.cons (.sl rfl) (.cons (.flat (j := 8) rfl) (.cons (.flat (j := 8) rfl) .nil))) (fun g hg => absurd hg (Nat.not_lt_zero g)) ?_
  clear hs hsub hnx h
  rcases Nat.lt_or_ge i ps.length with hlt | hge
  · have g2 : ((ptC ps).drop (0 + (i : Int).toNat * 2)).take 2 = [.int .i64 (pt ps i).1, .int .i64 (pt ps i).2] := by simpa using pt_two hlt
    have m1 := mod_lt (i := i + 1) (show 0 < ps.length by omega)
    have m2 := mod_lt (i := i + 2) (show 0 < ps.length by omega)
    have r1 : ((i : Int) + 1) % (ps.length : Int) = (((i + 1) % ps.length : Nat) : Int) := modI (by omega) (by omega)
    have r2 : ((i : Int) + 2) % (ps.length : Int) = (((i + 2) % ps.length : Nat) : Int) := modI (by omega) (by omega)
    have k1 := w_contains172r (A := AW.of [] 0 0 0) (x := 0) (c := c) (b1 := 0) (b2 := 0) ps i hp hlt
    have kc := fun {A : AW} {x c b1 b2 : Nat} hx e1 e2 => w_contains172r (A := A) (x := x) (c := c) (b1 := b1) (b2 := b2) ps i hp hlt hx e1 e2
    have kd := fun {A : AW} {x c : Nat} hx => w_contains173 (A := A) (x := x) (c := c) ps i hp hlt hx
    have kx := fun {A : AW} => w_cross167 (A := A) (pt ps i).1 (pt ps i).2 (pt ps ((i + 1) % ps.length)).1 (pt ps ((i + 1) % ps.length)).2 (pt ps ((i + 2) % ps.length)).1 (pt ps ((i + 2) % ps.length)).2 (hp.in6 i hlt).1 (hp.in6 i hlt).2 (hp.in6 _ m1).1 (hp.in6 _ m1).2 (hp.in6 _ m2).1 (hp.in6 _ m2).2
    have ht : ¬ crossI (pt ps i).1 (pt ps i).2 (pt ps ((i + 1) % ps.length)).1 (pt ps ((i + 1) % ps.length)).2 (pt ps ((i + 2) % ps.length)).1 (pt ps ((i + 2) % ps.length)).2 ≤ 0 := by
      have := hp.turn i hlt
      unfold crS at this
      omega
    clear k1
    generalize hj1 : (i + 1) % ps.length = j1 at *
    generalize hj2 : (i + 2) % ps.length = j2 at *
    have g3 : ((ptC ps).drop (0 + (j1 : Int).toNat * 2)).take 2 = [.int .i64 (pt ps j1).1, .int .i64 (pt ps j1).2] := by simpa using pt_two m1
    have g4 : ((ptC ps).drop (0 + (j2 : Int).toNat * 2)).take 2 = [.int .i64 (pt ps j2).1, .int .i64 (pt ps j2).2] := by simpa using pt_two m2
    repeat' (first
    | refine GL.sf rfl rfl rfl rfl ?_
    | refine GL.done ?_
    | refine GP.thenN ?_
    | refine GT.seq ?_
    | refine GT.region ?_
    | refine GT.skip ?_
    | refine GT.block ?_
    | (refine GT.condD rfl (fun h => ?_) (fun h => ?_) <;> try (exfalso; omega)))
    refine GT.perm (L1 := [(1, .cells [.int .i64 0, .int .i64 0] 97), (0, .cells (ptC ps) 97)]) (L2 := [(2, .cells [.int .i64 0, .int .i64 0] 97), (1, .cells [.int .i64 0, .int .i64 0] 97), (0, .cells (ptC ps) 97)]) (aL := [(49, .agg #[.int .i64 (pt ps j2).1, .int .i64 (pt ps j2).2]), (48, .pointer (some ⟨0, 0 + (j2 : Int).toNat * 2, none⟩)), (47, .int .i64 (j2 : Nat)), (46, .int .i64 (ps.length : Nat)), (45, .slice (some ⟨0, 0, none⟩) ps.length c), (44, .int .i64 ((i : Int) + 2)), (43, .int .i64 (i : Nat)), (42, .slice (some ⟨0, 0, none⟩) ps.length c), (41, .agg #[.int .i64 (pt ps j1).1, .int .i64 (pt ps j1).2]), (40, .pointer (some ⟨0, 0 + (j1 : Int).toNat * 2, none⟩)), (39, .int .i64 (j1 : Nat)), (38, .int .i64 (ps.length : Nat)), (37, .slice (some ⟨0, 0, none⟩) ps.length c), (36, .int .i64 ((i : Int) + 1)), (35, .int .i64 (i : Nat)), (34, .slice (some ⟨0, 0, none⟩) ps.length c), (33, .agg #[.int .i64 (pt ps i).1, .int .i64 (pt ps i).2]), (32, .pointer (some ⟨0, 0 + (i : Int).toNat * 2, none⟩)), (31, .int .i64 (i : Nat)), (30, .slice (some ⟨0, 0, none⟩) ps.length c), (4, .int .i64 (i : Nat)), (29, .int .i64 (i : Nat)), (28, .bool (decide ((i : Int) < (ps.length : Int)))), (0, .slice (some ⟨0, 0, none⟩) ps.length c), (26, .int .i64 (ps.length : Nat)), (27, .int .i64 (i : Nat))]) 20 [[], [], [0, 1], [0, 1, 2], [], [], [5], [], [7], [5, 6, 7, 8], [4, 5, 6, 7, 8, 9], [4, 5, 6, 7, 8, 9, 10], [], [], [13], [], [15], [13, 14, 15, 16], [12, 13, 14, 15, 16, 17], [12, 13, 14, 15, 16, 17, 18], [], [20], [20, 21], [0, 1, 2, 3, 20, 21, 22], [0, 1, 2, 3, 4, 5, 6, 7, 8, 9, 10, 11, 20, 21, 22, 23], [0, 1, 2, 3, 4, 5, 6, 7, 8, 9, 10, 11, 12, 13, 14, 15, 16, 17, 18, 19, 20, 21, 22, 23, 24]] [23, 24, 25] [5, 6, 7] rfl (by kernel_rfl) (by kernel_rfl) (by kernel_rfl) (by kernel_rfl) (by kernel_rfl) (by kernel_rfl) (by kernel_rfl) ?k0 ?k1 ?k2 ?k3 ?k4 ?k5
    all_goals
      repeat' (first
      | refine GX.li rfl rfl (by exact onAt.none rfl) rfl (by repeat first | exact AllG.nil rfl | refine AllG.cons rfl (by first | exact GO.sf rfl rfl | exact GO.sv rfl rfl | exact GO.remE rfl rfl rfl (by omega) (by omega) r1 | exact GO.remE rfl rfl rfl (by omega) (by omega) r2 | exact GO.indexS (s := 2) rfl rfl rfl rfl rfl (by omega) | exact GO.loadG (s := 2) rfl rfl rfl rfl rfl rfl (by omega) g2 | exact GO.loadG (s := 2) rfl rfl rfl rfl rfl rfl (by omega) g3 | exact GO.loadG (s := 2) rfl rfl rfl rfl rfl rfl (by omega) g4 | exact GO.add rfl rfl rfl (by omega)) ?_) ?_
      | refine GX.he rfl rfl rfl (by exact onAt.none rfl) rfl (by exact GO.sf rfl rfl) ?_ ?_
      | refine GX.hN rfl rfl rfl (by exact onAt.none rfl) rfl rfl ?_ ?_
      | exact AllJs.nil rfl
      | refine AllJs.cons rfl ?_ ?_
      | exact again.go rfl rfl rfl (by first | exact GO.sf rfl rfl | exact GO.sv rfl rfl | exact GO.remE rfl rfl rfl (by omega) (by omega) r1 | exact GO.remE rfl rfl rfl (by omega) (by omega) r2 | exact GO.indexS (s := 2) rfl rfl rfl rfl rfl (by omega) | exact GO.loadG (s := 2) rfl rfl rfl rfl rfl rfl (by omega) g2 | exact GO.loadG (s := 2) rfl rfl rfl rfl rfl rfl (by omega) g3 | exact GO.loadG (s := 2) rfl rfl rfl rfl rfl rfl (by omega) g4 | exact GO.add rfl rfl rfl (by omega))
      | refine GX.fin rfl rfl rfl rfl rfl rfl rfl rfl rfl rfl rfl rfl rfl rfl rfl rfl rfl rfl ?_
      | refine GL.sf rfl rfl rfl rfl ?_
      | refine GL.done ?_
      | refine GP.thenN ?_
      | refine GT.seq ?_
      | refine GT.region ?_
      | refine GL.v rfl rfl rfl (by exact GO.mkfn rfl (fun _ h => by cases h) rfl rfl) ?_)
    all_goals
      repeat' (first
      | refine GT.draws (id := 9) [[], [], [0, 1], [0, 1, 2], [0, 1, 2, 3], [0, 1, 2, 3], [0, 1, 2, 3], [0, 1, 2, 3, 4, 5, 6], [0, 1, 2, 3, 4, 5, 6, 7], [0, 1, 2, 3, 4, 5, 6, 7, 8], [0, 1, 2, 3, 4, 5, 6, 7, 8, 9], [0, 1, 2, 3, 4, 5, 6, 7, 8, 9, 10], [0, 1, 2, 3, 4, 5, 6, 7, 8, 9, 10], [0, 1, 2, 3, 4, 5, 6, 7, 8, 9, 10, 11, 12], [0, 1, 2, 3, 4, 5, 6, 7, 8, 9, 10], [0, 1, 2, 3, 4, 5, 6, 7, 8, 9, 10, 11, 12, 13, 14], [0, 1, 2, 3, 4, 5, 6, 7, 8, 9, 10, 11, 12, 13, 14, 15]] [] (by kernel_rfl) ?_
      | refine GL.sf rfl rfl rfl rfl ?_
      | refine GL.done ?_
      | refine GP.thenN ?_
      | refine GT.region ?_
      | refine GD.li rfl rfl (by first | exact onAt.none rfl | exact onAt.yes rfl rfl rfl) rfl (by repeat first | exact AllG.nil rfl | refine AllG.cons rfl (by first | exact GO.sf rfl rfl | exact GO.call rfl rfl Tryd.func172 rfl rfl rfl (kc (rd_self rfl) rfl rfl) | exact GO.call rfl rfl Tryd.func167 rfl rfl rfl (kx) | exact GO.sliceHi (s := 2) rfl rfl rfl rfl rfl (by omega) hc (by omega) rfl rfl | exact GO.call rfl rfl Tryd.func173 rfl rfl rfl (kd (rd_self rfl))) ?_) ?_
      | refine GD.done rfl rfl rfl ?_
      | (refine GD.forkD rfl rfl rfl rfl (fun h => ?_) (fun h => ?_) <;> try (exfalso; omega))
      | refine GL.v rfl rfl rfl (by exact GO.add rfl rfl rfl (by omega)) ?_
      | refine GT.skip ?_
      | refine GP.inN ?_
      | refine GT.condF rfl ?_)
    all_goals exact GP.invN (ps.length - (i + 1)) (by omega) ⟨i + 1, by omega, rfl, Nat.le_of_ble_eq_true rfl, asub_cons rfl (asub_cons rfl (asub_cons rfl asub_nil)), subm_cons rfl subm_nil⟩
  ·
    repeat' (first
    | refine GL.sf rfl rfl rfl rfl ?_
    | refine GL.done ?_
    | refine GP.thenN ?_
    | refine GT.seq ?_
    | refine GT.region ?_
    | refine GT.ret ?_
    | refine GT.exit ?_
    | refine GP.thenE ?_
    | refine GP.hit ?_
    | refine GP.invE ?_
    | (refine GT.condD rfl (fun h => ?_) (fun h => ?_) <;> try (exfalso; omega))
    | refine GP.endR1 rfl ?_)
    rfl
end Go.M
