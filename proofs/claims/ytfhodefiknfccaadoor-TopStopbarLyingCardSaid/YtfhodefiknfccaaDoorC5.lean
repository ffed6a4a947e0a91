/- Functions of the given program, walked (no condition beyond what each theorem says). -/
import Derived.Test.YtfhodefiknfccaaDoorB8
set_option linter.unusedVariables false
set_option linter.unusedSimpArgs false
namespace Go.M
open Go.Proofs Go.RowKit
set_option maxRecDepth 16000
set_option maxHeartbeats 16000000
theorem d_counted194_4_0x {A : AW} {p x k : Nat} (s0 k0 s1 k1 s2 k2 s3 k3 : ByteArray) (lo0 hi0 d0 lo1 hi1 d1 lo2 hi2 d2 lo3 hi3 d3 need sil md lf c0 c1 c2 c3 c4 c5 c6 c7 r0 r1 r2 r3 : Int) (m0 m1 m2 m3 : Bool) (hd0 : 1 ≤ d0 ∧ d0 ≤ 60) (hd1 : 1 ≤ d1 ∧ d1 ≤ 60) (hd2 : 1 ≤ d2 ∧ d2 ≤ 60) (hd3 : 1 ≤ d3 ∧ d3 ≤ 60) (hc0 : 0 ≤ c0 ∧ c0 ≤ 60) (hc1 : 0 ≤ c1 ∧ c1 ≤ 60) (hc2 : 0 ≤ c2 ∧ c2 ≤ 60) (hc3 : 0 ≤ c3 ∧ c3 ≤ 60) (hc4 : 0 ≤ c4 ∧ c4 ≤ 60) (hc5 : 0 ≤ c5 ∧ c5 ≤ 60) (hc6 : 0 ≤ c6 ∧ c6 ≤ 60) (hc7 : 0 ≤ c7 ∧ c7 ≤ 60) (hneed : 2 ≤ need) (h1 : GoodR m1 r1 lo1 hi1) (h2 : GoodR m2 r2 lo2 hi2) (h3 : GoodR m3 r3 lo3 hi3) (hbad : m0 = true ∨ (m0 = false ∧ (r0 < lo0 ∨ hi0 < r0))) (hal : ¬ min d0 (c0 + 1) = d0) (hp : A.rd p 0 20 = some [.string s0, .string k0, .int .i64 lo0, .int .i64 hi0, .int .i64 d0, .string s1, .string k1, .int .i64 lo1, .int .i64 hi1, .int .i64 d1, .string s2, .string k2, .int .i64 lo2, .int .i64 hi2, .int .i64 d2, .string s3, .string k3, .int .i64 lo3, .int .i64 hi3, .int .i64 d3]) (hx : A.rd x 0 8 = some [.int .i64 r0, .bool m0, .int .i64 r1, .bool m1, .int .i64 r2, .bool m2, .int .i64 r3, .bool m3]) :
    AC Tryd.prog 194 [.agg #[.slice (some ⟨p, 0, none⟩) 4 k, .int .i64 need, .int .i64 sil], .agg #[.int .i64 md, .int .i64 lf, .int .i64 c0, .int .i64 c1, .int .i64 c2, .int .i64 c3, .int .i64 c4, .int .i64 c5, .int .i64 c6, .int .i64 c7], .slice (some ⟨x, 0, none⟩) 4 4] A (isR (.agg #[.int .i64 md, .int .i64 lf, .int .i64 (min d0 (c0 + 1)), .int .i64 (0), .int .i64 (0), .int .i64 (0), .int .i64 (c4), .int .i64 (c5), .int .i64 (c6), .int .i64 (c7), .slice none 0 0]) A) := by
  refine AC.isX ((SmallX.nil.cons (k := 0) (b := p) (f := 0) (o := .cells [.string s0, .string k0, .int .i64 lo0, .int .i64 hi0, .int .i64 d0, .string s1, .string k1, .int .i64 lo1, .int .i64 hi1, .int .i64 d1, .string s2, .string k2, .int .i64 lo2, .int .i64 hi2, .int .i64 d2, .string s3, .string k3, .int .i64 lo3, .int .i64 hi3, .int .i64 d3] 128) (.flat (k := 64) hp rfl)).cons (b := x) (f := 0) (o := .cells [.int .i64 r0, .bool m0, .int .i64 r1, .bool m1, .int .i64 r2, .bool m2, .int .i64 r3, .bool m3] 46) (.flat (k := 64) hx rfl))
    (args := [.agg #[.slice (some ⟨0, 0, none⟩) 4 k, .int .i64 need, .int .i64 sil], .agg #[.int .i64 md, .int .i64 lf, .int .i64 c0, .int .i64 c1, .int .i64 c2, .int .i64 c3, .int .i64 c4, .int .i64 c5, .int .i64 c6, .int .i64 c7], .slice (some ⟨1, 0, none⟩) 4 4]) ?_ ⟨32, rfl⟩ (.agg (.sl rfl rfl (.flat (k := 8) rfl (.flat (k := 8) rfl .nil))) (.flat (k := 32) rfl (.sl rfl rfl .nil)))
  refine AC.go Tryd.func194 rfl rfl ?_
  clear hp hx
  obtain ⟨rfl, g1⟩ := h1
  obtain ⟨rfl, g2⟩ := h2
  obtain ⟨rfl, g3⟩ := h3
  rcases hbad with rfl | ⟨rfl, g0⟩
  all_goals
    repeat' (first
    | refine GT.unroll 5 ?_
    | refine GT.draws (id := 5) [[], [], [0, 1], [0, 1, 2], [0, 1, 2, 3], [0, 1, 2, 3, 4], [0, 1, 2, 3, 4, 5], [0, 1, 2, 3, 4, 5, 6], [0, 1, 2, 3, 4, 5, 6, 7], [0, 1, 2, 3, 4, 5, 6], [0, 1, 2, 3, 4, 5, 6], [0, 1, 2, 3, 4, 5, 6, 9, 10], [0, 1, 2, 3, 4, 5, 6, 9, 10, 11], [0, 1, 2, 3, 4, 5, 6, 9, 10, 11, 12], [0, 1, 2, 3, 4, 5, 6, 7, 8, 9, 10, 11, 12, 13], [0, 1, 2, 3, 4, 5, 6, 7, 8, 9, 10, 11, 12, 13, 14]] [] (by kernel_rfl) ?_
    | refine GT.draws (id := 7) [[], [], [1], [], [], [3, 4], [3, 4, 5], [3, 4, 5, 6], [1, 2, 3, 4, 5, 6, 7], [], [9], [0, 1, 2, 3, 4, 5, 6, 7, 8, 9, 10], [0, 1, 2, 3, 4, 5, 6, 7, 8, 9, 10, 11]] [12] (by kernel_rfl) ?_
    | refine GT.draws (id := 8) [[], [], [1], [0, 1, 2], [0, 1, 2, 3], [], [5], [0, 1, 2, 3, 4, 5, 6]] [] (by kernel_rfl) ?_
    | (refine GL.eqAny rfl rfl rfl rfl rfl rfl rfl rfl Tryd.eqGuardType57 ⟨_, d_aeq57 _ _ _ _ _ _ _ _ _ _ _ _ _ _ _ _⟩ rfl (fun b => ?_))
    | refine GL.sf rfl rfl rfl rfl ?_
    | refine GL.nf rfl rfl rfl ?_
    | refine GL.sv rfl rfl rfl rfl ?_
    | refine GL.done ?_
    | refine GP.thenN ?_
    | refine GT.seq ?_
    | refine GT.region ?_
    | refine GL.unguard rfl rfl ?_
    | refine GL.skip rfl rfl rfl rfl ?_
    | refine GD.li rfl rfl (by first | exact onAt.none rfl | exact onAt.yes rfl rfl rfl) rfl (by repeat first | exact AllG.nil rfl | refine AllG.cons rfl (by first | exact GO.sf rfl rfl | exact GO.call rfl rfl Tryd.func77 rfl rfl rfl (d_has77 _ _ _) | exact GO.add rfl rfl rfl (by omega)) ?_) ?_
    | refine GD.off rfl rfl rfl rfl rfl (by exact .inl rfl) rfl ?_
    | refine GD.hF rfl rfl rfl (by exact onAt.none rfl) rfl rfl ?_ ?_
    | refine GD.done rfl rfl rfl ?_
    | exact AllJs.nil rfl
    | refine GL.v rfl rfl rfl (by first | exact GO.call rfl rfl Tryd.func121 rfl rfl rfl (d_vote121a _ _ (by omega) rfl) | exact GO.add rfl rfl rfl (by omega)) ?_
    | refine GT.skip ?_
    | refine GT.block ?_
    | refine GT.ret ?_
    | refine GT.exit ?_
    | refine GP.thenR ?_
    | refine GP.thenE ?_
    | refine GP.inN ?_
    | refine GP.hit ?_
    | refine GP.againN ?_
    | refine GP.againE ?_
    | refine GU.step ?_
    | refine GT.condT rfl ?_
    | refine GT.condF rfl ?_
    | (refine GT.condD rfl (fun h => ?_) (fun h => ?_) <;> try (exfalso; omega))
    | (refine GL.forkB rfl rfl (fun h => ?_) (fun h => ?_))
    | refine GP.endR1 rfl ?_)
  all_goals rfl
theorem d_counted194_4_0a {A : AW} {p x k : Nat} (s0 k0 s1 k1 s2 k2 s3 k3 : ByteArray) (lo0 hi0 d0 lo1 hi1 d1 lo2 hi2 d2 lo3 hi3 d3 need sil md lf c0 c1 c2 c3 c4 c5 c6 c7 r0 r1 r2 r3 : Int) (m0 m1 m2 m3 : Bool) (hd0 : 1 ≤ d0 ∧ d0 ≤ 60) (hd1 : 1 ≤ d1 ∧ d1 ≤ 60) (hd2 : 1 ≤ d2 ∧ d2 ≤ 60) (hd3 : 1 ≤ d3 ∧ d3 ≤ 60) (hc0 : 0 ≤ c0 ∧ c0 ≤ 60) (hc1 : 0 ≤ c1 ∧ c1 ≤ 60) (hc2 : 0 ≤ c2 ∧ c2 ≤ 60) (hc3 : 0 ≤ c3 ∧ c3 ≤ 60) (hc4 : 0 ≤ c4 ∧ c4 ≤ 60) (hc5 : 0 ≤ c5 ∧ c5 ≤ 60) (hc6 : 0 ≤ c6 ∧ c6 ≤ 60) (hc7 : 0 ≤ c7 ∧ c7 ≤ 60) (hneed : 2 ≤ need) (h1 : GoodR m1 r1 lo1 hi1) (h2 : GoodR m2 r2 lo2 hi2) (h3 : GoodR m3 r3 lo3 hi3) (hbad : m0 = true ∨ (m0 = false ∧ (r0 < lo0 ∨ hi0 < r0))) (hal : min d0 (c0 + 1) = d0) (hp : A.rd p 0 20 = some [.string s0, .string k0, .int .i64 lo0, .int .i64 hi0, .int .i64 d0, .string s1, .string k1, .int .i64 lo1, .int .i64 hi1, .int .i64 d1, .string s2, .string k2, .int .i64 lo2, .int .i64 hi2, .int .i64 d2, .string s3, .string k3, .int .i64 lo3, .int .i64 hi3, .int .i64 d3]) (hx : A.rd x 0 8 = some [.int .i64 r0, .bool m0, .int .i64 r1, .bool m1, .int .i64 r2, .bool m2, .int .i64 r3, .bool m3]) :
    AC Tryd.prog 194 [.agg #[.slice (some ⟨p, 0, none⟩) 4 k, .int .i64 need, .int .i64 sil], .agg #[.int .i64 md, .int .i64 lf, .int .i64 c0, .int .i64 c1, .int .i64 c2, .int .i64 c3, .int .i64 c4, .int .i64 c5, .int .i64 c6, .int .i64 c7], .slice (some ⟨x, 0, none⟩) 4 4] A (isR (.agg #[.int .i64 md, .int .i64 lf, .int .i64 (min d0 (c0 + 1)), .int .i64 (0), .int .i64 (0), .int .i64 (0), .int .i64 (c4), .int .i64 (c5), .int .i64 (c6), .int .i64 (c7), .slice (some ⟨A.next, 0, none⟩) 1 1]) A.burn) := by
  refine AC.givesDX (Φ := fun u => u = .agg #[.int .i64 md, .int .i64 lf, .int .i64 (min d0 (c0 + 1)), .int .i64 (0), .int .i64 (0), .int .i64 (0), .int .i64 (c4), .int .i64 (c5), .int .i64 (c6), .int .i64 (c7), .slice (some ⟨A.next, 0, none⟩) 1 1]) ((SmallX.nil.cons (k := 0) (b := p) (f := 0) (o := .cells [.string s0, .string k0, .int .i64 lo0, .int .i64 hi0, .int .i64 d0, .string s1, .string k1, .int .i64 lo1, .int .i64 hi1, .int .i64 d1, .string s2, .string k2, .int .i64 lo2, .int .i64 hi2, .int .i64 d2, .string s3, .string k3, .int .i64 lo3, .int .i64 hi3, .int .i64 d3] 128) (.flat (k := 64) hp rfl)).cons (b := x) (f := 0) (o := .cells [.int .i64 r0, .bool m0, .int .i64 r1, .bool m1, .int .i64 r2, .bool m2, .int .i64 r3, .bool m3] 46) (.flat (k := 64) hx rfl))
    (args := [.agg #[.slice (some ⟨0, 0, none⟩) 4 k, .int .i64 need, .int .i64 sil], .agg #[.int .i64 md, .int .i64 lf, .int .i64 c0, .int .i64 c1, .int .i64 c2, .int .i64 c3, .int .i64 c4, .int .i64 c5, .int .i64 c6, .int .i64 c7], .slice (some ⟨1, 0, none⟩) 4 4]) ?_ (.agg (.sl rfl rfl (.flat (k := 8) rfl (.flat (k := 8) rfl .nil))) (.flat (k := 32) rfl (.sl rfl rfl .nil)))
  refine AC.go Tryd.func194 rfl rfl ?_
  clear hp hx
  obtain ⟨rfl, g1⟩ := h1
  obtain ⟨rfl, g2⟩ := h2
  obtain ⟨rfl, g3⟩ := h3
  rcases hbad with rfl | ⟨rfl, g0⟩
  all_goals
    repeat' (first
    | refine GT.unroll 5 ?_
    | refine GT.draws (id := 5) [[], [], [0, 1], [0, 1, 2], [0, 1, 2, 3], [0, 1, 2, 3, 4], [0, 1, 2, 3, 4, 5], [0, 1, 2, 3, 4, 5, 6], [0, 1, 2, 3, 4, 5, 6, 7], [0, 1, 2, 3, 4, 5, 6], [0, 1, 2, 3, 4, 5, 6], [0, 1, 2, 3, 4, 5, 6, 9, 10], [0, 1, 2, 3, 4, 5, 6, 9, 10, 11], [0, 1, 2, 3, 4, 5, 6, 9, 10, 11, 12], [0, 1, 2, 3, 4, 5, 6, 7, 8, 9, 10, 11, 12, 13], [0, 1, 2, 3, 4, 5, 6, 7, 8, 9, 10, 11, 12, 13, 14]] [] (by kernel_rfl) ?_
    | refine GT.draws (id := 7) [[], [], [1], [], [], [3, 4], [3, 4, 5], [3, 4, 5, 6], [1, 2, 3, 4, 5, 6, 7], [], [9], [0, 1, 2, 3, 4, 5, 6, 7, 8, 9, 10], [0, 1, 2, 3, 4, 5, 6, 7, 8, 9, 10, 11]] [12] (by kernel_rfl) ?_
    | refine GT.draws (id := 8) [[], [], [1], [0, 1, 2], [0, 1, 2, 3], [], [5], [0, 1, 2, 3, 4, 5, 6]] [] (by kernel_rfl) ?_
    | (refine GL.eqAny rfl rfl rfl rfl rfl rfl rfl rfl Tryd.eqGuardType57 ⟨_, d_aeq57 _ _ _ _ _ _ _ _ _ _ _ _ _ _ _ _⟩ rfl (fun b => ?_))
    | refine GL.sf rfl rfl rfl rfl ?_
    | refine GL.nf rfl rfl rfl ?_
    | refine GL.sv rfl rfl rfl rfl ?_
    | refine GL.done ?_
    | refine GP.thenN ?_
    | refine GT.seq ?_
    | refine GT.region ?_
    | refine GL.unguard rfl rfl ?_
    | refine GL.skip rfl rfl rfl rfl ?_
    | refine GD.li rfl rfl (by first | exact onAt.none rfl | exact onAt.yes rfl rfl rfl) rfl (by repeat first | exact AllG.nil rfl | refine AllG.cons rfl (by first | exact GO.sf rfl rfl | exact GO.call rfl rfl Tryd.func77 rfl rfl rfl (d_has77 _ _ _) | exact GO.add rfl rfl rfl (by omega)) ?_) ?_
    | refine GD.off rfl rfl rfl rfl rfl (by exact .inl rfl) rfl ?_
    | refine GD.hF rfl rfl rfl (by exact onAt.none rfl) rfl rfl ?_ ?_
    | refine GD.done rfl rfl rfl ?_
    | exact AllJs.nil rfl
    | refine GL.v rfl rfl rfl (by first | exact GO.call rfl rfl Tryd.func121 rfl rfl rfl (d_vote121b _ _ hneed rfl rfl) | exact GO.add rfl rfl rfl (by omega)) ?_
    | refine GT.skip ?_
    | refine GT.block ?_
    | refine GT.ret ?_
    | refine GT.exit ?_
    | refine GP.thenR ?_
    | refine GP.thenE ?_
    | refine GP.inN ?_
    | refine GP.hit ?_
    | refine GP.againN ?_
    | refine GP.againE ?_
    | refine GU.step ?_
    | refine GT.condT rfl ?_
    | refine GT.condF rfl ?_
    | (refine GT.condD rfl (fun h => ?_) (fun h => ?_) <;> try (exfalso; omega))
    | (refine GL.forkB rfl rfl (fun h => ?_) (fun h => ?_))
    | refine GP.endR1 rfl ?_)
  all_goals exact ⟨_, _, rfl, .agg (.flat (k := 8) rfl (.flat (k := 8) rfl (.flat (k := 8) rfl (.flat (k := 8) rfl (.flat (k := 8) rfl (.flat (k := 8) rfl (.flat (k := 8) rfl (.flat (k := 8) rfl (.flat (k := 8) rfl (.flat (k := 8) rfl (.sl (f := 0) (g := 0) (if_pos rfl) rfl .nil))))))))))) .nil⟩
end Go.M
