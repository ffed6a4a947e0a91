/- Functions of the given program, walked (no condition beyond what each theorem says). -/
import Derived.Test.YtfhodefiknfccaaDoorB5
set_option linter.unusedVariables false
set_option linter.unusedSimpArgs false
namespace Go.M
open Go.Proofs Go.RowKit
set_option maxRecDepth 8000
set_option maxHeartbeats 8000000
theorem d_named126_5 {A : AW} {p o k : Nat} (s0 k0 s1 k1 s2 k2 s3 k3 s4 k4 : ByteArray) (lo0 hi0 d0 lo1 hi1 d1 lo2 hi2 d2 lo3 hi3 d3 lo4 hi4 d4 : Int) (h0 : SensorOk s0 k0 lo0 hi0 d0) (h1 : SensorOk s1 k1 lo1 hi1 d1) (h2 : SensorOk s2 k2 lo2 hi2 d2) (h3 : SensorOk s3 k3 lo3 hi3 d3) (h4 : SensorOk s4 k4 lo4 hi4 d4) (e10 : (s1 == s0) = false) (e20 : (s2 == s0) = false) (e21 : (s2 == s1) = false) (e30 : (s3 == s0) = false) (e31 : (s3 == s1) = false) (e32 : (s3 == s2) = false) (e40 : (s4 == s0) = false) (e41 : (s4 == s1) = false) (e42 : (s4 == s2) = false) (e43 : (s4 == s3) = false) (hp : A.rd p o 25 = some [.string s0, .string k0, .int .i64 lo0, .int .i64 hi0, .int .i64 d0, .string s1, .string k1, .int .i64 lo1, .int .i64 hi1, .int .i64 d1, .string s2, .string k2, .int .i64 lo2, .int .i64 hi2, .int .i64 d2, .string s3, .string k3, .int .i64 lo3, .int .i64 hi3, .int .i64 d3, .string s4, .string k4, .int .i64 lo4, .int .i64 hi4, .int .i64 d4]) :
    AC Tryd.prog 126 [.slice (some ⟨p, o, none⟩) 5 k, .int .i64 8, .func (.func 127) #[] #[], .func (.func 128) #[] #[]] A (isR (.int .i64 0) A) := by
  refine AC.is1 (o := .cells [.string s0, .string k0, .int .i64 lo0, .int .i64 hi0, .int .i64 d0, .string s1, .string k1, .int .i64 lo1, .int .i64 hi1, .int .i64 d1, .string s2, .string k2, .int .i64 lo2, .int .i64 hi2, .int .i64 d2, .string s3, .string k3, .int .i64 lo3, .int .i64 hi3, .int .i64 d3, .string s4, .string k4, .int .i64 lo4, .int .i64 hi4, .int .i64 d4] 128) (b := p) (g := o) (args := [.slice (some ⟨0, 0, none⟩) 5 k, .int .i64 8, .func (.func 127) #[] #[], .func (.func 128) #[] #[]]) ?_ ⟨16, rfl⟩ ⟨hp, 64, rfl⟩ (.sl (g := 0) rfl rfl (.flat (k := 8) rfl (.flat (k := 8) rfl (.flat (k := 8) rfl .nil))))
  refine AC.go Tryd.func126 rfl rfl ?_
  clear hp
  repeat' (first
  | refine GT.unroll 6 ?_
  | refine GT.draws (id := 8) [[], [0], [0, 1], [0, 1, 2], [], [], [4, 5], [0, 1, 2, 3, 4, 5, 6], [], [], [0, 1, 2, 3, 4, 5, 6, 7, 8, 9], [0, 1, 2, 3, 4, 5, 6, 7, 8, 9, 10], [0, 1, 2, 3, 4, 5, 6, 7, 8, 9, 10, 11], [0, 1, 2, 3, 4, 5, 6, 7, 8, 9, 10, 11, 12]] [11] (by kernel_rfl) ?_
  | refine GL.mapNew rfl rfl rfl rfl rfl rfl rfl rfl rfl rfl (findNow0) rfl ?_
  | refine GL.mapNew rfl rfl rfl rfl rfl rfl rfl rfl rfl rfl (findNow1 (by assumption)) rfl ?_
  | refine GL.mapNew rfl rfl rfl rfl rfl rfl rfl rfl rfl rfl (findNow2 (by assumption) (by assumption)) rfl ?_
  | refine GL.mapNew rfl rfl rfl rfl rfl rfl rfl rfl rfl rfl (findNow3 (by assumption) (by assumption) (by assumption)) rfl ?_
  | refine GL.mapNew rfl rfl rfl rfl rfl rfl rfl rfl rfl rfl (findNow4 (by assumption) (by assumption) (by assumption) (by assumption)) rfl ?_
  | refine GL.sf rfl rfl rfl rfl ?_
  | refine GL.nf rfl rfl rfl ?_
  | refine GL.done ?_
  | refine GP.thenN ?_
  | refine GT.seq ?_
  | refine GT.region ?_
  | refine GD.li rfl rfl (by exact onAt.none rfl) rfl (by repeat first | exact AllG.nil rfl | refine AllG.cons rfl (by first | exact GO.sf rfl rfl | exact GO.lookupNone rfl rfl rfl rfl rfl rfl (findNow1 (by assumption)) rfl | exact GO.lookupNone rfl rfl rfl rfl rfl rfl (findNow2 (by assumption) (by assumption)) rfl | exact GO.lookupNone rfl rfl rfl rfl rfl rfl (findNow3 (by assumption) (by assumption) (by assumption)) rfl | exact GO.lookupNone rfl rfl rfl rfl rfl rfl (findNow4 (by assumption) (by assumption) (by assumption) (by assumption)) rfl | exact GO.call rfl rfl Tryd.func145 rfl rfl rfl (d_isname145 _ h0.1) | exact GO.call rfl rfl Tryd.func145 rfl rfl rfl (d_isname145 _ h1.1) | exact GO.call rfl rfl Tryd.func145 rfl rfl rfl (d_isname145 _ h2.1) | exact GO.call rfl rfl Tryd.func145 rfl rfl rfl (d_isname145 _ h3.1) | exact GO.call rfl rfl Tryd.func145 rfl rfl rfl (d_isname145 _ h4.1) | exact GO.callV rfl rfl rfl Tryd.func128 rfl rfl rfl (d_sensor128 _ _ _ _ _ h0) | exact GO.callV rfl rfl rfl Tryd.func128 rfl rfl rfl (d_sensor128 _ _ _ _ _ h1) | exact GO.callV rfl rfl rfl Tryd.func128 rfl rfl rfl (d_sensor128 _ _ _ _ _ h2) | exact GO.callV rfl rfl rfl Tryd.func128 rfl rfl rfl (d_sensor128 _ _ _ _ _ h3) | exact GO.callV rfl rfl rfl Tryd.func128 rfl rfl rfl (d_sensor128 _ _ _ _ _ h4) | exact GO.call rfl rfl Tryd.func72 rfl rfl rfl (d_when72 _ _) | exact GO.call rfl rfl Tryd.func71 rfl rfl rfl (d_first71 [0, 0, 0] rfl rfl rfl)) ?_) ?_
  | refine GD.he rfl rfl rfl (by exact onAt.none rfl) rfl (by exact GO.sf rfl rfl) ?_ ?_
  | refine GD.done rfl rfl rfl ?_
  | exact AllJs.nil rfl
  | refine GL.v rfl rfl rfl (by first | exact GO.callV rfl rfl rfl Tryd.func127 rfl rfl rfl (d_label127 _ _ _ _ _) | exact GO.add rfl rfl rfl (by omega)) ?_
  | refine GT.skip ?_
  | refine GT.block ?_
  | refine GT.ret ?_
  | refine GT.exit ?_
  | refine GP.thenE ?_
  | refine GP.inN ?_
  | refine GP.hit ?_
  | refine GP.againN ?_
  | refine GP.againE ?_
  | refine GU.step ?_
  | refine GT.condT rfl ?_
  | refine GT.condF rfl ?_
  | refine GP.endR1 rfl ?_)
  rfl
theorem d_plant84_5 {A : AW} {p o k : Nat} (s0 k0 s1 k1 s2 k2 s3 k3 s4 k4 : ByteArray) (lo0 hi0 d0 lo1 hi1 d1 lo2 hi2 d2 lo3 hi3 d3 lo4 hi4 d4 need sil : Int) (h0 : SensorOk s0 k0 lo0 hi0 d0) (h1 : SensorOk s1 k1 lo1 hi1 d1) (h2 : SensorOk s2 k2 lo2 hi2 d2) (h3 : SensorOk s3 k3 lo3 hi3 d3) (h4 : SensorOk s4 k4 lo4 hi4 d4) (e10 : (s1 == s0) = false) (e20 : (s2 == s0) = false) (e21 : (s2 == s1) = false) (e30 : (s3 == s0) = false) (e31 : (s3 == s1) = false) (e32 : (s3 == s2) = false) (e40 : (s4 == s0) = false) (e41 : (s4 == s1) = false) (e42 : (s4 == s2) = false) (e43 : (s4 == s3) = false) (hneed : 1 ≤ need ∧ need ≤ 5) (hsil : 0 ≤ sil ∧ sil ≤ 60) (hp : A.rd p o 25 = some [.string s0, .string k0, .int .i64 lo0, .int .i64 hi0, .int .i64 d0, .string s1, .string k1, .int .i64 lo1, .int .i64 hi1, .int .i64 d1, .string s2, .string k2, .int .i64 lo2, .int .i64 hi2, .int .i64 d2, .string s3, .string k3, .int .i64 lo3, .int .i64 hi3, .int .i64 d3, .string s4, .string k4, .int .i64 lo4, .int .i64 hi4, .int .i64 d4]) :
    AC Tryd.prog 84 [.agg #[.slice (some ⟨p, o, none⟩) 5 k, .int .i64 need, .int .i64 sil]] A (isR (.int .i64 0) A) := by
  refine AC.is1 (o := .cells [.string s0, .string k0, .int .i64 lo0, .int .i64 hi0, .int .i64 d0, .string s1, .string k1, .int .i64 lo1, .int .i64 hi1, .int .i64 d1, .string s2, .string k2, .int .i64 lo2, .int .i64 hi2, .int .i64 d2, .string s3, .string k3, .int .i64 lo3, .int .i64 hi3, .int .i64 d3, .string s4, .string k4, .int .i64 lo4, .int .i64 hi4, .int .i64 d4] 128) (b := p) (g := o) (args := [.agg #[.slice (some ⟨0, 0, none⟩) 5 k, .int .i64 need, .int .i64 sil]]) ?_ ⟨16, rfl⟩ ⟨hp, 64, rfl⟩ (.agg (.sl (g := 0) rfl rfl (.flat (k := 8) rfl (.flat (k := 8) rfl .nil))) .nil)
  refine AC.go Tryd.func84 rfl rfl ?_
  clear hp
  repeat' (first
  | refine GT.draws (id := 1) [[], [0], [0, 1], [0, 1, 2], [0, 1, 2, 3], [], [5], [0, 1, 2, 3, 4, 5, 6], [], [8], [], [10], [10, 11], [0, 1, 2, 3, 4, 5, 6, 7, 8, 9, 10, 11, 12], [], [14], [0, 1, 2, 3, 4, 5, 6, 7, 8, 9, 10, 11, 12, 13, 14, 15], [0, 1, 2, 3, 4, 5, 6, 7, 8, 9, 10, 11, 12, 13, 14, 15, 16], [0, 1, 2, 3, 4, 5, 6, 7, 8, 9, 10, 11, 12, 13, 14, 15, 16, 17], [0, 1, 2, 3, 4, 5, 6, 7, 8, 9, 10, 11, 12, 13, 14, 15, 16, 17, 18]] [17] (by kernel_rfl) ?_
  | refine GL.sf rfl rfl rfl rfl ?_
  | refine GL.done ?_
  | refine GP.thenN ?_
  | refine GT.seq ?_
  | refine GT.region ?_
  | refine GD.li rfl rfl (by exact onAt.none rfl) rfl (by repeat first | exact AllG.nil rfl | refine AllG.cons rfl (by first | exact GO.sf rfl rfl | exact GO.sv rfl rfl | exact GO.call rfl rfl Tryd.func126 rfl rfl rfl (d_named126_5 s0 k0 s1 k1 s2 k2 s3 k3 s4 k4 lo0 hi0 d0 lo1 hi1 d1 lo2 hi2 d2 lo3 hi3 d3 lo4 hi4 d4 h0 h1 h2 h3 h4 e10 e20 e21 e30 e31 e32 e40 e41 e42 e43 rfl) | exact GO.call rfl rfl Tryd.func115 rfl rfl rfl (d_within115ok _ _ _ hneed) | exact GO.call rfl rfl Tryd.func115 rfl rfl rfl (d_within115ok _ _ _ hsil) | exact GO.call rfl rfl Tryd.func72 rfl rfl rfl (d_when72 _ _) | exact GO.call rfl rfl Tryd.func71 rfl rfl rfl (d_first71 [whenI (decide ((5 : Int) = 0)) 12, 0, 0, 0] rfl rfl rfl)) ?_) ?_
  | refine GD.he rfl rfl rfl (by exact onAt.none rfl) rfl (by exact GO.sf rfl rfl) ?_ ?_
  | refine GD.done rfl rfl rfl ?_
  | exact AllJs.nil rfl
  | refine GT.ret ?_
  | refine GP.endR1 rfl ?_)
  rfl
end Go.M
