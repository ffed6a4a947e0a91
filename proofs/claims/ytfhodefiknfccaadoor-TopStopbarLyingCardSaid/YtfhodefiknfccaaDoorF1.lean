/- Functions of the given program, walked (no condition beyond what each theorem says). -/
import Derived.Test.YtfhodefiknfccaaDoorE7
set_option linter.unusedVariables false
set_option linter.unusedSimpArgs false
namespace Go.M
open Go.Proofs Go.RowKit
set_option maxRecDepth 16000
set_option maxHeartbeats 16000000
theorem d_law3_1 {c : Nat} (s0 k0 : ByteArray) (lo0 hi0 d0 need sil : Int) (x : Fault) (hw : 0 ≤ x.which ∧ x.which ≤ 255) (hb : 0 ≤ x.before ∧ x.before ≤ 255) (hR : Ready [⟨s0, k0, lo0, hi0, d0⟩] need sil x) (hu : x.u.natAbs ≤ 30) (hv : x.v.natAbs ≤ 30) (h0 : ¬(x.u = 0 ∧ x.v = 0)) :
    AC Tryd.prog 3 [.agg #[.slice (some ⟨3, 0, none⟩) 1 c, .int .i64 need, .int .i64 sil], x.val] (AW.of [(3, .cells [.string s0, .string k0, .int .i64 lo0, .int .i64 hi0, .int .i64 d0] 43), (2, .cells [] 0), (1, .cells stepsV 242), (0, .cells [.int .i64 0, .int .i64 0] 31)] 4 4 3) (fun v _ => v = .bool true) := by
  obtain ⟨ta, tb, tc, td, te, tf, hT, hT13⟩ := turned_like x.a x.b x.c x.d x.e x.f (x.before % 4) hR.good (by omega)
  have hS := scaled_like x.a x.b x.c x.d x.e x.f x.u x.v hR.good hu hv h0
  have hpl := hR.pl
  have z0 : SensorOk s0 k0 lo0 hi0 d0 := hpl.2.2.1 0 _ rfl
  have hsil := hpl.2.2.2.2.2
  have hn : need ≤ 1 := by have := hpl.2.2.2.2.1.2; have h : (([⟨s0, k0, lo0, hi0, d0⟩] : List Sen).length : Int) = 1 := rfl; omega
  have k8 := fun {A : AW} (hG : GOk A) {p o k : Nat} (hp : A.rd p o 0 = some []) => d_readings8_1 (k := k) hG need sil x.s0 x.g0 x.l0 x.lo0 x.hi0 x.s1 x.g1 x.l1 x.lo1 x.hi1 x.s2 x.g2 x.l2 x.lo2 x.hi2 x.s3 x.g3 x.l3 x.lo3 x.hi3 x.s4 x.g4 x.l4 x.lo4 x.hi4 x.a x.b x.c x.d x.e x.f hR.r0 hR.good hp
  have b8 := fun {A : AW} (hG : GOk A) {p o k : Nat} (hp : A.rd p o 0 = some []) => d_readings8_1 (k := k) hG need sil x.s0 x.g0 x.l0 x.lo0 x.hi0 x.s1 x.g1 x.l1 x.lo1 x.hi1 x.s2 x.g2 x.l2 x.lo2 x.hi2 x.s3 x.g3 x.l3 x.lo3 x.hi3 x.s4 x.g4 x.l4 x.lo4 x.hi4 x.a' x.b' x.c' x.d' x.e' x.f' hR.r0 hR.bad hp
  refine AC.go Tryd.func3 rfl rfl ?_
  repeat' (first
  | (refine GL.any rfl rfl rfl (GO.call rfl rfl Tryd.func6 rfl rfl rfl (d_ready6 [⟨s0, k0, lo0, hi0, d0⟩] need sil x (Nat.le_of_ble_eq_true rfl) rfl)) ?_; rintro v A1 ⟨⟨b, rfl, _⟩, rfl⟩; refine ⟨_, _, rfl, ?_⟩)
  | exact rfl
  | refine GL.sf rfl rfl rfl rfl ?_
  | refine GL.sv rfl rfl rfl rfl ?_
  | refine GL.done ?_
  | refine GP.thenN ?_
  | refine GT.seq ?_
  | refine GT.region ?_
  | refine GL.unguardG rfl rfl rfl ?_
  | refine GL.skipG rfl rfl rfl rfl rfl ?_
  | refine GL.v rfl rfl rfl (by first | exact GO.call rfl rfl Tryd.func7 rfl rfl rfl (d_off7 ⟨rfl, rfl, rfl, _, _, rfl⟩) | exact GO.push (GO.call rfl rfl Tryd.func8 rfl rfl rfl (k8 ⟨rfl, rfl, rfl, _, _, rfl⟩ rfl)) | exact GO.push (GO.call rfl rfl Tryd.func8 rfl rfl rfl (b8 ⟨rfl, rfl, rfl, _, _, rfl⟩ rfl)) | exact GO.eq rfl rfl rfl rfl rfl Tryd.eqGuardType31 (d_aeq31 _ _ _ _) rfl) ?_
  | refine GT.skip ?_
  | refine GT.block ?_
  | refine GT.ret ?_
  | refine GP.thenR ?_
  | refine GT.condT rfl ?_
  | refine GT.condF rfl ?_
  | (refine GT.condD rfl (fun h => ?_) (fun h => ?_) <;> try (exfalso; omega))
  | (refine GL.forkDG rfl rfl rfl (fun h => ?_) (fun h => ?_) <;> try (exfalso; omega))
  | (refine GL.forkBG rfl rfl rfl (fun h => ?_) (fun h => ?_))
  | refine GP.endR1 rfl ?_)
  refine GT.unroll 2 ?_
  repeat' (first
  | refine GT.draws (id := 10) [[], [], [0, 1], [0, 1, 2], [], [4], [0, 1, 2, 3, 4, 5], [0, 1, 2, 3, 4, 5, 6]] [] (by kernel_rfl) ?_
  | exact rfl
  | refine GL.sf rfl rfl rfl rfl ?_
  | refine GL.nf rfl rfl rfl ?_
  | refine GL.done ?_
  | refine GP.thenN ?_
  | refine GT.seq ?_
  | refine GT.region ?_
  | refine GD.li rfl rfl (by exact onAt.none rfl) rfl (by repeat first | exact AllG.nil rfl | refine AllG.cons rfl (by first | exact GO.sf rfl rfl | exact GO.call rfl rfl Tryd.func9 rfl rfl rfl (d_within9 _ _ _ _)) ?_) ?_
  | refine GD.done rfl rfl rfl ?_
  | refine GL.v rfl rfl rfl (by first | exact GO.call rfl rfl Tryd.func7 rfl rfl rfl (d_off7 ⟨rfl, rfl, rfl, _, _, rfl⟩) | exact GO.call rfl rfl Tryd.func13 rfl rfl rfl (hT13 _ ⟨rfl, rfl, rfl, _, _, rfl⟩) | exact GO.add rfl rfl rfl (by omega) | exact GO.rem rfl rfl rfl (by omega) (by omega) | exact GO.conv rfl rfl rfl rfl (i64_wrap (by omega) (by omega))) ?_
  | refine GT.skip ?_
  | refine GT.block ?_
  | refine GT.ret ?_
  | refine GT.exit ?_
  | refine GP.thenR ?_
  | refine GP.thenE ?_
  | refine GP.inN ?_
  | refine GP.inR ?_
  | refine GP.hit ?_
  | refine GP.againN ?_
  | refine GP.againR ?_
  | refine GP.againE ?_
  | refine GU.step ?_
  | refine GT.condT rfl ?_
  | refine GT.condF rfl ?_
  | (refine GT.condD rfl (fun h => ?_) (fun h => ?_) <;> try (exfalso; omega))
  | (refine GT.condN rfl (fun h => ?_) (fun h => ?_) <;> try (exfalso; omega))
  | refine GP.endR1 rfl ?_)
  all_goals have t8 := fun {A : AW} (hG : GOk A) {p o k : Nat} (hp : A.rd p o 0 = some []) => d_same8_1 (k := k) hG need sil x.s0 x.g0 x.l0 x.lo0 x.hi0 x.s1 x.g1 x.l1 x.lo1 x.hi1 x.s2 x.g2 x.l2 x.lo2 x.hi2 x.s3 x.g3 x.l3 x.lo3 x.hi3 x.s4 x.g4 x.l4 x.lo4 x.hi4 x.a x.b x.c x.d x.e x.f ta tb tc td te tf hR.r0 hT ‹_› hp
  all_goals rcases hS with ⟨sa, sb, sc, sd, se, sf, hSl, hS14⟩ | hS14
  all_goals
    repeat' (first
    | refine GT.draws (id := 44) [[], [], [0, 1], [0, 1, 2], [], [], [4, 5], [4, 5, 6], [0, 1, 2, 3, 4, 5, 6, 7], [0, 1, 2, 3, 4, 5, 6, 7, 8], [0, 1, 2, 3, 4, 5, 6, 7, 8, 9], [0, 1, 2, 3, 4, 5, 6, 7, 8, 9], [0, 1, 2, 3, 4, 5, 6, 7, 8, 9, 10, 11], [0, 1, 2, 3, 4, 5, 6, 7, 8, 9, 10, 11, 12], [0, 1, 2, 3, 4, 5, 6, 7, 8, 9], [0, 1, 2, 3, 4, 5, 6, 7, 8, 9], [0, 1, 2, 3, 4, 5, 6, 7, 8, 9, 14, 15], [0, 1, 2, 3, 4, 5, 6, 7, 8, 9, 14, 15, 16], [0, 1, 2, 3, 4, 5, 6, 7, 8, 9, 10, 11, 12, 13, 14, 15, 16, 17], [0, 1, 2, 3, 4, 5, 6, 7, 8, 9, 10, 11, 12, 13, 14, 15, 16, 17, 18]] [] (by kernel_rfl) ?_
    | refine GT.unroll 2 ?_
    | exact rfl
    | refine GL.sf rfl rfl rfl rfl ?_
    | refine GL.nf rfl rfl rfl ?_
    | refine GL.done ?_
    | refine GP.thenN ?_
    | refine GT.seq ?_
    | refine GT.region ?_
    | refine GD.li rfl rfl (by first | exact onAt.none rfl | exact onAt.yes rfl rfl rfl) rfl (by repeat first | exact AllG.nil rfl | refine AllG.cons rfl (by first | exact GO.sf rfl rfl | exact GO.ne rfl rfl rfl rfl rfl Tryd.eqGuardType46 (d_aeqSame46 _ _) rfl) ?_) ?_
    | refine GD.done rfl rfl rfl ?_
    | refine GL.v rfl rfl rfl (by first | exact GO.call rfl rfl Tryd.func7 rfl rfl rfl (d_off7 ⟨rfl, rfl, rfl, _, _, rfl⟩) | exact GO.call rfl rfl Tryd.func14 rfl rfl rfl (hS14 _ ⟨rfl, rfl, rfl, _, _, rfl⟩) | exact GO.push (GO.call rfl rfl Tryd.func8 rfl rfl rfl (t8 ⟨rfl, rfl, rfl, _, _, rfl⟩ rfl)) | exact GO.push (GO.call rfl rfl Tryd.func8 rfl rfl rfl (d_same8_1 ⟨rfl, rfl, rfl, _, _, rfl⟩ need sil x.s0 x.g0 x.l0 x.lo0 x.hi0 x.s1 x.g1 x.l1 x.lo1 x.hi1 x.s2 x.g2 x.l2 x.lo2 x.hi2 x.s3 x.g3 x.l3 x.lo3 x.hi3 x.s4 x.g4 x.l4 x.lo4 x.hi4 x.a x.b x.c x.d x.e x.f sa sb sc sd se sf hR.r0 hSl ‹_› rfl)) | exact GO.add rfl rfl rfl (by omega)) ?_
    | refine GT.skip ?_
    | refine GT.block ?_
    | refine GT.ret ?_
    | refine GT.exit ?_
    | refine GP.thenE ?_
    | refine GP.inN ?_
    | refine GP.hit ?_
    | refine GP.againN ?_
    | refine GP.againE ?_
    | refine GU.step ?_
    | refine GT.condT rfl ?_
    | refine GT.condF rfl ?_
    | refine GP.endR1 rfl ?_)
end Go.M
