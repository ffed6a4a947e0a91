/- Functions of the given program, walked (no condition beyond what each theorem says). -/
import Derived.Test.YtfhodefiknfccaaDoorE7
set_option linter.unusedVariables false
set_option linter.unusedSimpArgs false
namespace Go.M
open Go.Proofs Go.RowKit
set_option maxRecDepth 16000
set_option maxHeartbeats 16000000
theorem d_law3_4 {c : Nat} (s0 k0 s1 k1 s2 k2 s3 k3 : ByteArray) (lo0 hi0 d0 lo1 hi1 d1 lo2 hi2 d2 lo3 hi3 d3 need sil : Int) (x : Fault) (hw : 0 ≤ x.which ∧ x.which ≤ 255) (hb : 0 ≤ x.before ∧ x.before ≤ 255) (hR : Ready [⟨s0, k0, lo0, hi0, d0⟩, ⟨s1, k1, lo1, hi1, d1⟩, ⟨s2, k2, lo2, hi2, d2⟩, ⟨s3, k3, lo3, hi3, d3⟩] need sil x) (hu : x.u.natAbs ≤ 30) (hv : x.v.natAbs ≤ 30) (h0 : ¬(x.u = 0 ∧ x.v = 0)) :
    AC Tryd.prog 3 [.agg #[.slice (some ⟨3, 0, none⟩) 4 c, .int .i64 need, .int .i64 sil], x.val] (AW.of [(3, .cells [.string s0, .string k0, .int .i64 lo0, .int .i64 hi0, .int .i64 d0, .string s1, .string k1, .int .i64 lo1, .int .i64 hi1, .int .i64 d1, .string s2, .string k2, .int .i64 lo2, .int .i64 hi2, .int .i64 d2, .string s3, .string k3, .int .i64 lo3, .int .i64 hi3, .int .i64 d3] 43), (2, .cells [] 0), (1, .cells stepsV 242), (0, .cells [.int .i64 0, .int .i64 0] 31)] 4 4 3) (fun v _ => v = .bool true) := by
  obtain ⟨ta, tb, tc, td, te, tf, hT, hT13⟩ := turned_like x.a x.b x.c x.d x.e x.f (x.before % 4) hR.good (by omega)
  have hS := scaled_like x.a x.b x.c x.d x.e x.f x.u x.v hR.good hu hv h0
  have hpl := hR.pl
  have z0 : SensorOk s0 k0 lo0 hi0 d0 := hpl.2.2.1 0 _ rfl
  have z1 : SensorOk s1 k1 lo1 hi1 d1 := hpl.2.2.1 1 _ rfl
  have z2 : SensorOk s2 k2 lo2 hi2 d2 := hpl.2.2.1 2 _ rfl
  have z3 : SensorOk s3 k3 lo3 hi3 d3 := hpl.2.2.1 3 _ rfl
  have e10 : (s1 == s0) = false := hpl.2.2.2.1 1 0 _ _ (by decide) rfl rfl
  have e20 : (s2 == s0) = false := hpl.2.2.2.1 2 0 _ _ (by decide) rfl rfl
  have e21 : (s2 == s1) = false := hpl.2.2.2.1 2 1 _ _ (by decide) rfl rfl
  have e30 : (s3 == s0) = false := hpl.2.2.2.1 3 0 _ _ (by decide) rfl rfl
  have e31 : (s3 == s1) = false := hpl.2.2.2.1 3 1 _ _ (by decide) rfl rfl
  have e32 : (s3 == s2) = false := hpl.2.2.2.1 3 2 _ _ (by decide) rfl rfl
  have hsil := hpl.2.2.2.2.2
  have hn : need ≤ 4 := by have := hpl.2.2.2.2.1.2; have h : (([⟨s0, k0, lo0, hi0, d0⟩, ⟨s1, k1, lo1, hi1, d1⟩, ⟨s2, k2, lo2, hi2, d2⟩, ⟨s3, k3, lo3, hi3, d3⟩] : List Sen).length : Int) = 4 := rfl; omega
  have k8 := fun {A : AW} (hG : GOk A) {p o k : Nat} (hp : A.rd p o 0 = some []) => d_readings8_4 (k := k) hG need sil x.s0 x.g0 x.l0 x.lo0 x.hi0 x.s1 x.g1 x.l1 x.lo1 x.hi1 x.s2 x.g2 x.l2 x.lo2 x.hi2 x.s3 x.g3 x.l3 x.lo3 x.hi3 x.s4 x.g4 x.l4 x.lo4 x.hi4 x.a x.b x.c x.d x.e x.f hR.r0 hR.r1 hR.r2 hR.r3 hR.good hp
  have b8 := fun {A : AW} (hG : GOk A) {p o k : Nat} (hp : A.rd p o 0 = some []) => d_readings8_4 (k := k) hG need sil x.s0 x.g0 x.l0 x.lo0 x.hi0 x.s1 x.g1 x.l1 x.lo1 x.hi1 x.s2 x.g2 x.l2 x.lo2 x.hi2 x.s3 x.g3 x.l3 x.lo3 x.hi3 x.s4 x.g4 x.l4 x.lo4 x.hi4 x.a' x.b' x.c' x.d' x.e' x.f' hR.r0 hR.r1 hR.r2 hR.r3 hR.bad hp
  refine AC.go Tryd.func3 rfl rfl ?_
  repeat' (first
  | (refine GL.any rfl rfl rfl (GO.call rfl rfl Tryd.func6 rfl rfl rfl (d_ready6 [⟨s0, k0, lo0, hi0, d0⟩, ⟨s1, k1, lo1, hi1, d1⟩, ⟨s2, k2, lo2, hi2, d2⟩, ⟨s3, k3, lo3, hi3, d3⟩] need sil x (Nat.le_of_ble_eq_true rfl) rfl)) ?_; rintro v A1 ⟨⟨b, rfl, _⟩, rfl⟩; refine ⟨_, _, rfl, ?_⟩)
  | exact rfl
  | refine GL.sf rfl rfl rfl rfl ?_
  | refine GL.sv rfl rfl rfl rfl ?_
  | refine GL.done ?_
  | refine GP.thenN ?_
  | refine GT.seq ?_
  | refine GT.region ?_
  | refine GL.unguardG rfl rfl rfl ?_
  | refine GL.skipG rfl rfl rfl rfl rfl ?_
  | refine GL.v rfl rfl rfl (by first | exact GO.call rfl rfl Tryd.func7 rfl rfl rfl (d_off7 ⟨rfl, rfl, rfl, _, _, rfl⟩) | exact GO.push (GO.call rfl rfl Tryd.func8 rfl rfl rfl (k8 ⟨rfl, rfl, rfl, _, _, rfl⟩ rfl)) | exact GO.push (GO.call rfl rfl Tryd.func8 rfl rfl rfl (b8 ⟨rfl, rfl, rfl, _, _, rfl⟩ rfl)) | exact GO.eq rfl rfl rfl rfl rfl Tryd.eqGuardType31 (d_aeq31 _ _ _ _) rfl) ?_
  | refine GT.skip ?_
  | refine GT.block ?_
  | refine GT.ret ?_
  | refine GP.thenR ?_
  | refine GT.condT rfl ?_
  | refine GT.condF rfl ?_
  | (refine GT.condD rfl (fun h => ?_) (fun h => ?_) <;> try (exfalso; omega))
  | (refine GL.forkDG rfl rfl rfl (fun h => ?_) (fun h => ?_) <;> try (exfalso; omega))
  | (refine GL.forkBG rfl rfl rfl (fun h => ?_) (fun h => ?_))
  | refine GP.endR1 rfl ?_)
  refine GT.unroll 5 ?_
  repeat' (first
  | refine GT.draws (id := 10) [[], [], [0, 1], [0, 1, 2], [], [4], [0, 1, 2, 3, 4, 5], [0, 1, 2, 3, 4, 5, 6]] [] (by kernel_rfl) ?_
  | exact rfl
  | refine GL.sf rfl rfl rfl rfl ?_
  | refine GL.nf rfl rfl rfl ?_
  | refine GL.sv rfl rfl rfl rfl ?_
  | refine GL.done ?_
  | refine GP.thenN ?_
  | refine GT.seq ?_
  | refine GT.region ?_
  | refine GD.li rfl rfl (by exact onAt.none rfl) rfl (by repeat first | exact AllG.nil rfl | refine AllG.cons rfl (by first | exact GO.sf rfl rfl | exact GO.call rfl rfl Tryd.func9 rfl rfl rfl (d_within9 _ _ _ _)) ?_) ?_
  | refine GD.done rfl rfl rfl ?_
  | refine GL.v rfl rfl rfl (by first | exact GO.call rfl rfl Tryd.func7 rfl rfl rfl (d_off7 ⟨rfl, rfl, rfl, _, _, rfl⟩) | exact GO.call rfl rfl Tryd.func13 rfl rfl rfl (hT13 _ ⟨rfl, rfl, rfl, _, _, rfl⟩) | exact GO.add rfl rfl rfl (by omega) | exact GO.rem rfl rfl rfl (by omega) (by omega) | exact GO.conv rfl rfl rfl rfl (i64_wrap (by omega) (by omega))) ?_
  | refine GT.skip ?_
  | refine GT.block ?_
  | refine GT.ret ?_
  | refine GT.exit ?_
  | refine GP.thenR ?_
  | refine GP.thenE ?_
  | refine GP.inN ?_
  | refine GP.inR ?_
  | refine GP.hit ?_
  | refine GP.againN ?_
  | refine GP.againR ?_
  | refine GP.againE ?_
  | refine GU.step ?_
  | refine GT.condT rfl ?_
  | refine GT.condF rfl ?_
  | (refine GT.condD rfl (fun h => ?_) (fun h => ?_) <;> try (exfalso; omega))
  | (refine GT.condN rfl (fun h => ?_) (fun h => ?_) <;> try (exfalso; omega))
  | refine GP.endR1 rfl ?_)
  have hk : 0 ≤ x.which % 4 ∧ x.which % 4 < 4 := by omega
  obtain ⟨bk, mk, rds, hq1, hq2, hlie, hq3, hq4, hq5⟩ : ∃ (bk : Int) (mk : Bool) (rds : List Value), (([.int .i64 (rdN x.s0 x.g0 x.l0 x.lo0 x.hi0 x.a' x.b' x.c' x.d' x.e' x.f'), .bool (rdM x.l0 x.lo0 x.hi0 x.a' x.b' x.c' x.d' x.e' x.f'), .int .i64 (rdN x.s1 x.g1 x.l1 x.lo1 x.hi1 x.a' x.b' x.c' x.d' x.e' x.f'), .bool (rdM x.l1 x.lo1 x.hi1 x.a' x.b' x.c' x.d' x.e' x.f'), .int .i64 (rdN x.s2 x.g2 x.l2 x.lo2 x.hi2 x.a' x.b' x.c' x.d' x.e' x.f'), .bool (rdM x.l2 x.lo2 x.hi2 x.a' x.b' x.c' x.d' x.e' x.f'), .int .i64 (rdN x.s3 x.g3 x.l3 x.lo3 x.hi3 x.a' x.b' x.c' x.d' x.e' x.f'), .bool (rdM x.l3 x.lo3 x.hi3 x.a' x.b' x.c' x.d' x.e' x.f')] : List Value).drop (0 + (x.which % 4).toNat * 2)).take 2 = [.int .i64 bk, .bool mk] ∧ splice [.int .i64 (rdN x.s0 x.g0 x.l0 x.lo0 x.hi0 x.a x.b x.c x.d x.e x.f), .bool (rdM x.l0 x.lo0 x.hi0 x.a x.b x.c x.d x.e x.f), .int .i64 (rdN x.s1 x.g1 x.l1 x.lo1 x.hi1 x.a x.b x.c x.d x.e x.f), .bool (rdM x.l1 x.lo1 x.hi1 x.a x.b x.c x.d x.e x.f), .int .i64 (rdN x.s2 x.g2 x.l2 x.lo2 x.hi2 x.a x.b x.c x.d x.e x.f), .bool (rdM x.l2 x.lo2 x.hi2 x.a x.b x.c x.d x.e x.f), .int .i64 (rdN x.s3 x.g3 x.l3 x.lo3 x.hi3 x.a x.b x.c x.d x.e x.f), .bool (rdM x.l3 x.lo3 x.hi3 x.a x.b x.c x.d x.e x.f)] (0 + (x.which % 4).toNat * 2) [.int .i64 bk, .bool mk] = rds ∧ LieOk [.string s0, .string k0, .int .i64 lo0, .int .i64 hi0, .int .i64 d0, .string s1, .string k1, .int .i64 lo1, .int .i64 hi1, .int .i64 d1, .string s2, .string k2, .int .i64 lo2, .int .i64 hi2, .int .i64 d2, .string s3, .string k3, .int .i64 lo3, .int .i64 hi3, .int .i64 d3] rds 4 4 need sil ∧ rds.length = 4 * 2 ∧ (∃ k, noAddrs k rds = true) ∧ rds.all (·.oneCell') = true := by
    obtain h | h | h | h : x.which % 4 = 0 ∨ x.which % 4 = 1 ∨ x.which % 4 = 2 ∨ x.which % 4 = 3 := by omega
    · rw [h]
      exact ⟨(rdN x.s0 x.g0 x.l0 x.lo0 x.hi0 x.a' x.b' x.c' x.d' x.e' x.f'), (rdM x.l0 x.lo0 x.hi0 x.a' x.b' x.c' x.d' x.e' x.f'), [.int .i64 (rdN x.s0 x.g0 x.l0 x.lo0 x.hi0 x.a' x.b' x.c' x.d' x.e' x.f'), .bool (rdM x.l0 x.lo0 x.hi0 x.a' x.b' x.c' x.d' x.e' x.f'), .int .i64 (rdN x.s1 x.g1 x.l1 x.lo1 x.hi1 x.a x.b x.c x.d x.e x.f), .bool (rdM x.l1 x.lo1 x.hi1 x.a x.b x.c x.d x.e x.f), .int .i64 (rdN x.s2 x.g2 x.l2 x.lo2 x.hi2 x.a x.b x.c x.d x.e x.f), .bool (rdM x.l2 x.lo2 x.hi2 x.a x.b x.c x.d x.e x.f), .int .i64 (rdN x.s3 x.g3 x.l3 x.lo3 x.hi3 x.a x.b x.c x.d x.e x.f), .bool (rdM x.l3 x.lo3 x.hi3 x.a x.b x.c x.d x.e x.f)], rfl, rfl, lieOk_4_0 s0 k0 s1 k1 s2 k2 s3 k3 lo0 hi0 d0 lo1 hi1 d1 lo2 hi2 d2 lo3 hi3 d3 need sil _ _ _ _ _ _ _ _ z0 z1 z2 z3 e10 e20 e21 e30 e31 e32 ⟨by omega, hn⟩ hsil (rdN_le hR.r0) (rdM_zero (s := x.s0) (g := x.g0)) (rdN_le hR.r1) (rdM_zero (s := x.s1) (g := x.g1)) (rdN_le hR.r2) (rdM_zero (s := x.s2) (g := x.g2)) (rdN_le hR.r3) (rdM_zero (s := x.s3) (g := x.g3)) (g_of ‹rdM x.l1 x.lo1 x.hi1 x.a x.b x.c x.d x.e x.f = false ∧ lo1 ≤ rdN x.s1 x.g1 x.l1 x.lo1 x.hi1 x.a x.b x.c x.d x.e x.f ∧ rdN x.s1 x.g1 x.l1 x.lo1 x.hi1 x.a x.b x.c x.d x.e x.f ≤ hi1›) (g_of ‹rdM x.l2 x.lo2 x.hi2 x.a x.b x.c x.d x.e x.f = false ∧ lo2 ≤ rdN x.s2 x.g2 x.l2 x.lo2 x.hi2 x.a x.b x.c x.d x.e x.f ∧ rdN x.s2 x.g2 x.l2 x.lo2 x.hi2 x.a x.b x.c x.d x.e x.f ≤ hi2›) (g_of ‹rdM x.l3 x.lo3 x.hi3 x.a x.b x.c x.d x.e x.f = false ∧ lo3 ≤ rdN x.s3 x.g3 x.l3 x.lo3 x.hi3 x.a x.b x.c x.d x.e x.f ∧ rdN x.s3 x.g3 x.l3 x.lo3 x.hi3 x.a x.b x.c x.d x.e x.f ≤ hi3›), rfl, ⟨64, rfl⟩, rfl⟩
    · rw [h]
      exact ⟨(rdN x.s1 x.g1 x.l1 x.lo1 x.hi1 x.a' x.b' x.c' x.d' x.e' x.f'), (rdM x.l1 x.lo1 x.hi1 x.a' x.b' x.c' x.d' x.e' x.f'), [.int .i64 (rdN x.s0 x.g0 x.l0 x.lo0 x.hi0 x.a x.b x.c x.d x.e x.f), .bool (rdM x.l0 x.lo0 x.hi0 x.a x.b x.c x.d x.e x.f), .int .i64 (rdN x.s1 x.g1 x.l1 x.lo1 x.hi1 x.a' x.b' x.c' x.d' x.e' x.f'), .bool (rdM x.l1 x.lo1 x.hi1 x.a' x.b' x.c' x.d' x.e' x.f'), .int .i64 (rdN x.s2 x.g2 x.l2 x.lo2 x.hi2 x.a x.b x.c x.d x.e x.f), .bool (rdM x.l2 x.lo2 x.hi2 x.a x.b x.c x.d x.e x.f), .int .i64 (rdN x.s3 x.g3 x.l3 x.lo3 x.hi3 x.a x.b x.c x.d x.e x.f), .bool (rdM x.l3 x.lo3 x.hi3 x.a x.b x.c x.d x.e x.f)], rfl, rfl, lieOk_4_1 s0 k0 s1 k1 s2 k2 s3 k3 lo0 hi0 d0 lo1 hi1 d1 lo2 hi2 d2 lo3 hi3 d3 need sil _ _ _ _ _ _ _ _ z0 z1 z2 z3 e10 e20 e21 e30 e31 e32 ⟨by omega, hn⟩ hsil (rdN_le hR.r0) (rdM_zero (s := x.s0) (g := x.g0)) (rdN_le hR.r1) (rdM_zero (s := x.s1) (g := x.g1)) (rdN_le hR.r2) (rdM_zero (s := x.s2) (g := x.g2)) (rdN_le hR.r3) (rdM_zero (s := x.s3) (g := x.g3)) (g_of ‹rdM x.l0 x.lo0 x.hi0 x.a x.b x.c x.d x.e x.f = false ∧ lo0 ≤ rdN x.s0 x.g0 x.l0 x.lo0 x.hi0 x.a x.b x.c x.d x.e x.f ∧ rdN x.s0 x.g0 x.l0 x.lo0 x.hi0 x.a x.b x.c x.d x.e x.f ≤ hi0›) (g_of ‹rdM x.l2 x.lo2 x.hi2 x.a x.b x.c x.d x.e x.f = false ∧ lo2 ≤ rdN x.s2 x.g2 x.l2 x.lo2 x.hi2 x.a x.b x.c x.d x.e x.f ∧ rdN x.s2 x.g2 x.l2 x.lo2 x.hi2 x.a x.b x.c x.d x.e x.f ≤ hi2›) (g_of ‹rdM x.l3 x.lo3 x.hi3 x.a x.b x.c x.d x.e x.f = false ∧ lo3 ≤ rdN x.s3 x.g3 x.l3 x.lo3 x.hi3 x.a x.b x.c x.d x.e x.f ∧ rdN x.s3 x.g3 x.l3 x.lo3 x.hi3 x.a x.b x.c x.d x.e x.f ≤ hi3›), rfl, ⟨64, rfl⟩, rfl⟩
    · rw [h]
      exact ⟨(rdN x.s2 x.g2 x.l2 x.lo2 x.hi2 x.a' x.b' x.c' x.d' x.e' x.f'), (rdM x.l2 x.lo2 x.hi2 x.a' x.b' x.c' x.d' x.e' x.f'), [.int .i64 (rdN x.s0 x.g0 x.l0 x.lo0 x.hi0 x.a x.b x.c x.d x.e x.f), .bool (rdM x.l0 x.lo0 x.hi0 x.a x.b x.c x.d x.e x.f), .int .i64 (rdN x.s1 x.g1 x.l1 x.lo1 x.hi1 x.a x.b x.c x.d x.e x.f), .bool (rdM x.l1 x.lo1 x.hi1 x.a x.b x.c x.d x.e x.f), .int .i64 (rdN x.s2 x.g2 x.l2 x.lo2 x.hi2 x.a' x.b' x.c' x.d' x.e' x.f'), .bool (rdM x.l2 x.lo2 x.hi2 x.a' x.b' x.c' x.d' x.e' x.f'), .int .i64 (rdN x.s3 x.g3 x.l3 x.lo3 x.hi3 x.a x.b x.c x.d x.e x.f), .bool (rdM x.l3 x.lo3 x.hi3 x.a x.b x.c x.d x.e x.f)], rfl, rfl, lieOk_4_2 s0 k0 s1 k1 s2 k2 s3 k3 lo0 hi0 d0 lo1 hi1 d1 lo2 hi2 d2 lo3 hi3 d3 need sil _ _ _ _ _ _ _ _ z0 z1 z2 z3 e10 e20 e21 e30 e31 e32 ⟨by omega, hn⟩ hsil (rdN_le hR.r0) (rdM_zero (s := x.s0) (g := x.g0)) (rdN_le hR.r1) (rdM_zero (s := x.s1) (g := x.g1)) (rdN_le hR.r2) (rdM_zero (s := x.s2) (g := x.g2)) (rdN_le hR.r3) (rdM_zero (s := x.s3) (g := x.g3)) (g_of ‹rdM x.l0 x.lo0 x.hi0 x.a x.b x.c x.d x.e x.f = false ∧ lo0 ≤ rdN x.s0 x.g0 x.l0 x.lo0 x.hi0 x.a x.b x.c x.d x.e x.f ∧ rdN x.s0 x.g0 x.l0 x.lo0 x.hi0 x.a x.b x.c x.d x.e x.f ≤ hi0›) (g_of ‹rdM x.l1 x.lo1 x.hi1 x.a x.b x.c x.d x.e x.f = false ∧ lo1 ≤ rdN x.s1 x.g1 x.l1 x.lo1 x.hi1 x.a x.b x.c x.d x.e x.f ∧ rdN x.s1 x.g1 x.l1 x.lo1 x.hi1 x.a x.b x.c x.d x.e x.f ≤ hi1›) (g_of ‹rdM x.l3 x.lo3 x.hi3 x.a x.b x.c x.d x.e x.f = false ∧ lo3 ≤ rdN x.s3 x.g3 x.l3 x.lo3 x.hi3 x.a x.b x.c x.d x.e x.f ∧ rdN x.s3 x.g3 x.l3 x.lo3 x.hi3 x.a x.b x.c x.d x.e x.f ≤ hi3›), rfl, ⟨64, rfl⟩, rfl⟩
    · rw [h]
      exact ⟨(rdN x.s3 x.g3 x.l3 x.lo3 x.hi3 x.a' x.b' x.c' x.d' x.e' x.f'), (rdM x.l3 x.lo3 x.hi3 x.a' x.b' x.c' x.d' x.e' x.f'), [.int .i64 (rdN x.s0 x.g0 x.l0 x.lo0 x.hi0 x.a x.b x.c x.d x.e x.f), .bool (rdM x.l0 x.lo0 x.hi0 x.a x.b x.c x.d x.e x.f), .int .i64 (rdN x.s1 x.g1 x.l1 x.lo1 x.hi1 x.a x.b x.c x.d x.e x.f), .bool (rdM x.l1 x.lo1 x.hi1 x.a x.b x.c x.d x.e x.f), .int .i64 (rdN x.s2 x.g2 x.l2 x.lo2 x.hi2 x.a x.b x.c x.d x.e x.f), .bool (rdM x.l2 x.lo2 x.hi2 x.a x.b x.c x.d x.e x.f), .int .i64 (rdN x.s3 x.g3 x.l3 x.lo3 x.hi3 x.a' x.b' x.c' x.d' x.e' x.f'), .bool (rdM x.l3 x.lo3 x.hi3 x.a' x.b' x.c' x.d' x.e' x.f')], rfl, rfl, lieOk_4_3 s0 k0 s1 k1 s2 k2 s3 k3 lo0 hi0 d0 lo1 hi1 d1 lo2 hi2 d2 lo3 hi3 d3 need sil _ _ _ _ _ _ _ _ z0 z1 z2 z3 e10 e20 e21 e30 e31 e32 ⟨by omega, hn⟩ hsil (rdN_le hR.r0) (rdM_zero (s := x.s0) (g := x.g0)) (rdN_le hR.r1) (rdM_zero (s := x.s1) (g := x.g1)) (rdN_le hR.r2) (rdM_zero (s := x.s2) (g := x.g2)) (rdN_le hR.r3) (rdM_zero (s := x.s3) (g := x.g3)) (g_of ‹rdM x.l0 x.lo0 x.hi0 x.a x.b x.c x.d x.e x.f = false ∧ lo0 ≤ rdN x.s0 x.g0 x.l0 x.lo0 x.hi0 x.a x.b x.c x.d x.e x.f ∧ rdN x.s0 x.g0 x.l0 x.lo0 x.hi0 x.a x.b x.c x.d x.e x.f ≤ hi0›) (g_of ‹rdM x.l1 x.lo1 x.hi1 x.a x.b x.c x.d x.e x.f = false ∧ lo1 ≤ rdN x.s1 x.g1 x.l1 x.lo1 x.hi1 x.a x.b x.c x.d x.e x.f ∧ rdN x.s1 x.g1 x.l1 x.lo1 x.hi1 x.a x.b x.c x.d x.e x.f ≤ hi1›) (g_of ‹rdM x.l2 x.lo2 x.hi2 x.a x.b x.c x.d x.e x.f = false ∧ lo2 ≤ rdN x.s2 x.g2 x.l2 x.lo2 x.hi2 x.a x.b x.c x.d x.e x.f ∧ rdN x.s2 x.g2 x.l2 x.lo2 x.hi2 x.a x.b x.c x.d x.e x.f ≤ hi2›), rfl, ⟨64, rfl⟩, rfl⟩
  repeat' (first
  | refine GL.storeG (b := 13) (vs := [.int .i64 bk, .bool mk]) rfl rfl rfl rfl rfl rfl rfl rfl (Nat.le_of_ble_eq_true rfl) (by simp only [List.length]; omega) hq2 ?_
  | refine GL.sf rfl rfl rfl rfl ?_
  | refine GL.done ?_
  | refine GP.thenN ?_
  | refine GT.seq ?_
  | refine GT.region ?_
  | refine GL.v rfl rfl rfl (by first | exact GO.indexS (s := 2) rfl rfl rfl rfl rfl (by omega) | exact GO.loadG (s := 2) (b := 7) rfl rfl rfl rfl rfl rfl (by simp only [List.length]; omega) hq1 | exact GO.push (GO.call rfl rfl Tryd.func11 rfl rfl rfl (d_plant11_4 s0 k0 s1 k1 s2 k2 s3 k3 lo0 hi0 d0 lo1 hi1 d1 lo2 hi2 d2 lo3 hi3 d3 need sil rfl))) ?_)
  refine GL.any rfl rfl rfl (GO.call rfl rfl Tryd.func12 rfl rfl rfl (d_seconds12 rds 4 4 62 (by decide) (by decide) hq3 hq4 hq5 (rd_self rfl))) ?_
  rintro v A1 ⟨rfl, rfl⟩
  refine any_pushF (fun L' hL' hold => ?_)
  have hf := made_of (p := 14) (o := 0) (sens := [.string s0, .string k0, .int .i64 lo0, .int .i64 hi0, .int .i64 d0, .string s1, .string k1, .int .i64 lo1, .int .i64 hi1, .int .i64 d1, .string s2, .string k2, .int .i64 lo2, .int .i64 hi2, .int .i64 d2, .string s3, .string k3, .int .i64 lo3, .int .i64 hi3, .int .i64 d3]) hL' ⟨rfl, rfl, rfl, _, _, rfl⟩ rfl rfl rfl ⟨64, rfl⟩ hq4
  refine GL.any rfl rfl rfl (GO.call rfl rfl Tryd.func10 rfl rfl rfl (d_lie10at (by decide) hlie hf)) ?_
  rintro v A1 ⟨cs, hcs, rfl, rfl⟩
  refine ⟨_, _, AW.of_push _, ?_⟩
  repeat' (first
  | refine GL.sf rfl rfl rfl rfl ?_
  | refine GL.sv rfl rfl rfl rfl ?_
  | refine GL.done ?_
  | refine GP.thenN ?_
  | refine GT.seq ?_
  | refine GT.region ?_
  | refine GL.unguardG rfl rfl rfl ?_
  | refine GT.skip ?_
  | refine GT.block ?_
  | refine GT.condF rfl ?_)
  refine GT.loop (fun q a L nx => ∃ i : Nat, i ≤ 62 ∧ q = 62 - i ∧ asub [(2, .pointer (some ⟨4, 0, none⟩)), (3, .pointer (some ⟨5, 0, none⟩)), (5, .slice (some ⟨6, 0, none⟩) 4 4), (141, .slice (some ⟨78, 0, none⟩) 62 62), (142, .int .i64 62), (143, .int .i64 i)] a ∧ subm [(78, .cells cs 59), (6, .cells [.int .i64 (rdN x.s0 x.g0 x.l0 x.lo0 x.hi0 x.a x.b x.c x.d x.e x.f), .bool (rdM x.l0 x.lo0 x.hi0 x.a x.b x.c x.d x.e x.f), .int .i64 (rdN x.s1 x.g1 x.l1 x.lo1 x.hi1 x.a x.b x.c x.d x.e x.f), .bool (rdM x.l1 x.lo1 x.hi1 x.a x.b x.c x.d x.e x.f), .int .i64 (rdN x.s2 x.g2 x.l2 x.lo2 x.hi2 x.a x.b x.c x.d x.e x.f), .bool (rdM x.l2 x.lo2 x.hi2 x.a x.b x.c x.d x.e x.f), .int .i64 (rdN x.s3 x.g3 x.l3 x.lo3 x.hi3 x.a x.b x.c x.d x.e x.f), .bool (rdM x.l3 x.lo3 x.hi3 x.a x.b x.c x.d x.e x.f)] 46), (5, .cells x.val.cells.toList 35), (4, .cells [.slice (some ⟨3, 0, none⟩) 4 c, .int .i64 need, .int .i64 sil] 24), (3, .cells [.string s0, .string k0, .int .i64 lo0, .int .i64 hi0, .int .i64 d0, .string s1, .string k1, .int .i64 lo1, .int .i64 hi1, .int .i64 d1, .string s2, .string k2, .int .i64 lo2, .int .i64 hi2, .int .i64 d2, .string s3, .string k3, .int .i64 lo3, .int .i64 hi3, .int .i64 d3] 43), (2, .cells [] 0), (1, .cells stepsV 242), (0, .cells [.int .i64 0, .int .i64 0] 31)] L ∧ 79 ≤ nx) 62
    ⟨0, by decide, rfl, (asub_cons rfl (asub_cons rfl (asub_cons rfl (asub_cons rfl (asub_cons rfl (asub_cons rfl asub_nil)))))), subm_cons rfl (subm_cons ((hold 6 (Nat.le_of_ble_eq_true rfl)).trans rfl) (subm_cons ((hold 5 (Nat.le_of_ble_eq_true rfl)).trans rfl) (subm_cons ((hold 4 (Nat.le_of_ble_eq_true rfl)).trans rfl) (subm_cons ((hold 3 (Nat.le_of_ble_eq_true rfl)).trans rfl) (subm_cons ((hold 2 (Nat.le_of_ble_eq_true rfl)).trans rfl) (subm_cons ((hold 1 (Nat.le_of_ble_eq_true rfl)).trans rfl) (subm_cons ((hold 0 (Nat.le_of_ble_eq_true rfl)).trans rfl) subm_nil))))))), Nat.le_of_ble_eq_true rfl⟩ ?_
  rintro q a L nx ⟨i, hi, rfl, hsa, hsub, hnx⟩
  obtain ⟨fj, hfj⟩ := hcs.2.1.flat
  have hcl := hcs.1
  refine GT.resetL 79 hsa hsub hnx rfl rfl (Under.look (.cons rfl (Lt.flat hfj) (.cons rfl (Lt.flat (j := 64) rfl) (.cons rfl (Lt.flat (j := 64) rfl) (.cons rfl (.cons (.sl rfl) (.flat (j := 8) rfl)) (.cons rfl (Lt.flat (j := 64) rfl) (.cons rfl (Lt.flat (j := 8) rfl) (.cons rfl (Lt.flat (j := 8) rfl) (.cons rfl (Lt.flat (j := 8) rfl) .nil))))))))) (.cons (.ptr rfl) (.cons (.ptr rfl) (.cons (.sl rfl) (.cons (.sl rfl) (.cons (.flat (j := 8) rfl) (.cons (.flat (j := 8) rfl) .nil)))))) glob3 ?_
  clear hsa hsub hnx hold hL' hf hlie
  rcases Nat.lt_or_ge i 62 with hlt | hge
  · obtain ⟨c0, c1, c2, c3, c4, c5, c6, c7, hmd⟩ := hcs.mode hlt
    repeat' (first
    | refine GL.sf rfl rfl rfl rfl ?_
    | refine GL.sn rfl rfl rfl ?_
    | refine GL.done ?_
    | refine GP.thenN ?_
    | refine GT.seq ?_
    | refine GT.region ?_
    | refine GL.v rfl rfl rfl (by first | exact GO.indexS (s := 10) rfl rfl rfl rfl rfl (by omega) | exact GO.loadG (s := 10) rfl rfl rfl rfl rfl rfl (by omega) hmd | exact GO.add rfl rfl rfl (by omega)) ?_
    | refine GT.skip ?_
    | refine GT.block ?_
    | refine GP.inN ?_
    | refine GT.condF rfl ?_
    | (refine GT.condD rfl (fun h => ?_) (fun h => ?_) <;> try (exfalso; omega)))
    exact GP.invN (62 - (i + 1)) (by omega) ⟨i + 1, by omega, rfl, (asub_cons rfl (asub_cons rfl (asub_cons rfl (asub_cons rfl (asub_cons rfl (asub_cons rfl asub_nil)))))), subm_cons rfl (subm_cons rfl (subm_cons rfl (subm_cons rfl (subm_cons rfl (subm_cons rfl (subm_cons rfl (subm_cons rfl subm_nil))))))), Nat.le_of_ble_eq_true rfl⟩
  obtain rfl : i = 62 := by omega
  clear hge hi
  repeat' (first
  | refine GL.sf rfl rfl rfl rfl ?_
  | refine GL.sn rfl rfl rfl ?_
  | refine GL.done ?_
  | refine GP.thenN ?_
  | refine GT.seq ?_
  | refine GT.region ?_
  | refine GL.v rfl rfl rfl (by first | exact GO.call rfl rfl Tryd.func13 rfl rfl rfl (hT13 _ ⟨rfl, rfl, rfl, _, _, rfl⟩) | exact GO.rem rfl rfl rfl (by omega) (by omega) | exact GO.conv rfl rfl rfl rfl (i64_wrap (by omega) (by omega))) ?_
  | refine GT.skip ?_
  | refine GT.exit ?_
  | refine GP.thenE ?_
  | refine GP.hit ?_
  | refine GP.invE ?_
  | refine GT.condF rfl ?_)
  all_goals have t8 := fun {A : AW} (hG : GOk A) {p o k : Nat} (hp : A.rd p o 0 = some []) => d_same8_4 (k := k) hG need sil x.s0 x.g0 x.l0 x.lo0 x.hi0 x.s1 x.g1 x.l1 x.lo1 x.hi1 x.s2 x.g2 x.l2 x.lo2 x.hi2 x.s3 x.g3 x.l3 x.lo3 x.hi3 x.s4 x.g4 x.l4 x.lo4 x.hi4 x.a x.b x.c x.d x.e x.f ta tb tc td te tf hR.r0 hR.r1 hR.r2 hR.r3 hT ‹_› ‹_› ‹_› ‹_› hp
  all_goals rcases hS with ⟨sa, sb, sc, sd, se, sf, hSl, hS14⟩ | hS14
  all_goals
    repeat' (first
    | refine GT.draws (id := 44) [[], [], [0, 1], [0, 1, 2], [], [], [4, 5], [4, 5, 6], [0, 1, 2, 3, 4, 5, 6, 7], [0, 1, 2, 3, 4, 5, 6, 7, 8], [0, 1, 2, 3, 4, 5, 6, 7, 8, 9], [0, 1, 2, 3, 4, 5, 6, 7, 8, 9], [0, 1, 2, 3, 4, 5, 6, 7, 8, 9, 10, 11], [0, 1, 2, 3, 4, 5, 6, 7, 8, 9, 10, 11, 12], [0, 1, 2, 3, 4, 5, 6, 7, 8, 9], [0, 1, 2, 3, 4, 5, 6, 7, 8, 9], [0, 1, 2, 3, 4, 5, 6, 7, 8, 9, 14, 15], [0, 1, 2, 3, 4, 5, 6, 7, 8, 9, 14, 15, 16], [0, 1, 2, 3, 4, 5, 6, 7, 8, 9, 10, 11, 12, 13, 14, 15, 16, 17], [0, 1, 2, 3, 4, 5, 6, 7, 8, 9, 10, 11, 12, 13, 14, 15, 16, 17, 18]] [] (by kernel_rfl) ?_
    | refine GT.unroll 5 ?_
    | exact rfl
    | refine GL.sf rfl rfl rfl rfl ?_
    | refine GL.nf rfl rfl rfl ?_
    | refine GL.sv rfl rfl rfl rfl ?_
    | refine GL.sn rfl rfl rfl ?_
    | refine GL.done ?_
    | refine GP.thenN ?_
    | refine GT.seq ?_
    | refine GT.region ?_
    | refine GD.li rfl rfl (by first | exact onAt.none rfl | exact onAt.yes rfl rfl rfl) rfl (by repeat first | exact AllG.nil rfl | refine AllG.cons rfl (by first | exact GO.sf rfl rfl | exact GO.ne rfl rfl rfl rfl rfl Tryd.eqGuardType46 (d_aeqSame46 _ _) rfl) ?_) ?_
    | refine GD.done rfl rfl rfl ?_
    | refine GL.v rfl rfl rfl (by first | exact GO.call rfl rfl Tryd.func7 rfl rfl rfl (d_off7 ⟨rfl, rfl, rfl, _, _, rfl⟩) | exact GO.call rfl rfl Tryd.func14 rfl rfl rfl (hS14 _ ⟨rfl, rfl, rfl, _, _, rfl⟩) | exact GO.push (GO.call rfl rfl Tryd.func8 rfl rfl rfl (t8 ⟨rfl, rfl, rfl, _, _, rfl⟩ rfl)) | exact GO.push (GO.call rfl rfl Tryd.func8 rfl rfl rfl (d_same8_4 ⟨rfl, rfl, rfl, _, _, rfl⟩ need sil x.s0 x.g0 x.l0 x.lo0 x.hi0 x.s1 x.g1 x.l1 x.lo1 x.hi1 x.s2 x.g2 x.l2 x.lo2 x.hi2 x.s3 x.g3 x.l3 x.lo3 x.hi3 x.s4 x.g4 x.l4 x.lo4 x.hi4 x.a x.b x.c x.d x.e x.f sa sb sc sd se sf hR.r0 hR.r1 hR.r2 hR.r3 hSl ‹_› ‹_› ‹_› ‹_› rfl)) | exact GO.add rfl rfl rfl (by omega)) ?_
    | refine GT.skip ?_
    | refine GT.block ?_
    | refine GT.ret ?_
    | refine GT.exit ?_
    | refine GP.thenE ?_
    | refine GP.inN ?_
    | refine GP.hit ?_
    | refine GP.againN ?_
    | refine GP.againE ?_
    | refine GU.step ?_
    | refine GT.condT rfl ?_
    | refine GT.condF rfl ?_
    | refine GP.endR1 rfl ?_)
end Go.M
