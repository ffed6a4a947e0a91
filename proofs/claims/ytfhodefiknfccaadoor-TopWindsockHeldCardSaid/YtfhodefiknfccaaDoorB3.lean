/- Functions of the given program, walked (no condition beyond what each theorem says). -/
import Derived.Test.YtfhodefiknfccaaDoorB2
import Derived.Test.YtfhodefiknfccaaDoorA4
set_option linter.unusedVariables false
set_option linter.unusedSimpArgs false
namespace Go.M
open Go.Proofs
set_option maxRecDepth 8000
set_option maxHeartbeats 4000000
theorem AC.givesG1 {f : FuncId} {args args2 : List Value} {A : AW} {x : AObj} {b g : Nat} {Φ : List Value → Prop} {e : TypeId} {v2 : Value} (hG : GOk A) (ho : objIn A b g x)
    (h : AC Tryd.prog f args (AW.of [(3, x), (2, .cells [] 0), (1, .cells stepsV 242), (0, .cells [.int .i64 0, .int .i64 0] 31)] 4 4 3) (fun v A1 => ∃ nm cs, A1.objs nm = some (.cells cs e) ∧ 4 ≤ nm ∧ (∃ j, noAddrs j cs = true) ∧ Φ cs ∧ AR (fun j => if j = A.next then some (nm, 0) else none) [v2] [v]))
    (ha : AR (fun j => if j < 3 then some (j, 0) else if j = 3 then some (b, g) else none) args args2) : AC Tryd.prog f args2 A (fun v A1 => ∃ cs, Φ cs ∧ v = v2 ∧ A1 = A.push (.cells cs e)) := by
  obtain ⟨hgl, h0, h1, c2, e2, h2⟩ := hG
  refine AC.givesR (fun j => if j < 3 then some (j, 0) else if j = 3 then some (b, g) else none) h (fun j x hx => by
    by_cases q : j < 3
    · omega
    · by_cases q2 : j = 3
      · omega
      · simp [q, q2] at hx) (fun j hj => ?_) (fun j o hj => ?_) ha (.inr ⟨hgl, fun g hg => by simp [hg], by decide⟩)
  · match j with
    | 0 => simp [alook] at hj
    | 1 => simp [alook] at hj
    | 2 => simp [alook] at hj
    | 3 => simp [alook] at hj
    | j + 4 => simp
  · match j with
    | 0 => simp only [alook] at hj; simp at hj; subst hj; exact ⟨by decide, (0, 0), by simp, by show A.rd 0 0 2 = _; unfold AW.rd; rw [h0]; rfl, 8, rfl⟩
    | 1 => simp only [alook] at hj; simp at hj; subst hj; exact ⟨by decide, (1, 0), by simp, by show A.rd 1 0 5 = _; unfold AW.rd; rw [h1]; rfl, 8, rfl⟩
    | 2 => simp only [alook] at hj; simp at hj; subst hj; exact ⟨by decide, (2, 0), by simp, by show A.rd 2 0 0 = _; unfold AW.rd; rw [h2]; simp, 8, rfl⟩
    | 3 => simp only [alook] at hj; simp at hj; subst hj; exact ⟨by decide, (b, g), by simp, ho⟩
    | j + 4 => simp [alook] at hj
theorem AC.exact {f : FuncId} {args : List Value} {A : AW} {c : List Value} {e : TypeId} {v2 : Value} (h : AC Tryd.prog f args A (fun v A1 => ∃ cs, cs = c ∧ v = v2 ∧ A1 = A.push (.cells cs e))) : AC Tryd.prog f args A (isR v2 (A.push (.cells c e))) :=
  h.mono fun v A1 ⟨cs, h1, h2, h3⟩ => by subst h1; exact ⟨h2, h3⟩
theorem d_readings8_1 {A : AW} {p o k : Nat} (hG : GOk A) (need sil s0 g0 l0 lo0 hi0 s1 g1 l1 lo1 hi1 s2 g2 l2 lo2 hi2 s3 g3 l3 lo3 hi3 s4 g4 l4 lo4 hi4 a b c d e f : Int) (hr0 : ReceiverOk s0 g0 l0 lo0 hi0) (hs : SignalOk a b c d e f) (hp : A.rd p o 0 = some []) :
    AC Tryd.prog 8 [.agg #[.slice (some ⟨p, o, none⟩) 1 k, .int .i64 need, .int .i64 sil], .agg #[.int .i64 s0, .int .i64 g0, .int .i64 l0, .int .i64 lo0, .int .i64 hi0, .int .i64 s1, .int .i64 g1, .int .i64 l1, .int .i64 lo1, .int .i64 hi1, .int .i64 s2, .int .i64 g2, .int .i64 l2, .int .i64 lo2, .int .i64 hi2, .int .i64 s3, .int .i64 g3, .int .i64 l3, .int .i64 lo3, .int .i64 hi3, .int .i64 s4, .int .i64 g4, .int .i64 l4, .int .i64 lo4, .int .i64 hi4], .agg #[.int .i64 a, .int .i64 b, .int .i64 c, .int .i64 d, .int .i64 e, .int .i64 f]] A
      (isR (.tuple #[.slice (some ⟨A.next, 0, none⟩) 1 1, .bool true]) (A.push (.cells [.int .i64 (rdN s0 g0 l0 lo0 hi0 a b c d e f), .bool (rdM l0 lo0 hi0 a b c d e f)] 46))) := by
  refine AC.exact (AC.givesG1 (x := .cells [] 43) (b := p) (g := o) (args := [.agg #[.slice (some ⟨3, 0, none⟩) 1 k, .int .i64 need, .int .i64 sil], .agg #[.int .i64 s0, .int .i64 g0, .int .i64 l0, .int .i64 lo0, .int .i64 hi0, .int .i64 s1, .int .i64 g1, .int .i64 l1, .int .i64 lo1, .int .i64 hi1, .int .i64 s2, .int .i64 g2, .int .i64 l2, .int .i64 lo2, .int .i64 hi2, .int .i64 s3, .int .i64 g3, .int .i64 l3, .int .i64 lo3, .int .i64 hi3, .int .i64 s4, .int .i64 g4, .int .i64 l4, .int .i64 lo4, .int .i64 hi4], .agg #[.int .i64 a, .int .i64 b, .int .i64 c, .int .i64 d, .int .i64 e, .int .i64 f]]) hG ⟨hp, 64, rfl⟩ ?_ (.agg (.sl (g := 0) rfl rfl (.flat (k := 8) rfl (.flat (k := 8) rfl .nil))) (.flat (k := 64) rfl (.flat (k := 32) rfl .nil))))
  refine AC.go Tryd.func8 rfl rfl ?_
  clear hp
  repeat' (first
  | refine GT.unroll 2 ?_
  | refine GT.draws (id := 5) [[], [0], [0, 1], [], [0, 1, 2, 3], [0, 1, 2, 3, 4], [0, 1, 2, 3, 4, 5], [0, 1, 2, 3, 4, 5], [], [0, 1, 2, 3, 4, 5, 6, 8], [0, 1, 2, 3, 4, 5, 6, 7, 8, 9]] [8, 9] (by kernel_rfl) ?_
  | refine GL.sf rfl rfl rfl rfl ?_
  | refine GL.sv rfl rfl rfl rfl ?_
  | refine GL.done ?_
  | refine GP.thenN ?_
  | refine GT.seq ?_
  | refine GT.region ?_
  | refine GD.li rfl rfl (by exact onAt.none rfl) rfl (by repeat first | exact AllG.nil rfl | refine AllG.cons rfl (by first | exact GO.sf rfl rfl | exact GO.call rfl rfl Tryd.func39 rfl rfl rfl (d_reading39 ⟨rfl, rfl, rfl, _, _, rfl⟩ _ _ _ _ _ _ _ _ _ _ _ hr0 hs)) ?_) ?_
  | refine GD.he rfl rfl rfl (by exact onAt.none rfl) rfl (by exact GO.sf rfl rfl) ?_ ?_
  | refine GD.hF rfl rfl rfl (by exact onAt.none rfl) rfl rfl ?_ ?_
  | refine GD.done rfl rfl rfl ?_
  | exact AllJs.nil rfl
  | refine AllJs.cons rfl ?_ ?_
  | exact again.go rfl rfl rfl (by first | exact GO.sf rfl rfl | exact GO.call rfl rfl Tryd.func39 rfl rfl rfl (d_reading39 ⟨rfl, rfl, rfl, _, _, rfl⟩ _ _ _ _ _ _ _ _ _ _ _ hr0 hs))
  | refine GL.v rfl rfl rfl (by exact GO.add rfl rfl rfl (by omega)) ?_
  | refine GT.skip ?_
  | refine GT.block ?_
  | refine GT.ret ?_
  | refine GT.exit ?_
  | refine GP.thenE ?_
  | refine GP.inN ?_
  | refine GP.hit ?_
  | refine GP.againN ?_
  | refine GP.againE ?_
  | refine GU.step ?_
  | refine GT.condT rfl ?_
  | refine GT.condF rfl ?_
  | refine GP.endR2 rfl ?_)
  refine ⟨_, _, ?_, ?_, ⟨64, ?_⟩, rfl, .tuple (.sl (f := 0) (if_pos rfl) rfl (.flat (k := 8) rfl .nil)) .nil⟩
  · rfl
  · decide
  · rfl
theorem d_readings8_2 {A : AW} {p o k : Nat} (hG : GOk A) (need sil s0 g0 l0 lo0 hi0 s1 g1 l1 lo1 hi1 s2 g2 l2 lo2 hi2 s3 g3 l3 lo3 hi3 s4 g4 l4 lo4 hi4 a b c d e f : Int) (hr0 : ReceiverOk s0 g0 l0 lo0 hi0) (hr1 : ReceiverOk s1 g1 l1 lo1 hi1) (hs : SignalOk a b c d e f) (hp : A.rd p o 0 = some []) :
    AC Tryd.prog 8 [.agg #[.slice (some ⟨p, o, none⟩) 2 k, .int .i64 need, .int .i64 sil], .agg #[.int .i64 s0, .int .i64 g0, .int .i64 l0, .int .i64 lo0, .int .i64 hi0, .int .i64 s1, .int .i64 g1, .int .i64 l1, .int .i64 lo1, .int .i64 hi1, .int .i64 s2, .int .i64 g2, .int .i64 l2, .int .i64 lo2, .int .i64 hi2, .int .i64 s3, .int .i64 g3, .int .i64 l3, .int .i64 lo3, .int .i64 hi3, .int .i64 s4, .int .i64 g4, .int .i64 l4, .int .i64 lo4, .int .i64 hi4], .agg #[.int .i64 a, .int .i64 b, .int .i64 c, .int .i64 d, .int .i64 e, .int .i64 f]] A
      (isR (.tuple #[.slice (some ⟨A.next, 0, none⟩) 2 2, .bool true]) (A.push (.cells [.int .i64 (rdN s0 g0 l0 lo0 hi0 a b c d e f), .bool (rdM l0 lo0 hi0 a b c d e f), .int .i64 (rdN s1 g1 l1 lo1 hi1 a b c d e f), .bool (rdM l1 lo1 hi1 a b c d e f)] 46))) := by
  refine AC.exact (AC.givesG1 (x := .cells [] 43) (b := p) (g := o) (args := [.agg #[.slice (some ⟨3, 0, none⟩) 2 k, .int .i64 need, .int .i64 sil], .agg #[.int .i64 s0, .int .i64 g0, .int .i64 l0, .int .i64 lo0, .int .i64 hi0, .int .i64 s1, .int .i64 g1, .int .i64 l1, .int .i64 lo1, .int .i64 hi1, .int .i64 s2, .int .i64 g2, .int .i64 l2, .int .i64 lo2, .int .i64 hi2, .int .i64 s3, .int .i64 g3, .int .i64 l3, .int .i64 lo3, .int .i64 hi3, .int .i64 s4, .int .i64 g4, .int .i64 l4, .int .i64 lo4, .int .i64 hi4], .agg #[.int .i64 a, .int .i64 b, .int .i64 c, .int .i64 d, .int .i64 e, .int .i64 f]]) hG ⟨hp, 64, rfl⟩ ?_ (.agg (.sl (g := 0) rfl rfl (.flat (k := 8) rfl (.flat (k := 8) rfl .nil))) (.flat (k := 64) rfl (.flat (k := 32) rfl .nil))))
  refine AC.go Tryd.func8 rfl rfl ?_
  clear hp
  repeat' (first
  | refine GT.unroll 3 ?_
  | refine GT.draws (id := 5) [[], [0], [0, 1], [], [0, 1, 2, 3], [0, 1, 2, 3, 4], [0, 1, 2, 3, 4, 5], [0, 1, 2, 3, 4, 5], [], [0, 1, 2, 3, 4, 5, 6, 8], [0, 1, 2, 3, 4, 5, 6, 7, 8, 9]] [8, 9] (by kernel_rfl) ?_
  | refine GL.sf rfl rfl rfl rfl ?_
  | refine GL.sv rfl rfl rfl rfl ?_
  | refine GL.done ?_
  | refine GP.thenN ?_
  | refine GT.seq ?_
  | refine GT.region ?_
  | refine GD.li rfl rfl (by exact onAt.none rfl) rfl (by repeat first | exact AllG.nil rfl | refine AllG.cons rfl (by first | exact GO.sf rfl rfl | exact GO.call rfl rfl Tryd.func39 rfl rfl rfl (d_reading39 ⟨rfl, rfl, rfl, _, _, rfl⟩ _ _ _ _ _ _ _ _ _ _ _ hr0 hs) | exact GO.call rfl rfl Tryd.func39 rfl rfl rfl (d_reading39 ⟨rfl, rfl, rfl, _, _, rfl⟩ _ _ _ _ _ _ _ _ _ _ _ hr1 hs)) ?_) ?_
  | refine GD.he rfl rfl rfl (by exact onAt.none rfl) rfl (by exact GO.sf rfl rfl) ?_ ?_
  | refine GD.hF rfl rfl rfl (by exact onAt.none rfl) rfl rfl ?_ ?_
  | refine GD.done rfl rfl rfl ?_
  | exact AllJs.nil rfl
  | refine AllJs.cons rfl ?_ ?_
  | exact again.go rfl rfl rfl (by first | exact GO.sf rfl rfl | exact GO.call rfl rfl Tryd.func39 rfl rfl rfl (d_reading39 ⟨rfl, rfl, rfl, _, _, rfl⟩ _ _ _ _ _ _ _ _ _ _ _ hr0 hs) | exact GO.call rfl rfl Tryd.func39 rfl rfl rfl (d_reading39 ⟨rfl, rfl, rfl, _, _, rfl⟩ _ _ _ _ _ _ _ _ _ _ _ hr1 hs))
  | refine GL.v rfl rfl rfl (by exact GO.add rfl rfl rfl (by omega)) ?_
  | refine GT.skip ?_
  | refine GT.block ?_
  | refine GT.ret ?_
  | refine GT.exit ?_
  | refine GP.thenE ?_
  | refine GP.inN ?_
  | refine GP.hit ?_
  | refine GP.againN ?_
  | refine GP.againE ?_
  | refine GU.step ?_
  | refine GT.condT rfl ?_
  | refine GT.condF rfl ?_
  | refine GP.endR2 rfl ?_)
  refine ⟨_, _, ?_, ?_, ⟨64, ?_⟩, rfl, .tuple (.sl (f := 0) (if_pos rfl) rfl (.flat (k := 8) rfl .nil)) .nil⟩
  · rfl
  · decide
  · rfl
theorem d_readings8_3 {A : AW} {p o k : Nat} (hG : GOk A) (need sil s0 g0 l0 lo0 hi0 s1 g1 l1 lo1 hi1 s2 g2 l2 lo2 hi2 s3 g3 l3 lo3 hi3 s4 g4 l4 lo4 hi4 a b c d e f : Int) (hr0 : ReceiverOk s0 g0 l0 lo0 hi0) (hr1 : ReceiverOk s1 g1 l1 lo1 hi1) (hr2 : ReceiverOk s2 g2 l2 lo2 hi2) (hs : SignalOk a b c d e f) (hp : A.rd p o 0 = some []) :
    AC Tryd.prog 8 [.agg #[.slice (some ⟨p, o, none⟩) 3 k, .int .i64 need, .int .i64 sil], .agg #[.int .i64 s0, .int .i64 g0, .int .i64 l0, .int .i64 lo0, .int .i64 hi0, .int .i64 s1, .int .i64 g1, .int .i64 l1, .int .i64 lo1, .int .i64 hi1, .int .i64 s2, .int .i64 g2, .int .i64 l2, .int .i64 lo2, .int .i64 hi2, .int .i64 s3, .int .i64 g3, .int .i64 l3, .int .i64 lo3, .int .i64 hi3, .int .i64 s4, .int .i64 g4, .int .i64 l4, .int .i64 lo4, .int .i64 hi4], .agg #[.int .i64 a, .int .i64 b, .int .i64 c, .int .i64 d, .int .i64 e, .int .i64 f]] A
      (isR (.tuple #[.slice (some ⟨A.next, 0, none⟩) 3 3, .bool true]) (A.push (.cells [.int .i64 (rdN s0 g0 l0 lo0 hi0 a b c d e f), .bool (rdM l0 lo0 hi0 a b c d e f), .int .i64 (rdN s1 g1 l1 lo1 hi1 a b c d e f), .bool (rdM l1 lo1 hi1 a b c d e f), .int .i64 (rdN s2 g2 l2 lo2 hi2 a b c d e f), .bool (rdM l2 lo2 hi2 a b c d e f)] 46))) := by
  refine AC.exact (AC.givesG1 (x := .cells [] 43) (b := p) (g := o) (args := [.agg #[.slice (some ⟨3, 0, none⟩) 3 k, .int .i64 need, .int .i64 sil], .agg #[.int .i64 s0, .int .i64 g0, .int .i64 l0, .int .i64 lo0, .int .i64 hi0, .int .i64 s1, .int .i64 g1, .int .i64 l1, .int .i64 lo1, .int .i64 hi1, .int .i64 s2, .int .i64 g2, .int .i64 l2, .int .i64 lo2, .int .i64 hi2, .int .i64 s3, .int .i64 g3, .int .i64 l3, .int .i64 lo3, .int .i64 hi3, .int .i64 s4, .int .i64 g4, .int .i64 l4, .int .i64 lo4, .int .i64 hi4], .agg #[.int .i64 a, .int .i64 b, .int .i64 c, .int .i64 d, .int .i64 e, .int .i64 f]]) hG ⟨hp, 64, rfl⟩ ?_ (.agg (.sl (g := 0) rfl rfl (.flat (k := 8) rfl (.flat (k := 8) rfl .nil))) (.flat (k := 64) rfl (.flat (k := 32) rfl .nil))))
  refine AC.go Tryd.func8 rfl rfl ?_
  clear hp
  repeat' (first
  | refine GT.unroll 4 ?_
  | refine GT.draws (id := 5) [[], [0], [0, 1], [], [0, 1, 2, 3], [0, 1, 2, 3, 4], [0, 1, 2, 3, 4, 5], [0, 1, 2, 3, 4, 5], [], [0, 1, 2, 3, 4, 5, 6, 8], [0, 1, 2, 3, 4, 5, 6, 7, 8, 9]] [8, 9] (by kernel_rfl) ?_
  | refine GL.sf rfl rfl rfl rfl ?_
  | refine GL.sv rfl rfl rfl rfl ?_
  | refine GL.done ?_
  | refine GP.thenN ?_
  | refine GT.seq ?_
  | refine GT.region ?_
  | refine GD.li rfl rfl (by exact onAt.none rfl) rfl (by repeat first | exact AllG.nil rfl | refine AllG.cons rfl (by first | exact GO.sf rfl rfl | exact GO.call rfl rfl Tryd.func39 rfl rfl rfl (d_reading39 ⟨rfl, rfl, rfl, _, _, rfl⟩ _ _ _ _ _ _ _ _ _ _ _ hr0 hs) | exact GO.call rfl rfl Tryd.func39 rfl rfl rfl (d_reading39 ⟨rfl, rfl, rfl, _, _, rfl⟩ _ _ _ _ _ _ _ _ _ _ _ hr1 hs) | exact GO.call rfl rfl Tryd.func39 rfl rfl rfl (d_reading39 ⟨rfl, rfl, rfl, _, _, rfl⟩ _ _ _ _ _ _ _ _ _ _ _ hr2 hs)) ?_) ?_
  | refine GD.he rfl rfl rfl (by exact onAt.none rfl) rfl (by exact GO.sf rfl rfl) ?_ ?_
  | refine GD.hF rfl rfl rfl (by exact onAt.none rfl) rfl rfl ?_ ?_
  | refine GD.done rfl rfl rfl ?_
  | exact AllJs.nil rfl
  | refine AllJs.cons rfl ?_ ?_
  | exact again.go rfl rfl rfl (by first | exact GO.sf rfl rfl | exact GO.call rfl rfl Tryd.func39 rfl rfl rfl (d_reading39 ⟨rfl, rfl, rfl, _, _, rfl⟩ _ _ _ _ _ _ _ _ _ _ _ hr0 hs) | exact GO.call rfl rfl Tryd.func39 rfl rfl rfl (d_reading39 ⟨rfl, rfl, rfl, _, _, rfl⟩ _ _ _ _ _ _ _ _ _ _ _ hr1 hs) | exact GO.call rfl rfl Tryd.func39 rfl rfl rfl (d_reading39 ⟨rfl, rfl, rfl, _, _, rfl⟩ _ _ _ _ _ _ _ _ _ _ _ hr2 hs))
  | refine GL.v rfl rfl rfl (by exact GO.add rfl rfl rfl (by omega)) ?_
  | refine GT.skip ?_
  | refine GT.block ?_
  | refine GT.ret ?_
  | refine GT.exit ?_
  | refine GP.thenE ?_
  | refine GP.inN ?_
  | refine GP.hit ?_
  | refine GP.againN ?_
  | refine GP.againE ?_
  | refine GU.step ?_
  | refine GT.condT rfl ?_
  | refine GT.condF rfl ?_
  | refine GP.endR2 rfl ?_)
  refine ⟨_, _, ?_, ?_, ⟨64, ?_⟩, rfl, .tuple (.sl (f := 0) (if_pos rfl) rfl (.flat (k := 8) rfl .nil)) .nil⟩
  · rfl
  · decide
  · rfl
theorem d_readings8_4 {A : AW} {p o k : Nat} (hG : GOk A) (need sil s0 g0 l0 lo0 hi0 s1 g1 l1 lo1 hi1 s2 g2 l2 lo2 hi2 s3 g3 l3 lo3 hi3 s4 g4 l4 lo4 hi4 a b c d e f : Int) (hr0 : ReceiverOk s0 g0 l0 lo0 hi0) (hr1 : ReceiverOk s1 g1 l1 lo1 hi1) (hr2 : ReceiverOk s2 g2 l2 lo2 hi2) (hr3 : ReceiverOk s3 g3 l3 lo3 hi3) (hs : SignalOk a b c d e f) (hp : A.rd p o 0 = some []) :
    AC Tryd.prog 8 [.agg #[.slice (some ⟨p, o, none⟩) 4 k, .int .i64 need, .int .i64 sil], .agg #[.int .i64 s0, .int .i64 g0, .int .i64 l0, .int .i64 lo0, .int .i64 hi0, .int .i64 s1, .int .i64 g1, .int .i64 l1, .int .i64 lo1, .int .i64 hi1, .int .i64 s2, .int .i64 g2, .int .i64 l2, .int .i64 lo2, .int .i64 hi2, .int .i64 s3, .int .i64 g3, .int .i64 l3, .int .i64 lo3, .int .i64 hi3, .int .i64 s4, .int .i64 g4, .int .i64 l4, .int .i64 lo4, .int .i64 hi4], .agg #[.int .i64 a, .int .i64 b, .int .i64 c, .int .i64 d, .int .i64 e, .int .i64 f]] A
      (isR (.tuple #[.slice (some ⟨A.next, 0, none⟩) 4 4, .bool true]) (A.push (.cells [.int .i64 (rdN s0 g0 l0 lo0 hi0 a b c d e f), .bool (rdM l0 lo0 hi0 a b c d e f), .int .i64 (rdN s1 g1 l1 lo1 hi1 a b c d e f), .bool (rdM l1 lo1 hi1 a b c d e f), .int .i64 (rdN s2 g2 l2 lo2 hi2 a b c d e f), .bool (rdM l2 lo2 hi2 a b c d e f), .int .i64 (rdN s3 g3 l3 lo3 hi3 a b c d e f), .bool (rdM l3 lo3 hi3 a b c d e f)] 46))) := by
  refine AC.exact (AC.givesG1 (x := .cells [] 43) (b := p) (g := o) (args := [.agg #[.slice (some ⟨3, 0, none⟩) 4 k, .int .i64 need, .int .i64 sil], .agg #[.int .i64 s0, .int .i64 g0, .int .i64 l0, .int .i64 lo0, .int .i64 hi0, .int .i64 s1, .int .i64 g1, .int .i64 l1, .int .i64 lo1, .int .i64 hi1, .int .i64 s2, .int .i64 g2, .int .i64 l2, .int .i64 lo2, .int .i64 hi2, .int .i64 s3, .int .i64 g3, .int .i64 l3, .int .i64 lo3, .int .i64 hi3, .int .i64 s4, .int .i64 g4, .int .i64 l4, .int .i64 lo4, .int .i64 hi4], .agg #[.int .i64 a, .int .i64 b, .int .i64 c, .int .i64 d, .int .i64 e, .int .i64 f]]) hG ⟨hp, 64, rfl⟩ ?_ (.agg (.sl (g := 0) rfl rfl (.flat (k := 8) rfl (.flat (k := 8) rfl .nil))) (.flat (k := 64) rfl (.flat (k := 32) rfl .nil))))
  refine AC.go Tryd.func8 rfl rfl ?_
  clear hp
  repeat' (first
  | refine GT.unroll 5 ?_
  | refine GT.draws (id := 5) [[], [0], [0, 1], [], [0, 1, 2, 3], [0, 1, 2, 3, 4], [0, 1, 2, 3, 4, 5], [0, 1, 2, 3, 4, 5], [], [0, 1, 2, 3, 4, 5, 6, 8], [0, 1, 2, 3, 4, 5, 6, 7, 8, 9]] [8, 9] (by kernel_rfl) ?_
  | refine GL.sf rfl rfl rfl rfl ?_
  | refine GL.sv rfl rfl rfl rfl ?_
  | refine GL.done ?_
  | refine GP.thenN ?_
  | refine GT.seq ?_
  | refine GT.region ?_
  | refine GD.li rfl rfl (by exact onAt.none rfl) rfl (by repeat first | exact AllG.nil rfl | refine AllG.cons rfl (by first | exact GO.sf rfl rfl | exact GO.call rfl rfl Tryd.func39 rfl rfl rfl (d_reading39 ⟨rfl, rfl, rfl, _, _, rfl⟩ _ _ _ _ _ _ _ _ _ _ _ hr0 hs) | exact GO.call rfl rfl Tryd.func39 rfl rfl rfl (d_reading39 ⟨rfl, rfl, rfl, _, _, rfl⟩ _ _ _ _ _ _ _ _ _ _ _ hr1 hs) | exact GO.call rfl rfl Tryd.func39 rfl rfl rfl (d_reading39 ⟨rfl, rfl, rfl, _, _, rfl⟩ _ _ _ _ _ _ _ _ _ _ _ hr2 hs) | exact GO.call rfl rfl Tryd.func39 rfl rfl rfl (d_reading39 ⟨rfl, rfl, rfl, _, _, rfl⟩ _ _ _ _ _ _ _ _ _ _ _ hr3 hs)) ?_) ?_
  | refine GD.he rfl rfl rfl (by exact onAt.none rfl) rfl (by exact GO.sf rfl rfl) ?_ ?_
  | refine GD.hF rfl rfl rfl (by exact onAt.none rfl) rfl rfl ?_ ?_
  | refine GD.done rfl rfl rfl ?_
  | exact AllJs.nil rfl
  | refine AllJs.cons rfl ?_ ?_
  | exact again.go rfl rfl rfl (by first | exact GO.sf rfl rfl | exact GO.call rfl rfl Tryd.func39 rfl rfl rfl (d_reading39 ⟨rfl, rfl, rfl, _, _, rfl⟩ _ _ _ _ _ _ _ _ _ _ _ hr0 hs) | exact GO.call rfl rfl Tryd.func39 rfl rfl rfl (d_reading39 ⟨rfl, rfl, rfl, _, _, rfl⟩ _ _ _ _ _ _ _ _ _ _ _ hr1 hs) | exact GO.call rfl rfl Tryd.func39 rfl rfl rfl (d_reading39 ⟨rfl, rfl, rfl, _, _, rfl⟩ _ _ _ _ _ _ _ _ _ _ _ hr2 hs) | exact GO.call rfl rfl Tryd.func39 rfl rfl rfl (d_reading39 ⟨rfl, rfl, rfl, _, _, rfl⟩ _ _ _ _ _ _ _ _ _ _ _ hr3 hs))
  | refine GL.v rfl rfl rfl (by exact GO.add rfl rfl rfl (by omega)) ?_
  | refine GT.skip ?_
  | refine GT.block ?_
  | refine GT.ret ?_
  | refine GT.exit ?_
  | refine GP.thenE ?_
  | refine GP.inN ?_
  | refine GP.hit ?_
  | refine GP.againN ?_
  | refine GP.againE ?_
  | refine GU.step ?_
  | refine GT.condT rfl ?_
  | refine GT.condF rfl ?_
  | refine GP.endR2 rfl ?_)
  refine ⟨_, _, ?_, ?_, ⟨64, ?_⟩, rfl, .tuple (.sl (f := 0) (if_pos rfl) rfl (.flat (k := 8) rfl .nil)) .nil⟩
  · rfl
  · decide
  · rfl
theorem d_readings8_5 {A : AW} {p o k : Nat} (hG : GOk A) (need sil s0 g0 l0 lo0 hi0 s1 g1 l1 lo1 hi1 s2 g2 l2 lo2 hi2 s3 g3 l3 lo3 hi3 s4 g4 l4 lo4 hi4 a b c d e f : Int) (hr0 : ReceiverOk s0 g0 l0 lo0 hi0) (hr1 : ReceiverOk s1 g1 l1 lo1 hi1) (hr2 : ReceiverOk s2 g2 l2 lo2 hi2) (hr3 : ReceiverOk s3 g3 l3 lo3 hi3) (hr4 : ReceiverOk s4 g4 l4 lo4 hi4) (hs : SignalOk a b c d e f) (hp : A.rd p o 0 = some []) :
    AC Tryd.prog 8 [.agg #[.slice (some ⟨p, o, none⟩) 5 k, .int .i64 need, .int .i64 sil], .agg #[.int .i64 s0, .int .i64 g0, .int .i64 l0, .int .i64 lo0, .int .i64 hi0, .int .i64 s1, .int .i64 g1, .int .i64 l1, .int .i64 lo1, .int .i64 hi1, .int .i64 s2, .int .i64 g2, .int .i64 l2, .int .i64 lo2, .int .i64 hi2, .int .i64 s3, .int .i64 g3, .int .i64 l3, .int .i64 lo3, .int .i64 hi3, .int .i64 s4, .int .i64 g4, .int .i64 l4, .int .i64 lo4, .int .i64 hi4], .agg #[.int .i64 a, .int .i64 b, .int .i64 c, .int .i64 d, .int .i64 e, .int .i64 f]] A
      (isR (.tuple #[.slice (some ⟨A.next, 0, none⟩) 5 5, .bool true]) (A.push (.cells [.int .i64 (rdN s0 g0 l0 lo0 hi0 a b c d e f), .bool (rdM l0 lo0 hi0 a b c d e f), .int .i64 (rdN s1 g1 l1 lo1 hi1 a b c d e f), .bool (rdM l1 lo1 hi1 a b c d e f), .int .i64 (rdN s2 g2 l2 lo2 hi2 a b c d e f), .bool (rdM l2 lo2 hi2 a b c d e f), .int .i64 (rdN s3 g3 l3 lo3 hi3 a b c d e f), .bool (rdM l3 lo3 hi3 a b c d e f), .int .i64 (rdN s4 g4 l4 lo4 hi4 a b c d e f), .bool (rdM l4 lo4 hi4 a b c d e f)] 46))) := by
  refine AC.exact (AC.givesG1 (x := .cells [] 43) (b := p) (g := o) (args := [.agg #[.slice (some ⟨3, 0, none⟩) 5 k, .int .i64 need, .int .i64 sil], .agg #[.int .i64 s0, .int .i64 g0, .int .i64 l0, .int .i64 lo0, .int .i64 hi0, .int .i64 s1, .int .i64 g1, .int .i64 l1, .int .i64 lo1, .int .i64 hi1, .int .i64 s2, .int .i64 g2, .int .i64 l2, .int .i64 lo2, .int .i64 hi2, .int .i64 s3, .int .i64 g3, .int .i64 l3, .int .i64 lo3, .int .i64 hi3, .int .i64 s4, .int .i64 g4, .int .i64 l4, .int .i64 lo4, .int .i64 hi4], .agg #[.int .i64 a, .int .i64 b, .int .i64 c, .int .i64 d, .int .i64 e, .int .i64 f]]) hG ⟨hp, 64, rfl⟩ ?_ (.agg (.sl (g := 0) rfl rfl (.flat (k := 8) rfl (.flat (k := 8) rfl .nil))) (.flat (k := 64) rfl (.flat (k := 32) rfl .nil))))
  refine AC.go Tryd.func8 rfl rfl ?_
  clear hp
  repeat' (first
  | refine GT.unroll 6 ?_
  | refine GT.draws (id := 5) [[], [0], [0, 1], [], [0, 1, 2, 3], [0, 1, 2, 3, 4], [0, 1, 2, 3, 4, 5], [0, 1, 2, 3, 4, 5], [], [0, 1, 2, 3, 4, 5, 6, 8], [0, 1, 2, 3, 4, 5, 6, 7, 8, 9]] [8, 9] (by kernel_rfl) ?_
  | refine GL.sf rfl rfl rfl rfl ?_
  | refine GL.sv rfl rfl rfl rfl ?_
  | refine GL.done ?_
  | refine GP.thenN ?_
  | refine GT.seq ?_
  | refine GT.region ?_
  | refine GD.li rfl rfl (by exact onAt.none rfl) rfl (by repeat first | exact AllG.nil rfl | refine AllG.cons rfl (by first | exact GO.sf rfl rfl | exact GO.call rfl rfl Tryd.func39 rfl rfl rfl (d_reading39 ⟨rfl, rfl, rfl, _, _, rfl⟩ _ _ _ _ _ _ _ _ _ _ _ hr0 hs) | exact GO.call rfl rfl Tryd.func39 rfl rfl rfl (d_reading39 ⟨rfl, rfl, rfl, _, _, rfl⟩ _ _ _ _ _ _ _ _ _ _ _ hr1 hs) | exact GO.call rfl rfl Tryd.func39 rfl rfl rfl (d_reading39 ⟨rfl, rfl, rfl, _, _, rfl⟩ _ _ _ _ _ _ _ _ _ _ _ hr2 hs) | exact GO.call rfl rfl Tryd.func39 rfl rfl rfl (d_reading39 ⟨rfl, rfl, rfl, _, _, rfl⟩ _ _ _ _ _ _ _ _ _ _ _ hr3 hs) | exact GO.call rfl rfl Tryd.func39 rfl rfl rfl (d_reading39 ⟨rfl, rfl, rfl, _, _, rfl⟩ _ _ _ _ _ _ _ _ _ _ _ hr4 hs)) ?_) ?_
  | refine GD.he rfl rfl rfl (by exact onAt.none rfl) rfl (by exact GO.sf rfl rfl) ?_ ?_
  | refine GD.hF rfl rfl rfl (by exact onAt.none rfl) rfl rfl ?_ ?_
  | refine GD.done rfl rfl rfl ?_
  | exact AllJs.nil rfl
  | refine AllJs.cons rfl ?_ ?_
  | exact again.go rfl rfl rfl (by first | exact GO.sf rfl rfl | exact GO.call rfl rfl Tryd.func39 rfl rfl rfl (d_reading39 ⟨rfl, rfl, rfl, _, _, rfl⟩ _ _ _ _ _ _ _ _ _ _ _ hr0 hs) | exact GO.call rfl rfl Tryd.func39 rfl rfl rfl (d_reading39 ⟨rfl, rfl, rfl, _, _, rfl⟩ _ _ _ _ _ _ _ _ _ _ _ hr1 hs) | exact GO.call rfl rfl Tryd.func39 rfl rfl rfl (d_reading39 ⟨rfl, rfl, rfl, _, _, rfl⟩ _ _ _ _ _ _ _ _ _ _ _ hr2 hs) | exact GO.call rfl rfl Tryd.func39 rfl rfl rfl (d_reading39 ⟨rfl, rfl, rfl, _, _, rfl⟩ _ _ _ _ _ _ _ _ _ _ _ hr3 hs) | exact GO.call rfl rfl Tryd.func39 rfl rfl rfl (d_reading39 ⟨rfl, rfl, rfl, _, _, rfl⟩ _ _ _ _ _ _ _ _ _ _ _ hr4 hs))
  | refine GL.v rfl rfl rfl (by exact GO.add rfl rfl rfl (by omega)) ?_
  | refine GT.skip ?_
  | refine GT.block ?_
  | refine GT.ret ?_
  | refine GT.exit ?_
  | refine GP.thenE ?_
  | refine GP.inN ?_
  | refine GP.hit ?_
  | refine GP.againN ?_
  | refine GP.againE ?_
  | refine GU.step ?_
  | refine GT.condT rfl ?_
  | refine GT.condF rfl ?_
  | refine GP.endR2 rfl ?_)
  refine ⟨_, _, ?_, ?_, ⟨64, ?_⟩, rfl, .tuple (.sl (f := 0) (if_pos rfl) rfl (.flat (k := 8) rfl .nil)) .nil⟩
  · rfl
  · decide
  · rfl
end Go.M
