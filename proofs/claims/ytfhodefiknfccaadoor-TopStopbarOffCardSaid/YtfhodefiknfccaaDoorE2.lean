/- Functions of the given program, walked (no condition beyond what each theorem says). -/
import Derived.Test.YtfhodefiknfccaaDoorB2
import Derived.Test.YtfhodefiknfccaaDoorA5
set_option linter.unusedVariables false
set_option linter.unusedSimpArgs false
namespace Go.M
open Go.Proofs Go.RowKit
set_option maxRecDepth 8000
set_option maxHeartbeats 4000000
theorem d_timesI {A : AW} (a b : Int) (ha : a.natAbs ≤ 100000) (hb : b.natAbs ≤ 100000) : AC Tryd.prog 46 [.agg #[.int .i64 a, .int .i64 b], .agg #[.int .i64 0, .int .i64 1]] A (isR (.agg #[.int .i64 (-b), .int .i64 a]) A) := by
  have h := d_times46 (A := A) a b 0 1 ha hb (by decide) (by decide)
  have e1 : a * 0 - b * 1 = -b := by omega
  have e2 : a * 1 + b * 0 = a := by omega
  rw [e1, e2] at h
  exact h
theorem d_turn45_0 {A : AW} {p : Nat} (a b : Int) (ha : a.natAbs ≤ 10000) (hb : b.natAbs ≤ 10000) (h : A.rd p 0 1 = some [.int .i64 0]) : AC Tryd.prog 45 [.agg #[.int .i64 a, .int .i64 b], .pointer (some ⟨p, 0, none⟩)] A (isR (.agg #[.int .i64 (a), .int .i64 (b)]) A) := by
  refine AC.isX (SmallX.nil.cons (k := 0) (b := p) (f := 0) (o := .cells [.int .i64 0] 3) (.flat (k := 8) h rfl)) (args := [.agg #[.int .i64 a, .int .i64 b], .pointer (some ⟨0, 0, none⟩)]) ?_ ⟨8, rfl⟩ (.flat (k := 8) rfl (.ptr rfl rfl .nil))
  refine AC.go Tryd.func45 rfl rfl ?_
  clear h
  repeat' (first
  | refine GT.unroll 1 ?_
  | refine GL.sf rfl rfl rfl rfl ?_
  | refine GL.nf rfl rfl rfl ?_
  | refine GL.done ?_
  | refine GP.thenN ?_
  | refine GT.seq ?_
  | refine GT.region ?_
  | refine GT.block ?_
  | refine GT.ret ?_
  | refine GT.exit ?_
  | refine GP.thenE ?_
  | refine GP.hit ?_
  | refine GP.againE ?_
  | refine GU.step ?_
  | refine GT.condF rfl ?_
  | refine GP.endR1 rfl ?_)
  rfl
theorem d_each47_0 {A : AW} {p : Nat} (a b c d e f : Int) (hs : SmallS a b c d e f) (h : A.rd p 0 1 = some [.int .i64 0]) : AC Tryd.prog 47 [.agg #[.int .i64 a, .int .i64 b, .int .i64 c, .int .i64 d, .int .i64 e, .int .i64 f], .func (.func 45) #[] #[.pointer (some ⟨p, 0, none⟩)], .func (.func 45) #[] #[.pointer (some ⟨p, 0, none⟩)]] A (isR (.agg #[.int .i64 (a), .int .i64 (b), .int .i64 (c), .int .i64 (d), .int .i64 (e), .int .i64 (f)]) A) := by
  refine AC.isX (SmallX.nil.cons (k := 0) (b := p) (f := 0) (o := .cells [.int .i64 0] 3) (.flat (k := 8) h rfl)) (args := [.agg #[.int .i64 a, .int .i64 b, .int .i64 c, .int .i64 d, .int .i64 e, .int .i64 f], .func (.func 45) #[] #[.pointer (some ⟨0, 0, none⟩)], .func (.func 45) #[] #[.pointer (some ⟨0, 0, none⟩)]]) ?_ ⟨32, rfl⟩ (.flat (k := 32) rfl (.func (by intro l h; cases h) .nil (.ptr (f := 0) (g := 0) rfl rfl .nil) (.func (by intro l h; cases h) .nil (.ptr (f := 0) (g := 0) rfl rfl .nil) .nil)))
  obtain ⟨h1, h2, h3, h4, h5, h6⟩ := hs
  refine AC.go Tryd.func47 rfl rfl ?_
  clear h
  repeat' (first
  | refine GT.draws (id := 1) [[], [], [1], [0, 1, 2], [], [], [5], [0, 1, 2, 3, 4, 5, 6], [], [], [9], [0, 1, 2, 3, 4, 5, 6, 7, 8, 9, 10], [0, 1, 2, 3, 4, 5, 6, 7, 8, 9, 10, 11], [0, 1, 2, 3, 4, 5, 6, 7, 8, 9, 10, 11, 12]] [13] (by kernel_rfl) ?_
  | refine GL.sf rfl rfl rfl rfl ?_
  | refine GL.done ?_
  | refine GP.thenN ?_
  | refine GT.seq ?_
  | refine GT.region ?_
  | refine GD.li rfl rfl (by exact onAt.none rfl) rfl (by repeat first | exact AllG.nil rfl | refine AllG.cons rfl (by first | exact GO.sf rfl rfl | exact GO.callV rfl rfl rfl Tryd.func45 rfl rfl rfl (d_turn45_0 _ _ (by omega) (by omega) rfl)) ?_) ?_
  | refine GD.hF rfl rfl rfl (by exact onAt.none rfl) rfl rfl ?_ ?_
  | refine GD.done rfl rfl rfl ?_
  | exact AllJs.nil rfl
  | refine GT.ret ?_
  | refine GP.endR1 rfl ?_)
  rfl
theorem d_turned13_0 {A : AW} (hG : GOk A) (a b c d e f : Int) (hs : SignalOk a b c d e f) : AC Tryd.prog 13 [.agg #[.int .i64 a, .int .i64 b, .int .i64 c, .int .i64 d, .int .i64 e, .int .i64 f], .int .i64 0] A (isR (.tuple #[.agg #[.int .i64 (a), .int .i64 (b), .int .i64 (c), .int .i64 (d), .int .i64 (e), .int .i64 (f)], .int .i64 0]) A) := by
  refine AC.isG hG ?_ ⟨32, rfl⟩ (.flat (k := 32) rfl (.flat (k := 32) rfl .nil))
  refine AC.go Tryd.func13 rfl rfl ?_
  repeat' (first
  | refine GT.draws (id := 1) [[], [0], [], [0, 1, 2], [0, 1, 2, 3], [0, 1, 2, 3, 4], [0, 1, 2, 3, 4, 5]] [4] (by kernel_rfl) ?_
  | refine GL.sf rfl rfl rfl rfl ?_
  | refine GL.nf rfl rfl rfl ?_
  | refine GL.done ?_
  | refine GP.thenN ?_
  | refine GT.seq ?_
  | refine GT.region ?_
  | refine GD.li rfl rfl (by exact onAt.none rfl) rfl (by repeat first | exact AllG.nil rfl | refine AllG.cons rfl (by first | exact GO.sf rfl rfl | exact GO.call rfl rfl Tryd.func43 rfl rfl rfl (d_signal43ok ⟨rfl, rfl, rfl, _, _, rfl⟩ _ _ _ _ _ _ hs) | exact GO.call rfl rfl Tryd.func44 rfl rfl rfl (d_within44 _ _ _) | exact GO.call rfl rfl Tryd.func42 rfl rfl rfl (d_first42 [0, whenI (withinB 0 0 3) 3] rfl rfl rfl)) ?_) ?_
  | refine GD.he rfl rfl rfl (by exact onAt.none rfl) rfl (by exact GO.sf rfl rfl) ?_ ?_
  | refine GD.done rfl rfl rfl ?_
  | exact AllJs.nil rfl
  | refine GL.v rfl rfl rfl (by first | exact GO.call rfl rfl Tryd.func47 rfl rfl rfl (d_each47_0 _ _ _ _ _ _ (small_of hs) rfl) | exact GO.mkfn rfl (fun _ h => by cases h) rfl rfl) ?_
  | refine GT.skip ?_
  | refine GT.ret ?_
  | refine GT.condF rfl ?_
  | refine GP.endR2 rfl ?_)
  rfl
theorem d_turn45_1 {A : AW} {p : Nat} (a b : Int) (ha : a.natAbs ≤ 10000) (hb : b.natAbs ≤ 10000) (h : A.rd p 0 1 = some [.int .i64 1]) : AC Tryd.prog 45 [.agg #[.int .i64 a, .int .i64 b], .pointer (some ⟨p, 0, none⟩)] A (isR (.agg #[.int .i64 (-b), .int .i64 (a)]) A) := by
  refine AC.isX (SmallX.nil.cons (k := 0) (b := p) (f := 0) (o := .cells [.int .i64 1] 3) (.flat (k := 8) h rfl)) (args := [.agg #[.int .i64 a, .int .i64 b], .pointer (some ⟨0, 0, none⟩)]) ?_ ⟨8, rfl⟩ (.flat (k := 8) rfl (.ptr rfl rfl .nil))
  refine AC.go Tryd.func45 rfl rfl ?_
  clear h
  repeat' (first
  | refine GT.unroll 2 ?_
  | refine GL.sf rfl rfl rfl rfl ?_
  | refine GL.nf rfl rfl rfl ?_
  | refine GL.done ?_
  | refine GP.thenN ?_
  | refine GT.seq ?_
  | refine GT.region ?_
  | refine GL.v rfl rfl rfl (by first | exact GO.call rfl rfl Tryd.func46 rfl rfl rfl (d_timesI _ _ (by omega) (by omega)) | exact GO.add rfl rfl rfl (by omega)) ?_
  | refine GT.skip ?_
  | refine GT.block ?_
  | refine GT.ret ?_
  | refine GT.exit ?_
  | refine GP.thenE ?_
  | refine GP.inN ?_
  | refine GP.hit ?_
  | refine GP.againN ?_
  | refine GP.againE ?_
  | refine GU.step ?_
  | refine GT.condT rfl ?_
  | refine GT.condF rfl ?_
  | refine GP.endR1 rfl ?_)
  rfl
theorem d_each47_1 {A : AW} {p : Nat} (a b c d e f : Int) (hs : SmallS a b c d e f) (h : A.rd p 0 1 = some [.int .i64 1]) : AC Tryd.prog 47 [.agg #[.int .i64 a, .int .i64 b, .int .i64 c, .int .i64 d, .int .i64 e, .int .i64 f], .func (.func 45) #[] #[.pointer (some ⟨p, 0, none⟩)], .func (.func 45) #[] #[.pointer (some ⟨p, 0, none⟩)]] A (isR (.agg #[.int .i64 (-b), .int .i64 (a), .int .i64 (-d), .int .i64 (c), .int .i64 (-f), .int .i64 (e)]) A) := by
  refine AC.isX (SmallX.nil.cons (k := 0) (b := p) (f := 0) (o := .cells [.int .i64 1] 3) (.flat (k := 8) h rfl)) (args := [.agg #[.int .i64 a, .int .i64 b, .int .i64 c, .int .i64 d, .int .i64 e, .int .i64 f], .func (.func 45) #[] #[.pointer (some ⟨0, 0, none⟩)], .func (.func 45) #[] #[.pointer (some ⟨0, 0, none⟩)]]) ?_ ⟨32, rfl⟩ (.flat (k := 32) rfl (.func (by intro l h; cases h) .nil (.ptr (f := 0) (g := 0) rfl rfl .nil) (.func (by intro l h; cases h) .nil (.ptr (f := 0) (g := 0) rfl rfl .nil) .nil)))
  obtain ⟨h1, h2, h3, h4, h5, h6⟩ := hs
  refine AC.go Tryd.func47 rfl rfl ?_
  clear h
  repeat' (first
  | refine GT.draws (id := 1) [[], [], [1], [0, 1, 2], [], [], [5], [0, 1, 2, 3, 4, 5, 6], [], [], [9], [0, 1, 2, 3, 4, 5, 6, 7, 8, 9, 10], [0, 1, 2, 3, 4, 5, 6, 7, 8, 9, 10, 11], [0, 1, 2, 3, 4, 5, 6, 7, 8, 9, 10, 11, 12]] [13] (by kernel_rfl) ?_
  | refine GL.sf rfl rfl rfl rfl ?_
  | refine GL.done ?_
  | refine GP.thenN ?_
  | refine GT.seq ?_
  | refine GT.region ?_
  | refine GD.li rfl rfl (by exact onAt.none rfl) rfl (by repeat first | exact AllG.nil rfl | refine AllG.cons rfl (by first | exact GO.sf rfl rfl | exact GO.callV rfl rfl rfl Tryd.func45 rfl rfl rfl (d_turn45_1 _ _ (by omega) (by omega) rfl)) ?_) ?_
  | refine GD.hF rfl rfl rfl (by exact onAt.none rfl) rfl rfl ?_ ?_
  | refine GD.done rfl rfl rfl ?_
  | exact AllJs.nil rfl
  | refine GT.ret ?_
  | refine GP.endR1 rfl ?_)
  rfl
theorem d_turned13_1 {A : AW} (hG : GOk A) (a b c d e f : Int) (hs : SignalOk a b c d e f) : AC Tryd.prog 13 [.agg #[.int .i64 a, .int .i64 b, .int .i64 c, .int .i64 d, .int .i64 e, .int .i64 f], .int .i64 1] A (isR (.tuple #[.agg #[.int .i64 (-b), .int .i64 (a), .int .i64 (-d), .int .i64 (c), .int .i64 (-f), .int .i64 (e)], .int .i64 0]) A) := by
  refine AC.isG hG ?_ ⟨32, rfl⟩ (.flat (k := 32) rfl (.flat (k := 32) rfl .nil))
  refine AC.go Tryd.func13 rfl rfl ?_
  repeat' (first
  | refine GT.draws (id := 1) [[], [0], [], [0, 1, 2], [0, 1, 2, 3], [0, 1, 2, 3, 4], [0, 1, 2, 3, 4, 5]] [4] (by kernel_rfl) ?_
  | refine GL.sf rfl rfl rfl rfl ?_
  | refine GL.nf rfl rfl rfl ?_
  | refine GL.done ?_
  | refine GP.thenN ?_
  | refine GT.seq ?_
  | refine GT.region ?_
  | refine GD.li rfl rfl (by exact onAt.none rfl) rfl (by repeat first | exact AllG.nil rfl | refine AllG.cons rfl (by first | exact GO.sf rfl rfl | exact GO.call rfl rfl Tryd.func43 rfl rfl rfl (d_signal43ok ⟨rfl, rfl, rfl, _, _, rfl⟩ _ _ _ _ _ _ hs) | exact GO.call rfl rfl Tryd.func44 rfl rfl rfl (d_within44 _ _ _) | exact GO.call rfl rfl Tryd.func42 rfl rfl rfl (d_first42 [0, whenI (withinB 1 0 3) 3] rfl rfl rfl)) ?_) ?_
  | refine GD.he rfl rfl rfl (by exact onAt.none rfl) rfl (by exact GO.sf rfl rfl) ?_ ?_
  | refine GD.done rfl rfl rfl ?_
  | exact AllJs.nil rfl
  | refine GL.v rfl rfl rfl (by first | exact GO.call rfl rfl Tryd.func47 rfl rfl rfl (d_each47_1 _ _ _ _ _ _ (small_of hs) rfl) | exact GO.mkfn rfl (fun _ h => by cases h) rfl rfl) ?_
  | refine GT.skip ?_
  | refine GT.ret ?_
  | refine GT.condF rfl ?_
  | refine GP.endR2 rfl ?_)
  rfl
theorem d_turn45_2 {A : AW} {p : Nat} (a b : Int) (ha : a.natAbs ≤ 10000) (hb : b.natAbs ≤ 10000) (h : A.rd p 0 1 = some [.int .i64 2]) : AC Tryd.prog 45 [.agg #[.int .i64 a, .int .i64 b], .pointer (some ⟨p, 0, none⟩)] A (isR (.agg #[.int .i64 (-a), .int .i64 (-b)]) A) := by
  refine AC.isX (SmallX.nil.cons (k := 0) (b := p) (f := 0) (o := .cells [.int .i64 2] 3) (.flat (k := 8) h rfl)) (args := [.agg #[.int .i64 a, .int .i64 b], .pointer (some ⟨0, 0, none⟩)]) ?_ ⟨8, rfl⟩ (.flat (k := 8) rfl (.ptr rfl rfl .nil))
  refine AC.go Tryd.func45 rfl rfl ?_
  clear h
  repeat' (first
  | refine GT.unroll 3 ?_
  | refine GL.sf rfl rfl rfl rfl ?_
  | refine GL.nf rfl rfl rfl ?_
  | refine GL.done ?_
  | refine GP.thenN ?_
  | refine GT.seq ?_
  | refine GT.region ?_
  | refine GL.v rfl rfl rfl (by first | exact GO.call rfl rfl Tryd.func46 rfl rfl rfl (d_timesI _ _ (by omega) (by omega)) | exact GO.add rfl rfl rfl (by omega)) ?_
  | refine GT.skip ?_
  | refine GT.block ?_
  | refine GT.ret ?_
  | refine GT.exit ?_
  | refine GP.thenE ?_
  | refine GP.inN ?_
  | refine GP.hit ?_
  | refine GP.againN ?_
  | refine GP.againE ?_
  | refine GU.step ?_
  | refine GT.condT rfl ?_
  | refine GT.condF rfl ?_
  | refine GP.endR1 rfl ?_)
  rfl
theorem d_each47_2 {A : AW} {p : Nat} (a b c d e f : Int) (hs : SmallS a b c d e f) (h : A.rd p 0 1 = some [.int .i64 2]) : AC Tryd.prog 47 [.agg #[.int .i64 a, .int .i64 b, .int .i64 c, .int .i64 d, .int .i64 e, .int .i64 f], .func (.func 45) #[] #[.pointer (some ⟨p, 0, none⟩)], .func (.func 45) #[] #[.pointer (some ⟨p, 0, none⟩)]] A (isR (.agg #[.int .i64 (-a), .int .i64 (-b), .int .i64 (-c), .int .i64 (-d), .int .i64 (-e), .int .i64 (-f)]) A) := by
  refine AC.isX (SmallX.nil.cons (k := 0) (b := p) (f := 0) (o := .cells [.int .i64 2] 3) (.flat (k := 8) h rfl)) (args := [.agg #[.int .i64 a, .int .i64 b, .int .i64 c, .int .i64 d, .int .i64 e, .int .i64 f], .func (.func 45) #[] #[.pointer (some ⟨0, 0, none⟩)], .func (.func 45) #[] #[.pointer (some ⟨0, 0, none⟩)]]) ?_ ⟨32, rfl⟩ (.flat (k := 32) rfl (.func (by intro l h; cases h) .nil (.ptr (f := 0) (g := 0) rfl rfl .nil) (.func (by intro l h; cases h) .nil (.ptr (f := 0) (g := 0) rfl rfl .nil) .nil)))
  obtain ⟨h1, h2, h3, h4, h5, h6⟩ := hs
  refine AC.go Tryd.func47 rfl rfl ?_
  clear h
  repeat' (first
  | refine GT.draws (id := 1) [[], [], [1], [0, 1, 2], [], [], [5], [0, 1, 2, 3, 4, 5, 6], [], [], [9], [0, 1, 2, 3, 4, 5, 6, 7, 8, 9, 10], [0, 1, 2, 3, 4, 5, 6, 7, 8, 9, 10, 11], [0, 1, 2, 3, 4, 5, 6, 7, 8, 9, 10, 11, 12]] [13] (by kernel_rfl) ?_
  | refine GL.sf rfl rfl rfl rfl ?_
  | refine GL.done ?_
  | refine GP.thenN ?_
  | refine GT.seq ?_
  | refine GT.region ?_
  | refine GD.li rfl rfl (by exact onAt.none rfl) rfl (by repeat first | exact AllG.nil rfl | refine AllG.cons rfl (by first | exact GO.sf rfl rfl | exact GO.callV rfl rfl rfl Tryd.func45 rfl rfl rfl (d_turn45_2 _ _ (by omega) (by omega) rfl)) ?_) ?_
  | refine GD.hF rfl rfl rfl (by exact onAt.none rfl) rfl rfl ?_ ?_
  | refine GD.done rfl rfl rfl ?_
  | exact AllJs.nil rfl
  | refine GT.ret ?_
  | refine GP.endR1 rfl ?_)
  rfl
theorem d_turned13_2 {A : AW} (hG : GOk A) (a b c d e f : Int) (hs : SignalOk a b c d e f) : AC Tryd.prog 13 [.agg #[.int .i64 a, .int .i64 b, .int .i64 c, .int .i64 d, .int .i64 e, .int .i64 f], .int .i64 2] A (isR (.tuple #[.agg #[.int .i64 (-a), .int .i64 (-b), .int .i64 (-c), .int .i64 (-d), .int .i64 (-e), .int .i64 (-f)], .int .i64 0]) A) := by
  refine AC.isG hG ?_ ⟨32, rfl⟩ (.flat (k := 32) rfl (.flat (k := 32) rfl .nil))
  refine AC.go Tryd.func13 rfl rfl ?_
  repeat' (first
  | refine GT.draws (id := 1) [[], [0], [], [0, 1, 2], [0, 1, 2, 3], [0, 1, 2, 3, 4], [0, 1, 2, 3, 4, 5]] [4] (by kernel_rfl) ?_
  | refine GL.sf rfl rfl rfl rfl ?_
  | refine GL.nf rfl rfl rfl ?_
  | refine GL.done ?_
  | refine GP.thenN ?_
  | refine GT.seq ?_
  | refine GT.region ?_
  | refine GD.li rfl rfl (by exact onAt.none rfl) rfl (by repeat first | exact AllG.nil rfl | refine AllG.cons rfl (by first | exact GO.sf rfl rfl | exact GO.call rfl rfl Tryd.func43 rfl rfl rfl (d_signal43ok ⟨rfl, rfl, rfl, _, _, rfl⟩ _ _ _ _ _ _ hs) | exact GO.call rfl rfl Tryd.func44 rfl rfl rfl (d_within44 _ _ _) | exact GO.call rfl rfl Tryd.func42 rfl rfl rfl (d_first42 [0, whenI (withinB 2 0 3) 3] rfl rfl rfl)) ?_) ?_
  | refine GD.he rfl rfl rfl (by exact onAt.none rfl) rfl (by exact GO.sf rfl rfl) ?_ ?_
  | refine GD.done rfl rfl rfl ?_
  | exact AllJs.nil rfl
  | refine GL.v rfl rfl rfl (by first | exact GO.call rfl rfl Tryd.func47 rfl rfl rfl (d_each47_2 _ _ _ _ _ _ (small_of hs) rfl) | exact GO.mkfn rfl (fun _ h => by cases h) rfl rfl) ?_
  | refine GT.skip ?_
  | refine GT.ret ?_
  | refine GT.condF rfl ?_
  | refine GP.endR2 rfl ?_)
  rfl
theorem d_turn45_3 {A : AW} {p : Nat} (a b : Int) (ha : a.natAbs ≤ 10000) (hb : b.natAbs ≤ 10000) (h : A.rd p 0 1 = some [.int .i64 3]) : AC Tryd.prog 45 [.agg #[.int .i64 a, .int .i64 b], .pointer (some ⟨p, 0, none⟩)] A (isR (.agg #[.int .i64 (- -b), .int .i64 (-a)]) A) := by
  refine AC.isX (SmallX.nil.cons (k := 0) (b := p) (f := 0) (o := .cells [.int .i64 3] 3) (.flat (k := 8) h rfl)) (args := [.agg #[.int .i64 a, .int .i64 b], .pointer (some ⟨0, 0, none⟩)]) ?_ ⟨8, rfl⟩ (.flat (k := 8) rfl (.ptr rfl rfl .nil))
  refine AC.go Tryd.func45 rfl rfl ?_
  clear h
  repeat' (first
  | refine GT.unroll 4 ?_
  | refine GL.sf rfl rfl rfl rfl ?_
  | refine GL.nf rfl rfl rfl ?_
  | refine GL.done ?_
  | refine GP.thenN ?_
  | refine GT.seq ?_
  | refine GT.region ?_
  | refine GL.v rfl rfl rfl (by first | exact GO.call rfl rfl Tryd.func46 rfl rfl rfl (d_timesI _ _ (by omega) (by omega)) | exact GO.add rfl rfl rfl (by omega)) ?_
  | refine GT.skip ?_
  | refine GT.block ?_
  | refine GT.ret ?_
  | refine GT.exit ?_
  | refine GP.thenE ?_
  | refine GP.inN ?_
  | refine GP.hit ?_
  | refine GP.againN ?_
  | refine GP.againE ?_
  | refine GU.step ?_
  | refine GT.condT rfl ?_
  | refine GT.condF rfl ?_
  | refine GP.endR1 rfl ?_)
  rfl
theorem d_each47_3 {A : AW} {p : Nat} (a b c d e f : Int) (hs : SmallS a b c d e f) (h : A.rd p 0 1 = some [.int .i64 3]) : AC Tryd.prog 47 [.agg #[.int .i64 a, .int .i64 b, .int .i64 c, .int .i64 d, .int .i64 e, .int .i64 f], .func (.func 45) #[] #[.pointer (some ⟨p, 0, none⟩)], .func (.func 45) #[] #[.pointer (some ⟨p, 0, none⟩)]] A (isR (.agg #[.int .i64 (- -b), .int .i64 (-a), .int .i64 (- -d), .int .i64 (-c), .int .i64 (- -f), .int .i64 (-e)]) A) := by
  refine AC.isX (SmallX.nil.cons (k := 0) (b := p) (f := 0) (o := .cells [.int .i64 3] 3) (.flat (k := 8) h rfl)) (args := [.agg #[.int .i64 a, .int .i64 b, .int .i64 c, .int .i64 d, .int .i64 e, .int .i64 f], .func (.func 45) #[] #[.pointer (some ⟨0, 0, none⟩)], .func (.func 45) #[] #[.pointer (some ⟨0, 0, none⟩)]]) ?_ ⟨32, rfl⟩ (.flat (k := 32) rfl (.func (by intro l h; cases h) .nil (.ptr (f := 0) (g := 0) rfl rfl .nil) (.func (by intro l h; cases h) .nil (.ptr (f := 0) (g := 0) rfl rfl .nil) .nil)))
  obtain ⟨h1, h2, h3, h4, h5, h6⟩ := hs
  refine AC.go Tryd.func47 rfl rfl ?_
  clear h
  repeat' (first
  | refine GT.draws (id := 1) [[], [], [1], [0, 1, 2], [], [], [5], [0, 1, 2, 3, 4, 5, 6], [], [], [9], [0, 1, 2, 3, 4, 5, 6, 7, 8, 9, 10], [0, 1, 2, 3, 4, 5, 6, 7, 8, 9, 10, 11], [0, 1, 2, 3, 4, 5, 6, 7, 8, 9, 10, 11, 12]] [13] (by kernel_rfl) ?_
  | refine GL.sf rfl rfl rfl rfl ?_
  | refine GL.done ?_
  | refine GP.thenN ?_
  | refine GT.seq ?_
  | refine GT.region ?_
  | refine GD.li rfl rfl (by exact onAt.none rfl) rfl (by repeat first | exact AllG.nil rfl | refine AllG.cons rfl (by first | exact GO.sf rfl rfl | exact GO.callV rfl rfl rfl Tryd.func45 rfl rfl rfl (d_turn45_3 _ _ (by omega) (by omega) rfl)) ?_) ?_
  | refine GD.hF rfl rfl rfl (by exact onAt.none rfl) rfl rfl ?_ ?_
  | refine GD.done rfl rfl rfl ?_
  | exact AllJs.nil rfl
  | refine GT.ret ?_
  | refine GP.endR1 rfl ?_)
  rfl
theorem d_turned13_3 {A : AW} (hG : GOk A) (a b c d e f : Int) (hs : SignalOk a b c d e f) : AC Tryd.prog 13 [.agg #[.int .i64 a, .int .i64 b, .int .i64 c, .int .i64 d, .int .i64 e, .int .i64 f], .int .i64 3] A (isR (.tuple #[.agg #[.int .i64 (- -b), .int .i64 (-a), .int .i64 (- -d), .int .i64 (-c), .int .i64 (- -f), .int .i64 (-e)], .int .i64 0]) A) := by
  refine AC.isG hG ?_ ⟨32, rfl⟩ (.flat (k := 32) rfl (.flat (k := 32) rfl .nil))
  refine AC.go Tryd.func13 rfl rfl ?_
  repeat' (first
  | refine GT.draws (id := 1) [[], [0], [], [0, 1, 2], [0, 1, 2, 3], [0, 1, 2, 3, 4], [0, 1, 2, 3, 4, 5]] [4] (by kernel_rfl) ?_
  | refine GL.sf rfl rfl rfl rfl ?_
  | refine GL.nf rfl rfl rfl ?_
  | refine GL.done ?_
  | refine GP.thenN ?_
  | refine GT.seq ?_
  | refine GT.region ?_
  | refine GD.li rfl rfl (by exact onAt.none rfl) rfl (by repeat first | exact AllG.nil rfl | refine AllG.cons rfl (by first | exact GO.sf rfl rfl | exact GO.call rfl rfl Tryd.func43 rfl rfl rfl (d_signal43ok ⟨rfl, rfl, rfl, _, _, rfl⟩ _ _ _ _ _ _ hs) | exact GO.call rfl rfl Tryd.func44 rfl rfl rfl (d_within44 _ _ _) | exact GO.call rfl rfl Tryd.func42 rfl rfl rfl (d_first42 [0, whenI (withinB 3 0 3) 3] rfl rfl rfl)) ?_) ?_
  | refine GD.he rfl rfl rfl (by exact onAt.none rfl) rfl (by exact GO.sf rfl rfl) ?_ ?_
  | refine GD.done rfl rfl rfl ?_
  | exact AllJs.nil rfl
  | refine GL.v rfl rfl rfl (by first | exact GO.call rfl rfl Tryd.func47 rfl rfl rfl (d_each47_3 _ _ _ _ _ _ (small_of hs) rfl) | exact GO.mkfn rfl (fun _ h => by cases h) rfl rfl) ?_
  | refine GT.skip ?_
  | refine GT.ret ?_
  | refine GT.condF rfl ?_
  | refine GP.endR2 rfl ?_)
  rfl
theorem d_scaled50 {L : LM} {nx ro : Nat} (u v : Int) : AC Tryd.prog 50 [.agg #[.int .i64 u, .int .i64 v]] (AW.of L nx ro 3) (isR (.func (.func 51) #[] #[.pointer (some ⟨nx, 0, none⟩)]) (AW.of ((nx, .cells [.int .i64 u, .int .i64 v] 31) :: L) (nx + 1) ro 3)) := by
  refine AC.go Tryd.func50 rfl rfl ?_
  repeat' (first
  | refine GL.sf rfl rfl rfl rfl ?_
  | refine GL.sv rfl rfl rfl rfl ?_
  | refine GL.done ?_
  | refine GP.thenN ?_
  | refine GT.seq ?_
  | refine GT.region ?_
  | refine GL.v rfl rfl rfl (by exact GO.mkfn rfl (fun _ h => by cases h) rfl rfl) ?_
  | refine GT.ret ?_
  | refine GP.endR1 rfl ?_)
  exact ⟨rfl, rfl⟩
theorem d_scaled51 {A : AW} {p : Nat} (a b u v : Int) (ha : a.natAbs ≤ 10000) (hb : b.natAbs ≤ 10000) (hu : u.natAbs ≤ 30) (hv : v.natAbs ≤ 30) (h : A.rd p 0 2 = some [.int .i64 u, .int .i64 v]) : AC Tryd.prog 51 [.agg #[.int .i64 a, .int .i64 b], .pointer (some ⟨p, 0, none⟩)] A (isR (.agg #[.int .i64 (a * u - b * v), .int .i64 (a * v + b * u)]) A) := by
  refine AC.isX (SmallX.nil.cons (k := 0) (b := p) (f := 0) (o := .cells [.int .i64 u, .int .i64 v] 31) (.flat (k := 8) h rfl)) (args := [.agg #[.int .i64 a, .int .i64 b], .pointer (some ⟨0, 0, none⟩)]) ?_ ⟨8, rfl⟩ (.flat (k := 8) rfl (.ptr rfl rfl .nil))
  refine AC.go Tryd.func51 rfl rfl ?_
  clear h
  repeat' (first
  | refine GL.sf rfl rfl rfl rfl ?_
  | refine GL.nf rfl rfl rfl ?_
  | refine GL.done ?_
  | refine GP.thenN ?_
  | refine GT.seq ?_
  | refine GT.region ?_
  | refine GL.v rfl rfl rfl (by exact GO.call rfl rfl Tryd.func46 rfl rfl rfl (d_times46 _ _ _ _ (by omega) (by omega) (by omega) (by omega))) ?_
  | refine GT.ret ?_
  | refine GP.endR1 rfl ?_)
  rfl
theorem d_each47s {A : AW} {p q : Nat} (a b c d e f u v : Int) (hs : SmallS a b c d e f) (hu : u.natAbs ≤ 30) (hv : v.natAbs ≤ 30) (hp : A.rd p 0 2 = some [.int .i64 u, .int .i64 v]) (hq : A.rd q 0 2 = some [.int .i64 u, .int .i64 v]) : AC Tryd.prog 47 [.agg #[.int .i64 a, .int .i64 b, .int .i64 c, .int .i64 d, .int .i64 e, .int .i64 f], .func (.func 51) #[] #[.pointer (some ⟨p, 0, none⟩)], .func (.func 51) #[] #[.pointer (some ⟨q, 0, none⟩)]] A (isR (.agg #[.int .i64 (a * u - b * v), .int .i64 (a * v + b * u), .int .i64 (c * u - d * v), .int .i64 (c * v + d * u), .int .i64 (e * u - f * v), .int .i64 (e * v + f * u)]) A) := by
  refine AC.isX ((SmallX.nil.cons (k := 0) (b := p) (f := 0) (o := .cells [.int .i64 u, .int .i64 v] 31) (.flat (k := 8) hp rfl)).cons (b := q) (f := 0) (o := .cells [.int .i64 u, .int .i64 v] 31) (.flat (k := 8) hq rfl)) (args := [.agg #[.int .i64 a, .int .i64 b, .int .i64 c, .int .i64 d, .int .i64 e, .int .i64 f], .func (.func 51) #[] #[.pointer (some ⟨0, 0, none⟩)], .func (.func 51) #[] #[.pointer (some ⟨1, 0, none⟩)]]) ?_ ⟨32, rfl⟩ (.flat (k := 32) rfl (.func (by intro l h; cases h) .nil (.ptr (f := 0) (g := 0) rfl rfl .nil) (.func (by intro l h; cases h) .nil (.ptr (f := 0) (g := 0) rfl rfl .nil) .nil)))
  obtain ⟨h1, h2, h3, h4, h5, h6⟩ := hs
  refine AC.go Tryd.func47 rfl rfl ?_
  clear hp hq
  repeat' (first
  | refine GT.draws (id := 1) [[], [], [1], [0, 1, 2], [], [], [5], [0, 1, 2, 3, 4, 5, 6], [], [], [9], [0, 1, 2, 3, 4, 5, 6, 7, 8, 9, 10], [0, 1, 2, 3, 4, 5, 6, 7, 8, 9, 10, 11], [0, 1, 2, 3, 4, 5, 6, 7, 8, 9, 10, 11, 12]] [13] (by kernel_rfl) ?_
  | refine GL.sf rfl rfl rfl rfl ?_
  | refine GL.done ?_
  | refine GP.thenN ?_
  | refine GT.seq ?_
  | refine GT.region ?_
  | refine GD.li rfl rfl (by exact onAt.none rfl) rfl (by repeat first | exact AllG.nil rfl | refine AllG.cons rfl (by first | exact GO.sf rfl rfl | exact GO.callV rfl rfl rfl Tryd.func51 rfl rfl rfl (d_scaled51 _ _ _ _ (by omega) (by omega) hu hv rfl)) ?_) ?_
  | refine GD.hF rfl rfl rfl (by exact onAt.none rfl) rfl rfl ?_ ?_
  | refine GD.done rfl rfl rfl ?_
  | exact AllJs.nil rfl
  | refine GT.ret ?_
  | refine GP.endR1 rfl ?_)
  rfl
def madeNs (a b c d e f : Int) : List Int := [firstNZ (insideNs a b c d e f 4), whenI (decide (a = 0 ∧ b = 0)) 6]
theorem d_made52 {A : AW} (hG : GOk A) (a b c d e f : Int) : AC Tryd.prog 52 [.agg #[.int .i64 a, .int .i64 b, .int .i64 c, .int .i64 d, .int .i64 e, .int .i64 f]] A (isR (if firstNZ (madeNs a b c d e f) = 0 then .tuple #[.agg #[.int .i64 a, .int .i64 b, .int .i64 c, .int .i64 d, .int .i64 e, .int .i64 f], .int .i64 0] else .tuple #[.agg #[.int .i64 0, .int .i64 0, .int .i64 0, .int .i64 0, .int .i64 0, .int .i64 0], .int .i64 (firstNZ (madeNs a b c d e f))]) A) := by
  by_cases h0 : firstNZ (madeNs a b c d e f) = 0
  · rw [if_pos h0]
    refine AC.isG hG ?_ ⟨32, rfl⟩ (.flat (k := 32) rfl .nil)
    refine AC.go Tryd.func52 rfl rfl ?_
    repeat' (first
    | refine GT.draws (id := 1) [[], [0], [], [2], [], [2, 3, 4], [0, 1, 2, 3, 4, 5], [0, 1, 2, 3, 4, 5, 6], [0, 1, 2, 3, 4, 5, 6, 7], [0, 1, 2, 3, 4, 5, 6, 7, 8]] [7] (by kernel_rfl) ?_
    | refine GL.sf rfl rfl rfl rfl ?_
    | refine GL.nf rfl rfl rfl ?_
    | refine GL.done ?_
    | refine GP.thenN ?_
    | refine GT.seq ?_
    | refine GT.region ?_
    | refine GD.li rfl rfl (by exact onAt.none rfl) rfl (by repeat first | exact AllG.nil rfl | refine AllG.cons rfl (by first | exact GO.sf rfl rfl | exact GO.call rfl rfl Tryd.func91 rfl rfl rfl (d_inside91 _ _ _ _ _ _ _) | exact GO.call rfl rfl Tryd.func49 rfl rfl rfl (d_when49 _ _) | exact GO.call rfl rfl Tryd.func42 rfl rfl rfl (d_first42 (madeNs a b c d e f) rfl rfl rfl) | exact GO.eq rfl rfl rfl rfl rfl Tryd.eqGuardType31 (d_aeq31 _ _ _ _) rfl) ?_) ?_
    | refine GD.he rfl rfl rfl (by exact onAt.none rfl) rfl (by exact GO.sf rfl rfl) ?_ ?_
    | refine GD.done rfl rfl rfl ?_
    | exact AllJs.nil rfl
    | refine GT.skip ?_
    | refine GT.ret ?_
    | (refine GT.condN rfl (fun h => ?_) (fun h => ?_) <;> try (exfalso; omega))
    | refine GP.endR2 rfl ?_)
    rfl
  · rw [if_neg h0]
    refine AC.isG hG ?_ ⟨32, rfl⟩ (.flat (k := 32) rfl .nil)
    refine AC.go Tryd.func52 rfl rfl ?_
    repeat' (first
    | refine GT.draws (id := 1) [[], [0], [], [2], [], [2, 3, 4], [0, 1, 2, 3, 4, 5], [0, 1, 2, 3, 4, 5, 6], [0, 1, 2, 3, 4, 5, 6, 7], [0, 1, 2, 3, 4, 5, 6, 7, 8]] [7] (by kernel_rfl) ?_
    | refine GL.sf rfl rfl rfl rfl ?_
    | refine GL.nf rfl rfl rfl ?_
    | refine GL.done ?_
    | refine GP.thenN ?_
    | refine GT.seq ?_
    | refine GT.region ?_
    | refine GD.li rfl rfl (by exact onAt.none rfl) rfl (by repeat first | exact AllG.nil rfl | refine AllG.cons rfl (by first | exact GO.sf rfl rfl | exact GO.call rfl rfl Tryd.func91 rfl rfl rfl (d_inside91 _ _ _ _ _ _ _) | exact GO.call rfl rfl Tryd.func49 rfl rfl rfl (d_when49 _ _) | exact GO.call rfl rfl Tryd.func42 rfl rfl rfl (d_first42 (madeNs a b c d e f) rfl rfl rfl) | exact GO.eq rfl rfl rfl rfl rfl Tryd.eqGuardType31 (d_aeq31 _ _ _ _) rfl) ?_) ?_
    | refine GD.he rfl rfl rfl (by exact onAt.none rfl) rfl (by exact GO.sf rfl rfl) ?_ ?_
    | refine GD.done rfl rfl rfl ?_
    | exact AllJs.nil rfl
    | refine GT.ret ?_
    | refine GP.thenR ?_
    | (refine GT.condN rfl (fun h => ?_) (fun h => ?_) <;> try (exfalso; omega))
    | refine GP.endR2 rfl ?_)
    rfl
def scaledNs (u v : Int) : List Int := [0, firstNZ (tpartNs u v 1000), whenI (decide (u = 0 ∧ v = 0)) 6, firstNZ (tpartNs u v 1000)]
theorem scaled_zero {u v : Int} (hu : u.natAbs ≤ 30) (hv : v.natAbs ≤ 30) (h0 : ¬(u = 0 ∧ v = 0)) : firstNZ (scaledNs u v) = 0 := by
  unfold scaledNs
  rw [tpart_zero (by omega) (by omega), decide_eq_false h0]
  rfl
def madeV (a b c d e f : Int) : Value := if firstNZ (madeNs a b c d e f) = 0 then .tuple #[.agg #[.int .i64 a, .int .i64 b, .int .i64 c, .int .i64 d, .int .i64 e, .int .i64 f], .int .i64 0] else .tuple #[.agg #[.int .i64 0, .int .i64 0, .int .i64 0, .int .i64 0, .int .i64 0, .int .i64 0], .int .i64 (firstNZ (madeNs a b c d e f))]
theorem d_scaled14 {A : AW} (hG : GOk A) (a b c d e f u v : Int) (hs : SignalOk a b c d e f) (hu : u.natAbs ≤ 30) (hv : v.natAbs ≤ 30) (h0 : ¬(u = 0 ∧ v = 0)) : AC Tryd.prog 14 [.agg #[.int .i64 a, .int .i64 b, .int .i64 c, .int .i64 d, .int .i64 e, .int .i64 f], .agg #[.int .i64 u, .int .i64 v], .agg #[.int .i64 u, .int .i64 v]] A (isR (madeV (a * u - b * v) (a * v + b * u) (c * u - d * v) (c * v + d * u) (e * u - f * v) (e * v + f * u)) A) := by
  have hz := scaled_zero hu hv h0
  unfold madeV
  by_cases hm : firstNZ (madeNs (a * u - b * v) (a * v + b * u) (c * u - d * v) (c * v + d * u) (e * u - f * v) (e * v + f * u)) = 0
  · rw [if_pos hm]
    have hmm := fun (A : AW) (hA : GOk A) => d_made52 hA (a * u - b * v) (a * v + b * u) (c * u - d * v) (c * v + d * u) (e * u - f * v) (e * v + f * u)
    rw [if_pos hm] at hmm
    refine AC.isG hG ?_ ⟨32, rfl⟩ (.flat (k := 32) rfl (.flat (k := 32) rfl (.flat (k := 32) rfl .nil)))
    refine AC.go Tryd.func14 rfl rfl ?_
    repeat' (first
    | refine GT.draws (id := 1) [[], [0], [], [0, 1, 2], [], [], [4, 5], [0, 1, 2, 3, 4, 5, 6], [], [0, 1, 2, 3, 4, 5, 6, 7, 8], [0, 1, 2, 3, 4, 5, 6, 7, 8, 9], [0, 1, 2, 3, 4, 5, 6, 7, 8, 9, 10], [0, 1, 2, 3, 4, 5, 6, 7, 8, 9, 10, 11]] [10] (by kernel_rfl) ?_
    | refine GT.draws (id := 5) [[], [], [], [1, 2], [], [], [1, 2, 3, 4, 5], [0, 1, 2, 3, 4, 5, 6], [0, 1, 2, 3, 4, 5, 6, 7], [0, 1, 2, 3, 4, 5, 6, 7, 8], [0, 1, 2, 3, 4, 5, 6, 7, 8], [0, 1, 2, 3, 4, 5, 6, 7, 8, 9, 10], [0, 1, 2, 3, 4, 5, 6, 7, 8, 9, 10, 11]] [3, 6, 11] (by kernel_rfl) ?_
    | refine GL.sf rfl rfl rfl rfl ?_
    | refine GL.done ?_
    | refine GP.thenN ?_
    | refine GT.seq ?_
    | refine GT.region ?_
    | refine GD.li rfl rfl (by exact onAt.none rfl) rfl (by repeat first | exact AllG.nil rfl | refine AllG.cons rfl (by first | exact GO.sf rfl rfl | exact GO.call rfl rfl Tryd.func43 rfl rfl rfl (d_signal43ok ⟨rfl, rfl, rfl, _, _, rfl⟩ _ _ _ _ _ _ hs) | exact GO.call rfl rfl Tryd.func48 rfl rfl rfl (d_part48 _ _ _ (by decide)) | exact GO.call rfl rfl Tryd.func49 rfl rfl rfl (d_when49 _ _) | exact GO.call rfl rfl Tryd.func42 rfl rfl rfl (d_first42 (scaledNs u v) rfl rfl rfl) | exact GO.eq rfl rfl rfl rfl rfl Tryd.eqGuardType31 (d_aeq31 _ _ _ _) rfl | exact GO.call rfl rfl Tryd.func47 rfl rfl rfl (d_each47s _ _ _ _ _ _ _ _ (small_of hs) hu hv rfl rfl) | exact GO.call rfl rfl Tryd.func52 rfl rfl rfl (hmm _ ⟨rfl, rfl, rfl, _, _, rfl⟩)) ?_) ?_
    | refine GD.he rfl rfl rfl (by exact onAt.none rfl) rfl (by first | exact GO.sf rfl rfl | exact GO.callV rfl rfl rfl Tryd.func50 rfl rfl rfl (d_scaled50 _ _)) ?_ ?_
    | refine GD.hF rfl rfl rfl (by exact onAt.none rfl) rfl rfl ?_ ?_
    | refine GD.done rfl rfl rfl ?_
    | exact AllJs.nil rfl
    | refine AllJs.cons rfl ?_ ?_
    | exact again.go rfl rfl rfl (by exact GO.sf rfl rfl)
    | refine GT.skip ?_
    | refine GT.ret ?_
    | (refine GT.condN rfl (fun h => ?_) (fun h => ?_) <;> try (exfalso; omega))
    | refine GP.endR2 rfl ?_)
    all_goals rfl
  · rw [if_neg hm]
    have hmm := fun (A : AW) (hA : GOk A) => d_made52 hA (a * u - b * v) (a * v + b * u) (c * u - d * v) (c * v + d * u) (e * u - f * v) (e * v + f * u)
    rw [if_neg hm] at hmm
    refine AC.isG hG ?_ ⟨32, rfl⟩ (.flat (k := 32) rfl (.flat (k := 32) rfl (.flat (k := 32) rfl .nil)))
    refine AC.go Tryd.func14 rfl rfl ?_
    repeat' (first
    | refine GT.draws (id := 1) [[], [0], [], [0, 1, 2], [], [], [4, 5], [0, 1, 2, 3, 4, 5, 6], [], [0, 1, 2, 3, 4, 5, 6, 7, 8], [0, 1, 2, 3, 4, 5, 6, 7, 8, 9], [0, 1, 2, 3, 4, 5, 6, 7, 8, 9, 10], [0, 1, 2, 3, 4, 5, 6, 7, 8, 9, 10, 11]] [10] (by kernel_rfl) ?_
    | refine GT.draws (id := 5) [[], [], [], [1, 2], [], [], [1, 2, 3, 4, 5], [0, 1, 2, 3, 4, 5, 6], [0, 1, 2, 3, 4, 5, 6, 7], [0, 1, 2, 3, 4, 5, 6, 7, 8], [0, 1, 2, 3, 4, 5, 6, 7, 8], [0, 1, 2, 3, 4, 5, 6, 7, 8, 9, 10], [0, 1, 2, 3, 4, 5, 6, 7, 8, 9, 10, 11]] [3, 6, 11] (by kernel_rfl) ?_
    | refine GL.sf rfl rfl rfl rfl ?_
    | refine GL.done ?_
    | refine GP.thenN ?_
    | refine GT.seq ?_
    | refine GT.region ?_
    | refine GD.li rfl rfl (by exact onAt.none rfl) rfl (by repeat first | exact AllG.nil rfl | refine AllG.cons rfl (by first | exact GO.sf rfl rfl | exact GO.call rfl rfl Tryd.func43 rfl rfl rfl (d_signal43ok ⟨rfl, rfl, rfl, _, _, rfl⟩ _ _ _ _ _ _ hs) | exact GO.call rfl rfl Tryd.func48 rfl rfl rfl (d_part48 _ _ _ (by decide)) | exact GO.call rfl rfl Tryd.func49 rfl rfl rfl (d_when49 _ _) | exact GO.call rfl rfl Tryd.func42 rfl rfl rfl (d_first42 (scaledNs u v) rfl rfl rfl) | exact GO.eq rfl rfl rfl rfl rfl Tryd.eqGuardType31 (d_aeq31 _ _ _ _) rfl | exact GO.call rfl rfl Tryd.func47 rfl rfl rfl (d_each47s _ _ _ _ _ _ _ _ (small_of hs) hu hv rfl rfl) | exact GO.call rfl rfl Tryd.func52 rfl rfl rfl (hmm _ ⟨rfl, rfl, rfl, _, _, rfl⟩)) ?_) ?_
    | refine GD.he rfl rfl rfl (by exact onAt.none rfl) rfl (by first | exact GO.sf rfl rfl | exact GO.callV rfl rfl rfl Tryd.func50 rfl rfl rfl (d_scaled50 _ _)) ?_ ?_
    | refine GD.hF rfl rfl rfl (by exact onAt.none rfl) rfl rfl ?_ ?_
    | refine GD.done rfl rfl rfl ?_
    | exact AllJs.nil rfl
    | refine AllJs.cons rfl ?_ ?_
    | exact again.go rfl rfl rfl (by exact GO.sf rfl rfl)
    | refine GT.skip ?_
    | refine GT.ret ?_
    | (refine GT.condN rfl (fun h => ?_) (fun h => ?_) <;> try (exfalso; omega))
    | refine GP.endR2 rfl ?_)
    all_goals rfl
end Go.M
