/- Functions of the given program, walked (no condition beyond what each theorem says). -/
import Derived.Test.YtfhodefiknfccaaDoorB8
import Derived.Test.YtfhodefiknfccaaDoorB5
set_option linter.unusedVariables false
set_option linter.unusedSimpArgs false
namespace Go.M
open Go.Proofs Go.RowKit
set_option maxRecDepth 16000
set_option maxHeartbeats 8000000
def exN : ByteArray := ⟨#[110]⟩
abbrev exS : List Value := [.string exN, .string kNear, .int .i64 (-20), .int .i64 20, .int .i64 2]
def exR (i : Nat) : List Value := [.int .i64 (if i = 0 ∨ i = 3 then 20 else 40), .bool false]
abbrev exSt (md lf c0 : Int) : Value := .agg #[.int .i64 md, .int .i64 lf, .int .i64 c0, .int .i64 0, .int .i64 0, .int .i64 0, .int .i64 0, .int .i64 0, .int .i64 0, .int .i64 0]
theorem d_vote149 {A : AW} {b p k : Nat} (hb : A.rd b 0 3 = some [.slice (some ⟨p, 0, none⟩) 1 k, .int .i64 1, .int .i64 1]) (hp : A.rd p 0 5 = some exS) : AC Tryd.prog 149 [.int .i64 0, .pointer (some ⟨b, 0, none⟩)] A (isR (.bool true) A) := by
  refine AC.isX ((SmallX.nil.cons (k := 0) (b := p) (f := 0) (o := .cells exS 128) (.flat (k := 64) hp rfl)).cons (b := b) (f := 0) (o := .cells [.slice (some ⟨0, 0, none⟩) 1 k, .int .i64 1, .int .i64 1] 53) ⟨_, hb, .sl rfl rfl (.flat (k := 8) rfl (.flat (k := 8) rfl .nil))⟩)
    (args := [.int .i64 0, .pointer (some ⟨1, 0, none⟩)]) ?_ ⟨8, rfl⟩ (.flat (k := 8) rfl (.ptr rfl rfl .nil))
  refine AC.go Tryd.func149 rfl rfl ?_
  clear hb hp
  repeat' (first
  | refine GL.sf rfl rfl rfl rfl ?_
  | refine GL.sv rfl rfl rfl rfl ?_
  | refine GL.done ?_
  | refine GP.thenN ?_
  | refine GT.seq ?_
  | refine GT.region ?_
  | refine GT.ret ?_
  | refine GP.endR1 rfl ?_)
  rfl
theorem d_index147 {A : AW} {b p k x : Nat} (hb : A.rd b 0 3 = some [.slice (some ⟨p, 0, none⟩) 1 k, .int .i64 1, .int .i64 1]) (hp : A.rd p 0 5 = some exS) (hx : A.rd x 0 1 = some [.int .i64 0]) : AC Tryd.prog 147 [.slice (some ⟨x, 0, none⟩) 1 1, .func (.func 149) #[] #[.pointer (some ⟨b, 0, none⟩)]] A (isR (.int .i64 0) A) := by
  refine AC.isX (((SmallX.nil.cons (k := 0) (b := p) (f := 0) (o := .cells exS 128) (.flat (k := 64) hp rfl)).cons (b := b) (f := 0) (o := .cells [.slice (some ⟨0, 0, none⟩) 1 k, .int .i64 1, .int .i64 1] 53) ⟨_, hb, .sl rfl rfl (.flat (k := 8) rfl (.flat (k := 8) rfl .nil))⟩).cons (b := x) (f := 0) (o := .cells [.int .i64 0] 3) (.flat (k := 8) hx rfl))
    (args := [.slice (some ⟨2, 0, none⟩) 1 1, .func (.func 149) #[] #[.pointer (some ⟨1, 0, none⟩)]]) ?_ ⟨8, rfl⟩ (.sl rfl rfl (.func (by intro l h; cases h) .nil (.ptr (f := 0) (g := 0) rfl rfl .nil) .nil))
  refine AC.go Tryd.func147 rfl rfl ?_
  clear hb hp hx
  repeat' (first
  | refine GT.unroll 2 ?_
  | refine GL.sf rfl rfl rfl rfl ?_
  | refine GL.done ?_
  | refine GP.thenN ?_
  | refine GT.seq ?_
  | refine GT.region ?_
  | refine GL.v rfl rfl rfl (by exact GO.callV rfl rfl rfl Tryd.func149 rfl rfl rfl (d_vote149 rfl rfl)) ?_
  | refine GT.skip ?_
  | refine GT.block ?_
  | refine GT.ret ?_
  | refine GP.thenR ?_
  | refine GP.inR ?_
  | refine GP.againR ?_
  | refine GU.step ?_
  | refine GT.condT rfl ?_
  | refine GP.endR1 rfl ?_)
  rfl
theorem d_voteEx {A : AW} {p x k : Nat} (hp : A.rd p 0 5 = some exS) (hx : A.rd x 0 1 = some [.int .i64 0]) : AC Tryd.prog 121 [.agg #[.slice (some ⟨p, 0, none⟩) 1 k, .int .i64 1, .int .i64 1], .slice (some ⟨x, 0, none⟩) 1 1] A (isR (.bool true) A) := by
  refine AC.isX ((SmallX.nil.cons (k := 0) (b := p) (f := 0) (o := .cells exS 128) (.flat (k := 64) hp rfl)).cons (b := x) (f := 0) (o := .cells [.int .i64 0] 3) (.flat (k := 8) hx rfl)) (args := [.agg #[.slice (some ⟨0, 0, none⟩) 1 k, .int .i64 1, .int .i64 1], .slice (some ⟨1, 0, none⟩) 1 1]) ?_ ⟨8, rfl⟩ (.agg (.sl rfl rfl (.flat (k := 8) rfl (.flat (k := 8) rfl .nil))) (.sl rfl rfl .nil))
  refine AC.go Tryd.func121 rfl rfl ?_
  clear hp hx
  repeat' (first
  | refine GL.v rfl rfl rfl (GO.call rfl rfl Tryd.func148 rfl rfl rfl (AC.go Tryd.func148 rfl rfl (by repeat' (first | exact ⟨rfl, rfl⟩ | refine GL.sf rfl rfl rfl rfl ?_ | refine GL.done ?_ | refine GP.thenN ?_ | refine GT.seq ?_ | refine GT.region ?_ | refine GL.v rfl rfl rfl (by exact GO.call rfl rfl Tryd.func147 rfl rfl rfl (d_index147 rfl rfl rfl)) ?_ | refine GT.ret ?_ | refine GP.endR1 rfl ?_)))) ?_
  | refine GL.sf rfl rfl rfl rfl ?_
  | refine GL.done ?_
  | refine GP.thenN ?_
  | refine GT.seq ?_
  | refine GT.region ?_
  | refine GL.unguardG rfl rfl rfl ?_
  | refine GL.v rfl rfl rfl (by exact GO.mkfn rfl (fun _ h => by cases h) rfl rfl) ?_
  | refine GT.ret ?_
  | refine GP.endR1 rfl ?_)
  rfl
theorem d_countEx1 {A : AW} {p x k : Nat} (hp : A.rd p 0 5 = some exS) (hx : A.rd x 0 2 = some [.int .i64 20, .bool false]) : AC Tryd.prog 194 [.agg #[.slice (some ⟨p, 0, none⟩) 1 k, .int .i64 1, .int .i64 1], exSt 0 0 0, .slice (some ⟨x, 0, none⟩) 1 1] A (isR (.agg #[.int .i64 0, .int .i64 0, .int .i64 0, .int .i64 0, .int .i64 0, .int .i64 0, .int .i64 0, .int .i64 0, .int .i64 0, .int .i64 0, .slice none 0 0]) A) := by
  refine AC.isX ((SmallX.nil.cons (k := 0) (b := p) (f := 0) (o := .cells exS 128) (.flat (k := 64) hp rfl)).cons (b := x) (f := 0) (o := .cells [.int .i64 20, .bool false] 46) (.flat (k := 64) hx rfl))
    (args := [.agg #[.slice (some ⟨0, 0, none⟩) 1 k, .int .i64 1, .int .i64 1], exSt 0 0 0, .slice (some ⟨1, 0, none⟩) 1 1]) ?_ ⟨32, rfl⟩ (.agg (.sl rfl rfl (.flat (k := 8) rfl (.flat (k := 8) rfl .nil))) (.flat (k := 32) rfl (.sl rfl rfl .nil)))
  refine AC.go Tryd.func194 rfl rfl ?_
  clear hp hx
  repeat' (first
  | refine GT.unroll 2 ?_
  | refine GT.draws (id := 5) [[], [], [0, 1], [0, 1, 2], [0, 1, 2, 3], [0, 1, 2, 3, 4], [0, 1, 2, 3, 4, 5], [0, 1, 2, 3, 4, 5, 6], [0, 1, 2, 3, 4, 5, 6, 7], [0, 1, 2, 3, 4, 5, 6], [0, 1, 2, 3, 4, 5, 6], [0, 1, 2, 3, 4, 5, 6, 9, 10], [0, 1, 2, 3, 4, 5, 6, 9, 10, 11], [0, 1, 2, 3, 4, 5, 6, 9, 10, 11, 12], [0, 1, 2, 3, 4, 5, 6, 7, 8, 9, 10, 11, 12, 13], [0, 1, 2, 3, 4, 5, 6, 7, 8, 9, 10, 11, 12, 13, 14]] [] (by kernel_rfl) ?_
  | (refine GL.eqAny rfl rfl rfl rfl rfl rfl rfl rfl Tryd.eqGuardType57 ⟨_, d_aeq57 _ _ _ _ _ _ _ _ _ _ _ _ _ _ _ _⟩ rfl (fun b => ?_))
  | refine GL.sf rfl rfl rfl rfl ?_
  | refine GL.nf rfl rfl rfl ?_
  | refine GL.sv rfl rfl rfl rfl ?_
  | refine GL.done ?_
  | refine GP.thenN ?_
  | refine GT.seq ?_
  | refine GT.region ?_
  | refine GL.unguardG rfl rfl rfl ?_
  | refine GL.skipG rfl rfl rfl rfl rfl ?_
  | refine GD.li rfl rfl (by first | exact onAt.none rfl | exact onAt.yes rfl rfl rfl) rfl (by repeat first | exact AllG.nil rfl | refine AllG.cons rfl (by first | exact GO.sf rfl rfl | exact GO.call rfl rfl Tryd.func77 rfl rfl rfl (d_has77 _ _ _)) ?_) ?_
  | refine GD.done rfl rfl rfl ?_
  | refine GL.v rfl rfl rfl (by first | exact GO.call rfl rfl Tryd.func121 rfl rfl rfl (d_vote121a _ _ (by omega) rfl) | exact GO.add rfl rfl rfl (by omega)) ?_
  | refine GT.skip ?_
  | refine GT.block ?_
  | refine GT.ret ?_
  | refine GT.exit ?_
  | refine GP.thenR ?_
  | refine GP.thenE ?_
  | refine GP.hit ?_
  | refine GP.againN ?_
  | refine GP.againE ?_
  | refine GU.step ?_
  | refine GT.condT rfl ?_
  | refine GT.condF rfl ?_
  | (refine GL.forkBG rfl rfl rfl (fun h => ?_) (fun h => ?_))
  | refine GP.endR1 rfl ?_)
  all_goals rfl
theorem d_countEx2 {A : AW} {p x k : Nat} (hp : A.rd p 0 5 = some exS) (hx : A.rd x 0 2 = some [.int .i64 40, .bool false]) : AC Tryd.prog 194 [.agg #[.slice (some ⟨p, 0, none⟩) 1 k, .int .i64 1, .int .i64 1], exSt 0 0 0, .slice (some ⟨x, 0, none⟩) 1 1] A (isR (.agg #[.int .i64 0, .int .i64 0, .int .i64 1, .int .i64 0, .int .i64 0, .int .i64 0, .int .i64 0, .int .i64 0, .int .i64 0, .int .i64 0, .slice none 0 0]) A) := by
  refine AC.isX ((SmallX.nil.cons (k := 0) (b := p) (f := 0) (o := .cells exS 128) (.flat (k := 64) hp rfl)).cons (b := x) (f := 0) (o := .cells [.int .i64 40, .bool false] 46) (.flat (k := 64) hx rfl))
    (args := [.agg #[.slice (some ⟨0, 0, none⟩) 1 k, .int .i64 1, .int .i64 1], exSt 0 0 0, .slice (some ⟨1, 0, none⟩) 1 1]) ?_ ⟨32, rfl⟩ (.agg (.sl rfl rfl (.flat (k := 8) rfl (.flat (k := 8) rfl .nil))) (.flat (k := 32) rfl (.sl rfl rfl .nil)))
  refine AC.go Tryd.func194 rfl rfl ?_
  clear hp hx
  repeat' (first
  | refine GT.unroll 2 ?_
  | refine GT.draws (id := 5) [[], [], [0, 1], [0, 1, 2], [0, 1, 2, 3], [0, 1, 2, 3, 4], [0, 1, 2, 3, 4, 5], [0, 1, 2, 3, 4, 5, 6], [0, 1, 2, 3, 4, 5, 6, 7], [0, 1, 2, 3, 4, 5, 6], [0, 1, 2, 3, 4, 5, 6], [0, 1, 2, 3, 4, 5, 6, 9, 10], [0, 1, 2, 3, 4, 5, 6, 9, 10, 11], [0, 1, 2, 3, 4, 5, 6, 9, 10, 11, 12], [0, 1, 2, 3, 4, 5, 6, 7, 8, 9, 10, 11, 12, 13], [0, 1, 2, 3, 4, 5, 6, 7, 8, 9, 10, 11, 12, 13, 14]] [] (by kernel_rfl) ?_
  | refine GT.draws (id := 7) [[], [], [1], [], [], [3, 4], [3, 4, 5], [3, 4, 5, 6], [1, 2, 3, 4, 5, 6, 7], [], [9], [0, 1, 2, 3, 4, 5, 6, 7, 8, 9, 10], [0, 1, 2, 3, 4, 5, 6, 7, 8, 9, 10, 11]] [12] (by kernel_rfl) ?_
  | refine GT.draws (id := 8) [[], [], [1], [0, 1, 2], [0, 1, 2, 3], [], [5], [0, 1, 2, 3, 4, 5, 6]] [] (by kernel_rfl) ?_
  | (refine GL.eqAny rfl rfl rfl rfl rfl rfl rfl rfl Tryd.eqGuardType57 ⟨_, d_aeq57 _ _ _ _ _ _ _ _ _ _ _ _ _ _ _ _⟩ rfl (fun b => ?_))
  | refine GL.sf rfl rfl rfl rfl ?_
  | refine GL.nf rfl rfl rfl ?_
  | refine GL.sv rfl rfl rfl rfl ?_
  | refine GL.done ?_
  | refine GP.thenN ?_
  | refine GT.seq ?_
  | refine GT.region ?_
  | refine GL.unguardG rfl rfl rfl ?_
  | refine GL.skipG rfl rfl rfl rfl rfl ?_
  | refine GD.li rfl rfl (by first | exact onAt.none rfl | exact onAt.yes rfl rfl rfl) rfl (by repeat first | exact AllG.nil rfl | refine AllG.cons rfl (by first | exact GO.sf rfl rfl | exact GO.call rfl rfl Tryd.func77 rfl rfl rfl (d_has77 _ _ _) | exact GO.add rfl rfl rfl (by omega)) ?_) ?_
  | refine GD.hF rfl rfl rfl (by exact onAt.none rfl) rfl rfl ?_ ?_
  | refine GD.done rfl rfl rfl ?_
  | exact AllJs.nil rfl
  | refine GL.v rfl rfl rfl (by first | exact GO.call rfl rfl Tryd.func121 rfl rfl rfl (d_vote121a _ _ (by omega) rfl) | exact GO.add rfl rfl rfl (by omega)) ?_
  | refine GT.skip ?_
  | refine GT.block ?_
  | refine GT.ret ?_
  | refine GT.exit ?_
  | refine GP.thenR ?_
  | refine GP.thenE ?_
  | refine GP.inN ?_
  | refine GP.hit ?_
  | refine GP.againN ?_
  | refine GP.againE ?_
  | refine GU.step ?_
  | refine GT.condT rfl ?_
  | refine GT.condF rfl ?_
  | (refine GL.forkBG rfl rfl rfl (fun h => ?_) (fun h => ?_))
  | refine GP.endR1 rfl ?_)
  all_goals rfl
theorem d_countEx3 {A : AW} {p x k : Nat} (hp : A.rd p 0 5 = some exS) (hx : A.rd x 0 2 = some [.int .i64 40, .bool false]) : AC Tryd.prog 194 [.agg #[.slice (some ⟨p, 0, none⟩) 1 k, .int .i64 1, .int .i64 1], exSt 0 0 1, .slice (some ⟨x, 0, none⟩) 1 1] A (isR (.agg #[.int .i64 1, .int .i64 1, .int .i64 0, .int .i64 0, .int .i64 0, .int .i64 0, .int .i64 0, .int .i64 0, .int .i64 0, .int .i64 0, .slice (some ⟨A.next, 0, none⟩) 1 1]) A.burn) := by
  refine AC.givesDX (Φ := fun u => u = .agg #[.int .i64 1, .int .i64 1, .int .i64 0, .int .i64 0, .int .i64 0, .int .i64 0, .int .i64 0, .int .i64 0, .int .i64 0, .int .i64 0, .slice (some ⟨A.next, 0, none⟩) 1 1]) ((SmallX.nil.cons (k := 0) (b := p) (f := 0) (o := .cells exS 128) (.flat (k := 64) hp rfl)).cons (b := x) (f := 0) (o := .cells [.int .i64 40, .bool false] 46) (.flat (k := 64) hx rfl))
    (args := [.agg #[.slice (some ⟨0, 0, none⟩) 1 k, .int .i64 1, .int .i64 1], exSt 0 0 1, .slice (some ⟨1, 0, none⟩) 1 1]) ?_ (.agg (.sl rfl rfl (.flat (k := 8) rfl (.flat (k := 8) rfl .nil))) (.flat (k := 32) rfl (.sl rfl rfl .nil)))
  refine AC.go Tryd.func194 rfl rfl ?_
  clear hp hx
  repeat' (first
  | refine GT.unroll 2 ?_
  | refine GT.draws (id := 5) [[], [], [0, 1], [0, 1, 2], [0, 1, 2, 3], [0, 1, 2, 3, 4], [0, 1, 2, 3, 4, 5], [0, 1, 2, 3, 4, 5, 6], [0, 1, 2, 3, 4, 5, 6, 7], [0, 1, 2, 3, 4, 5, 6], [0, 1, 2, 3, 4, 5, 6], [0, 1, 2, 3, 4, 5, 6, 9, 10], [0, 1, 2, 3, 4, 5, 6, 9, 10, 11], [0, 1, 2, 3, 4, 5, 6, 9, 10, 11, 12], [0, 1, 2, 3, 4, 5, 6, 7, 8, 9, 10, 11, 12, 13], [0, 1, 2, 3, 4, 5, 6, 7, 8, 9, 10, 11, 12, 13, 14]] [] (by kernel_rfl) ?_
  | refine GT.draws (id := 7) [[], [], [1], [], [], [3, 4], [3, 4, 5], [3, 4, 5, 6], [1, 2, 3, 4, 5, 6, 7], [], [9], [0, 1, 2, 3, 4, 5, 6, 7, 8, 9, 10], [0, 1, 2, 3, 4, 5, 6, 7, 8, 9, 10, 11]] [12] (by kernel_rfl) ?_
  | refine GT.draws (id := 8) [[], [], [1], [0, 1, 2], [0, 1, 2, 3], [], [5], [0, 1, 2, 3, 4, 5, 6]] [] (by kernel_rfl) ?_
  | (refine GL.eqAny rfl rfl rfl rfl rfl rfl rfl rfl Tryd.eqGuardType57 ⟨_, d_aeq57 _ _ _ _ _ _ _ _ _ _ _ _ _ _ _ _⟩ rfl (fun b => ?_))
  | refine GL.sf rfl rfl rfl rfl ?_
  | refine GL.nf rfl rfl rfl ?_
  | refine GL.sv rfl rfl rfl rfl ?_
  | refine GL.done ?_
  | refine GP.thenN ?_
  | refine GT.seq ?_
  | refine GT.region ?_
  | refine GL.unguardG rfl rfl rfl ?_
  | refine GL.skipG rfl rfl rfl rfl rfl ?_
  | refine GD.li rfl rfl (by first | exact onAt.none rfl | exact onAt.yes rfl rfl rfl) rfl (by repeat first | exact AllG.nil rfl | refine AllG.cons rfl (by first | exact GO.sf rfl rfl | exact GO.call rfl rfl Tryd.func77 rfl rfl rfl (d_has77 _ _ _) | exact GO.add rfl rfl rfl (by omega)) ?_) ?_
  | refine GD.hF rfl rfl rfl (by exact onAt.none rfl) rfl rfl ?_ ?_
  | refine GD.done rfl rfl rfl ?_
  | exact AllJs.nil rfl
  | refine GL.v rfl rfl rfl (by first | exact GO.call rfl rfl Tryd.func121 rfl rfl rfl (d_voteEx rfl rfl) | exact GO.add rfl rfl rfl (by omega)) ?_
  | refine GT.skip ?_
  | refine GT.block ?_
  | refine GT.ret ?_
  | refine GT.exit ?_
  | refine GP.thenE ?_
  | refine GP.inN ?_
  | refine GP.hit ?_
  | refine GP.againN ?_
  | refine GP.againE ?_
  | refine GU.step ?_
  | refine GT.condT rfl ?_
  | refine GT.condF rfl ?_
  | (refine GL.forkBG rfl rfl rfl (fun h => ?_) (fun h => ?_))
  | refine GP.endR1 rfl ?_)
  all_goals exact ⟨_, _, rfl, .agg (.flat (k := 8) rfl (.flat (k := 8) rfl (.flat (k := 8) rfl (.flat (k := 8) rfl (.flat (k := 8) rfl (.flat (k := 8) rfl (.flat (k := 8) rfl (.flat (k := 8) rfl (.flat (k := 8) rfl (.flat (k := 8) rfl (.sl (f := 0) (g := 0) (if_pos rfl) rfl .nil))))))))))) .nil⟩
theorem d_sz57 : szOf Tryd.prog 57 = some 8 := rfl
theorem d_sz3 : szOf Tryd.prog 3 = some 1 := rfl
theorem d_ap57 {cs : List Value} {f : Nat} : apart Tryd.prog 57 cs f = some (.agg ((cs.drop f).take 8).toArray) := by simp [apart, Tryd.underlying57, isAggT, d_sz57]
theorem d_aeq59 (a b a0 a1 a2 a3 a4 a5 a6 a7 c d b0 b1 b2 b3 b4 b5 b6 b7 : Int) : aeq Tryd.prog 20 59 (.agg #[.int .i64 a, .int .i64 b, .int .i64 a0, .int .i64 a1, .int .i64 a2, .int .i64 a3, .int .i64 a4, .int .i64 a5, .int .i64 a6, .int .i64 a7]) (.agg #[.int .i64 c, .int .i64 d, .int .i64 b0, .int .i64 b1, .int .i64 b2, .int .i64 b3, .int .i64 b4, .int .i64 b5, .int .i64 b6, .int .i64 b7]) =
    some (decide (a = c ∧ b = d ∧ a0 = b0 ∧ a1 = b1 ∧ a2 = b2 ∧ a3 = b3 ∧ a4 = b4 ∧ a5 = b5 ∧ a6 = b6 ∧ a7 = b7)) := by
  unfold aeq
  simp [aeqF, Tryd.underlying59, Tryd.stoodInHeld59, d_ap57, d_ap3]
  simp [aeq, Tryd.underlying3, d_sz3, aeqA, List.range', d_ap3]
  rfl
theorem d_transEx {A : AW} {p x k : Nat} (hp : A.rd p 0 0 = some []) (hx : A.rd x 0 0 = some []) : AC Tryd.prog 195 [.agg #[.slice (some ⟨p, 0, none⟩) 1 k, .int .i64 1, .int .i64 1], exSt 1 1 0, .slice (some ⟨x, 0, none⟩) 1 1] A (isR (.agg #[.int .i64 2, .int .i64 0, .int .i64 0, .int .i64 0, .int .i64 0, .int .i64 0, .int .i64 0, .int .i64 0, .int .i64 0, .int .i64 0, .slice none 0 0]) A) := by
  refine AC.isX ((SmallX.nil.cons (k := 0) (b := p) (f := 0) (o := .cells [] 128) (.flat (k := 64) hp rfl)).cons (b := x) (f := 0) (o := .cells [] 46) (.flat (k := 64) hx rfl))
    (args := [.agg #[.slice (some ⟨0, 0, none⟩) 1 k, .int .i64 1, .int .i64 1], exSt 1 1 0, .slice (some ⟨1, 0, none⟩) 1 1]) ?_ ⟨32, rfl⟩ (.agg (.sl rfl rfl (.flat (k := 8) rfl (.flat (k := 8) rfl .nil))) (.flat (k := 32) rfl (.sl rfl rfl .nil)))
  refine AC.go Tryd.func195 rfl rfl ?_
  clear hp hx
  repeat' (first
  | refine GL.sf rfl rfl rfl rfl ?_
  | refine GL.nf rfl rfl rfl ?_
  | refine GL.done ?_
  | refine GP.thenN ?_
  | refine GT.seq ?_
  | refine GT.region ?_
  | refine GL.v rfl rfl rfl (by first | exact GO.eq rfl rfl rfl rfl rfl Tryd.eqGuardType59 (d_aeq59 _ _ _ _ _ _ _ _ _ _ _ _ _ _ _ _ _ _ _ _) rfl | exact GO.sub rfl rfl rfl (by omega)) ?_
  | refine GT.ret ?_
  | refine GT.condT rfl ?_
  | refine GP.endR1 rfl ?_)
  rfl
end Go.M
