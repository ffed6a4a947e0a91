/- Functions of the given program, walked (no condition beyond what each theorem says). -/
import Derived.Test.YtfhodefiknfccaaDoorB4
set_option linter.unusedVariables false
set_option linter.unusedSimpArgs false
namespace Go.M
open Go.Proofs Go.RowKit
set_option maxRecDepth 8000
set_option maxHeartbeats 8000000
theorem findNow_ne {s k : ByteArray} {v : Value} {b i : Nat} {es : List MapEntry} (h : (s == k) = false) : Instr.findNow .string (.string s) (⟨.string k, v, b⟩ :: es) i = Instr.findNow .string (.string s) es (i + 1) := by
  simp only [Instr.findNow, Instr.sameNow, h]
theorem findNow0 {s  : ByteArray}  : Instr.findNow .string (.string s) [] 0 = some none := by rfl
theorem findNow1 {s k0 : ByteArray} {v0 : Value} {b0 : Nat} (h0 : (s == k0) = false) : Instr.findNow .string (.string s) [⟨.string k0, v0, b0⟩] 0 = some none := by rw [findNow_ne h0]; rfl
theorem findNow2 {s k0 k1 : ByteArray} {v0 v1 : Value} {b0 b1 : Nat} (h0 : (s == k0) = false) (h1 : (s == k1) = false) : Instr.findNow .string (.string s) [⟨.string k0, v0, b0⟩, ⟨.string k1, v1, b1⟩] 0 = some none := by rw [findNow_ne h0, findNow_ne h1]; rfl
theorem findNow3 {s k0 k1 k2 : ByteArray} {v0 v1 v2 : Value} {b0 b1 b2 : Nat} (h0 : (s == k0) = false) (h1 : (s == k1) = false) (h2 : (s == k2) = false) : Instr.findNow .string (.string s) [⟨.string k0, v0, b0⟩, ⟨.string k1, v1, b1⟩, ⟨.string k2, v2, b2⟩] 0 = some none := by rw [findNow_ne h0, findNow_ne h1, findNow_ne h2]; rfl
theorem findNow4 {s k0 k1 k2 k3 : ByteArray} {v0 v1 v2 v3 : Value} {b0 b1 b2 b3 : Nat} (h0 : (s == k0) = false) (h1 : (s == k1) = false) (h2 : (s == k2) = false) (h3 : (s == k3) = false) : Instr.findNow .string (.string s) [⟨.string k0, v0, b0⟩, ⟨.string k1, v1, b1⟩, ⟨.string k2, v2, b2⟩, ⟨.string k3, v3, b3⟩] 0 = some none := by rw [findNow_ne h0, findNow_ne h1, findNow_ne h2, findNow_ne h3]; rfl
theorem GO.lookupNone {P : Program} {n : Nat} {a : AEnv} {o : Oper} {L : LM} {nx ro gl : Nat} {t key elem : TypeId} {X Y : Operand} {s : ByteArray} {b clock : Nat} {es : List MapEntry} {z : Value} (ho : o.op = .lookup t X Y false) (hx : aev gl a X = some (.map (some b))) (hy : aev gl a Y = some (.string s))
    (hu : P.underlying t = some (.map key elem)) (hk : P.underlying key = some .string) (hL : alook L b = some (.map es clock)) (hf : Instr.findNow .string (.string s) es 0 = some none) (hz : azero P elem = some z) : GO P n o a L nx ro gl (isR z (AW.of L nx ro gl)) :=
  ⟨AOp.lookup ho hx hy (by
    have hob : (AW.of L nx ro gl).objs b = some (.map es clock) := hL
    unfold alookup amap
    rw [hu]; simp only; rw [hk]; simp only
    rw [if_pos (by rfl), hob]
    simp [hf, hz])⟩
theorem GL.mapNew {P : Program} {n m : Nat} {a : AEnv} {o : Oper} {ops : Array Oper} {rest : List Oper} {Q : AQ} {L L' : LM} {nx ro gl : Nat} {t key elem : TypeId} {X Y Z : Operand} {s : ByteArray} {b clock : Nat} {es : List MapEntry} {v : Value} (hg : o.guard = none) (hd : o.dst = none) (ho : o.op = .mapUpdate t X Y Z) (hx : aev gl a X = some (.map (some b))) (hy : aev gl a Y = some (.string s)) (hz : aev gl a Z = some v)
    (hu : P.underlying t = some (.map key elem)) (hk : P.underlying key = some .string) (hL : alook L b = some (.map es clock)) (hro : Nat.ble ro b = true) (hf : Instr.findNow .string (.string s) es 0 = some none) (hL' : aset L b (amapSet es clock (.string s) v none) = L') (h : GL P n m ops rest a L' nx ro gl Q) : GL P n m ops (o :: rest) a L nx ro gl Q :=
  GL.sn hg hd (by
    unfold nstep
    rw [ho]; simp only [hx, hy, hz, Option.bind_some, hu, hk, hL]
    rw [if_pos (by simp [simpleKey, noAddrs, Nat.le_of_ble_eq_true hro]), hf, ← hL']
    rfl) h
theorem d_named126_1 {A : AW} {p o k : Nat} (s0 k0 : ByteArray) (lo0 hi0 d0 : Int) (h0 : SensorOk s0 k0 lo0 hi0 d0)  (hp : A.rd p o 5 = some [.string s0, .string k0, .int .i64 lo0, .int .i64 hi0, .int .i64 d0]) :
    AC Tryd.prog 126 [.slice (some ⟨p, o, none⟩) 1 k, .int .i64 8, .func (.func 127) #[] #[], .func (.func 128) #[] #[]] A (isR (.int .i64 0) A) := by
  refine AC.is1 (o := .cells [.string s0, .string k0, .int .i64 lo0, .int .i64 hi0, .int .i64 d0] 128) (b := p) (g := o) (args := [.slice (some ⟨0, 0, none⟩) 1 k, .int .i64 8, .func (.func 127) #[] #[], .func (.func 128) #[] #[]]) ?_ ⟨16, rfl⟩ ⟨hp, 64, rfl⟩ (.sl (g := 0) rfl rfl (.flat (k := 8) rfl (.flat (k := 8) rfl (.flat (k := 8) rfl .nil))))
  refine AC.go Tryd.func126 rfl rfl ?_
  clear hp
  repeat' (first
  | refine GT.unroll 2 ?_
  | refine GT.draws (id := 8) [[], [0], [0, 1], [0, 1, 2], [], [], [4, 5], [0, 1, 2, 3, 4, 5, 6], [], [], [0, 1, 2, 3, 4, 5, 6, 7, 8, 9], [0, 1, 2, 3, 4, 5, 6, 7, 8, 9, 10], [0, 1, 2, 3, 4, 5, 6, 7, 8, 9, 10, 11], [0, 1, 2, 3, 4, 5, 6, 7, 8, 9, 10, 11, 12]] [11] (by kernel_rfl) ?_
  | refine GL.mapNew rfl rfl rfl rfl rfl rfl rfl rfl rfl rfl (findNow0) rfl ?_
  | refine GL.sf rfl rfl rfl rfl ?_
  | refine GL.nf rfl rfl rfl ?_
  | refine GL.done ?_
  | refine GP.thenN ?_
  | refine GT.seq ?_
  | refine GT.region ?_
  | refine GD.li rfl rfl (by exact onAt.none rfl) rfl (by repeat first | exact AllG.nil rfl | refine AllG.cons rfl (by first | exact GO.sf rfl rfl | exact GO.call rfl rfl Tryd.func145 rfl rfl rfl (d_isname145 _ h0.1) | exact GO.callV rfl rfl rfl Tryd.func128 rfl rfl rfl (d_sensor128 _ _ _ _ _ h0) | exact GO.call rfl rfl Tryd.func72 rfl rfl rfl (d_when72 _ _) | exact GO.call rfl rfl Tryd.func71 rfl rfl rfl (d_first71 [0, 0, 0] rfl rfl rfl)) ?_) ?_
  | refine GD.he rfl rfl rfl (by exact onAt.none rfl) rfl (by exact GO.sf rfl rfl) ?_ ?_
  | refine GD.done rfl rfl rfl ?_
  | exact AllJs.nil rfl
  | refine GL.v rfl rfl rfl (by first | exact GO.callV rfl rfl rfl Tryd.func127 rfl rfl rfl (d_label127 _ _ _ _ _) | exact GO.add rfl rfl rfl (by omega)) ?_
  | refine GT.skip ?_
  | refine GT.block ?_
  | refine GT.ret ?_
  | refine GT.exit ?_
  | refine GP.thenE ?_
  | refine GP.inN ?_
  | refine GP.hit ?_
  | refine GP.againN ?_
  | refine GP.againE ?_
  | refine GU.step ?_
  | refine GT.condT rfl ?_
  | refine GT.condF rfl ?_
  | refine GP.endR1 rfl ?_)
  rfl
theorem d_plant84_1 {A : AW} {p o k : Nat} (s0 k0 : ByteArray) (lo0 hi0 d0 need sil : Int) (h0 : SensorOk s0 k0 lo0 hi0 d0)  (hneed : 1 ≤ need ∧ need ≤ 1) (hsil : 0 ≤ sil ∧ sil ≤ 60) (hp : A.rd p o 5 = some [.string s0, .string k0, .int .i64 lo0, .int .i64 hi0, .int .i64 d0]) :
    AC Tryd.prog 84 [.agg #[.slice (some ⟨p, o, none⟩) 1 k, .int .i64 need, .int .i64 sil]] A (isR (.int .i64 0) A) := by
  refine AC.is1 (o := .cells [.string s0, .string k0, .int .i64 lo0, .int .i64 hi0, .int .i64 d0] 128) (b := p) (g := o) (args := [.agg #[.slice (some ⟨0, 0, none⟩) 1 k, .int .i64 need, .int .i64 sil]]) ?_ ⟨16, rfl⟩ ⟨hp, 64, rfl⟩ (.agg (.sl (g := 0) rfl rfl (.flat (k := 8) rfl (.flat (k := 8) rfl .nil))) .nil)
  refine AC.go Tryd.func84 rfl rfl ?_
  clear hp
  repeat' (first
  | refine GT.draws (id := 1) [[], [0], [0, 1], [0, 1, 2], [0, 1, 2, 3], [], [5], [0, 1, 2, 3, 4, 5, 6], [], [8], [], [10], [10, 11], [0, 1, 2, 3, 4, 5, 6, 7, 8, 9, 10, 11, 12], [], [14], [0, 1, 2, 3, 4, 5, 6, 7, 8, 9, 10, 11, 12, 13, 14, 15], [0, 1, 2, 3, 4, 5, 6, 7, 8, 9, 10, 11, 12, 13, 14, 15, 16], [0, 1, 2, 3, 4, 5, 6, 7, 8, 9, 10, 11, 12, 13, 14, 15, 16, 17], [0, 1, 2, 3, 4, 5, 6, 7, 8, 9, 10, 11, 12, 13, 14, 15, 16, 17, 18]] [17] (by kernel_rfl) ?_
  | refine GL.sf rfl rfl rfl rfl ?_
  | refine GL.done ?_
  | refine GP.thenN ?_
  | refine GT.seq ?_
  | refine GT.region ?_
  | refine GD.li rfl rfl (by exact onAt.none rfl) rfl (by repeat first | exact AllG.nil rfl | refine AllG.cons rfl (by first | exact GO.sf rfl rfl | exact GO.sv rfl rfl | exact GO.call rfl rfl Tryd.func126 rfl rfl rfl (d_named126_1 s0 k0 lo0 hi0 d0 h0  rfl) | exact GO.call rfl rfl Tryd.func115 rfl rfl rfl (d_within115ok _ _ _ hneed) | exact GO.call rfl rfl Tryd.func115 rfl rfl rfl (d_within115ok _ _ _ hsil) | exact GO.call rfl rfl Tryd.func72 rfl rfl rfl (d_when72 _ _) | exact GO.call rfl rfl Tryd.func71 rfl rfl rfl (d_first71 [whenI (decide ((1 : Int) = 0)) 12, 0, 0, 0] rfl rfl rfl)) ?_) ?_
  | refine GD.he rfl rfl rfl (by exact onAt.none rfl) rfl (by exact GO.sf rfl rfl) ?_ ?_
  | refine GD.done rfl rfl rfl ?_
  | exact AllJs.nil rfl
  | refine GT.ret ?_
  | refine GP.endR1 rfl ?_)
  rfl
theorem d_named126_2 {A : AW} {p o k : Nat} (s0 k0 s1 k1 : ByteArray) (lo0 hi0 d0 lo1 hi1 d1 : Int) (h0 : SensorOk s0 k0 lo0 hi0 d0) (h1 : SensorOk s1 k1 lo1 hi1 d1) (e10 : (s1 == s0) = false) (hp : A.rd p o 10 = some [.string s0, .string k0, .int .i64 lo0, .int .i64 hi0, .int .i64 d0, .string s1, .string k1, .int .i64 lo1, .int .i64 hi1, .int .i64 d1]) :
    AC Tryd.prog 126 [.slice (some ⟨p, o, none⟩) 2 k, .int .i64 8, .func (.func 127) #[] #[], .func (.func 128) #[] #[]] A (isR (.int .i64 0) A) := by
  refine AC.is1 (o := .cells [.string s0, .string k0, .int .i64 lo0, .int .i64 hi0, .int .i64 d0, .string s1, .string k1, .int .i64 lo1, .int .i64 hi1, .int .i64 d1] 128) (b := p) (g := o) (args := [.slice (some ⟨0, 0, none⟩) 2 k, .int .i64 8, .func (.func 127) #[] #[], .func (.func 128) #[] #[]]) ?_ ⟨16, rfl⟩ ⟨hp, 64, rfl⟩ (.sl (g := 0) rfl rfl (.flat (k := 8) rfl (.flat (k := 8) rfl (.flat (k := 8) rfl .nil))))
  refine AC.go Tryd.func126 rfl rfl ?_
  clear hp
  repeat' (first
  | refine GT.unroll 3 ?_
  | refine GT.draws (id := 8) [[], [0], [0, 1], [0, 1, 2], [], [], [4, 5], [0, 1, 2, 3, 4, 5, 6], [], [], [0, 1, 2, 3, 4, 5, 6, 7, 8, 9], [0, 1, 2, 3, 4, 5, 6, 7, 8, 9, 10], [0, 1, 2, 3, 4, 5, 6, 7, 8, 9, 10, 11], [0, 1, 2, 3, 4, 5, 6, 7, 8, 9, 10, 11, 12]] [11] (by kernel_rfl) ?_
  | refine GL.mapNew rfl rfl rfl rfl rfl rfl rfl rfl rfl rfl (findNow0) rfl ?_
  | refine GL.mapNew rfl rfl rfl rfl rfl rfl rfl rfl rfl rfl (findNow1 (by assumption)) rfl ?_
  | refine GL.sf rfl rfl rfl rfl ?_
  | refine GL.nf rfl rfl rfl ?_
  | refine GL.done ?_
  | refine GP.thenN ?_
  | refine GT.seq ?_
  | refine GT.region ?_
  | refine GD.li rfl rfl (by exact onAt.none rfl) rfl (by repeat first | exact AllG.nil rfl | refine AllG.cons rfl (by first | exact GO.sf rfl rfl | exact GO.lookupNone rfl rfl rfl rfl rfl rfl (findNow1 (by assumption)) rfl | exact GO.call rfl rfl Tryd.func145 rfl rfl rfl (d_isname145 _ h0.1) | exact GO.call rfl rfl Tryd.func145 rfl rfl rfl (d_isname145 _ h1.1) | exact GO.callV rfl rfl rfl Tryd.func128 rfl rfl rfl (d_sensor128 _ _ _ _ _ h0) | exact GO.callV rfl rfl rfl Tryd.func128 rfl rfl rfl (d_sensor128 _ _ _ _ _ h1) | exact GO.call rfl rfl Tryd.func72 rfl rfl rfl (d_when72 _ _) | exact GO.call rfl rfl Tryd.func71 rfl rfl rfl (d_first71 [0, 0, 0] rfl rfl rfl)) ?_) ?_
  | refine GD.he rfl rfl rfl (by exact onAt.none rfl) rfl (by exact GO.sf rfl rfl) ?_ ?_
  | refine GD.done rfl rfl rfl ?_
  | exact AllJs.nil rfl
  | refine GL.v rfl rfl rfl (by first | exact GO.callV rfl rfl rfl Tryd.func127 rfl rfl rfl (d_label127 _ _ _ _ _) | exact GO.add rfl rfl rfl (by omega)) ?_
  | refine GT.skip ?_
  | refine GT.block ?_
  | refine GT.ret ?_
  | refine GT.exit ?_
  | refine GP.thenE ?_
  | refine GP.inN ?_
  | refine GP.hit ?_
  | refine GP.againN ?_
  | refine GP.againE ?_
  | refine GU.step ?_
  | refine GT.condT rfl ?_
  | refine GT.condF rfl ?_
  | refine GP.endR1 rfl ?_)
  rfl
theorem d_plant84_2 {A : AW} {p o k : Nat} (s0 k0 s1 k1 : ByteArray) (lo0 hi0 d0 lo1 hi1 d1 need sil : Int) (h0 : SensorOk s0 k0 lo0 hi0 d0) (h1 : SensorOk s1 k1 lo1 hi1 d1) (e10 : (s1 == s0) = false) (hneed : 1 ≤ need ∧ need ≤ 2) (hsil : 0 ≤ sil ∧ sil ≤ 60) (hp : A.rd p o 10 = some [.string s0, .string k0, .int .i64 lo0, .int .i64 hi0, .int .i64 d0, .string s1, .string k1, .int .i64 lo1, .int .i64 hi1, .int .i64 d1]) :
    AC Tryd.prog 84 [.agg #[.slice (some ⟨p, o, none⟩) 2 k, .int .i64 need, .int .i64 sil]] A (isR (.int .i64 0) A) := by
  refine AC.is1 (o := .cells [.string s0, .string k0, .int .i64 lo0, .int .i64 hi0, .int .i64 d0, .string s1, .string k1, .int .i64 lo1, .int .i64 hi1, .int .i64 d1] 128) (b := p) (g := o) (args := [.agg #[.slice (some ⟨0, 0, none⟩) 2 k, .int .i64 need, .int .i64 sil]]) ?_ ⟨16, rfl⟩ ⟨hp, 64, rfl⟩ (.agg (.sl (g := 0) rfl rfl (.flat (k := 8) rfl (.flat (k := 8) rfl .nil))) .nil)
  refine AC.go Tryd.func84 rfl rfl ?_
  clear hp
  repeat' (first
  | refine GT.draws (id := 1) [[], [0], [0, 1], [0, 1, 2], [0, 1, 2, 3], [], [5], [0, 1, 2, 3, 4, 5, 6], [], [8], [], [10], [10, 11], [0, 1, 2, 3, 4, 5, 6, 7, 8, 9, 10, 11, 12], [], [14], [0, 1, 2, 3, 4, 5, 6, 7, 8, 9, 10, 11, 12, 13, 14, 15], [0, 1, 2, 3, 4, 5, 6, 7, 8, 9, 10, 11, 12, 13, 14, 15, 16], [0, 1, 2, 3, 4, 5, 6, 7, 8, 9, 10, 11, 12, 13, 14, 15, 16, 17], [0, 1, 2, 3, 4, 5, 6, 7, 8, 9, 10, 11, 12, 13, 14, 15, 16, 17, 18]] [17] (by kernel_rfl) ?_
  | refine GL.sf rfl rfl rfl rfl ?_
  | refine GL.done ?_
  | refine GP.thenN ?_
  | refine GT.seq ?_
  | refine GT.region ?_
  | refine GD.li rfl rfl (by exact onAt.none rfl) rfl (by repeat first | exact AllG.nil rfl | refine AllG.cons rfl (by first | exact GO.sf rfl rfl | exact GO.sv rfl rfl | exact GO.call rfl rfl Tryd.func126 rfl rfl rfl (d_named126_2 s0 k0 s1 k1 lo0 hi0 d0 lo1 hi1 d1 h0 h1 e10 rfl) | exact GO.call rfl rfl Tryd.func115 rfl rfl rfl (d_within115ok _ _ _ hneed) | exact GO.call rfl rfl Tryd.func115 rfl rfl rfl (d_within115ok _ _ _ hsil) | exact GO.call rfl rfl Tryd.func72 rfl rfl rfl (d_when72 _ _) | exact GO.call rfl rfl Tryd.func71 rfl rfl rfl (d_first71 [whenI (decide ((2 : Int) = 0)) 12, 0, 0, 0] rfl rfl rfl)) ?_) ?_
  | refine GD.he rfl rfl rfl (by exact onAt.none rfl) rfl (by exact GO.sf rfl rfl) ?_ ?_
  | refine GD.done rfl rfl rfl ?_
  | exact AllJs.nil rfl
  | refine GT.ret ?_
  | refine GP.endR1 rfl ?_)
  rfl
end Go.M
