/- Functions of the given program, walked (no condition beyond what each theorem says). -/
import Derived.Laws.RangeString
import Derived.Test.YtfhodefiknfccaaDoorB3
import Derived.Test.YtfhodefiknfccaaDoorA5
set_option linter.unusedVariables false
set_option linter.unusedSimpArgs false
namespace Go.M
open Go.Proofs Go.RowKit
set_option maxRecDepth 8000
set_option maxHeartbeats 4000000
def okB (i : Nat) (b : UInt8) : Prop := ((65 ≤ b.toNat ∧ b.toNat ≤ 90) ∨ (97 ≤ b.toNat ∧ b.toNat ≤ 122)) ∨ (i ≠ 0 ∧ ((48 ≤ b.toNat ∧ b.toNat ≤ 57) ∨ b.toNat = 95))
def NameOk (s : ByteArray) : Prop := 0 < s.size ∧ s.size ≤ 24 ∧ ∀ i b, s.data.toList[i]? = some b → okB i b
theorem GO.indexStr {P : Program} {n : Nat} {a : AEnv} {o : Oper} {L : LM} {nx ro gl : Nat} {t : TypeId} {X Y : Operand} {s : ByteArray} {k : IntKind} {i : Int} {b : UInt8} (ho : o.op = .index t X Y) (hx : aev gl a X = some (.string s)) (hy : aev gl a Y = some (.int k i)) (hu : P.underlying t = some .string) (h0 : 0 ≤ i) (hb : s.data.toList[i.toNat]? = some b) :
    GO P n o a L nx ro gl (isR (.int .u8 b.toNat) (AW.of L nx ro gl)) :=
  ⟨AOp.index ho hx hy (by unfold aindex; rw [hu]; simp only; rw [if_pos h0, hb])⟩
theorem okStep {s : ByteArray} {i : Nat} {b : UInt8} (hb : s.data.toList[i]? = some b) (h : ∀ j c, j < i → s.data.toList[j]? = some c → okB j c) (hk : okB i b) : ∀ j c, j < i + 1 → s.data.toList[j]? = some c → okB j c := fun j c hj hc => by
  rcases Nat.lt_or_ge j i with q | q
  · exact h j c q hc
  · have : j = i := by omega
    subst this
    rw [hb] at hc; cases hc
    exact hk
theorem d_isname93 {A : AW} (s : ByteArray) : AC Tryd.prog 93 [.string s] A (fun v A1 => (∃ b, v = .bool b ∧ (b = true → NameOk s)) ∧ A1 = A) := by
  refine AC.pure0 (AC.mono (R := fun v _ => ∃ b, v = .bool b ∧ (b = true → NameOk s)) ?_ (fun v _ ⟨b, e, h⟩ => ⟨⟨b, e, h⟩, by subst e; exact ⟨8, rfl⟩⟩)) (.flat (k := 8) rfl .nil)
  refine AC.go Tryd.func93 rfl rfl ?_
  have hsz : s.data.toList.length = s.size := by rw [Array.length_toList]; rfl
  repeat' (first
  | exact ⟨false, rfl, fun h => by cases h⟩
  | refine GL.sf rfl rfl rfl rfl ?_
  | refine GL.done ?_
  | refine GP.thenN ?_
  | refine GT.seq ?_
  | refine GT.region ?_
  | refine GL.unguard rfl rfl ?_
  | refine GL.skip rfl rfl rfl rfl ?_
  | refine GT.skip ?_
  | refine GT.block ?_
  | refine GT.ret ?_
  | refine GP.thenR ?_
  | refine GT.condT rfl ?_
  | (refine GT.condD rfl (fun h => ?_) (fun h => ?_) <;> try (exfalso; omega))
  | (refine GL.forkD rfl rfl (fun h => ?_) (fun h => ?_) <;> try (exfalso; omega))
  | refine GP.endR1 rfl ?_)
  refine GT.loop (fun k a L nx => ∃ i : Nat, i ≤ s.size ∧ k = s.size - i ∧ (∀ j b, j < i → s.data.toList[j]? = some b → okB j b) ∧ asub [(0, .string s), (3, .int .i64 i)] a ∧ L = [] ∧ nx = 0) s.size
    ⟨0, by omega, by omega, by simp, asub_cons rfl (asub_cons rfl asub_nil), rfl, rfl⟩ ?_
  rintro k a L nx ⟨i, hi, rfl, hz, hs, rfl, rfl⟩
  refine GT.keep hs ?_
  clear hs
  rcases Nat.lt_or_ge i s.size with hlt | hge
  · obtain ⟨b, hb⟩ : ∃ b, s.data.toList[i]? = some b := ⟨_, List.getElem?_eq_getElem (by rw [hsz]; exact hlt)⟩
    have hb' : s.data.toList[(i : Int).toNat]? = some b := by simpa using hb
    repeat' (first
    | exact ⟨false, rfl, fun h => by cases h⟩
    | refine GL.sf rfl rfl rfl rfl ?_
    | refine GL.done ?_
    | refine GP.thenN ?_
    | refine GT.seq ?_
    | refine GT.region ?_
    | refine GL.unguard rfl rfl ?_
    | refine GL.skip rfl rfl rfl rfl ?_
    | refine GL.skipU rfl rfl rfl rfl ?_
    | refine GL.v rfl rfl rfl (by first | exact GO.indexStr rfl rfl rfl rfl (by omega) hb' | exact GO.add rfl rfl rfl (by omega)) ?_
    | refine GT.skip ?_
    | refine GT.block ?_
    | refine GT.ret ?_
    | refine GP.thenR ?_
    | refine GP.inN ?_
    | refine GP.inR ?_
    | refine GP.invR ?_
    | refine GT.condT rfl ?_
    | refine GT.condF rfl ?_
    | (refine GT.condD rfl (fun h => ?_) (fun h => ?_) <;> try (exfalso; omega))
    | (refine GT.condN rfl (fun h => ?_) (fun h => ?_) <;> try (exfalso; omega))
    | (refine GL.forkD rfl rfl (fun h => ?_) (fun h => ?_) <;> try (exfalso; omega))
    | (refine GL.forkN rfl rfl (fun h => ?_) (fun h => ?_) <;> try (exfalso; omega))
    | refine GP.endR1 rfl ?_)
    all_goals exact GP.invN (s.size - (i + 1)) (by omega) ⟨i + 1, by omega, rfl, okStep hb hz (by unfold okB; omega), asub_cons rfl (asub_cons rfl asub_nil), rfl, rfl⟩
  ·
    repeat' (first
    | refine GL.sf rfl rfl rfl rfl ?_
    | refine GL.done ?_
    | refine GP.thenN ?_
    | refine GT.seq ?_
    | refine GT.region ?_
    | refine GT.ret ?_
    | refine GT.exit ?_
    | refine GP.thenE ?_
    | refine GP.hit ?_
    | refine GP.invE ?_
    | (refine GT.condD rfl (fun h => ?_) (fun h => ?_) <;> try (exfalso; omega))
    | refine GP.endR1 rfl ?_)
    exact ⟨true, rfl, fun _ => ⟨by omega, by omega, fun j c hc => hz j c (by have := (List.getElem?_eq_some_iff.1 hc).1; omega) hc⟩⟩
theorem next_ascii {s : ByteArray} {i : Nat} {b : UInt8} (hb : s.data.toList[i]? = some b) (hlt : i < s.size) (ha : b.toNat < 128) : anext (AW.of [(0, .iter s i)] 1 0 0) (.pointer (some ⟨0, 0, none⟩)) = some (.tuple #[.bool true, .int .i64 i, .int .i32 b.toNat], AW.of [(0, .iter s (i + 1))] 1 0 0) := by
  have e : s[i]'hlt = b := by
    have h1 := (List.getElem?_eq_some_iff.1 hb).2
    rw [← h1]; rfl
  have hd := decode_ascii s i hlt (by rw [e]; exact ha)
  have ho : (AW.of [(0, AObj.iter s i)] 1 0 0).objs 0 = some (.iter s i) := rfl
  unfold anext
  simp only [ho]
  rw [if_pos (show (AW.of [(0, AObj.iter s i)] 1 0 0).ro ≤ 0 from Nat.le_refl _), if_pos hlt, hd, e, AW.of_upd]
  rfl
theorem next_end {s : ByteArray} {i : Nat} (hge : ¬ i < s.size) : anext (AW.of [(0, .iter s i)] 1 0 0) (.pointer (some ⟨0, 0, none⟩)) = some (.tuple #[.bool false], AW.of [(0, .iter s i)] 1 0 0) := by
  have ho : (AW.of [(0, AObj.iter s i)] 1 0 0).objs 0 = some (.iter s i) := rfl
  unfold anext
  simp only [ho]
  rw [if_pos (show (AW.of [(0, AObj.iter s i)] 1 0 0).ro ≤ 0 from Nat.le_refl _), if_neg hge]
theorem d_isname145 {A : AW} (s : ByteArray) (hn : NameOk s) : AC Tryd.prog 145 [.string s] A (isR (.bool true) A) := by
  refine AC.is0 ?_ ⟨8, rfl⟩ (.flat (k := 8) rfl .nil)
  refine AC.go Tryd.func145 rfl rfl ?_
  obtain ⟨n1, n2, n3⟩ := hn
  have hsz : s.data.toList.length = s.size := by rw [Array.length_toList]; rfl
  have hne : (!(s.data.toList == (⟨#[]⟩ : ByteArray).data.toList)) = true := by
    cases q : s.data.toList with
    | nil => rw [q] at hsz; simp at hsz; omega
    | cons c l => rfl
  repeat' (first
  | refine GL.sf rfl rfl rfl rfl ?_
  | refine GL.done ?_
  | refine GP.thenN ?_
  | refine GT.seq ?_
  | refine GT.region ?_
  | refine GT.block ?_)
  refine GT.loop (fun k a L nx => ∃ i : Nat, i ≤ s.size ∧ k = s.size - i ∧ asub [(0, .string s), (7, .pointer (some ⟨0, 0, none⟩))] a ∧ L = [(0, .iter s i)] ∧ nx = 1) s.size
    ⟨0, by omega, by omega, asub_cons rfl (asub_cons rfl asub_nil), rfl, rfl⟩ ?_
  rintro k a L nx ⟨i, hi, rfl, hs, rfl, rfl⟩
  refine GT.keep hs ?_
  clear hs
  by_cases hlt : i < s.size
  · obtain ⟨b, hb⟩ : ∃ b, s.data.toList[i]? = some b := ⟨_, List.getElem?_eq_getElem (by rw [hsz]; exact hlt)⟩
    have ho := n3 i b hb
    unfold okB at ho
    have hx := next_ascii hb hlt (by omega)
    repeat' (first
    | refine GL.sf rfl rfl rfl rfl ?_
    | refine GL.done ?_
    | refine GP.thenN ?_
    | refine GT.seq ?_
    | refine GT.region ?_
    | refine GL.unguard rfl rfl ?_
    | refine GL.skip rfl rfl rfl rfl ?_
    | refine GL.skipU rfl rfl rfl rfl ?_
    | refine GL.v rfl rfl rfl (by exact GO.next rfl rfl hx) ?_
    | refine GT.skip ?_
    | refine GT.block ?_
    | refine GP.inN ?_
    | refine GT.condT rfl ?_
    | refine GT.condF rfl ?_
    | (refine GT.condD rfl (fun h => ?_) (fun h => ?_) <;> try (exfalso; omega))
    | (refine GL.forkD rfl rfl (fun h => ?_) (fun h => ?_) <;> try (exfalso; omega))
    | (refine GL.forkN rfl rfl (fun h => ?_) (fun h => ?_) <;> try (exfalso; omega)))
    all_goals exact GP.invN (s.size - (i + 1)) (by omega) ⟨i + 1, by omega, rfl, asub_cons rfl (asub_cons rfl asub_nil), rfl, rfl⟩
  · have hx := next_end hlt
    repeat' (first
    | exact absurd (h.symm.trans hne) (by decide)
    | refine GL.sf rfl rfl rfl rfl ?_
    | refine GL.done ?_
    | refine GP.thenN ?_
    | refine GT.seq ?_
    | refine GT.region ?_
    | refine GL.unguard rfl rfl ?_
    | refine GL.v rfl rfl rfl (by exact GO.next rfl rfl hx) ?_
    | refine GT.ret ?_
    | refine GT.exit ?_
    | refine GP.thenE ?_
    | refine GP.hit ?_
    | refine GP.invE ?_
    | refine GT.condF rfl ?_
    | (refine GL.forkB rfl rfl (fun h => ?_) (fun h => ?_))
    | refine GP.endR1 rfl ?_)
    rw [decide_eq_true (show (s.size : Int) ≤ 24 by omega)]
end Go.M
namespace Go.M
open Go.Proofs
set_option maxRecDepth 8000
set_option maxHeartbeats 4000000
theorem d_needle74 {A : AW} (n : Int) (h : -10000 ≤ n ∧ n ≤ 10000) : AC Tryd.prog 74 [.int .i64 n] A (isR (.int .i64 0) A) := by
  have e : (whenI (withinB n (-10000) 10000) 3) = 0 := whenI_zero (withinB_no h)
  refine AC.is0 ?_ ⟨8, rfl⟩ (.flat (k := 8) rfl .nil)
  refine AC.go Tryd.func74 rfl rfl ?_
  repeat' (first
  | refine GL.sf rfl rfl rfl rfl ?_
  | refine GL.done ?_
  | refine GP.thenN ?_
  | refine GT.seq ?_
  | refine GT.region ?_
  | refine GL.v rfl rfl rfl (by exact GO.call rfl rfl Tryd.func115 rfl rfl rfl (d_within115 _ _ _)) ?_
  | refine GT.ret ?_
  | refine GP.endR1 rfl ?_)
  rw [e]
theorem d_within115ok {A : AW} (n lo hi : Int) (h : lo ≤ n ∧ n ≤ hi) : AC Tryd.prog 115 [.int .i64 n, .int .i64 lo, .int .i64 hi] A (isR (.int .i64 0) A) := by
  have := d_within115 (A := A) n lo hi
  rwa [whenI_zero (withinB_no h)] at this
theorem d_limits75 {A : AW} (a b : Int) (ha : -10000 ≤ a ∧ a ≤ 10000) (hb : -10000 ≤ b ∧ b ≤ 10000) (hab : a ≤ b) : AC Tryd.prog 75 [.agg #[.int .i64 a, .int .i64 b]] A (isR (.int .i64 0) A) := by
  have e : firstNZ [0, 0, whenI (decide (b < a)) 11] = 0 := by rw [decide_eq_false (show ¬ b < a by omega)]; rfl
  refine AC.is0 ?_ ⟨8, rfl⟩ (.flat (k := 16) rfl .nil)
  refine AC.go Tryd.func75 rfl rfl ?_
  repeat' (first
  | refine GT.draws (id := 1) [[], [0], [0, 1], [], [3], [0, 1, 2, 3, 4], [], [6], [], [8], [6, 7, 8, 9], [0, 1, 2, 3, 4, 5, 6, 7, 8, 9, 10], [0, 1, 2, 3, 4, 5, 6, 7, 8, 9, 10, 11], [0, 1, 2, 3, 4, 5, 6, 7, 8, 9, 10, 11, 12], [0, 1, 2, 3, 4, 5, 6, 7, 8, 9, 10, 11, 12, 13]] [12] (by kernel_rfl) ?_
  | refine GL.sf rfl rfl rfl rfl ?_
  | refine GL.done ?_
  | refine GP.thenN ?_
  | refine GT.seq ?_
  | refine GT.region ?_
  | refine GD.li rfl rfl (by exact onAt.none rfl) rfl (by repeat first | exact AllG.nil rfl | refine AllG.cons rfl (by first | exact GO.sf rfl rfl | exact GO.call rfl rfl Tryd.func74 rfl rfl rfl (d_needle74 a ha) | exact GO.call rfl rfl Tryd.func74 rfl rfl rfl (d_needle74 b hb) | exact GO.call rfl rfl Tryd.func72 rfl rfl rfl (d_when72 _ _) | exact GO.call rfl rfl Tryd.func71 rfl rfl rfl (d_first71 [0, 0, whenI (decide (b < a)) 11] rfl rfl rfl)) ?_) ?_
  | refine GD.he rfl rfl rfl (by exact onAt.none rfl) rfl (by exact GO.sf rfl rfl) ?_ ?_
  | refine GD.done rfl rfl rfl ?_
  | exact AllJs.nil rfl
  | refine GT.ret ?_
  | refine GP.endR1 rfl ?_)
  rw [e]
theorem d_check88 {A : AW} (n : Int) (m : Bool) (h : -10000 ≤ n ∧ n ≤ 10000) (hm : m = true → n = 0) : AC Tryd.prog 88 [.agg #[.int .i64 n, .bool m]] A (isR (.int .i64 0) A) := by
  refine AC.is0 ?_ ⟨8, rfl⟩ (.flat (k := 16) rfl .nil)
  refine AC.go Tryd.func88 rfl rfl ?_
  cases m with
  | true =>
    obtain rfl := hm rfl
    repeat' (first
    | refine GT.draws (id := 1) [[], [0], [0, 1], [], [3], [0, 1, 2, 3, 4], [0, 1, 2, 3, 4, 5], [0, 1, 2, 3, 4, 5, 6], [0, 1, 2, 3, 4, 5, 6, 7], [0, 1, 2, 3, 4, 5, 6, 7, 8], [0, 1, 2, 3, 4, 5, 6, 7, 8, 9], [0, 1, 2, 3, 4, 5, 6, 7, 8, 9, 10], [0, 1, 2, 3, 4, 5, 6, 7, 8, 9, 10, 11], [0, 1, 2, 3, 4, 5, 6, 7, 8, 9, 10, 11, 12]] [11] (by kernel_rfl) ?_
    | refine GL.sf rfl rfl rfl rfl ?_
    | refine GL.done ?_
    | refine GP.thenN ?_
    | refine GT.seq ?_
    | refine GT.region ?_
    | refine GD.li rfl rfl (by first | exact onAt.none rfl | exact onAt.yes rfl rfl rfl) rfl (by repeat first | exact AllG.nil rfl | refine AllG.cons rfl (by first | exact GO.sf rfl rfl | exact GO.call rfl rfl Tryd.func74 rfl rfl rfl (d_needle74 0 (by decide)) | exact GO.call rfl rfl Tryd.func72 rfl rfl rfl (d_when72 _ _) | exact GO.call rfl rfl Tryd.func71 rfl rfl rfl (d_first71 [0, whenI (!decide ((0 : Int) = 0)) 1] rfl rfl rfl)) ?_) ?_
    | refine GD.he rfl rfl rfl (by exact onAt.none rfl) rfl (by exact GO.sf rfl rfl) ?_ ?_
    | refine GD.done rfl rfl rfl ?_
    | exact AllJs.nil rfl
    | refine GT.ret ?_
    | refine GP.endR1 rfl ?_)
    rfl
  | false =>
    repeat' (first
    | refine GT.draws (id := 1) [[], [0], [0, 1], [], [3], [0, 1, 2, 3, 4], [0, 1, 2, 3, 4, 5], [0, 1, 2, 3, 4, 5, 6], [0, 1, 2, 3, 4, 5, 6, 7], [0, 1, 2, 3, 4, 5, 6, 7, 8], [0, 1, 2, 3, 4, 5, 6, 7, 8, 9], [0, 1, 2, 3, 4, 5, 6, 7, 8, 9, 10], [0, 1, 2, 3, 4, 5, 6, 7, 8, 9, 10, 11], [0, 1, 2, 3, 4, 5, 6, 7, 8, 9, 10, 11, 12]] [11] (by kernel_rfl) ?_
    | refine GL.sf rfl rfl rfl rfl ?_
    | refine GL.done ?_
    | refine GP.thenN ?_
    | refine GT.seq ?_
    | refine GT.region ?_
    | refine GD.li rfl rfl (by exact onAt.none rfl) rfl (by repeat first | exact AllG.nil rfl | refine AllG.cons rfl (by first | exact GO.sf rfl rfl | exact GO.call rfl rfl Tryd.func74 rfl rfl rfl (d_needle74 n h) | exact GO.call rfl rfl Tryd.func72 rfl rfl rfl (d_when72 _ _) | exact GO.call rfl rfl Tryd.func71 rfl rfl rfl (d_first71 [0, whenI false 1] rfl rfl rfl)) ?_) ?_
    | refine GD.off rfl rfl rfl rfl rfl (by exact .inl rfl) rfl ?_
    | refine GD.he rfl rfl rfl (by exact onAt.none rfl) rfl (by exact GO.sf rfl rfl) ?_ ?_
    | refine GD.done rfl rfl rfl ?_
    | exact AllJs.nil rfl
    | refine GT.ret ?_
    | refine GP.endR1 rfl ?_)
    rfl
theorem d_has77 {A : AW} (a b n : Int) : AC Tryd.prog 77 [.agg #[.int .i64 a, .int .i64 b], .int .i64 n] A (isR (.bool (decide (a ≤ n ∧ n ≤ b))) A) := by
  refine AC.is0 ?_ ⟨8, rfl⟩ (.flat (k := 16) rfl (.flat (k := 8) rfl .nil))
  refine AC.go Tryd.func77 rfl rfl ?_
  repeat' (first
  | refine GL.sf rfl rfl rfl rfl ?_
  | refine GL.done ?_
  | refine GP.thenN ?_
  | refine GT.seq ?_
  | refine GT.region ?_
  | refine GL.unguard rfl rfl ?_
  | refine GL.skip rfl rfl rfl rfl ?_
  | refine GT.ret ?_
  | (refine GL.forkD rfl rfl (fun h => ?_) (fun h => ?_) <;> try (exfalso; omega))
  | refine GP.endR1 rfl ?_)
  all_goals simp [h]
theorem d_label127 {A : AW} (s k : ByteArray) (lo hi d : Int) : AC Tryd.prog 127 [.agg #[.string s, .string k, .int .i64 lo, .int .i64 hi, .int .i64 d]] A (isR (.string s) A) := by
  refine AC.is0 ?_ ⟨8, rfl⟩ (.flat (k := 32) rfl .nil)
  refine AC.go Tryd.func127 rfl rfl ?_
  repeat' (first
  | refine GL.sf rfl rfl rfl rfl ?_
  | refine GL.done ?_
  | refine GP.thenN ?_
  | refine GT.seq ?_
  | refine GT.region ?_
  | refine GT.ret ?_
  | refine GP.endR1 rfl ?_)
  rfl
/-- The kinds. -/
def kIntegral : ByteArray := ⟨#[105, 110, 116, 101, 103, 114, 97, 108]⟩
def kNear : ByteArray := ⟨#[110, 101, 97, 114]⟩
def kFar : ByteArray := ⟨#[102, 97, 114]⟩
def SensorOk (s k : ByteArray) (lo hi d : Int) : Prop := NameOk s ∧ (k = kIntegral ∨ k = kNear ∨ k = kFar) ∧ (-10000 ≤ lo ∧ lo ≤ 10000) ∧ (-10000 ≤ hi ∧ hi ≤ 10000) ∧ lo ≤ hi ∧ (1 ≤ d ∧ d ≤ 60)
theorem d_sensor128 {A : AW} (s k : ByteArray) (lo hi d : Int) (h : SensorOk s k lo hi d) : AC Tryd.prog 128 [.agg #[.string s, .string k, .int .i64 lo, .int .i64 hi, .int .i64 d]] A (isR (.int .i64 0) A) := by
  obtain ⟨_, hk, h1, h2, h3, h4⟩ := h
  refine AC.is0 ?_ ⟨8, rfl⟩ (.flat (k := 32) rfl .nil)
  refine AC.go Tryd.func128 rfl rfl ?_
  rcases hk with rfl | rfl | rfl
  ·
    repeat' (first
    | refine GT.draws (id := 1) [[], [0], [0, 1], [0, 1, 2], [0, 1, 2, 3], [0, 1, 2, 3, 4], [0, 1, 2, 3, 4, 5], [0, 1, 2, 3, 4, 5, 6], [0, 1, 2, 3, 4, 5, 6, 7], [0, 1, 2, 3, 4, 5, 6, 7, 8], [0, 1, 2, 3, 4, 5, 6, 7, 8, 9], [0, 1, 2, 3, 4, 5, 6, 7, 8, 9, 10], [0, 1, 2, 3, 4, 5, 6, 7, 8, 9, 10, 11], [0, 1, 2, 3, 4, 5, 6, 7, 8, 9, 10, 11, 12], [], [14], [0, 1, 2, 3, 4, 5, 6, 7, 8, 9, 10, 11, 12, 13, 14, 15], [], [17], [0, 1, 2, 3, 4, 5, 6, 7, 8, 9, 10, 11, 12, 13, 14, 15, 16, 17, 18], [0, 1, 2, 3, 4, 5, 6, 7, 8, 9, 10, 11, 12, 13, 14, 15, 16, 17, 18, 19], [0, 1, 2, 3, 4, 5, 6, 7, 8, 9, 10, 11, 12, 13, 14, 15, 16, 17, 18, 19, 20], [0, 1, 2, 3, 4, 5, 6, 7, 8, 9, 10, 11, 12, 13, 14, 15, 16, 17, 18, 19, 20, 21]] [20] (by kernel_rfl) ?_
    | refine GL.sf rfl rfl rfl rfl ?_
    | refine GL.done ?_
    | refine GP.thenN ?_
    | refine GT.seq ?_
    | refine GT.region ?_
    | refine GD.li rfl rfl (by exact onAt.none rfl) rfl (by repeat first | exact AllG.nil rfl | refine AllG.cons rfl (by first | exact GO.sf rfl rfl | exact GO.call rfl rfl Tryd.func75 rfl rfl rfl (d_limits75 _ _ h1 h2 h3) | exact GO.call rfl rfl Tryd.func115 rfl rfl rfl (d_within115ok _ _ _ h4) | exact GO.call rfl rfl Tryd.func72 rfl rfl rfl (d_when72 _ _) | exact GO.call rfl rfl Tryd.func71 rfl rfl rfl (d_first71 [whenI false 13, 0, 0] rfl rfl rfl)) ?_) ?_
    | refine GD.off rfl rfl rfl rfl rfl (by exact .inl rfl) rfl ?_
    | refine GD.he rfl rfl rfl (by exact onAt.none rfl) rfl (by exact GO.sf rfl rfl) ?_ ?_
    | refine GD.done rfl rfl rfl ?_
    | exact AllJs.nil rfl
    | refine GT.ret ?_
    | refine GP.endR1 rfl ?_)
    rfl
  ·
    repeat' (first
    | refine GT.draws (id := 1) [[], [0], [0, 1], [0, 1, 2], [0, 1, 2, 3], [0, 1, 2, 3, 4], [0, 1, 2, 3, 4, 5], [0, 1, 2, 3, 4, 5, 6], [0, 1, 2, 3, 4, 5, 6, 7], [0, 1, 2, 3, 4, 5, 6, 7, 8], [0, 1, 2, 3, 4, 5, 6, 7, 8, 9], [0, 1, 2, 3, 4, 5, 6, 7, 8, 9, 10], [0, 1, 2, 3, 4, 5, 6, 7, 8, 9, 10, 11], [0, 1, 2, 3, 4, 5, 6, 7, 8, 9, 10, 11, 12], [], [14], [0, 1, 2, 3, 4, 5, 6, 7, 8, 9, 10, 11, 12, 13, 14, 15], [], [17], [0, 1, 2, 3, 4, 5, 6, 7, 8, 9, 10, 11, 12, 13, 14, 15, 16, 17, 18], [0, 1, 2, 3, 4, 5, 6, 7, 8, 9, 10, 11, 12, 13, 14, 15, 16, 17, 18, 19], [0, 1, 2, 3, 4, 5, 6, 7, 8, 9, 10, 11, 12, 13, 14, 15, 16, 17, 18, 19, 20], [0, 1, 2, 3, 4, 5, 6, 7, 8, 9, 10, 11, 12, 13, 14, 15, 16, 17, 18, 19, 20, 21]] [20] (by kernel_rfl) ?_
    | refine GL.sf rfl rfl rfl rfl ?_
    | refine GL.done ?_
    | refine GP.thenN ?_
    | refine GT.seq ?_
    | refine GT.region ?_
    | refine GD.li rfl rfl (by first | exact onAt.none rfl | exact onAt.yes rfl rfl rfl) rfl (by repeat first | exact AllG.nil rfl | refine AllG.cons rfl (by first | exact GO.sf rfl rfl | exact GO.call rfl rfl Tryd.func75 rfl rfl rfl (d_limits75 _ _ h1 h2 h3) | exact GO.call rfl rfl Tryd.func115 rfl rfl rfl (d_within115ok _ _ _ h4) | exact GO.call rfl rfl Tryd.func72 rfl rfl rfl (d_when72 _ _) | exact GO.call rfl rfl Tryd.func71 rfl rfl rfl (d_first71 [whenI false 13, 0, 0] rfl rfl rfl)) ?_) ?_
    | refine GD.off rfl rfl rfl rfl rfl (by exact .inl rfl) rfl ?_
    | refine GD.he rfl rfl rfl (by exact onAt.none rfl) rfl (by exact GO.sf rfl rfl) ?_ ?_
    | refine GD.done rfl rfl rfl ?_
    | exact AllJs.nil rfl
    | refine GT.ret ?_
    | refine GP.endR1 rfl ?_)
    rfl
  ·
    repeat' (first
    | refine GT.draws (id := 1) [[], [0], [0, 1], [0, 1, 2], [0, 1, 2, 3], [0, 1, 2, 3, 4], [0, 1, 2, 3, 4, 5], [0, 1, 2, 3, 4, 5, 6], [0, 1, 2, 3, 4, 5, 6, 7], [0, 1, 2, 3, 4, 5, 6, 7, 8], [0, 1, 2, 3, 4, 5, 6, 7, 8, 9], [0, 1, 2, 3, 4, 5, 6, 7, 8, 9, 10], [0, 1, 2, 3, 4, 5, 6, 7, 8, 9, 10, 11], [0, 1, 2, 3, 4, 5, 6, 7, 8, 9, 10, 11, 12], [], [14], [0, 1, 2, 3, 4, 5, 6, 7, 8, 9, 10, 11, 12, 13, 14, 15], [], [17], [0, 1, 2, 3, 4, 5, 6, 7, 8, 9, 10, 11, 12, 13, 14, 15, 16, 17, 18], [0, 1, 2, 3, 4, 5, 6, 7, 8, 9, 10, 11, 12, 13, 14, 15, 16, 17, 18, 19], [0, 1, 2, 3, 4, 5, 6, 7, 8, 9, 10, 11, 12, 13, 14, 15, 16, 17, 18, 19, 20], [0, 1, 2, 3, 4, 5, 6, 7, 8, 9, 10, 11, 12, 13, 14, 15, 16, 17, 18, 19, 20, 21]] [20] (by kernel_rfl) ?_
    | refine GL.sf rfl rfl rfl rfl ?_
    | refine GL.done ?_
    | refine GP.thenN ?_
    | refine GT.seq ?_
    | refine GT.region ?_
    | refine GD.li rfl rfl (by first | exact onAt.none rfl | exact onAt.yes rfl rfl rfl) rfl (by repeat first | exact AllG.nil rfl | refine AllG.cons rfl (by first | exact GO.sf rfl rfl | exact GO.call rfl rfl Tryd.func75 rfl rfl rfl (d_limits75 _ _ h1 h2 h3) | exact GO.call rfl rfl Tryd.func115 rfl rfl rfl (d_within115ok _ _ _ h4) | exact GO.call rfl rfl Tryd.func72 rfl rfl rfl (d_when72 _ _) | exact GO.call rfl rfl Tryd.func71 rfl rfl rfl (d_first71 [whenI false 13, 0, 0] rfl rfl rfl)) ?_) ?_
    | refine GD.he rfl rfl rfl (by exact onAt.none rfl) rfl (by exact GO.sf rfl rfl) ?_ ?_
    | refine GD.done rfl rfl rfl ?_
    | exact AllJs.nil rfl
    | refine GT.ret ?_
    | refine GP.endR1 rfl ?_)
    rfl
end Go.M
