/- Functions of the given program, walked (no condition beyond what each theorem says). -/
import Derived.Test.YtfhodefiknfccaaDoorB1
import Derived.Test.YtfhodefiknfccaaDoorA4
set_option linter.unusedVariables false
set_option linter.unusedSimpArgs false
namespace Go.M
open Go.Proofs
set_option maxRecDepth 8000
set_option maxHeartbeats 4000000
theorem mul_le (a b : Int) (m k : Nat) (ha : a.natAbs ≤ m) (hb : b.natAbs ≤ k) : (a * b).natAbs ≤ m * k := by
  rw [Int.natAbs_mul]; exact Nat.mul_le_mul ha hb
theorem d_number92 {A : AW} (a b : Int) : AC Tryd.prog 92 [.agg #[.int .i64 a, .int .i64 b]] A (isR (.complex .f64 (FloatKind.f64.nearest a) (FloatKind.f64.nearest b)) A) := by
  refine AC.is0 ?_ ⟨8, rfl⟩ (.flat (k := 16) rfl .nil)
  refine AC.go Tryd.func92 rfl rfl ?_
  repeat' (first
  | refine GL.sf rfl rfl rfl rfl ?_
  | refine GL.done ?_
  | refine GP.thenN ?_
  | refine GT.seq ?_
  | refine GT.region ?_
  | refine GL.v rfl rfl rfl (by first | exact GO.intFloat rfl rfl rfl rfl | exact GO.cplx rfl rfl rfl rfl rfl) ?_
  | refine GT.ret ?_
  | refine GP.endR1 rfl ?_)
  rfl
theorem d_times46 {A : AW} (a b c d : Int) (ha : a.natAbs ≤ 100000) (hb : b.natAbs ≤ 100000) (hc : c.natAbs ≤ 100000) (hd : d.natAbs ≤ 100000) : AC Tryd.prog 46 [.agg #[.int .i64 a, .int .i64 b], .agg #[.int .i64 c, .int .i64 d]] A (isR (.agg #[.int .i64 (a * c - b * d), .int .i64 (a * d + b * c)]) A) := by
  refine AC.is0 ?_ ⟨8, rfl⟩ (.flat (k := 16) rfl (.flat (k := 16) rfl .nil))
  have m1 := mul_le a c _ _ ha hc
  have m2 := mul_le b d _ _ hb hd
  have m3 := mul_le a d _ _ ha hd
  have m4 := mul_le b c _ _ hb hc
  obtain ⟨re, im, hm, h1, h2⟩ := FRep.cmul (FRep.nearest (n := a) (by omega)) (FRep.nearest (n := b) (by omega)) (FRep.nearest (n := c) (by omega)) (FRep.nearest (n := d) (by omega)) (by omega) (by omega) (by omega) (by omega)
  refine AC.go Tryd.func46 rfl rfl ?_
  repeat' (first
  | refine GT.draws (id := 1) [[], [0], [], [0, 1, 2], [0, 1, 2, 3], [0, 1, 2, 3, 4]] [] (by kernel_rfl) ?_
  | refine GL.sf rfl rfl rfl rfl ?_
  | refine GL.nf rfl rfl rfl ?_
  | refine GL.done ?_
  | refine GP.thenN ?_
  | refine GT.seq ?_
  | refine GT.region ?_
  | refine GD.li rfl rfl (by exact onAt.none rfl) rfl (by repeat first | exact AllG.nil rfl | refine AllG.cons rfl (by first | exact GO.sf rfl rfl | exact GO.call rfl rfl Tryd.func92 rfl rfl rfl (d_number92 _ _) | exact GO.cmul rfl rfl rfl hm) ?_) ?_
  | refine GD.done rfl rfl rfl ?_
  | refine GL.v rfl rfl rfl (by first | exact GO.creal rfl rfl rfl rfl | exact GO.cimag rfl rfl rfl rfl | exact GO.floatInt rfl rfl rfl rfl h1 (by omega) | exact GO.floatInt rfl rfl rfl rfl h2 (by omega)) ?_
  | refine GT.ret ?_
  | refine GP.endR1 rfl ?_)
  rfl
theorem d_conj163 {A : AW} (a b : Int) (hb : b.natAbs ≤ 1000000) : AC Tryd.prog 163 [.agg #[.int .i64 a, .int .i64 b]] A (isR (.agg #[.int .i64 a, .int .i64 (-b)]) A) := by
  refine AC.is0 ?_ ⟨8, rfl⟩ (.flat (k := 16) rfl .nil)
  refine AC.go Tryd.func163 rfl rfl ?_
  repeat' (first
  | refine GL.sf rfl rfl rfl rfl ?_
  | refine GL.nf rfl rfl rfl ?_
  | refine GL.done ?_
  | refine GP.thenN ?_
  | refine GT.seq ?_
  | refine GT.region ?_
  | refine GL.v rfl rfl rfl (by exact GO.neg rfl rfl (by omega)) ?_
  | refine GT.ret ?_
  | refine GP.endR1 rfl ?_)
  rfl
theorem d_minus153 {A : AW} (a b c d : Int) (ha : a.natAbs ≤ 1000000) (hb : b.natAbs ≤ 1000000) (hc : c.natAbs ≤ 1000000) (hd : d.natAbs ≤ 1000000) : AC Tryd.prog 153 [.agg #[.int .i64 a, .int .i64 b], .agg #[.int .i64 c, .int .i64 d]] A (isR (.agg #[.int .i64 (a - c), .int .i64 (b - d)]) A) := by
  refine AC.is0 ?_ ⟨8, rfl⟩ (.flat (k := 16) rfl (.flat (k := 16) rfl .nil))
  refine AC.go Tryd.func153 rfl rfl ?_
  repeat' (first
  | refine GL.sf rfl rfl rfl rfl ?_
  | refine GL.nf rfl rfl rfl ?_
  | refine GL.done ?_
  | refine GP.thenN ?_
  | refine GT.seq ?_
  | refine GT.region ?_
  | refine GL.v rfl rfl rfl (by exact GO.sub rfl rfl rfl (by omega)) ?_
  | refine GT.ret ?_
  | refine GP.endR1 rfl ?_)
  rfl
theorem d_plus162 {A : AW} (a b c d : Int) (ha : a.natAbs ≤ 1000000) (hb : b.natAbs ≤ 1000000) (hc : c.natAbs ≤ 1000000) (hd : d.natAbs ≤ 1000000) : AC Tryd.prog 162 [.agg #[.int .i64 a, .int .i64 b], .agg #[.int .i64 c, .int .i64 d]] A (isR (.agg #[.int .i64 (a + c), .int .i64 (b + d)]) A) := by
  refine AC.is0 ?_ ⟨8, rfl⟩ (.flat (k := 16) rfl (.flat (k := 16) rfl .nil))
  refine AC.go Tryd.func162 rfl rfl ?_
  repeat' (first
  | refine GL.sf rfl rfl rfl rfl ?_
  | refine GL.nf rfl rfl rfl ?_
  | refine GL.done ?_
  | refine GP.thenN ?_
  | refine GT.seq ?_
  | refine GT.region ?_
  | refine GL.v rfl rfl rfl (by exact GO.add rfl rfl rfl (by omega)) ?_
  | refine GT.ret ?_
  | refine GP.endR1 rfl ?_)
  rfl
theorem d_square125 {A : AW} (a b : Int) (ha : a.natAbs ≤ 100000) (hb : b.natAbs ≤ 100000) : AC Tryd.prog 125 [.agg #[.int .i64 a, .int .i64 b]] A (isR (.int .i64 (a * a + b * b)) A) := by
  refine AC.is0 ?_ ⟨8, rfl⟩ (.flat (k := 16) rfl .nil)
  have m1 := mul_le a a _ _ ha ha
  have m2 := mul_le b b _ _ hb hb
  refine AC.go Tryd.func125 rfl rfl ?_
  repeat' (first
  | refine GL.sf rfl rfl rfl rfl ?_
  | refine GL.done ?_
  | refine GP.thenN ?_
  | refine GT.seq ?_
  | refine GT.region ?_
  | refine GL.v rfl rfl rfl (by first | exact GO.add rfl rfl rfl (by omega) | exact GO.mul rfl rfl rfl (by omega)) ?_
  | refine GT.ret ?_
  | refine GP.endR1 rfl ?_)
  rfl
theorem floor_eq {n d : Int} (hd : 0 < d) (h : n.tmod d < 0) : n.tdiv d - 1 = n / d := by
  have e := Int.mul_tdiv_add_tmod n d
  have hlt : -d < n.tmod d := Int.lt_tmod_of_pos n hd
  have h1 : n = d * (n.tdiv d - 1) + (n.tmod d + d) := by rw [Int.mul_sub]; omega
  have h2 : (d * (n.tdiv d - 1) + (n.tmod d + d)) / d = n.tdiv d - 1 := by
    rw [Int.add_comm, Int.add_mul_ediv_left _ _ (by omega), Int.ediv_eq_zero_of_lt (by omega) (by omega)]; omega
  rw [← h1] at h2
  exact h2.symm
theorem floor_eq' {n d : Int} (hd : 0 < d) (h : ¬ n.tmod d < 0) : n.tdiv d = n / d := by
  have e := Int.mul_tdiv_add_tmod n d
  have hlt : n.tmod d < d := Int.tmod_lt_of_pos n hd
  have h2 : (d * n.tdiv d + n.tmod d) / d = n.tdiv d := by
    rw [Int.add_comm, Int.add_mul_ediv_left _ _ (by omega), Int.ediv_eq_zero_of_lt (by omega) (by omega)]; omega
  rw [e] at h2
  exact h2.symm
theorem tdiv_le {n d : Int} (hd : 0 < d) : (n.tdiv d).natAbs ≤ n.natAbs := by
  rw [Int.natAbs_tdiv]; exact Nat.div_le_self _ _
theorem d_floor151 {A : AW} (n d : Int) (hd : 0 < d) (hn : n.natAbs ≤ 1000000000000000) : AC Tryd.prog 151 [.int .i64 n, .int .i64 d] A (isR (.int .i64 (n / d)) A) := by
  refine AC.is0 ?_ ⟨8, rfl⟩ (.flat (k := 16) rfl (.flat (k := 16) rfl .nil))
  have m1 := tdiv_le (n := n) hd
  refine AC.go Tryd.func151 rfl rfl ?_
  repeat' (first
  | refine GL.sf rfl rfl rfl rfl ?_
  | refine GL.done ?_
  | refine GP.thenN ?_
  | refine GT.seq ?_
  | refine GT.region ?_
  | refine GL.v rfl rfl rfl (by first | exact GO.quoT rfl rfl rfl (by omega) (by omega) | exact GO.remT rfl rfl rfl (by omega) | exact GO.sub rfl rfl rfl (by omega)) ?_
  | refine GT.skip ?_
  | refine GT.ret ?_
  | (refine GT.condD rfl (fun h => ?_) (fun h => ?_) <;> try (exfalso; omega))
  | refine GP.endR1 rfl ?_)
  · rw [floor_eq hd h]
  · rw [floor_eq' hd h]
theorem d_against152 {A : AW} (a b c d e f u v : Int) (ha : a.natAbs ≤ 100000) (hb : b.natAbs ≤ 100000) (hu : u.natAbs ≤ 100000) (hv : v.natAbs ≤ 100000) :
    AC Tryd.prog 152 [.agg #[.int .i64 a, .int .i64 b, .int .i64 c, .int .i64 d, .int .i64 e, .int .i64 f], .agg #[.int .i64 u, .int .i64 v]] A (isR (.int .i64 (u * a - v * -b)) A) := by
  refine AC.is0 ?_ ⟨8, rfl⟩ (.flat (k := 32) rfl (.flat (k := 16) rfl .nil))
  refine AC.go Tryd.func152 rfl rfl ?_
  repeat' (first
  | refine GT.draws (id := 1) [[], [], [1], [1, 2], [0, 1, 2, 3], [0, 1, 2, 3, 4], [0, 1, 2, 3, 4, 5]] [] (by kernel_rfl) ?_
  | refine GL.sf rfl rfl rfl rfl ?_
  | refine GL.done ?_
  | refine GP.thenN ?_
  | refine GT.seq ?_
  | refine GT.region ?_
  | refine GD.li rfl rfl (by exact onAt.none rfl) rfl (by repeat first | exact AllG.nil rfl | refine AllG.cons rfl (by first | exact GO.sf rfl rfl | exact GO.call rfl rfl Tryd.func163 rfl rfl rfl (d_conj163 _ _ (by omega)) | exact GO.call rfl rfl Tryd.func46 rfl rfl rfl (d_times46 _ _ _ _ (by omega) (by omega) (by omega) (by omega))) ?_) ?_
  | refine GD.done rfl rfl rfl ?_
  | refine GT.ret ?_
  | refine GP.endR1 rfl ?_)
  rfl
/-- A signal's parts are at most 10,000. -/
def SmallS (a b c d e f : Int) : Prop := a.natAbs ≤ 10000 ∧ b.natAbs ≤ 10000 ∧ c.natAbs ≤ 10000 ∧ d.natAbs ≤ 10000 ∧ e.natAbs ≤ 10000 ∧ f.natAbs ≤ 10000
def diffI (a b c d e f : Int) : Int := (c - e) * a - (d - f) * -b
def sumI (a b c d e f : Int) : Int := (c + e) * a - (d + f) * -b
theorem d_diff124 {A : AW} (a b c d e f : Int) (hs : SmallS a b c d e f) : AC Tryd.prog 124 [.agg #[.int .i64 a, .int .i64 b, .int .i64 c, .int .i64 d, .int .i64 e, .int .i64 f]] A (isR (.int .i64 (diffI a b c d e f)) A) := by
  refine AC.is0 ?_ ⟨8, rfl⟩ (.flat (k := 32) rfl .nil)
  obtain ⟨h1, h2, h3, h4, h5, h6⟩ := hs
  refine AC.go Tryd.func124 rfl rfl ?_
  repeat' (first
  | refine GT.draws (id := 1) [[], [], [1], [], [3], [1, 2, 3, 4], [0, 1, 2, 3, 4, 5], [0, 1, 2, 3, 4, 5, 6]] [] (by kernel_rfl) ?_
  | refine GL.sf rfl rfl rfl rfl ?_
  | refine GL.done ?_
  | refine GP.thenN ?_
  | refine GT.seq ?_
  | refine GT.region ?_
  | refine GD.li rfl rfl (by exact onAt.none rfl) rfl (by repeat first | exact AllG.nil rfl | refine AllG.cons rfl (by first | exact GO.sf rfl rfl | exact GO.call rfl rfl Tryd.func153 rfl rfl rfl (d_minus153 _ _ _ _ (by omega) (by omega) (by omega) (by omega)) | exact GO.call rfl rfl Tryd.func152 rfl rfl rfl (d_against152 _ _ _ _ _ _ _ _ (by omega) (by omega) (by omega) (by omega))) ?_) ?_
  | refine GD.done rfl rfl rfl ?_
  | refine GT.ret ?_
  | refine GP.endR1 rfl ?_)
  rfl
theorem d_sum150 {A : AW} (a b c d e f : Int) (hs : SmallS a b c d e f) : AC Tryd.prog 150 [.agg #[.int .i64 a, .int .i64 b, .int .i64 c, .int .i64 d, .int .i64 e, .int .i64 f]] A (isR (.int .i64 (sumI a b c d e f)) A) := by
  refine AC.is0 ?_ ⟨8, rfl⟩ (.flat (k := 32) rfl .nil)
  obtain ⟨h1, h2, h3, h4, h5, h6⟩ := hs
  refine AC.go Tryd.func150 rfl rfl ?_
  repeat' (first
  | refine GT.draws (id := 1) [[], [], [1], [], [3], [1, 2, 3, 4], [0, 1, 2, 3, 4, 5], [0, 1, 2, 3, 4, 5, 6]] [] (by kernel_rfl) ?_
  | refine GL.sf rfl rfl rfl rfl ?_
  | refine GL.done ?_
  | refine GP.thenN ?_
  | refine GT.seq ?_
  | refine GT.region ?_
  | refine GD.li rfl rfl (by exact onAt.none rfl) rfl (by repeat first | exact AllG.nil rfl | refine AllG.cons rfl (by first | exact GO.sf rfl rfl | exact GO.call rfl rfl Tryd.func162 rfl rfl rfl (d_plus162 _ _ _ _ (by omega) (by omega) (by omega) (by omega)) | exact GO.call rfl rfl Tryd.func152 rfl rfl rfl (d_against152 _ _ _ _ _ _ _ _ (by omega) (by omega) (by omega) (by omega))) ?_) ?_
  | refine GD.done rfl rfl rfl ?_
  | refine GT.ret ?_
  | refine GP.endR1 rfl ?_)
  rfl
end Go.M
namespace Go.M
open Go.Proofs
set_option maxRecDepth 8000
set_option maxHeartbeats 4000000
theorem d_shown123 {A : AW} (s f l lo hi num den : Int) (hs : 1 ≤ s ∧ s ≤ 1000) (hf : 1 ≤ f ∧ f ≤ 1000) (hn : num.natAbs ≤ 1000000000) (hd : 0 < den ∧ den ≤ 1000000000) :
    AC Tryd.prog 123 [.agg #[.int .i64 s, .int .i64 f, .int .i64 l, .int .i64 lo, .int .i64 hi], .int .i64 num, .int .i64 den] A (isR (.int .i64 (max (-f) (min f ((2 * num * s + den) / (2 * den))))) A) := by
  refine AC.is0 ?_ ⟨8, rfl⟩ (.flat (k := 32) rfl (.flat (k := 8) rfl (.flat (k := 8) rfl .nil)))
  have m1 := mul_le (2 * num) s 2000000000 1000 (by omega) (by omega)
  refine AC.go Tryd.func123 rfl rfl ?_
  repeat' (first
  | refine GT.draws (id := 1) [[], [0], [0, 1], [], [3], [], [5], [], [7], [5, 6, 7, 8], [], [5, 6, 7, 8, 9, 10], [], [12], [5, 6, 7, 8, 9, 10, 11, 12, 13], [3, 4, 5, 6, 7, 8, 9, 10, 11, 12, 13, 14], [0, 1, 2, 3, 4, 5, 6, 7, 8, 9, 10, 11, 12, 13, 14, 15], [0, 1, 2, 3, 4, 5, 6, 7, 8, 9, 10, 11, 12, 13, 14, 15, 16]] [] (by kernel_rfl) ?_
  | refine GL.sf rfl rfl rfl rfl ?_
  | refine GL.done ?_
  | refine GP.thenN ?_
  | refine GT.seq ?_
  | refine GT.region ?_
  | refine GD.li rfl rfl (by exact onAt.none rfl) rfl (by repeat first | exact AllG.nil rfl | refine AllG.cons rfl (by first | exact GO.sf rfl rfl | exact GO.call rfl rfl Tryd.func151 rfl rfl rfl (d_floor151 _ _ (by omega) (by omega)) | exact GO.add rfl rfl rfl (by omega) | exact GO.mul rfl rfl rfl (by omega) | exact GO.neg rfl rfl (by omega)) ?_) ?_
  | refine GD.done rfl rfl rfl ?_
  | refine GT.ret ?_
  | refine GP.endR1 rfl ?_)
  rfl
theorem sumI_le {a b c d e f : Int} (hs : SmallS a b c d e f) : (sumI a b c d e f).natAbs ≤ 400000000 := by
  obtain ⟨h1, h2, h3, h4, h5, h6⟩ := hs
  have m1 := mul_le (c + e) a 20000 10000 (by omega) (by omega)
  have m2 := mul_le (d + f) (-b) 20000 10000 (by omega) (by omega)
  unfold sumI; omega
theorem diffI_le {a b c d e f : Int} (hs : SmallS a b c d e f) : (diffI a b c d e f).natAbs ≤ 400000000 := by
  obtain ⟨h1, h2, h3, h4, h5, h6⟩ := hs
  have m1 := mul_le (c - e) a 20000 10000 (by omega) (by omega)
  have m2 := mul_le (d - f) (-b) 20000 10000 (by omega) (by omega)
  unfold diffI; omega
theorem sq_pos {a b : Int} (h : ¬(a = 0 ∧ b = 0)) : 0 < a * a + b * b := by
  have k : ∀ x : Int, 0 ≤ x * x := fun x => by rw [← Int.natAbs_mul_self' x]; exact Int.mul_nonneg (Int.natCast_nonneg _) (Int.natCast_nonneg _)
  have h1 := k a
  have h2 := k b
  rcases Int.lt_or_gt_of_ne (show a * a + b * b ≠ 0 from fun e => h (by
    have e1 : a * a = 0 := by omega
    have e2 : b * b = 0 := by omega
    exact ⟨by rcases Int.mul_eq_zero.1 e1 with q | q <;> exact q, by rcases Int.mul_eq_zero.1 e2 with q | q <;> exact q⟩)) with q | q
  · omega
  · exact q
theorem sq_le {a b : Int} (ha : a.natAbs ≤ 10000) (hb : b.natAbs ≤ 10000) : a * a + b * b ≤ 200000000 := by
  have m1 := mul_le a a _ _ ha ha
  have m2 := mul_le b b _ _ hb hb
  omega
/-- A flag. -/
def Flagged (l lo hi a b c d e f : Int) : Prop := a * a + b * b < l ∨ 1000 * sumI a b c d e f < lo * (a * a + b * b) ∨ hi * (a * a + b * b) < 1000 * sumI a b c d e f
instance {l lo hi a b c d e f : Int} : Decidable (Flagged l lo hi a b c d e f) := by unfold Flagged; exact inferInstance
theorem d_flag122n {A : AW} (s g l lo hi a b c d e f : Int) (hr : ReceiverOk s g l lo hi) (hs : SmallS a b c d e f) (h0 : ¬(a = 0 ∧ b = 0)) (hf : ¬ Flagged l lo hi a b c d e f) :
    AC Tryd.prog 122 [.agg #[.int .i64 s, .int .i64 g, .int .i64 l, .int .i64 lo, .int .i64 hi], .agg #[.int .i64 a, .int .i64 b, .int .i64 c, .int .i64 d, .int .i64 e, .int .i64 f]] A (isR (.string ⟨#[]⟩) A) := by
  refine AC.is0 ?_ ⟨8, rfl⟩ (.flat (k := 32) rfl (.flat (k := 32) rfl .nil))
  have p1 := sumI_le hs
  have p2 := sq_pos h0
  have p3 := sq_le hs.1 hs.2.1
  obtain ⟨r1, r2, r3, r4, r5, r6⟩ := hr
  obtain ⟨s1, s2, s3, s4, s5, s6⟩ := id hs
  have m1 := mul_le lo (a * a + b * b) 10000 200000000 (by omega) (by omega)
  have m2 := mul_le hi (a * a + b * b) 10000 200000000 (by omega) (by omega)
  have q1 : ¬ a * a + b * b < l := fun h => hf (.inl h)
  have q2 : ¬ 1000 * sumI a b c d e f < lo * (a * a + b * b) := fun h => hf (.inr (.inl h))
  have q3 : ¬ hi * (a * a + b * b) < 1000 * sumI a b c d e f := fun h => hf (.inr (.inr h))
  refine AC.go Tryd.func122 rfl rfl ?_
  repeat' (first
  | refine GT.draws (id := 1) [[], [0], [0, 1], [], [3], [0, 1, 2, 3, 4]] [] (by kernel_rfl) ?_
  | refine GT.draws (id := 3) [[], [0], [0, 1], [], [3], [0, 1, 3, 4], [0, 1, 2, 3, 4, 5], [0, 1, 2, 3, 4, 5, 6]] [] (by kernel_rfl) ?_
  | refine GL.sf rfl rfl rfl rfl ?_
  | refine GL.done ?_
  | refine GP.thenN ?_
  | refine GT.seq ?_
  | refine GT.region ?_
  | refine GL.unguard rfl rfl ?_
  | refine GD.li rfl rfl (by exact onAt.none rfl) rfl (by repeat first | exact AllG.nil rfl | refine AllG.cons rfl (by first | exact GO.sf rfl rfl | exact GO.call rfl rfl Tryd.func125 rfl rfl rfl (d_square125 _ _ (by omega) (by omega)) | exact GO.call rfl rfl Tryd.func150 rfl rfl rfl (d_sum150 _ _ _ _ _ _ hs) | exact GO.mul rfl rfl rfl (by omega)) ?_) ?_
  | refine GD.done rfl rfl rfl ?_
  | refine GL.v rfl rfl rfl (by exact GO.mul rfl rfl rfl (by omega)) ?_
  | refine GT.skip ?_
  | refine GT.ret ?_
  | (refine GT.condD rfl (fun h => ?_) (fun h => ?_) <;> try (exfalso; omega))
  | (refine GL.forkD rfl rfl (fun h => ?_) (fun h => ?_) <;> try (exfalso; omega))
  | refine GP.endR1 rfl ?_)
  rfl
theorem d_flag122w {A : AW} (s g l lo hi a b c d e f : Int) (hr : ReceiverOk s g l lo hi) (hs : SmallS a b c d e f) (h0 : ¬(a = 0 ∧ b = 0)) (hw : a * a + b * b < l) : AC Tryd.prog 122 [.agg #[.int .i64 s, .int .i64 g, .int .i64 l, .int .i64 lo, .int .i64 hi], .agg #[.int .i64 a, .int .i64 b, .int .i64 c, .int .i64 d, .int .i64 e, .int .i64 f]] A (isR (.string ⟨#[119, 101, 97, 107]⟩) A) := by
  refine AC.is0 ?_ ⟨8, rfl⟩ (.flat (k := 32) rfl (.flat (k := 32) rfl .nil))
  have p1 := sumI_le hs
  have p2 := sq_pos h0
  have p3 := sq_le hs.1 hs.2.1
  obtain ⟨r1, r2, r3, r4, r5, r6⟩ := id hr
  obtain ⟨s1, s2, s3, s4, s5, s6⟩ := id hs
  have m1 := mul_le lo (a * a + b * b) 10000 200000000 (by omega) (by omega)
  have m2 := mul_le hi (a * a + b * b) 10000 200000000 (by omega) (by omega)
  refine AC.go Tryd.func122 rfl rfl ?_
  repeat' (first
  | refine GT.draws (id := 1) [[], [0], [0, 1], [], [3], [0, 1, 2, 3, 4]] [] (by kernel_rfl) ?_
  | refine GL.sf rfl rfl rfl rfl ?_
  | refine GL.done ?_
  | refine GP.thenN ?_
  | refine GT.seq ?_
  | refine GT.region ?_
  | refine GD.li rfl rfl (by exact onAt.none rfl) rfl (by repeat first | exact AllG.nil rfl | refine AllG.cons rfl (by first | exact GO.sf rfl rfl | exact GO.call rfl rfl Tryd.func125 rfl rfl rfl (d_square125 _ _ (by omega) (by omega))) ?_) ?_
  | refine GD.done rfl rfl rfl ?_
  | refine GT.ret ?_
  | refine GP.thenR ?_
  | (refine GT.condD rfl (fun h => ?_) (fun h => ?_) <;> try (exfalso; omega))
  | refine GP.endR1 rfl ?_)
  rfl
theorem d_flag122d {A : AW} (s g l lo hi a b c d e f : Int) (hr : ReceiverOk s g l lo hi) (hs : SmallS a b c d e f) (h0 : ¬(a = 0 ∧ b = 0)) (hw : ¬ a * a + b * b < l) (hd : 1000 * sumI a b c d e f < lo * (a * a + b * b) ∨ hi * (a * a + b * b) < 1000 * sumI a b c d e f) : AC Tryd.prog 122 [.agg #[.int .i64 s, .int .i64 g, .int .i64 l, .int .i64 lo, .int .i64 hi], .agg #[.int .i64 a, .int .i64 b, .int .i64 c, .int .i64 d, .int .i64 e, .int .i64 f]] A (isR (.string ⟨#[100, 101, 112, 116, 104]⟩) A) := by
  refine AC.is0 ?_ ⟨8, rfl⟩ (.flat (k := 32) rfl (.flat (k := 32) rfl .nil))
  have p1 := sumI_le hs
  have p2 := sq_pos h0
  have p3 := sq_le hs.1 hs.2.1
  obtain ⟨r1, r2, r3, r4, r5, r6⟩ := id hr
  obtain ⟨s1, s2, s3, s4, s5, s6⟩ := id hs
  have m1 := mul_le lo (a * a + b * b) 10000 200000000 (by omega) (by omega)
  have m2 := mul_le hi (a * a + b * b) 10000 200000000 (by omega) (by omega)
  refine AC.go Tryd.func122 rfl rfl ?_
  repeat' (first
  | refine GT.draws (id := 1) [[], [0], [0, 1], [], [3], [0, 1, 2, 3, 4]] [] (by kernel_rfl) ?_
  | refine GT.draws (id := 3) [[], [0], [0, 1], [], [3], [0, 1, 3, 4], [0, 1, 2, 3, 4, 5], [0, 1, 2, 3, 4, 5, 6]] [] (by kernel_rfl) ?_
  | refine GL.sf rfl rfl rfl rfl ?_
  | refine GL.done ?_
  | refine GP.thenN ?_
  | refine GT.seq ?_
  | refine GT.region ?_
  | refine GL.unguard rfl rfl ?_
  | refine GL.skip rfl rfl rfl rfl ?_
  | refine GD.li rfl rfl (by exact onAt.none rfl) rfl (by repeat first | exact AllG.nil rfl | refine AllG.cons rfl (by first | exact GO.sf rfl rfl | exact GO.call rfl rfl Tryd.func125 rfl rfl rfl (d_square125 _ _ (by omega) (by omega)) | exact GO.call rfl rfl Tryd.func150 rfl rfl rfl (d_sum150 _ _ _ _ _ _ hs) | exact GO.mul rfl rfl rfl (by omega)) ?_) ?_
  | refine GD.done rfl rfl rfl ?_
  | refine GL.v rfl rfl rfl (by exact GO.mul rfl rfl rfl (by omega)) ?_
  | refine GT.skip ?_
  | refine GT.ret ?_
  | refine GP.thenR ?_
  | refine GT.condT rfl ?_
  | (refine GT.condD rfl (fun h => ?_) (fun h => ?_) <;> try (exfalso; omega))
  | (refine GL.forkD rfl rfl (fun h => ?_) (fun h => ?_) <;> try (exfalso; omega))
  | refine GP.endR1 rfl ?_)
  all_goals rfl
end Go.M
namespace Go.M
open Go.Proofs
set_option maxRecDepth 8000
set_option maxHeartbeats 4000000
def shownI (s g a b c d e f : Int) : Int := max (-g) (min g ((2 * diffI a b c d e f * s + (a * a + b * b)) / (2 * (a * a + b * b))))
theorem d_told83n {A : AW} (s g l lo hi a b c d e f : Int) (hr : ReceiverOk s g l lo hi) (hs : SmallS a b c d e f) (h0 : ¬(a = 0 ∧ b = 0)) (hf : ¬ Flagged l lo hi a b c d e f) : AC Tryd.prog 83 [.agg #[.int .i64 s, .int .i64 g, .int .i64 l, .int .i64 lo, .int .i64 hi], .agg #[.int .i64 a, .int .i64 b, .int .i64 c, .int .i64 d, .int .i64 e, .int .i64 f]] A (isR (.tuple #[.int .i64 (shownI s g a b c d e f), .string ⟨#[]⟩]) A) := by
  refine AC.is0 ?_ ⟨8, rfl⟩ (.flat (k := 32) rfl (.flat (k := 32) rfl .nil))
  have p1 := diffI_le hs
  have p1 := sumI_le hs
  have p2 := sq_pos h0
  have p3 := sq_le hs.1 hs.2.1
  obtain ⟨r1, r2, r3, r4, r5, r6⟩ := id hr
  obtain ⟨s1, s2, s3, s4, s5, s6⟩ := id hs
  have m1 := mul_le lo (a * a + b * b) 10000 200000000 (by omega) (by omega)
  have m2 := mul_le hi (a * a + b * b) 10000 200000000 (by omega) (by omega)
  refine AC.go Tryd.func83 rfl rfl ?_
  repeat' (first
  | refine GT.draws (id := 4) [[], [], [1], [], [3], [1, 2, 3, 4], [0, 1, 2, 3, 4, 5], [0, 1, 2, 3, 4, 5, 6], [0, 1, 2, 3, 4, 5, 6, 7]] [] (by kernel_rfl) ?_
  | refine GL.sf rfl rfl rfl rfl ?_
  | refine GL.done ?_
  | refine GP.thenN ?_
  | refine GT.seq ?_
  | refine GT.region ?_
  | refine GD.li rfl rfl (by exact onAt.none rfl) rfl (by repeat first | exact AllG.nil rfl | refine AllG.cons rfl (by first | exact GO.sf rfl rfl | exact GO.call rfl rfl Tryd.func125 rfl rfl rfl (d_square125 _ _ (by omega) (by omega)) | exact GO.call rfl rfl Tryd.func124 rfl rfl rfl (d_diff124 _ _ _ _ _ _ hs) | exact GO.call rfl rfl Tryd.func123 rfl rfl rfl (d_shown123 _ _ _ _ _ _ _ r1 r2 (by omega) (by omega))) ?_) ?_
  | refine GD.done rfl rfl rfl ?_
  | refine GL.v rfl rfl rfl (by exact GO.call rfl rfl Tryd.func122 rfl rfl rfl (d_flag122n _ _ _ _ _ _ _ _ _ _ _ hr hs h0 hf)) ?_
  | refine GT.skip ?_
  | refine GT.ret ?_
  | refine GT.condF rfl ?_
  | refine GP.endR2 rfl ?_)
  rfl
theorem d_told83w {A : AW} (s g l lo hi a b c d e f : Int) (hr : ReceiverOk s g l lo hi) (hs : SmallS a b c d e f) (h0 : ¬(a = 0 ∧ b = 0)) (hw : a * a + b * b < l) : AC Tryd.prog 83 [.agg #[.int .i64 s, .int .i64 g, .int .i64 l, .int .i64 lo, .int .i64 hi], .agg #[.int .i64 a, .int .i64 b, .int .i64 c, .int .i64 d, .int .i64 e, .int .i64 f]] A (isR (.tuple #[.int .i64 0, .string ⟨#[119, 101, 97, 107]⟩]) A) := by
  refine AC.is0 ?_ ⟨8, rfl⟩ (.flat (k := 32) rfl (.flat (k := 32) rfl .nil))
  refine AC.go Tryd.func83 rfl rfl ?_
  repeat' (first
  | refine GL.sf rfl rfl rfl rfl ?_
  | refine GL.done ?_
  | refine GP.thenN ?_
  | refine GT.seq ?_
  | refine GT.region ?_
  | refine GL.v rfl rfl rfl (by exact GO.call rfl rfl Tryd.func122 rfl rfl rfl (d_flag122w _ _ _ _ _ _ _ _ _ _ _ hr hs h0 hw)) ?_
  | refine GT.ret ?_
  | refine GP.thenR ?_
  | refine GT.condT rfl ?_
  | refine GP.endR2 rfl ?_)
  rfl
theorem d_told83d {A : AW} (s g l lo hi a b c d e f : Int) (hr : ReceiverOk s g l lo hi) (hs : SmallS a b c d e f) (h0 : ¬(a = 0 ∧ b = 0)) (hw : ¬ a * a + b * b < l) (hd : 1000 * sumI a b c d e f < lo * (a * a + b * b) ∨ hi * (a * a + b * b) < 1000 * sumI a b c d e f) : AC Tryd.prog 83 [.agg #[.int .i64 s, .int .i64 g, .int .i64 l, .int .i64 lo, .int .i64 hi], .agg #[.int .i64 a, .int .i64 b, .int .i64 c, .int .i64 d, .int .i64 e, .int .i64 f]] A (isR (.tuple #[.int .i64 0, .string ⟨#[100, 101, 112, 116, 104]⟩]) A) := by
  refine AC.is0 ?_ ⟨8, rfl⟩ (.flat (k := 32) rfl (.flat (k := 32) rfl .nil))
  refine AC.go Tryd.func83 rfl rfl ?_
  repeat' (first
  | refine GL.sf rfl rfl rfl rfl ?_
  | refine GL.done ?_
  | refine GP.thenN ?_
  | refine GT.seq ?_
  | refine GT.region ?_
  | refine GL.v rfl rfl rfl (by exact GO.call rfl rfl Tryd.func122 rfl rfl rfl (d_flag122d _ _ _ _ _ _ _ _ _ _ _ hr hs h0 hw hd)) ?_
  | refine GT.ret ?_
  | refine GP.thenR ?_
  | refine GT.condT rfl ?_
  | refine GP.endR2 rfl ?_)
  rfl
def treceiverNs (s g l lo hi : Int) : List Int := [whenI (withinB s 1 1000) 3, whenI (withinB g 1 1000) 3, whenI (withinB l 0 200000000) 3, whenI (withinB lo (-10000) 10000) 3, whenI (withinB hi (-10000) 10000) 3, whenI (decide (hi < lo)) 11]
theorem d_receiver82 {A : AW} (s g l lo hi : Int) : AC Tryd.prog 82 [.agg #[.int .i64 s, .int .i64 g, .int .i64 l, .int .i64 lo, .int .i64 hi]] A (isR (.int .i64 (firstNZ (treceiverNs s g l lo hi))) A) := by
  refine AC.is0 ?_ ⟨8, rfl⟩ (.flat (k := 32) rfl .nil)
  refine AC.go Tryd.func82 rfl rfl ?_
  repeat' (first
  | refine GT.draws (id := 1) [[], [0], [0, 1], [], [3], [0, 1, 2, 3, 4], [], [6], [0, 1, 2, 3, 4, 5, 6, 7], [], [9], [9, 10], [0, 1, 2, 3, 4, 5, 6, 7, 8, 9, 10, 11], [], [13], [13, 14], [0, 1, 2, 3, 4, 5, 6, 7, 8, 9, 10, 11, 12, 13, 14, 15], [], [17], [17, 18], [], [20], [20, 21], [17, 18, 19, 20, 21, 22], [0, 1, 2, 3, 4, 5, 6, 7, 8, 9, 10, 11, 12, 13, 14, 15, 16, 17, 18, 19, 20, 21, 22, 23], [0, 1, 2, 3, 4, 5, 6, 7, 8, 9, 10, 11, 12, 13, 14, 15, 16, 17, 18, 19, 20, 21, 22, 23, 24], [0, 1, 2, 3, 4, 5, 6, 7, 8, 9, 10, 11, 12, 13, 14, 15, 16, 17, 18, 19, 20, 21, 22, 23, 24, 25], [0, 1, 2, 3, 4, 5, 6, 7, 8, 9, 10, 11, 12, 13, 14, 15, 16, 17, 18, 19, 20, 21, 22, 23, 24, 25, 26]] [25] (by kernel_rfl) ?_
  | refine GL.sf rfl rfl rfl rfl ?_
  | refine GL.done ?_
  | refine GP.thenN ?_
  | refine GT.seq ?_
  | refine GT.region ?_
  | refine GD.li rfl rfl (by exact onAt.none rfl) rfl (by repeat first | exact AllG.nil rfl | refine AllG.cons rfl (by first | exact GO.sf rfl rfl | exact GO.call rfl rfl Tryd.func44 rfl rfl rfl (d_within44 _ _ _) | exact GO.call rfl rfl Tryd.func49 rfl rfl rfl (d_when49 _ _) | exact GO.call rfl rfl Tryd.func42 rfl rfl rfl (d_first42 (treceiverNs s g l lo hi) rfl rfl rfl)) ?_) ?_
  | refine GD.he rfl rfl rfl (by exact onAt.none rfl) rfl (by exact GO.sf rfl rfl) ?_ ?_
  | refine GD.done rfl rfl rfl ?_
  | exact AllJs.nil rfl
  | refine GT.ret ?_
  | refine GP.endR1 rfl ?_)
  rfl
theorem treceiver_zero {s g l lo hi : Int} (h : ReceiverOk s g l lo hi) : firstNZ (treceiverNs s g l lo hi) = 0 := by
  obtain ⟨h1, h2, h3, h4, h5, h6⟩ := h
  apply firstNZ_all
  intro y hy
  simp only [treceiverNs, withinB_no h1, withinB_no h2, withinB_no h3, withinB_no h4, withinB_no h5, decide_eq_false (show ¬ hi < lo by omega), List.mem_cons, List.not_mem_nil, or_false] at hy
  rcases hy with h | h | h | h | h | h <;> rw [h] <;> rfl
theorem tpart_zero {a b m : Int} (ha : -m ≤ a ∧ a ≤ m) (hb : -m ≤ b ∧ b ≤ m) : firstNZ (tpartNs a b m) = 0 := by
  apply firstNZ_all
  intro y hy
  simp only [tpartNs, withinB_no ha, withinB_no hb, List.mem_cons, List.not_mem_nil, or_false] at hy
  rcases hy with h | h <;> rw [h] <;> rfl
theorem inside_zero {a b c d e f bad : Int} (ha : (-10000 ≤ a ∧ a ≤ 10000) ∧ (-10000 ≤ b ∧ b ≤ 10000)) (hc : (-10000 ≤ c ∧ c ≤ 10000) ∧ (-10000 ≤ d ∧ d ≤ 10000)) (he : (-10000 ≤ e ∧ e ≤ 10000) ∧ (-10000 ≤ f ∧ f ≤ 10000)) : firstNZ (insideNs a b c d e f bad) = 0 := by
  apply firstNZ_all
  intro y hy
  simp only [insideNs, tpart_zero ha.1 ha.2, tpart_zero hc.1 hc.2, tpart_zero he.1 he.2, List.mem_cons, List.not_mem_nil, or_false] at hy
  rcases hy with h | h | h <;> rw [h] <;> rfl
theorem tsignal_zero {a b c d e f : Int} (h : SignalOk a b c d e f) : firstNZ [firstNZ (insideNs a b c d e f 3), whenI (decide (a = 0 ∧ b = 0)) 6] = 0 := by
  obtain ⟨h1, h2, h3, h4⟩ := h
  apply firstNZ_all
  intro y hy
  simp only [inside_zero h1 h2 h3, decide_eq_false h4, List.mem_cons, List.not_mem_nil, or_false] at hy
  rcases hy with h | h <;> rw [h] <;> rfl
theorem d_signal43ok {A : AW} (hG : GOk A) (a b c d e f : Int) (h : SignalOk a b c d e f) : AC Tryd.prog 43 [.agg #[.int .i64 a, .int .i64 b, .int .i64 c, .int .i64 d, .int .i64 e, .int .i64 f]] A (isR (.int .i64 0) A) := by
  have := d_signal43 hG a b c d e f
  rwa [tsignal_zero h] at this
theorem d_receiver82ok {A : AW} (s g l lo hi : Int) (h : ReceiverOk s g l lo hi) : AC Tryd.prog 82 [.agg #[.int .i64 s, .int .i64 g, .int .i64 l, .int .i64 lo, .int .i64 hi]] A (isR (.int .i64 0) A) := by
  have := d_receiver82 (A := A) s g l lo hi
  rwa [treceiver_zero h] at this
theorem small_of {a b c d e f : Int} (h : SignalOk a b c d e f) : SmallS a b c d e f := by
  obtain ⟨h1, h2, h3, _⟩ := h
  unfold SmallS; omega
end Go.M
namespace Go.M
open Go.Proofs
set_option maxRecDepth 8000
set_option maxHeartbeats 4000000
theorem shownI_le {s g a b c d e f : Int} (hg : 0 ≤ g) : -g ≤ shownI s g a b c d e f ∧ shownI s g a b c d e f ≤ g := by
  unfold shownI; omega
theorem d_told38n {A : AW} (hG : GOk A) (s g l lo hi a b c d e f : Int) (hr : ReceiverOk s g l lo hi) (hs : SignalOk a b c d e f) (hf : ¬ Flagged l lo hi a b c d e f) : AC Tryd.prog 38 [.agg #[.int .i64 s, .int .i64 g, .int .i64 l, .int .i64 lo, .int .i64 hi], .agg #[.int .i64 a, .int .i64 b, .int .i64 c, .int .i64 d, .int .i64 e, .int .i64 f]] A (isR (.tuple #[.int .i64 (shownI s g a b c d e f), .string ⟨#[]⟩, .int .i64 0]) A) := by
  refine AC.isG hG ?_ ⟨8, rfl⟩ (.flat (k := 32) rfl (.flat (k := 32) rfl .nil))
  refine AC.go Tryd.func38 rfl rfl ?_
  repeat' (first
  | refine GT.draws (id := 1) [[], [0], [], [0, 1, 2], [0, 1, 2, 3], [0, 1, 2, 3, 4], [0, 1, 2, 3, 4, 5]] [4] (by kernel_rfl) ?_
  | refine GL.sf rfl rfl rfl rfl ?_
  | refine GL.done ?_
  | refine GP.thenN ?_
  | refine GT.seq ?_
  | refine GT.region ?_
  | refine GD.li rfl rfl (by exact onAt.none rfl) rfl (by repeat first | exact AllG.nil rfl | refine AllG.cons rfl (by first | exact GO.sf rfl rfl | exact GO.call rfl rfl Tryd.func82 rfl rfl rfl (d_receiver82ok _ _ _ _ _ hr) | exact GO.call rfl rfl Tryd.func43 rfl rfl rfl (d_signal43ok ⟨rfl, rfl, rfl, _, _, rfl⟩ _ _ _ _ _ _ hs) | exact GO.call rfl rfl Tryd.func42 rfl rfl rfl (d_first42 [0, 0] rfl rfl rfl)) ?_) ?_
  | refine GD.he rfl rfl rfl (by exact onAt.none rfl) rfl (by exact GO.sf rfl rfl) ?_ ?_
  | refine GD.done rfl rfl rfl ?_
  | exact AllJs.nil rfl
  | refine GL.v rfl rfl rfl (by exact GO.call rfl rfl Tryd.func83 rfl rfl rfl (d_told83n _ _ _ _ _ _ _ _ _ _ _ hr (small_of hs) hs.2.2.2 hf)) ?_
  | refine GT.skip ?_
  | refine GT.ret ?_
  | refine GT.condF rfl ?_
  | refine GP.endR3 rfl ?_)
  rfl
theorem d_reading39n {A : AW} (hG : GOk A) (s g l lo hi a b c d e f : Int) (hr : ReceiverOk s g l lo hi) (hs : SignalOk a b c d e f) (hf : ¬ Flagged l lo hi a b c d e f) : AC Tryd.prog 39 [.agg #[.int .i64 s, .int .i64 g, .int .i64 l, .int .i64 lo, .int .i64 hi], .agg #[.int .i64 a, .int .i64 b, .int .i64 c, .int .i64 d, .int .i64 e, .int .i64 f]] A (isR (.tuple #[.agg #[.int .i64 (shownI s g a b c d e f), .bool false], .bool true]) A) := by
  refine AC.isG hG ?_ ⟨16, rfl⟩ (.flat (k := 32) rfl (.flat (k := 32) rfl .nil))
  obtain ⟨r1, r2, r3, r4, r5, r6⟩ := id hr
  have hsh := shownI_le (s := s) (g := g) (a := a) (b := b) (c := c) (d := d) (e := e) (f := f) (by omega)
  refine AC.go Tryd.func39 rfl rfl ?_
  repeat' (first
  | refine GL.sf rfl rfl rfl rfl ?_
  | refine GL.nf rfl rfl rfl ?_
  | refine GL.done ?_
  | refine GP.thenN ?_
  | refine GT.seq ?_
  | refine GT.region ?_
  | refine GL.unguard rfl rfl ?_
  | refine GL.v rfl rfl rfl (by first | exact GO.call rfl rfl Tryd.func38 rfl rfl rfl (d_told38n ⟨rfl, rfl, rfl, _, _, rfl⟩ _ _ _ _ _ _ _ _ _ _ _ hr hs hf) | exact GO.neg rfl rfl (by omega)) ?_
  | refine GT.skip ?_
  | refine GT.ret ?_
  | refine GT.condF rfl ?_
  | (refine GT.condD rfl (fun h => ?_) (fun h => ?_) <;> try (exfalso; omega))
  | (refine GL.forkD rfl rfl (fun h => ?_) (fun h => ?_) <;> try (exfalso; omega))
  | refine GP.endR2 rfl ?_)
  rfl
theorem d_told38w {A : AW} (hG : GOk A) (s g l lo hi a b c d e f : Int) (hr : ReceiverOk s g l lo hi) (hs : SignalOk a b c d e f) (hw : a * a + b * b < l) : AC Tryd.prog 38 [.agg #[.int .i64 s, .int .i64 g, .int .i64 l, .int .i64 lo, .int .i64 hi], .agg #[.int .i64 a, .int .i64 b, .int .i64 c, .int .i64 d, .int .i64 e, .int .i64 f]] A (isR (.tuple #[.int .i64 0, .string ⟨#[119, 101, 97, 107]⟩, .int .i64 0]) A) := by
  refine AC.isG hG ?_ ⟨8, rfl⟩ (.flat (k := 32) rfl (.flat (k := 32) rfl .nil))
  refine AC.go Tryd.func38 rfl rfl ?_
  repeat' (first
  | refine GT.draws (id := 1) [[], [0], [], [0, 1, 2], [0, 1, 2, 3], [0, 1, 2, 3, 4], [0, 1, 2, 3, 4, 5]] [4] (by kernel_rfl) ?_
  | refine GL.sf rfl rfl rfl rfl ?_
  | refine GL.done ?_
  | refine GP.thenN ?_
  | refine GT.seq ?_
  | refine GT.region ?_
  | refine GD.li rfl rfl (by exact onAt.none rfl) rfl (by repeat first | exact AllG.nil rfl | refine AllG.cons rfl (by first | exact GO.sf rfl rfl | exact GO.call rfl rfl Tryd.func82 rfl rfl rfl (d_receiver82ok _ _ _ _ _ hr) | exact GO.call rfl rfl Tryd.func43 rfl rfl rfl (d_signal43ok ⟨rfl, rfl, rfl, _, _, rfl⟩ _ _ _ _ _ _ hs) | exact GO.call rfl rfl Tryd.func42 rfl rfl rfl (d_first42 [0, 0] rfl rfl rfl)) ?_) ?_
  | refine GD.he rfl rfl rfl (by exact onAt.none rfl) rfl (by exact GO.sf rfl rfl) ?_ ?_
  | refine GD.done rfl rfl rfl ?_
  | exact AllJs.nil rfl
  | refine GL.v rfl rfl rfl (by exact GO.call rfl rfl Tryd.func83 rfl rfl rfl (d_told83w _ _ _ _ _ _ _ _ _ _ _ hr (small_of hs) hs.2.2.2 hw)) ?_
  | refine GT.skip ?_
  | refine GT.ret ?_
  | refine GT.condF rfl ?_
  | refine GP.endR3 rfl ?_)
  rfl
theorem d_reading39w {A : AW} (hG : GOk A) (s g l lo hi a b c d e f : Int) (hr : ReceiverOk s g l lo hi) (hs : SignalOk a b c d e f) (hw : a * a + b * b < l) : AC Tryd.prog 39 [.agg #[.int .i64 s, .int .i64 g, .int .i64 l, .int .i64 lo, .int .i64 hi], .agg #[.int .i64 a, .int .i64 b, .int .i64 c, .int .i64 d, .int .i64 e, .int .i64 f]] A (isR (.tuple #[.agg #[.int .i64 (0), .bool true], .bool true]) A) := by
  refine AC.isG hG ?_ ⟨16, rfl⟩ (.flat (k := 32) rfl (.flat (k := 32) rfl .nil))
  obtain ⟨r1, r2, r3, r4, r5, r6⟩ := id hr
  have hsh := shownI_le (s := s) (g := g) (a := a) (b := b) (c := c) (d := d) (e := e) (f := f) (by omega)
  refine AC.go Tryd.func39 rfl rfl ?_
  repeat' (first
  | refine GL.sf rfl rfl rfl rfl ?_
  | refine GL.nf rfl rfl rfl ?_
  | refine GL.done ?_
  | refine GP.thenN ?_
  | refine GT.seq ?_
  | refine GT.region ?_
  | refine GL.unguard rfl rfl ?_
  | refine GL.v rfl rfl rfl (by first | exact GO.call rfl rfl Tryd.func38 rfl rfl rfl (d_told38w ⟨rfl, rfl, rfl, _, _, rfl⟩ _ _ _ _ _ _ _ _ _ _ _ hr hs hw) | exact GO.neg rfl rfl (by omega)) ?_
  | refine GT.skip ?_
  | refine GT.ret ?_
  | refine GP.thenR ?_
  | refine GT.condT rfl ?_
  | (refine GT.condD rfl (fun h => ?_) (fun h => ?_) <;> try (exfalso; omega))
  | (refine GL.forkD rfl rfl (fun h => ?_) (fun h => ?_) <;> try (exfalso; omega))
  | refine GP.endR2 rfl ?_)
  rfl
theorem d_told38d {A : AW} (hG : GOk A) (s g l lo hi a b c d e f : Int) (hr : ReceiverOk s g l lo hi) (hs : SignalOk a b c d e f) (hw : ¬ a * a + b * b < l) (hd : 1000 * sumI a b c d e f < lo * (a * a + b * b) ∨ hi * (a * a + b * b) < 1000 * sumI a b c d e f) : AC Tryd.prog 38 [.agg #[.int .i64 s, .int .i64 g, .int .i64 l, .int .i64 lo, .int .i64 hi], .agg #[.int .i64 a, .int .i64 b, .int .i64 c, .int .i64 d, .int .i64 e, .int .i64 f]] A (isR (.tuple #[.int .i64 0, .string ⟨#[100, 101, 112, 116, 104]⟩, .int .i64 0]) A) := by
  refine AC.isG hG ?_ ⟨8, rfl⟩ (.flat (k := 32) rfl (.flat (k := 32) rfl .nil))
  refine AC.go Tryd.func38 rfl rfl ?_
  repeat' (first
  | refine GT.draws (id := 1) [[], [0], [], [0, 1, 2], [0, 1, 2, 3], [0, 1, 2, 3, 4], [0, 1, 2, 3, 4, 5]] [4] (by kernel_rfl) ?_
  | refine GL.sf rfl rfl rfl rfl ?_
  | refine GL.done ?_
  | refine GP.thenN ?_
  | refine GT.seq ?_
  | refine GT.region ?_
  | refine GD.li rfl rfl (by exact onAt.none rfl) rfl (by repeat first | exact AllG.nil rfl | refine AllG.cons rfl (by first | exact GO.sf rfl rfl | exact GO.call rfl rfl Tryd.func82 rfl rfl rfl (d_receiver82ok _ _ _ _ _ hr) | exact GO.call rfl rfl Tryd.func43 rfl rfl rfl (d_signal43ok ⟨rfl, rfl, rfl, _, _, rfl⟩ _ _ _ _ _ _ hs) | exact GO.call rfl rfl Tryd.func42 rfl rfl rfl (d_first42 [0, 0] rfl rfl rfl)) ?_) ?_
  | refine GD.he rfl rfl rfl (by exact onAt.none rfl) rfl (by exact GO.sf rfl rfl) ?_ ?_
  | refine GD.done rfl rfl rfl ?_
  | exact AllJs.nil rfl
  | refine GL.v rfl rfl rfl (by exact GO.call rfl rfl Tryd.func83 rfl rfl rfl (d_told83d _ _ _ _ _ _ _ _ _ _ _ hr (small_of hs) hs.2.2.2 hw hd)) ?_
  | refine GT.skip ?_
  | refine GT.ret ?_
  | refine GT.condF rfl ?_
  | refine GP.endR3 rfl ?_)
  rfl
theorem d_reading39d {A : AW} (hG : GOk A) (s g l lo hi a b c d e f : Int) (hr : ReceiverOk s g l lo hi) (hs : SignalOk a b c d e f) (hw : ¬ a * a + b * b < l) (hd : 1000 * sumI a b c d e f < lo * (a * a + b * b) ∨ hi * (a * a + b * b) < 1000 * sumI a b c d e f) : AC Tryd.prog 39 [.agg #[.int .i64 s, .int .i64 g, .int .i64 l, .int .i64 lo, .int .i64 hi], .agg #[.int .i64 a, .int .i64 b, .int .i64 c, .int .i64 d, .int .i64 e, .int .i64 f]] A (isR (.tuple #[.agg #[.int .i64 (0), .bool true], .bool true]) A) := by
  refine AC.isG hG ?_ ⟨16, rfl⟩ (.flat (k := 32) rfl (.flat (k := 32) rfl .nil))
  obtain ⟨r1, r2, r3, r4, r5, r6⟩ := id hr
  have hsh := shownI_le (s := s) (g := g) (a := a) (b := b) (c := c) (d := d) (e := e) (f := f) (by omega)
  refine AC.go Tryd.func39 rfl rfl ?_
  repeat' (first
  | refine GL.sf rfl rfl rfl rfl ?_
  | refine GL.nf rfl rfl rfl ?_
  | refine GL.done ?_
  | refine GP.thenN ?_
  | refine GT.seq ?_
  | refine GT.region ?_
  | refine GL.unguard rfl rfl ?_
  | refine GL.v rfl rfl rfl (by first | exact GO.call rfl rfl Tryd.func38 rfl rfl rfl (d_told38d ⟨rfl, rfl, rfl, _, _, rfl⟩ _ _ _ _ _ _ _ _ _ _ _ hr hs hw hd) | exact GO.neg rfl rfl (by omega)) ?_
  | refine GT.skip ?_
  | refine GT.ret ?_
  | refine GP.thenR ?_
  | refine GT.condT rfl ?_
  | (refine GT.condD rfl (fun h => ?_) (fun h => ?_) <;> try (exfalso; omega))
  | (refine GL.forkD rfl rfl (fun h => ?_) (fun h => ?_) <;> try (exfalso; omega))
  | refine GP.endR2 rfl ?_)
  rfl
/-- A reading's needle, and whether it is missing. -/
def rdN (s g l lo hi a b c d e f : Int) : Int := if Flagged l lo hi a b c d e f then 0 else shownI s g a b c d e f
def rdM (l lo hi a b c d e f : Int) : Bool := decide (Flagged l lo hi a b c d e f)
theorem d_reading39 {A : AW} (hG : GOk A) (s g l lo hi a b c d e f : Int) (hr : ReceiverOk s g l lo hi) (hs : SignalOk a b c d e f) : AC Tryd.prog 39 [.agg #[.int .i64 s, .int .i64 g, .int .i64 l, .int .i64 lo, .int .i64 hi], .agg #[.int .i64 a, .int .i64 b, .int .i64 c, .int .i64 d, .int .i64 e, .int .i64 f]] A (isR (.tuple #[.agg #[.int .i64 (rdN s g l lo hi a b c d e f), .bool (rdM l lo hi a b c d e f)], .bool true]) A) := by
  unfold rdN rdM
  by_cases hf : Flagged l lo hi a b c d e f
  · rw [if_pos hf, decide_eq_true hf]
    by_cases hw : a * a + b * b < l
    · exact d_reading39w hG _ _ _ _ _ _ _ _ _ _ _ hr hs hw
    · exact d_reading39d hG _ _ _ _ _ _ _ _ _ _ _ hr hs hw (hf.resolve_left hw)
  · rw [if_neg hf, decide_eq_false hf]
    exact d_reading39n hG _ _ _ _ _ _ _ _ _ _ _ hr hs hf
end Go.M
