/- Functions of the given program, walked (no condition beyond what each theorem says). -/
import Derived.Test.YtfhodefiknfccaaDoorE2
import Derived.Test.YtfhodefiknfccaaDoorB4
import Derived.Test.YtfhodefiknfccaaDoorA5
set_option linter.unusedVariables false
set_option linter.unusedSimpArgs false
namespace Go.M
open Go.Proofs Go.RowKit
set_option maxRecDepth 8000
set_option maxHeartbeats 4000000
/-- A sensor as the input has it. -/
structure Sen where
  s : ByteArray
  k : ByteArray
  lo : Int
  hi : Int
  d : Int
def senC (l : List Sen) : List Value := l.flatMap fun x => [.string x.s, .string x.k, .int .i64 x.lo, .int .i64 x.hi, .int .i64 x.d]
theorem senC_cons (x : Sen) (l : List Sen) : senC (x :: l) = .string x.s :: .string x.k :: .int .i64 x.lo :: .int .i64 x.hi :: .int .i64 x.d :: senC l := by simp [senC]
theorem senC_len : ∀ l : List Sen, (senC l).length = 5 * l.length
  | [] => rfl
  | x :: l => by rw [senC_cons]; simp [senC_len l]; omega
theorem senC_at : ∀ (l : List Sen) (i : Nat) (x : Sen), l[i]? = some x → (senC l)[i * 5]? = some (.string x.s) ∧ (senC l)[i * 5 + 1]? = some (.string x.k) ∧ (senC l)[i * 5 + 2]? = some (.int .i64 x.lo) ∧ (senC l)[i * 5 + 3]? = some (.int .i64 x.hi) ∧ (senC l)[i * 5 + 4]? = some (.int .i64 x.d)
  | [], i, x, h => by simp at h
  | y :: l, 0, x, h => by
    simp at h; subst h
    rw [senC_cons]
    exact ⟨rfl, rfl, rfl, rfl, rfl⟩
  | y :: l, i + 1, x, h => by
    have := senC_at l i x (by simpa using h)
    rw [senC_cons, show (i + 1) * 5 = i * 5 + 1 + 1 + 1 + 1 + 1 by omega]
    simpa using this
theorem senC_flat : ∀ l : List Sen, ∃ j, noAddrs j (senC l) = true
  | [] => ⟨1, rfl⟩
  | x :: l => by
    obtain ⟨j, h⟩ := senC_flat l
    rw [senC_cons]
    exact ⟨j + 5, by simpa [noAddrs] using h⟩
/-- The drop that a load of two numbers needs. -/
theorem senC_lim (l : List Sen) (i : Nat) (x : Sen) (h : l[i]? = some x) : ((senC l).drop (i * 5 + 2)).take 2 = [.int .i64 x.lo, .int .i64 x.hi] := by
  obtain ⟨_, _, h2, h3, _⟩ := senC_at l i x h
  have g : ∀ (cs : List Value) (m : Nat) (u v : Value), cs[m]? = some u → cs[m + 1]? = some v → (cs.drop m).take 2 = [u, v] := by
    intro cs
    induction cs with
    | nil => intro m u v h; simp at h
    | cons c cs ih =>
      intro m u v h1 h2
      cases m with
      | zero =>
        cases cs with
        | nil => simp at h2
        | cons c2 cs => simp at h1 h2; simp [h1, h2]
      | succ m => simpa using ih m u v (by simpa using h1) (by simpa using h2)
  exact g _ _ _ _ h2 h3
theorem d_short34s (l : List Sen) (c : Nat) (need sil : Int) (hl : l.length ≤ 9223372036854775807) :
    AC Tryd.prog 34 [.agg #[.slice (some ⟨0, 0, none⟩) l.length c, .int .i64 need, .int .i64 sil]] (AW.of [(0, .cells (senC l) 43)] 1 1 0) (fun v _ => ∃ b, v = .bool b ∧ (b = true → l.length ≤ 5 ∨ l.length = 9)) := by
  refine AC.go Tryd.func34 rfl rfl ?_
  repeat' (first
  | refine GL.sf rfl rfl rfl rfl ?_
  | refine GL.done ?_
  | refine GP.thenN ?_
  | refine GT.seq ?_
  | refine GT.region ?_
  | refine GT.block ?_)
  refine GT.loop (fun q a L nx => ∃ i : Nat, i ≤ l.length ∧ q = l.length - i ∧ asub [(1, .pointer (some ⟨1, 0, none⟩)), (3, .int .i64 i)] a ∧ L = [(1, .cells [.slice (some ⟨0, 0, none⟩) l.length c, .int .i64 need, .int .i64 sil] 24), (0, .cells (senC l) 43)] ∧ nx = 2) l.length
    ⟨0, by omega, by omega, asub_cons rfl (asub_cons rfl asub_nil), rfl, rfl⟩ ?_
  rintro q a L nx ⟨i, hi, rfl, hs, rfl, rfl⟩
  refine GT.keep hs ?_
  clear hs
  rcases Nat.lt_or_ge i l.length with hlt | hge
  · obtain ⟨x, hx⟩ : ∃ x, l[i]? = some x := ⟨_, List.getElem?_eq_getElem hlt⟩
    obtain ⟨h0, h1, h2, h3, h4⟩ := senC_at l i x hx
    have g0 : (senC l)[0 + (i : Int).toNat * 5]? = some (.string x.s) := by simpa using h0
    have g1 : (senC l)[0 + (i : Int).toNat * 5 + 1]? = some (.string x.k) := by simpa using h1
    repeat' (first
    | exact ⟨false, rfl, fun h => by cases h⟩
    | refine GL.sf rfl rfl rfl rfl ?_
    | refine GL.sv rfl rfl rfl rfl ?_
    | refine GL.done ?_
    | refine GP.thenN ?_
    | refine GT.seq ?_
    | refine GT.region ?_
    | refine GL.unguardG rfl rfl rfl ?_
    | refine GL.skipG rfl rfl rfl rfl rfl ?_
    | refine GL.v rfl rfl rfl (by first | exact GO.indexS (s := 5) rfl rfl rfl rfl rfl (by omega) | exact GO.loadC rfl rfl rfl rfl rfl g0 | exact GO.loadC rfl rfl rfl rfl rfl g1 | exact GO.add rfl rfl rfl (by omega)) ?_
    | refine GT.skip ?_
    | refine GT.block ?_
    | refine GT.ret ?_
    | refine GP.thenR ?_
    | refine GP.inN ?_
    | refine GP.inR ?_
    | refine GP.invR ?_
    | refine GT.condT rfl ?_
    | (refine GT.condD rfl (fun h => ?_) (fun h => ?_) <;> try (exfalso; omega))
    | (refine GL.forkDG rfl rfl rfl (fun h => ?_) (fun h => ?_) <;> try (exfalso; omega))
    | refine GP.endR1 rfl ?_)
    all_goals exact GP.invN (l.length - (i + 1)) (by omega) ⟨i + 1, by omega, rfl, asub_cons rfl (asub_cons rfl asub_nil), rfl, rfl⟩
  ·
    repeat' (first
    | refine GL.sf rfl rfl rfl rfl ?_
    | refine GL.sv rfl rfl rfl rfl ?_
    | refine GL.done ?_
    | refine GP.thenN ?_
    | refine GT.seq ?_
    | refine GT.region ?_
    | refine GL.unguardG rfl rfl rfl ?_
    | refine GL.skipG rfl rfl rfl rfl rfl ?_
    | refine GT.ret ?_
    | refine GT.exit ?_
    | refine GP.thenE ?_
    | refine GP.hit ?_
    | refine GP.invE ?_
    | (refine GT.condD rfl (fun h => ?_) (fun h => ?_) <;> try (exfalso; omega))
    | (refine GL.forkDG rfl rfl rfl (fun h => ?_) (fun h => ?_) <;> try (exfalso; omega))
    | refine GP.endR1 rfl ?_)
    all_goals exact ⟨_, rfl, fun h => by first | (have := of_decide_eq_true h; omega) | omega⟩
end Go.M
namespace Go.M
open Go.Proofs Go.RowKit
set_option maxRecDepth 8000
set_option maxHeartbeats 4000000
theorem d_name54 {A : AW} (s : ByteArray) : AC Tryd.prog 54 [.string s] A (fun v A1 => (∃ e, v = .int .i64 e ∧ (e = 0 → NameOk s)) ∧ A1 = A) := by
  refine AC.pure0 (AC.mono (R := fun v _ => ∃ e, v = .int .i64 e ∧ (e = 0 → NameOk s)) ?_ (fun v _ ⟨b, e, h⟩ => ⟨⟨b, e, h⟩, by subst e; exact ⟨8, rfl⟩⟩)) (.flat (k := 8) rfl .nil)
  refine AC.go Tryd.func54 rfl rfl ?_
  repeat' (first
  | (refine GL.any rfl rfl rfl (GO.call rfl rfl Tryd.func93 rfl rfl rfl (d_isname93 _)) ?_; rintro v A1 ⟨⟨b, rfl, hb⟩, rfl⟩; refine ⟨_, _, rfl, ?_⟩)
  | refine GL.sf rfl rfl rfl rfl ?_
  | refine GL.done ?_
  | refine GP.thenN ?_
  | refine GT.seq ?_
  | refine GT.region ?_
  | refine GL.v rfl rfl rfl (by exact GO.call rfl rfl Tryd.func55 rfl rfl rfl (d_when55 _ _)) ?_
  | refine GT.ret ?_
  | refine GP.endR1 rfl ?_)
  refine ⟨_, rfl, fun h => hb ?_⟩
  cases b with
  | true => rfl
  | false => exact absurd h (by decide)
theorem bytesL_eq {a b : ByteArray} (h : (a.data.toList == b.data.toList) = true) : a = b := by
  have h : a.data.toList = b.data.toList := by simpa using h
  cases a; cases b
  simp only at h
  congr 1
  exact Array.toList_inj.1 h
theorem bytesL_ne {a b : ByteArray} (h : (a.data.toList == b.data.toList) = false) : (a == b) = false := by
  cases q : (a == b) with
  | false => rfl
  | true =>
    have e : a = b := bytes_eq q
    subst e
    simp at h
def hasK (k : ByteArray) : Bool := (kIntegral.data.toList == k.data.toList) || (kNear.data.toList == k.data.toList) || (kFar.data.toList == k.data.toList)
theorem hasK_ok {k : ByteArray} (h : hasK k = true) : k = kIntegral ∨ k = kNear ∨ k = kFar := by
  unfold hasK at h
  simp only [Bool.or_eq_true] at h
  rcases h with (h | h) | h
  · exact .inl (bytesL_eq h).symm
  · exact .inr (.inl (bytesL_eq h).symm)
  · exact .inr (.inr (bytesL_eq h).symm)
theorem d_has26 {A : AW} {p : Nat} (k : ByteArray) (h : A.rd p 0 3 = some [.string kIntegral, .string kNear, .string kFar]) : AC Tryd.prog 26 [.slice (some ⟨p, 0, none⟩) 3 3, .string k] A (isR (.bool (hasK k)) A) := by
  refine AC.isX (SmallX.nil.cons (k := 0) (b := p) (f := 0) (o := .cells [.string kIntegral, .string kNear, .string kFar] 9) (.flat (k := 8) h rfl)) (args := [.slice (some ⟨0, 0, none⟩) 3 3, .string k]) ?_ ⟨8, rfl⟩ (.sl rfl rfl (.flat (k := 8) rfl .nil))
  refine AC.go Tryd.func26 rfl rfl ?_
  clear h
  repeat' (first
  | refine GT.unroll 4 ?_
  | refine GL.sf rfl rfl rfl rfl ?_
  | refine GL.done ?_
  | refine GP.thenN ?_
  | refine GT.seq ?_
  | refine GT.region ?_
  | refine GL.v rfl rfl rfl (by exact GO.add rfl rfl rfl (by omega)) ?_
  | refine GT.skip ?_
  | refine GT.block ?_
  | refine GT.ret ?_
  | refine GT.exit ?_
  | refine GP.thenR ?_
  | refine GP.thenE ?_
  | refine GP.inN ?_
  | refine GP.inR ?_
  | refine GP.hit ?_
  | refine GP.againN ?_
  | refine GP.againR ?_
  | refine GP.againE ?_
  | refine GU.step ?_
  | refine GT.condT rfl ?_
  | refine GT.condF rfl ?_
  | (refine GT.condB rfl (fun h => ?_) (fun h => ?_))
  | refine GP.endR1 rfl ?_)
  · have h : (kIntegral.data.toList == k.data.toList) = true := h
    simp [hasK, h]
  · have h : (kNear.data.toList == k.data.toList) = true := by assumption
    simp [hasK, h]
  · have h : (kFar.data.toList == k.data.toList) = true := by assumption
    simp [hasK, h]
  · have h1 : (kIntegral.data.toList == k.data.toList) = false := by assumption
    have h2 : (kNear.data.toList == k.data.toList) = false := by assumption
    have h3 : (kFar.data.toList == k.data.toList) = false := by assumption
    simp [hasK, h1, h2, h3]
end Go.M
namespace Go.M
open Go.Proofs Go.RowKit
set_option maxRecDepth 8000
set_option maxHeartbeats 8000000
def PlantOk (l : List Sen) (need sil : Int) : Prop := 0 < l.length ∧ l.length ≤ 8 ∧ (∀ (i : Nat) (x : Sen), l[i]? = some x → SensorOk x.s x.k x.lo x.hi x.d) ∧ (∀ (i j : Nat) (x y : Sen), j < i → l[i]? = some x → l[j]? = some y → (x.s == y.s) = false) ∧ (1 ≤ need ∧ need ≤ l.length) ∧ (0 ≤ sil ∧ sil ≤ 60)
def sensNs (x : Sen) : List Int := [whenI (!hasK x.k) 13, firstNZ (rintervalNs x.lo x.hi (-10000) 10000), whenI (withinB x.d 1 60) 3]
theorem within_ok {n lo hi : Int} (h : whenI (withinB n lo hi) 3 = 0) : lo ≤ n ∧ n ≤ hi := of_withinB (of_whenI h (by decide))
theorem firstNZ_cons {x : Int} {l : List Int} (h : firstNZ (x :: l) = 0) : x = 0 ∧ firstNZ l = 0 := by
  unfold firstNZ at h
  by_cases q : x = 0
  · subst q
    exact ⟨rfl, by simpa [firstNZ] using h⟩
  · exfalso
    simp [q] at h
theorem sens_ok {x : Sen} (hn : NameOk x.s) (h : firstNZ (sensNs x) = 0) : SensorOk x.s x.k x.lo x.hi x.d := by
  obtain ⟨h1, h2⟩ := firstNZ_cons h
  obtain ⟨h3, h4⟩ := firstNZ_cons h2
  obtain ⟨h5, _⟩ := firstNZ_cons h4
  have h5 := within_ok h5
  have h3 := interval_ok h3
  have hk : hasK x.k = true := by
    cases q : hasK x.k with
    | true => rfl
    | false => rw [q] at h1; exact absurd h1 (by decide)
  exact ⟨hn, hasK_ok hk, h3.1, h3.2.1, h3.2.2, h5⟩
def plantNs (n : Nat) (need sil : Int) : List Int := [whenI (withinB need 1 n) 3, whenI (withinB sil 0 60) 3]
theorem fit2 {i n : Nat} (h : 5 * i + 5 ≤ n) : 0 + (i : Int).toNat * 5 + 2 + 2 ≤ n := by omega
theorem d_plant35s (l : List Sen) (c : Nat) (need sil : Int) (hl : l.length ≤ 9223372036854775807) :
    AC Tryd.prog 35 [.agg #[.slice (some ⟨0, 0, none⟩) l.length c, .int .i64 need, .int .i64 sil]] (AW.of [(0, .cells (senC l) 43)] 1 1 0) (fun v _ => ∃ e, v = .int .i64 e ∧ (e = 0 → PlantOk l need sil)) := by
  refine AC.go Tryd.func35 rfl rfl ?_
  repeat' (first
  | exact ⟨_, rfl, fun q => absurd q h⟩
  | refine GL.sf rfl rfl rfl rfl ?_
  | refine GL.sv rfl rfl rfl rfl ?_
  | refine GL.done ?_
  | refine GP.thenN ?_
  | refine GT.seq ?_
  | refine GT.region ?_
  | refine GL.v rfl rfl rfl (by first | exact GO.call rfl rfl Tryd.func55 rfl rfl rfl (d_when55 _ _) | exact GO.call rfl rfl Tryd.func53 rfl rfl rfl (d_first53 [whenI (decide ((l.length : Int) = 0)) 12, whenI (decide (8 < (l.length : Int))) 5] rfl rfl rfl)) ?_
  | refine GT.skip ?_
  | refine GT.block ?_
  | refine GT.ret ?_
  | refine GP.thenR ?_
  | (refine GT.condN rfl (fun h => ?_) (fun h => ?_) <;> try (exfalso; omega))
  | refine GP.endR1 rfl ?_)
  have hn : 0 < l.length ∧ l.length ≤ 8 := by
    have h' := firstNZ_cons h
    obtain ⟨h1, h2⟩ := h'
    have h3 := (firstNZ_cons h2).1
    refine ⟨?_, ?_⟩
    · by_cases q : (l.length : Int) = 0
      · rw [decide_eq_true q] at h1; exact absurd h1 (by decide)
      · omega
    · by_cases q : 8 < (l.length : Int)
      · rw [decide_eq_true q] at h3; exact absurd h3 (by decide)
      · omega
  refine GT.loop (fun q a L nx => ∃ i : Nat, i ≤ l.length ∧ q = l.length - i ∧ asub [(1, .pointer (some ⟨1, 0, none⟩)), (3, .slice (some ⟨0, 0, none⟩) l.length c), (5, .int .i64 i)] a ∧ subm [(1, .cells [.slice (some ⟨0, 0, none⟩) l.length c, .int .i64 need, .int .i64 sil] 24), (0, .cells (senC l) 43)] L ∧ 2 ≤ nx ∧
      (∀ (j : Nat) (x : Sen), j < i → l[j]? = some x → SensorOk x.s x.k x.lo x.hi x.d) ∧ (∀ (i' j : Nat) (x y : Sen), i' < i → j < i' → l[i']? = some x → l[j]? = some y → (x.s == y.s) = false)) l.length
    ⟨0, by omega, by omega, asub_cons rfl (asub_cons rfl (asub_cons rfl asub_nil)), subm_cons rfl (subm_cons rfl subm_nil), by decide, fun j x h => by omega, fun i' j x y h => by omega⟩ ?_
  rintro q a L nx ⟨i, hi, rfl, hs, hsub, hnx, hok, hdis⟩
  obtain ⟨fj, hflat⟩ := senC_flat l
  have hlen := senC_len l
  refine GT.resetL 2 hs hsub hnx rfl rfl (Under.look (.cons rfl (.cons (.sl rfl) (.flat (j := 8) rfl)) (.cons rfl (Lt.flat hflat) .nil))) (.cons (.ptr rfl) (.cons (.sl rfl) (.cons (.flat (j := 8) rfl) .nil))) (fun g hg => absurd hg (Nat.not_lt_zero g)) ?_
  clear hs hsub hnx h
  rcases Nat.lt_or_ge i l.length with hlt | hge
  · obtain ⟨x, hx⟩ : ∃ x, l[i]? = some x := ⟨_, List.getElem?_eq_getElem hlt⟩
    obtain ⟨h0, h1, h2, h3, h4⟩ := senC_at l i x hx
    have g0 : (senC l)[0 + (i : Int).toNat * 5]? = some (.string x.s) := by simpa using h0
    have g1 : (senC l)[0 + (i : Int).toNat * 5 + 1]? = some (.string x.k) := by simpa using h1
    have g4 : (senC l)[0 + (i : Int).toNat * 5 + 4]? = some (.int .i64 x.d) := by simpa using h4
    have gl : ((senC l).drop (0 + (i : Int).toNat * 5 + 2)).take 2 = [.int .i64 x.lo, .int .i64 x.hi] := by simpa using senC_lim l i x hx
    have hcut : 5 * i + 5 ≤ (senC l).length := by omega
    repeat' (first
    | (refine GL.any rfl rfl rfl (GO.call rfl rfl Tryd.func54 rfl rfl rfl (d_name54 _)) ?_; rintro v A1 ⟨⟨e, rfl, hnm⟩, rfl⟩; refine ⟨_, _, rfl, ?_⟩)
    | exact ⟨_, rfl, fun q => absurd q h⟩
    | refine GL.sf rfl rfl rfl rfl ?_
    | refine GL.sv rfl rfl rfl rfl ?_
    | refine GL.done ?_
    | refine GP.thenN ?_
    | refine GT.seq ?_
    | refine GT.region ?_
    | refine GL.v rfl rfl rfl (by first | exact GO.indexS (s := 5) rfl rfl rfl rfl rfl (by omega) | exact GO.loadC rfl rfl rfl rfl rfl g0) ?_
    | refine GT.skip ?_
    | refine GT.block ?_
    | refine GT.ret ?_
    | refine GP.thenR ?_
    | refine GP.inR ?_
    | refine GP.invR ?_
    | (refine GT.condD rfl (fun h => ?_) (fun h => ?_) <;> try (exfalso; omega))
    | (refine GT.condN rfl (fun h => ?_) (fun h => ?_) <;> try (exfalso; omega))
    | refine GP.endR1 rfl ?_)
    have hnm := hnm h
    clear h
    refine GT.loop (fun q a L nx => ∃ j : Nat, j ≤ i ∧ q = i - j ∧ asub [(1, .pointer (some ⟨1, 0, none⟩)), (3, .slice (some ⟨0, 0, none⟩) l.length c), (5, .int .i64 i), (7, .int .i64 j)] a ∧ L = [(1, .cells [.slice (some ⟨0, 0, none⟩) l.length c, .int .i64 need, .int .i64 sil] 24), (0, .cells (senC l) 43)] ∧ nx = 2 ∧ (∀ (j' : Nat) (y : Sen), j' < j → l[j']? = some y → (x.s == y.s) = false)) i
      ⟨0, by omega, by omega, asub_cons rfl (asub_cons rfl (asub_cons rfl (asub_cons rfl asub_nil))), rfl, rfl, fun j' y h => by omega⟩ ?_
    rintro q a L nx ⟨j, hj, rfl, hs, rfl, rfl, hdj⟩
    refine GT.keep hs ?_
    clear hs
    rcases Nat.lt_or_ge j i with hlj | hgj
    · obtain ⟨y, hy⟩ : ∃ y, l[j]? = some y := ⟨_, List.getElem?_eq_getElem (by omega)⟩
      obtain ⟨f0, _⟩ := senC_at l j y hy
      have f0 : (senC l)[0 + (j : Int).toNat * 5]? = some (.string y.s) := by simpa using f0
      repeat' (first
      | refine GT.draws (id := 14) [[], [], [0, 1], [0, 1, 2], [0, 1, 2, 3], [], [], [5, 6], [5, 6, 7], [5, 6, 7, 8], [0, 1, 2, 3, 4, 5, 6, 7, 8, 9]] [] (by kernel_rfl) ?_
      | exact ⟨9, rfl, fun h => by cases h⟩
      | refine GL.sf rfl rfl rfl rfl ?_
      | refine GL.done ?_
      | refine GP.thenN ?_
      | refine GT.seq ?_
      | refine GT.region ?_
      | refine GD.li rfl rfl (by exact onAt.none rfl) rfl (by repeat first | exact AllG.nil rfl | refine AllG.cons rfl (by first | exact GO.sf rfl rfl | exact GO.sv rfl rfl | exact GO.indexS (s := 5) rfl rfl rfl rfl rfl (by omega) | exact GO.loadC rfl rfl rfl rfl rfl g0 | exact GO.loadC rfl rfl rfl rfl rfl f0) ?_) ?_
      | refine GD.done rfl rfl rfl ?_
      | refine GL.v rfl rfl rfl (by exact GO.add rfl rfl rfl (by omega)) ?_
      | refine GT.skip ?_
      | refine GT.block ?_
      | refine GT.ret ?_
      | refine GP.thenR ?_
      | refine GP.inN ?_
      | refine GP.inR ?_
      | refine GP.invR ?_
      | (refine GT.condD rfl (fun h => ?_) (fun h => ?_) <;> try (exfalso; omega))
      | (refine GT.condB rfl (fun h => ?_) (fun h => ?_))
      | refine GP.endR1 rfl ?_)
      all_goals exact GP.invN (i - (j + 1)) (by omega) ⟨j + 1, by omega, rfl, asub_cons rfl (asub_cons rfl (asub_cons rfl (asub_cons rfl asub_nil))), rfl, rfl, fun j' y' hj' hy' => by
        rcases Nat.lt_or_ge j' j with q | q
        · exact hdj j' y' q hy'
        · obtain rfl : j' = j := by omega
          rw [hy] at hy'; cases hy'
          have hh : (y.s.data.toList == x.s.data.toList) = false := by assumption
          cases q2 : (x.s == y.s) with
          | false => rfl
          | true =>
            have e := bytes_eq q2
            rw [e] at hh
            simp at hh⟩
    · obtain rfl : j = i := by omega
      repeat' (first
      | refine GT.draws (id := 16) [[], [], [], [1, 2], [1, 2, 3], [1, 2, 3, 4], [0, 1, 2, 3, 4, 5], [0, 1, 2, 3, 4, 5, 6], [0, 1, 2, 3, 4, 5, 6, 7], [], [], [9, 10], [9, 10, 11], [9, 10, 11, 12], [0, 1, 2, 3, 4, 5, 6, 7, 8, 9, 10, 11, 12, 13], [], [], [15, 16], [15, 16, 17], [15, 16, 17, 18], [0, 1, 2, 3, 4, 5, 6, 7, 8, 9, 10, 11, 12, 13, 14, 15, 16, 17, 18, 19], [0, 1, 2, 3, 4, 5, 6, 7, 8, 9, 10, 11, 12, 13, 14, 15, 16, 17, 18, 19, 20], [0, 1, 2, 3, 4, 5, 6, 7, 8, 9, 10, 11, 12, 13, 14, 15, 16, 17, 18, 19, 20, 21], [0, 1, 2, 3, 4, 5, 6, 7, 8, 9, 10, 11, 12, 13, 14, 15, 16, 17, 18, 19, 20, 21, 22]] [0, 21] (by kernel_rfl) ?_
      | exact ⟨_, rfl, fun q => absurd q h⟩
      | refine GL.sf rfl rfl rfl rfl ?_
      | refine GL.done ?_
      | refine GP.thenN ?_
      | refine GT.seq ?_
      | refine GT.region ?_
      | refine GD.li rfl rfl (by exact onAt.none rfl) rfl (by repeat first | exact AllG.nil rfl | refine AllG.cons rfl (by first | exact GO.sf rfl rfl | exact GO.sv rfl rfl | exact GO.indexS (s := 5) rfl rfl rfl rfl rfl (by omega) | exact GO.loadC rfl rfl rfl rfl rfl g1 | exact GO.loadC rfl rfl rfl rfl rfl g4 | exact GO.loadG (s := 2) rfl rfl rfl rfl rfl rfl (fit2 hcut) gl | exact GO.call rfl rfl Tryd.func26 rfl rfl rfl (d_has26 _ rfl) | exact GO.call rfl rfl Tryd.func55 rfl rfl rfl (d_when55 _ _) | exact GO.call rfl rfl Tryd.func78 rfl rfl rfl (d_limits78 _ _) | exact GO.call rfl rfl Tryd.func59 rfl rfl rfl (d_within59 _ _ _) | exact GO.call rfl rfl Tryd.func53 rfl rfl rfl (d_first53 (sensNs x) rfl rfl rfl)) ?_) ?_
      | refine GD.he rfl rfl rfl (by exact onAt.none rfl) rfl (by exact GO.sf rfl rfl) ?_ ?_
      | refine GD.done rfl rfl rfl ?_
      | exact AllJs.nil rfl
      | refine GL.v rfl rfl rfl (by exact GO.add rfl rfl rfl (by omega)) ?_
      | refine GT.skip ?_
      | refine GT.ret ?_
      | refine GT.exit ?_
      | refine GP.thenR ?_
      | refine GP.thenE ?_
      | refine GP.inN ?_
      | refine GP.inR ?_
      | refine GP.hit ?_
      | refine GP.invR ?_
      | refine GP.invE ?_
      | (refine GT.condD rfl (fun h => ?_) (fun h => ?_) <;> try (exfalso; omega))
      | (refine GT.condN rfl (fun h => ?_) (fun h => ?_) <;> try (exfalso; omega))
      | refine GP.endR1 rfl ?_)
      all_goals exact GP.invN (l.length - (j + 1)) (by omega) ⟨j + 1, by omega, rfl, asub_cons rfl (asub_cons rfl (asub_cons rfl asub_nil)), subm_cons rfl (subm_cons rfl subm_nil), by decide, fun j' x' hj' hx' => by
        rcases Nat.lt_or_ge j' j with q | q
        · exact hok j' x' q hx'
        · obtain rfl : j' = j := by omega
          rw [hx] at hx'; cases hx'
          exact sens_ok hnm (by assumption), fun i' j' x' y' hi' hj' hx' hy' => by
        rcases Nat.lt_or_ge i' j with q | q
        · exact hdis i' j' x' y' q hj' hx' hy'
        · obtain rfl : i' = j := by omega
          rw [hx] at hx'; cases hx'
          exact hdj j' y' hj' hy'⟩
  · obtain rfl : i = l.length := by omega
    repeat' (first
    | refine GT.draws (id := 19) [[], [0], [], [2], [0, 1, 2, 3], [], [5], [0, 1, 2, 3, 4, 5, 6], [0, 1, 2, 3, 4, 5, 6, 7], [0, 1, 2, 3, 4, 5, 6, 7, 8], [0, 1, 2, 3, 4, 5, 6, 7, 8, 9]] [8] (by kernel_rfl) ?_
    | refine GL.sf rfl rfl rfl rfl ?_
    | refine GL.sv rfl rfl rfl rfl ?_
    | refine GL.done ?_
    | refine GP.thenN ?_
    | refine GT.seq ?_
    | refine GT.region ?_
    | refine GD.li rfl rfl (by exact onAt.none rfl) rfl (by repeat first | exact AllG.nil rfl | refine AllG.cons rfl (by first | exact GO.sf rfl rfl | exact GO.sv rfl rfl | exact GO.call rfl rfl Tryd.func59 rfl rfl rfl (d_within59 _ _ _) | exact GO.call rfl rfl Tryd.func53 rfl rfl rfl (d_first53 (plantNs l.length need sil) rfl rfl rfl)) ?_) ?_
    | refine GD.he rfl rfl rfl (by exact onAt.none rfl) rfl (by exact GO.sf rfl rfl) ?_ ?_
    | refine GD.done rfl rfl rfl ?_
    | exact AllJs.nil rfl
    | refine GT.ret ?_
    | refine GT.exit ?_
    | refine GP.thenE ?_
    | refine GP.hit ?_
    | refine GP.invE ?_
    | (refine GT.condD rfl (fun h => ?_) (fun h => ?_) <;> try (exfalso; omega))
    | refine GP.endR1 rfl ?_)
    refine ⟨_, rfl, fun h => ?_⟩
    obtain ⟨h1, h2⟩ := firstNZ_cons h
    have h3 := (firstNZ_cons h2).1
    exact ⟨hn.1, hn.2, fun i x hx => hok i x (List.getElem?_eq_some_iff.1 hx).1 hx, fun i j x y hj hx hy => hdis i j x y (List.getElem?_eq_some_iff.1 hx).1 hj hx hy, within_ok h1, within_ok h3⟩
end Go.M
namespace Go.M
open Go.Proofs Go.RowKit
set_option maxRecDepth 8000
set_option maxHeartbeats 8000000
/-- The fault of the input. -/
structure Fault where
  s0 : Int
  g0 : Int
  l0 : Int
  lo0 : Int
  hi0 : Int
  s1 : Int
  g1 : Int
  l1 : Int
  lo1 : Int
  hi1 : Int
  s2 : Int
  g2 : Int
  l2 : Int
  lo2 : Int
  hi2 : Int
  s3 : Int
  g3 : Int
  l3 : Int
  lo3 : Int
  hi3 : Int
  s4 : Int
  g4 : Int
  l4 : Int
  lo4 : Int
  hi4 : Int
  a : Int
  b : Int
  c : Int
  d : Int
  e : Int
  f : Int
  a' : Int
  b' : Int
  c' : Int
  d' : Int
  e' : Int
  f' : Int
  before : Int
  which : Int
  u : Int
  v : Int
def Fault.recs (x : Fault) : List Value := [.int .i64 x.s0, .int .i64 x.g0, .int .i64 x.l0, .int .i64 x.lo0, .int .i64 x.hi0, .int .i64 x.s1, .int .i64 x.g1, .int .i64 x.l1, .int .i64 x.lo1, .int .i64 x.hi1, .int .i64 x.s2, .int .i64 x.g2, .int .i64 x.l2, .int .i64 x.lo2, .int .i64 x.hi2, .int .i64 x.s3, .int .i64 x.g3, .int .i64 x.l3, .int .i64 x.lo3, .int .i64 x.hi3, .int .i64 x.s4, .int .i64 x.g4, .int .i64 x.l4, .int .i64 x.lo4, .int .i64 x.hi4]
abbrev Fault.val (x : Fault) : Value := .agg #[.int .i64 x.s0, .int .i64 x.g0, .int .i64 x.l0, .int .i64 x.lo0, .int .i64 x.hi0, .int .i64 x.s1, .int .i64 x.g1, .int .i64 x.l1, .int .i64 x.lo1, .int .i64 x.hi1, .int .i64 x.s2, .int .i64 x.g2, .int .i64 x.l2, .int .i64 x.lo2, .int .i64 x.hi2, .int .i64 x.s3, .int .i64 x.g3, .int .i64 x.l3, .int .i64 x.lo3, .int .i64 x.hi3, .int .i64 x.s4, .int .i64 x.g4, .int .i64 x.l4, .int .i64 x.lo4, .int .i64 x.hi4,
  .int .i64 x.a, .int .i64 x.b, .int .i64 x.c, .int .i64 x.d, .int .i64 x.e, .int .i64 x.f, .int .i64 x.a', .int .i64 x.b', .int .i64 x.c', .int .i64 x.d', .int .i64 x.e', .int .i64 x.f', .int .u8 x.before, .int .u8 x.which, .int .i64 x.u, .int .i64 x.v]
structure Ready (l : List Sen) (need sil : Int) (x : Fault) : Prop where
  pl : PlantOk l need sil
  five : l.length ≤ 5
  good : SignalOk x.a x.b x.c x.d x.e x.f
  bad : SignalOk x.a' x.b' x.c' x.d' x.e' x.f'
  r0 : ReceiverOk x.s0 x.g0 x.l0 x.lo0 x.hi0
  r1 : ReceiverOk x.s1 x.g1 x.l1 x.lo1 x.hi1
  r2 : ReceiverOk x.s2 x.g2 x.l2 x.lo2 x.hi2
  r3 : ReceiverOk x.s3 x.g3 x.l3 x.lo3 x.hi3
  r4 : ReceiverOk x.s4 x.g4 x.l4 x.lo4 x.hi4
  low : ∀ (i : Nat) (y : Sen), l[i]? = some y → y.hi < 10000
theorem senC_five : ∀ (l : List Sen) (i : Nat) (x : Sen), l[i]? = some x → ((senC l).drop (i * 5)).take 5 = [.string x.s, .string x.k, .int .i64 x.lo, .int .i64 x.hi, .int .i64 x.d]
  | [], i, x, h => by simp at h
  | y :: l, 0, x, h => by
    simp at h; subst h
    rw [senC_cons]; rfl
  | y :: l, i + 1, x, h => by
    have := senC_five l i x (by simpa using h)
    rw [senC_cons, show (i + 1) * 5 = i * 5 + 1 + 1 + 1 + 1 + 1 by omega]
    simpa using this
theorem d_short34 {A : AW} {p c : Nat} (l : List Sen) (need sil : Int) (hl : l.length ≤ 9223372036854775807) (hp : A.rd p 0 (senC l).length = some (senC l)) :
    AC Tryd.prog 34 [.agg #[.slice (some ⟨p, 0, none⟩) l.length c, .int .i64 need, .int .i64 sil]] A (fun v A1 => (∃ b, v = .bool b ∧ (b = true → l.length ≤ 5 ∨ l.length = 9)) ∧ A1 = A) := by
  obtain ⟨fj, hflat⟩ := senC_flat l
  refine AC.pureX (R := fun v => ∃ b, v = .bool b ∧ (b = true → l.length ≤ 5 ∨ l.length = 9)) (SmallX.nil.cons (k := 0) (b := p) (f := 0) (o := .cells (senC l) 43) (.flat hp hflat)) (args := [.agg #[.slice (some ⟨0, 0, none⟩) l.length c, .int .i64 need, .int .i64 sil]]) (AC.mono (d_short34s l c need sil hl) ?_) (.agg (.sl rfl rfl (.flat (k := 8) rfl (.flat (k := 8) rfl .nil))) .nil)
  rintro v A1 ⟨b, rfl, h⟩
  exact ⟨⟨b, rfl, h⟩, 8, rfl⟩
theorem d_plant35 {A : AW} {p c : Nat} (l : List Sen) (need sil : Int) (hl : l.length ≤ 9223372036854775807) (hp : A.rd p 0 (senC l).length = some (senC l)) :
    AC Tryd.prog 35 [.agg #[.slice (some ⟨p, 0, none⟩) l.length c, .int .i64 need, .int .i64 sil]] A (fun v A1 => (∃ e, v = .int .i64 e ∧ (e = 0 → PlantOk l need sil)) ∧ A1 = A) := by
  obtain ⟨fj, hflat⟩ := senC_flat l
  refine AC.pureX (R := fun v => ∃ e, v = .int .i64 e ∧ (e = 0 → PlantOk l need sil)) (SmallX.nil.cons (k := 0) (b := p) (f := 0) (o := .cells (senC l) 43) (.flat hp hflat)) (args := [.agg #[.slice (some ⟨0, 0, none⟩) l.length c, .int .i64 need, .int .i64 sil]]) (AC.mono (d_plant35s l c need sil hl) ?_) (.agg (.sl rfl rfl (.flat (k := 8) rfl (.flat (k := 8) rfl .nil))) .nil)
  rintro v A1 ⟨b, rfl, h⟩
  exact ⟨⟨b, rfl, h⟩, 8, rfl⟩
theorem d_ready6s (l : List Sen) (c : Nat) (need sil : Int) (x : Fault) (hl : l.length ≤ 9223372036854775807) :
    AC Tryd.prog 6 [.agg #[.slice (some ⟨0, 0, none⟩) l.length c, .int .i64 need, .int .i64 sil], x.val] (AW.of [(0, .cells (senC l) 43)] 1 1 0) (fun v _ => ∃ b, v = .bool b ∧ (b = true → Ready l need sil x)) := by
  obtain ⟨fj, hflat⟩ := senC_flat l
  have hlen := senC_len l
  refine AC.go Tryd.func6 rfl rfl ?_
  repeat' (first
  | (refine GL.any rfl rfl rfl (GO.call rfl rfl Tryd.func34 rfl rfl rfl (d_short34 _ _ _ hl (rd_self rfl))) ?_; rintro v A1 ⟨⟨b34, rfl, hb34⟩, rfl⟩; refine ⟨_, _, rfl, ?_⟩)
  | (refine GL.any rfl rfl rfl (GO.call rfl rfl Tryd.func35 rfl rfl rfl (d_plant35 _ _ _ hl (rd_self rfl))) ?_; rintro v A1 ⟨⟨e35, rfl, he35⟩, rfl⟩; refine ⟨_, _, rfl, ?_⟩)
  | exact ⟨false, rfl, fun h => by cases h⟩
  | refine GL.sf rfl rfl rfl rfl ?_
  | refine GL.sv rfl rfl rfl rfl ?_
  | refine GL.done ?_
  | refine GP.thenN ?_
  | refine GT.seq ?_
  | refine GT.region ?_
  | refine GL.unguardG rfl rfl rfl ?_
  | refine GL.skipG rfl rfl rfl rfl rfl ?_
  | refine GL.v rfl rfl rfl (by exact GO.call rfl rfl Tryd.func36 rfl rfl rfl (d_signal36 _ _ _ _ _ _)) ?_
  | refine GT.skip ?_
  | refine GT.block ?_
  | refine GT.ret ?_
  | refine GP.thenR ?_
  | refine GT.condT rfl ?_
  | (refine GT.condN rfl (fun h => ?_) (fun h => ?_) <;> try (exfalso; omega))
  | (refine GL.forkDG rfl rfl rfl (fun h => ?_) (fun h => ?_) <;> try (exfalso; omega))
  | (refine GL.forkNG rfl rfl rfl (fun h => ?_) (fun h => ?_) <;> try (exfalso; omega))
  | (refine GL.forkBG rfl rfl rfl (fun h => ?_) (fun h => ?_))
  | refine GP.endR1 rfl ?_)
  refine GT.unroll 6 ?_
  repeat' (first
  | exact ⟨false, rfl, fun h => by cases h⟩
  | refine GL.sf rfl rfl rfl rfl ?_
  | refine GL.sv rfl rfl rfl rfl ?_
  | refine GL.sn rfl rfl rfl ?_
  | refine GL.done ?_
  | refine GP.thenN ?_
  | refine GT.seq ?_
  | refine GT.region ?_
  | refine GL.v rfl rfl rfl (by first | exact GO.call rfl rfl Tryd.func37 rfl rfl rfl (d_receiver37 _ _ _ _ _) | exact GO.add rfl rfl rfl (by omega)) ?_
  | refine GT.skip ?_
  | refine GT.block ?_
  | refine GT.ret ?_
  | refine GT.exit ?_
  | refine GP.thenR ?_
  | refine GP.thenE ?_
  | refine GP.inN ?_
  | refine GP.inR ?_
  | refine GP.hit ?_
  | refine GP.againN ?_
  | refine GP.againR ?_
  | refine GP.againE ?_
  | refine GU.step ?_
  | refine GT.condT rfl ?_
  | refine GT.condF rfl ?_
  | (refine GT.condN rfl (fun h => ?_) (fun h => ?_) <;> try (exfalso; omega))
  | refine GP.endR1 rfl ?_)
  have hpl := he35 (by assumption)
  have h5 : l.length ≤ 5 := by omega
  refine GT.loop (fun q a L nx => ∃ i : Nat, i ≤ l.length ∧ q = l.length - i ∧ asub [(45, .slice (some ⟨0, 0, none⟩) l.length c), (46, .int .i64 l.length), (47, .int .i64 i)] a ∧ subm [(0, .cells (senC l) 43)] L ∧ 1 ≤ nx ∧ (∀ (j : Nat) (y : Sen), j < i → l[j]? = some y → y.hi < 10000)) l.length
    ⟨0, by omega, by omega, asub_cons rfl (asub_cons rfl (asub_cons rfl asub_nil)), subm_cons rfl subm_nil, by decide, fun j x h => by omega⟩ ?_
  rintro q a L nx ⟨i, hi, rfl, hs, hsub, hnx, hlow⟩
  refine GT.resetL 1 hs hsub hnx rfl rfl (Under.look (.cons rfl (Lt.flat hflat) .nil)) (.cons (.sl rfl) (.cons (.flat (j := 8) rfl) (.cons (.flat (j := 8) rfl) .nil))) (fun g hg => absurd hg (Nat.not_lt_zero g)) ?_
  clear hs hsub hnx
  rcases Nat.lt_or_ge i l.length with hlt | hge
  · obtain ⟨y, hy⟩ : ∃ y, l[i]? = some y := ⟨_, List.getElem?_eq_getElem hlt⟩
    have g5 : ((senC l).drop (0 + (i : Int).toNat * 5)).take 5 = [.string y.s, .string y.k, .int .i64 y.lo, .int .i64 y.hi, .int .i64 y.d] := by simpa using senC_five l i y hy
    have hcut : 5 * i + 5 ≤ (senC l).length := by omega
    repeat' (first
    | exact ⟨false, rfl, fun h => by cases h⟩
    | refine GL.sf rfl rfl rfl rfl ?_
    | refine GL.sn rfl rfl rfl ?_
    | refine GL.done ?_
    | refine GP.thenN ?_
    | refine GT.seq ?_
    | refine GT.region ?_
    | refine GL.v rfl rfl rfl (by first | exact GO.indexS (s := 5) rfl rfl rfl rfl rfl (by omega) | exact GO.loadG (s := 5) rfl rfl rfl rfl rfl rfl (by omega) g5 | exact GO.add rfl rfl rfl (by omega)) ?_
    | refine GT.skip ?_
    | refine GT.block ?_
    | refine GT.ret ?_
    | refine GP.thenR ?_
    | refine GP.inN ?_
    | refine GP.inR ?_
    | refine GP.invR ?_
    | (refine GT.condD rfl (fun h => ?_) (fun h => ?_) <;> try (exfalso; omega))
    | refine GP.endR1 rfl ?_)
    exact GP.invN (l.length - (i + 1)) (by omega) ⟨i + 1, by omega, rfl, asub_cons rfl (asub_cons rfl (asub_cons rfl asub_nil)), subm_cons rfl subm_nil, by decide, fun j z hj hz => by
      rcases Nat.lt_or_ge j i with q | q
      · exact hlow j z q hz
      · obtain rfl : j = i := by omega
        rw [hy] at hz; cases hz
        omega⟩
  · obtain rfl : i = l.length := by omega
    repeat' (first
    | refine GL.sf rfl rfl rfl rfl ?_
    | refine GL.done ?_
    | refine GP.thenN ?_
    | refine GT.seq ?_
    | refine GT.region ?_
    | refine GT.ret ?_
    | refine GT.exit ?_
    | refine GP.thenE ?_
    | refine GP.hit ?_
    | refine GP.invE ?_
    | (refine GT.condD rfl (fun h => ?_) (fun h => ?_) <;> try (exfalso; omega))
    | refine GP.endR1 rfl ?_)
    exact ⟨true, rfl, fun _ => ⟨hpl, h5, signal_ok (by assumption), signal_ok (by assumption), receiver_ok (by assumption), receiver_ok (by assumption), receiver_ok (by assumption), receiver_ok (by assumption), receiver_ok (by assumption), fun j z hz => hlow j z (List.getElem?_eq_some_iff.1 hz).1 hz⟩⟩
/-- In any memory. -/
theorem d_ready6 {A : AW} {p c : Nat} (l : List Sen) (need sil : Int) (x : Fault) (hl : l.length ≤ 9223372036854775807) (hp : A.rd p 0 (senC l).length = some (senC l)) :
    AC Tryd.prog 6 [.agg #[.slice (some ⟨p, 0, none⟩) l.length c, .int .i64 need, .int .i64 sil], x.val] A (fun v A1 => (∃ b, v = .bool b ∧ (b = true → Ready l need sil x)) ∧ A1 = A) := by
  obtain ⟨fj, hflat⟩ := senC_flat l
  refine AC.pureX (R := fun v => ∃ b, v = .bool b ∧ (b = true → Ready l need sil x)) (SmallX.nil.cons (k := 0) (b := p) (f := 0) (o := .cells (senC l) 43) (.flat hp hflat)) (args := [.agg #[.slice (some ⟨0, 0, none⟩) l.length c, .int .i64 need, .int .i64 sil], x.val]) (AC.mono (d_ready6s l c need sil x hl) ?_) (.agg (.sl rfl rfl (.flat (k := 8) rfl (.flat (k := 8) rfl .nil))) (.flat (k := 64) rfl .nil))
  rintro v A1 ⟨b, rfl, h⟩
  exact ⟨⟨b, rfl, h⟩, 8, rfl⟩
end Go.M
