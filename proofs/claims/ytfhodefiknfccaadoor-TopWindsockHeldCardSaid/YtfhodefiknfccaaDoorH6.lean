/- Functions of the given program, walked (no condition beyond what each theorem says). -/
import Derived.Test.YtfhodefiknfccaaDoorH5
import Derived.Test.YtfhodefiknfccaaDoorA6
set_option linter.unusedVariables false
set_option linter.unusedSimpArgs false
namespace Go.M
open Go.Proofs Go.RowKit
set_option maxRecDepth 8000
set_option maxHeartbeats 8000000
theorem bytes_differ {a b : ByteArray} (h : (a.data.toList == b.data.toList) = false) : (b == a) = false := by
  cases q : (b == a) with
  | false => rfl
  | true =>
    have e : b = a := bytes_eq q
    subst e
    simp at h
theorem hasS_no {nm : Nat → ByteArray} {i : Nat} {s : ByteArray} (h : hasS ((List.range i).map nm) s = false) : ∀ j, j < i → (s == nm j) = false := fun j hj => by
  unfold hasS at h
  rw [List.any_eq_false] at h
  have := h (nm j) (List.mem_map.2 ⟨j, List.mem_range.2 hj, rfl⟩)
  exact bytes_differ (by simpa using this)
theorem fit4 {n i : Nat} (h : 4 * i + 4 ≤ n) : 0 + (i : Int).toNat * 4 + 2 ^ 1 + 2 ≤ n := by omega
abbrev nmC (nm : Nat → ByteArray) (i : Nat) : List Value := ((List.range i).map nm).map Value.string
theorem nmC_succ {nm : Nat → ByteArray} {i : Nat} : nmC nm (i + 1) = nmC nm i ++ [.string (nm i)] := by
  unfold nmC; rw [List.range_succ, List.map_append, List.map_append]; rfl
theorem nmC_len {nm : Nat → ByteArray} {i : Nat} : (nmC nm i).length = i := by simp [nmC]
theorem w_list19s (l : List Ld) (c : Nat) (hl : l.length ≤ 1000) : AC Tryd.prog 19 [.slice (some ⟨0, 0, none⟩) l.length c] (AW.of [(0, .cells (ldC l) 159)] 1 1 0) (fun v _ => ∃ e, v = .int .i64 e ∧ (e = 0 → LdOk l)) := by
  obtain ⟨fj, hflat⟩ := ldC_flat l
  have hlen := ldC_len l
  refine AC.go Tryd.func19 rfl rfl ?_
  repeat' (first
  | exact ⟨5, rfl, fun h => by cases h⟩
  | refine GL.sf rfl rfl rfl rfl ?_
  | refine GL.sv rfl rfl rfl rfl ?_
  | refine GL.done ?_
  | refine GP.thenN ?_
  | refine GT.seq ?_
  | refine GT.region ?_
  | refine GT.skip ?_
  | refine GT.block ?_
  | refine GT.ret ?_
  | refine GP.thenR ?_
  | (refine GT.condD rfl (fun h => ?_) (fun h => ?_) <;> try (exfalso; omega))
  | refine GP.endR1 rfl ?_)
  refine GT.loop (fun q a L nx => ∃ i : Nat, i ≤ l.length ∧ q = l.length - i ∧ 1 ≤ nx ∧ (∀ (j : Nat) (y : Ld), j < i → l[j]? = some y → y.Ok) ∧ (∀ (k j : Nat) (y z : Ld), j < k → k < i → l[k]? = some y → l[j]? = some z → (y.s == z.s) = false) ∧
      asub [(0, .slice (some ⟨0, 0, none⟩) l.length c), (4, .int .i64 i)] a ∧ subm [(0, .cells (ldC l) 159)] L ∧
      ((i = 0 ∧ aget a 3 = some (.slice none 0 0)) ∨ ∃ o, 0 < i ∧ 1 ≤ o ∧ alook L o = some (.cells (nmC (ldNm l) i) 9) ∧ aget a 3 = some (.slice (some ⟨o, 0, none⟩) i i))) l.length
    ⟨0, by omega, by omega, Nat.le_of_ble_eq_true rfl, fun j y hj => by omega, fun k j y z _ hk => by omega, asub_cons rfl (asub_cons rfl asub_nil), subm_cons rfl subm_nil, .inl ⟨rfl, rfl⟩⟩ ?_
  rintro q a L nx ⟨i, hi, rfl, hnx, hok, hne, hs, hsub, hcase⟩
  have hU : ∀ j y, alook [(0, .cells (ldC l) 159)] j = some y → j < 1 ∧ ObjLt 1 y := Under.look (.cons rfl (Lt.flat hflat) .nil)
  have hE : EnvLt 1 [(0, .slice (some ⟨0, 0, none⟩) l.length c), (4, .int .i64 i)] := .cons (.sl rfl) (.cons (.flat (j := 8) rfl) .nil)
  rcases Nat.lt_or_ge i l.length with hlt | hge
  · obtain ⟨x, hx⟩ : ∃ x, l[i]? = some x := ⟨_, List.getElem?_eq_getElem hlt⟩
    have hnm : ldNm l i = x.s := by unfold ldNm; rw [hx]
    have g0 : (ldC l)[0 + (i : Int).toNat * 4]? = some (.string x.s) := by
      have := congrArg (·[0]?) (ldC_at l i x hx)
      simpa [List.getElem?_take, List.getElem?_drop] using this
    have g1 : (ldC l)[0 + (i : Int).toNat * 4 + 1]? = some (.int .i64 x.ct) := by
      have := congrArg (·[1]?) (ldC_at l i x hx)
      simpa [List.getElem?_take, List.getElem?_drop] using this
    have hcut : 4 * i + 4 ≤ (ldC l).length := by omega
    have g2 : ((ldC l).drop (0 + (i : Int).toNat * 4 + 2)).take 2 = [.int .i64 x.a, .int .i64 x.b] := by
      have := congrArg (fun z => (z.drop 2).take 2) (ldC_at l i x hx)
      simpa [List.drop_take, List.drop_drop, List.take_take] using this
    have next : x.Ok → (∀ j, j < i → (x.s == ldNm l j) = false) → (∀ (j : Nat) (y : Ld), j < i + 1 → l[j]? = some y → y.Ok) ∧ (∀ (k j : Nat) (y z : Ld), j < k → k < i + 1 → l[k]? = some y → l[j]? = some z → (y.s == z.s) = false) := fun h1 h2 => by
      refine ⟨fun j y hj hy => ?_, fun k j y z hjk hk hy hz => ?_⟩
      · rcases Nat.lt_or_ge j i with q | q
        · exact hok j y q hy
        · obtain rfl : j = i := by omega
          rw [hx] at hy; cases hy; exact h1
      · rcases Nat.lt_or_ge k i with q | q
        · exact hne k j y z hjk q hy hz
        · obtain rfl : k = i := by omega
          rw [hx] at hy; cases hy
          have := h2 j hjk
          unfold ldNm at this
          rw [hz] at this; exact this
    rcases hcase with ⟨h0, h3⟩ | ⟨o, hpos, ho, hob, h3⟩
    · refine GT.resetL (a1 := (3, .slice none 0 0) :: [(0, .slice (some ⟨0, 0, none⟩) l.length c), (4, .int .i64 i)]) 1 (asub_cons h3 hs) hsub hnx rfl rfl hU (.cons (.flat (j := 8) rfl) hE) (fun g hg => absurd hg (Nat.not_lt_zero g)) ?_
      clear hs hsub hnx h3
      repeat' (first
      | refine GT.draws (id := 7) [[], [], [0, 1], [0, 1, 2], [0, 1, 2, 3], [0, 1, 2, 3, 4], [], [], [], [7, 8], [7, 8, 9], [7, 8, 9, 10], [0, 1, 2, 3, 4, 5, 6, 7, 8, 9, 10, 11], [0, 1, 2, 3, 4, 5, 6, 7, 8, 9, 10, 11, 12], [], [], [14, 15], [14, 15, 16], [14, 15, 16, 17], [0, 1, 2, 3, 4, 5, 6, 7, 8, 9, 10, 11, 12, 13, 14, 15, 16, 17, 18], [], [], [20, 21], [20, 21, 22], [20, 21, 22, 23], [0, 1, 2, 3, 4, 5, 6, 7, 8, 9, 10, 11, 12, 13, 14, 15, 16, 17, 18, 19, 20, 21, 22, 23, 24], [0, 1, 2, 3, 4, 5, 6, 7, 8, 9, 10, 11, 12, 13, 14, 15, 16, 17, 18, 19, 20, 21, 22, 23, 24, 25], [0, 1, 2, 3, 4, 5, 6, 7, 8, 9, 10, 11, 12, 13, 14, 15, 16, 17, 18, 19, 20, 21, 22, 23, 24, 25, 26], [0, 1, 2, 3, 4, 5, 6, 7, 8, 9, 10, 11, 12, 13, 14, 15, 16, 17, 18, 19, 20, 21, 22, 23, 24, 25, 26, 27]] [26] (by kernel_rfl) ?_
      | exact ⟨_, rfl, fun q => absurd q h⟩
      | refine GL.sf rfl rfl rfl rfl ?_
      | refine GL.sv rfl rfl rfl rfl ?_
      | refine GL.done ?_
      | refine GP.thenN ?_
      | refine GT.seq ?_
      | refine GT.region ?_
      | refine GD.li rfl rfl (by exact onAt.none rfl) rfl (by repeat first | exact AllG.nil rfl | refine AllG.cons rfl (by first | exact GO.sf rfl rfl | exact GO.sv rfl rfl | exact GO.indexS (s := 4) rfl rfl rfl rfl rfl (by omega) | exact GO.loadC rfl rfl rfl rfl rfl g0 | exact GO.loadC rfl rfl rfl rfl rfl g1 | exact GO.loadG (s := 2) rfl rfl rfl rfl rfl rfl (fit4 hcut) g2 | exact GO.call rfl rfl Tryd.func57 rfl rfl rfl (w_category57 _) | exact GO.call rfl rfl Tryd.func60 rfl rfl rfl (w_ticks60 _ _) | exact GO.call rfl rfl Tryd.func54 rfl rfl rfl (w_name54 _) | exact GO.call rfl rfl Tryd.func26 rfl rfl rfl (w_word26n _) | exact GO.call rfl rfl Tryd.func55 rfl rfl rfl (d_when55 _ _) | exact GO.call rfl rfl Tryd.func53 rfl rfl rfl (d_first53 [whenI (!nameB x.s) 8, whenI false 9, whenI (withinB x.ct 1 3) 3, whenI (ticksB x.a x.b) 14] rfl rfl rfl)) ?_) ?_
      | refine GD.he rfl rfl rfl (by exact onAt.none rfl) rfl (by exact GO.sf rfl rfl) ?_ ?_
      | refine GD.done rfl rfl rfl ?_
      | exact AllJs.nil rfl
      | refine GL.v rfl rfl rfl (by first | exact GO.indexS (s := 4) rfl rfl rfl rfl rfl (by omega) | exact GO.loadC rfl rfl rfl rfl rfl g0 | exact GO.add rfl rfl rfl (by omega)) ?_
      | refine GT.skip ?_
      | refine GT.block ?_
      | refine GT.ret ?_
      | refine GP.thenR ?_
      | refine GP.inN ?_
      | refine GP.inR ?_
      | refine GP.invR ?_
      | (refine GT.condD rfl (fun h => ?_) (fun h => ?_) <;> try (exfalso; omega))
      | (refine GT.condN rfl (fun h => ?_) (fun h => ?_) <;> try (exfalso; omega))
      | refine GP.endR1 rfl ?_)
      have k := of_firstNZ h
      simp only [List.mem_cons, List.not_mem_nil, or_false, forall_eq_or_imp, forall_eq] at k
      have hn := next ⟨name_of k.1, of_withinB (of_whenI k.2.2.1 (by decide)), span_ok k.2.2.2⟩ (fun j hj => by omega)
      exact GP.invN (l.length - (i + 1)) (by omega) ⟨i + 1, by omega, rfl, Nat.le_of_ble_eq_true rfl, hn.1, hn.2, asub_cons rfl (asub_cons rfl asub_nil), subm_cons rfl subm_nil, .inr ⟨3, by omega, Nat.le_of_ble_eq_true rfl, by subst h0; rw [nmC_succ, hnm]; rfl, by subst h0; rfl⟩⟩
    · refine GT.resetE (L' := [(0, .cells (ldC l) 159)]) 1 o (u' := .slice (some ⟨1, 0, none⟩) i i) hs hsub rfl rfl rfl hU hE ho trivial hob (strC_flat _) h3 (fun ρ h1 h2 => .sl h2) rfl ?_
      clear hs hsub hnx h3 ho hob
      have k26 := fun {A : AW} {b c : Nat} hb => w_word26 (A := A) (b := b) (c := c) ((List.range i).map (ldNm l)) x.s (by simp; omega) hb
      rw [show ((List.range i).map (ldNm l)).length = i by simp] at k26
      have hnl : (nmC (ldNm l) i).length = i * 1 := by rw [nmC_len]; omega
      repeat' (first
      | refine GT.draws (id := 7) [[], [], [0, 1], [0, 1, 2], [0, 1, 2, 3], [0, 1, 2, 3, 4], [], [], [], [7, 8], [7, 8, 9], [7, 8, 9, 10], [0, 1, 2, 3, 4, 5, 6, 7, 8, 9, 10, 11], [0, 1, 2, 3, 4, 5, 6, 7, 8, 9, 10, 11, 12], [], [], [14, 15], [14, 15, 16], [14, 15, 16, 17], [0, 1, 2, 3, 4, 5, 6, 7, 8, 9, 10, 11, 12, 13, 14, 15, 16, 17, 18], [], [], [20, 21], [20, 21, 22], [20, 21, 22, 23], [0, 1, 2, 3, 4, 5, 6, 7, 8, 9, 10, 11, 12, 13, 14, 15, 16, 17, 18, 19, 20, 21, 22, 23, 24], [0, 1, 2, 3, 4, 5, 6, 7, 8, 9, 10, 11, 12, 13, 14, 15, 16, 17, 18, 19, 20, 21, 22, 23, 24, 25], [0, 1, 2, 3, 4, 5, 6, 7, 8, 9, 10, 11, 12, 13, 14, 15, 16, 17, 18, 19, 20, 21, 22, 23, 24, 25, 26], [0, 1, 2, 3, 4, 5, 6, 7, 8, 9, 10, 11, 12, 13, 14, 15, 16, 17, 18, 19, 20, 21, 22, 23, 24, 25, 26, 27]] [26] (by kernel_rfl) ?_
      | exact ⟨_, rfl, fun q => absurd q h⟩
      | refine GL.sf rfl rfl rfl rfl ?_
      | refine GL.sv rfl rfl rfl rfl ?_
      | refine GL.done ?_
      | refine GP.thenN ?_
      | refine GT.seq ?_
      | refine GT.region ?_
      | refine GD.li rfl rfl (by exact onAt.none rfl) rfl (by repeat first | exact AllG.nil rfl | refine AllG.cons rfl (by first | exact GO.sf rfl rfl | exact GO.sv rfl rfl | exact GO.indexS (s := 4) rfl rfl rfl rfl rfl (by omega) | exact GO.loadC rfl rfl rfl rfl rfl g0 | exact GO.loadC rfl rfl rfl rfl rfl g1 | exact GO.loadG (s := 2) rfl rfl rfl rfl rfl rfl (fit4 hcut) g2 | exact GO.call rfl rfl Tryd.func57 rfl rfl rfl (w_category57 _) | exact GO.call rfl rfl Tryd.func60 rfl rfl rfl (w_ticks60 _ _) | exact GO.call rfl rfl Tryd.func54 rfl rfl rfl (w_name54 _) | exact GO.call rfl rfl Tryd.func26 rfl rfl rfl (k26 (rd_self rfl)) | exact GO.call rfl rfl Tryd.func55 rfl rfl rfl (d_when55 _ _) | exact GO.call rfl rfl Tryd.func53 rfl rfl rfl (d_first53 [whenI (!nameB x.s) 8, whenI (hasS ((List.range i).map (ldNm l)) x.s) 9, whenI (withinB x.ct 1 3) 3, whenI (ticksB x.a x.b) 14] rfl rfl rfl)) ?_) ?_
      | refine GD.he rfl rfl rfl (by exact onAt.none rfl) rfl (by exact GO.sf rfl rfl) ?_ ?_
      | refine GD.done rfl rfl rfl ?_
      | exact AllJs.nil rfl
      | refine GL.v rfl rfl rfl (by first | exact GO.indexS (s := 4) rfl rfl rfl rfl rfl (by omega) | exact GO.loadC rfl rfl rfl rfl rfl g0 | exact GO.appendN (olds := nmC (ldNm l) i) rfl rfl rfl rfl rfl rfl rfl rfl rfl rfl rfl rfl rfl rfl hnl (Nat.le_of_ble_eq_true rfl) rfl (Nat.le_of_ble_eq_true rfl) (Nat.le_of_ble_eq_true rfl) (Nat.le_trans (m := 1000 + 8) (Nat.add_le_add (by omega) (Nat.le_of_ble_eq_true rfl)) (Nat.le_of_ble_eq_true rfl)) | exact GO.add rfl rfl rfl (by omega)) ?_
      | refine GT.skip ?_
      | refine GT.block ?_
      | refine GT.ret ?_
      | refine GP.thenR ?_
      | refine GP.inN ?_
      | refine GP.inR ?_
      | refine GP.invR ?_
      | (refine GT.condD rfl (fun h => ?_) (fun h => ?_) <;> try (exfalso; omega))
      | (refine GT.condN rfl (fun h => ?_) (fun h => ?_) <;> try (exfalso; omega))
      | refine GP.endR1 rfl ?_)
      have k := of_firstNZ h
      simp only [List.mem_cons, List.not_mem_nil, or_false, forall_eq_or_imp, forall_eq] at k
      have hn := next ⟨name_of k.1, of_withinB (of_whenI k.2.2.1 (by decide)), span_ok k.2.2.2⟩ (hasS_no (of_whenI k.2.1 (by decide)))
      exact GP.invN (l.length - (i + 1)) (by omega) ⟨i + 1, by omega, rfl, Nat.le_of_ble_eq_true rfl, hn.1, hn.2, asub_cons rfl (asub_cons rfl asub_nil), subm_cons rfl subm_nil, .inr ⟨4, by omega, Nat.le_of_ble_eq_true rfl, by rw [nmC_succ, hnm]; rfl, rfl⟩⟩
  · obtain rfl : i = l.length := by omega
    refine GT.resetL 1 hs hsub hnx rfl rfl hU hE (fun g hg => absurd hg (Nat.not_lt_zero g)) ?_
    repeat' (first
    | refine GL.sf rfl rfl rfl rfl ?_
    | refine GL.sv rfl rfl rfl rfl ?_
    | refine GL.done ?_
    | refine GP.thenN ?_
    | refine GT.seq ?_
    | refine GT.region ?_
    | refine GT.ret ?_
    | refine GT.exit ?_
    | refine GP.thenE ?_
    | refine GP.hit ?_
    | refine GP.invE ?_
    | (refine GT.condD rfl (fun h => ?_) (fun h => ?_) <;> try (exfalso; omega))
    | refine GP.endR1 rfl ?_)
    exact ⟨0, rfl, fun _ => ⟨fun j y hy => hok j y (List.getElem?_eq_some_iff.1 hy).1 hy, fun k j y z hjk hy hz => hne k j y z hjk (List.getElem?_eq_some_iff.1 hy).1 hy hz⟩⟩
theorem w_list19 {A : AW} {p c : Nat} (l : List Ld) (hl : l.length ≤ 1000) (hp : A.rd p 0 (ldC l).length = some (ldC l)) : AC Tryd.prog 19 [.slice (some ⟨p, 0, none⟩) l.length c] A (fun v A1 => (∃ e, v = .int .i64 e ∧ (e = 0 → LdOk l)) ∧ A1 = A) := by
  obtain ⟨fj, hflat⟩ := ldC_flat l
  refine AC.pureX (R := fun v => ∃ e, v = .int .i64 e ∧ (e = 0 → LdOk l)) (SmallX.nil.cons (k := 0) (b := p) (f := 0) (o := .cells (ldC l) 159) (.flat hp hflat)) (args := [.slice (some ⟨0, 0, none⟩) l.length c]) (AC.mono (w_list19s l c hl) ?_) (.sl rfl rfl .nil)
  rintro v A1 ⟨b, rfl, h⟩
  exact ⟨⟨b, rfl, h⟩, 8, rfl⟩
theorem w_list21s (l : List Mv) (c : Nat) (hl : l.length ≤ 1000) : AC Tryd.prog 21 [.slice (some ⟨0, 0, none⟩) l.length c] (AW.of [(0, .cells (mvC l) 112)] 1 1 0) (fun v _ => ∃ e, v = .int .i64 e ∧ (e = 0 → MvOk l)) := by
  obtain ⟨fj, hflat⟩ := mvC_flat l
  have hlen := mvC_len l
  refine AC.go Tryd.func21 rfl rfl ?_
  repeat' (first
  | exact ⟨5, rfl, fun h => by cases h⟩
  | refine GL.sf rfl rfl rfl rfl ?_
  | refine GL.sv rfl rfl rfl rfl ?_
  | refine GL.done ?_
  | refine GP.thenN ?_
  | refine GT.seq ?_
  | refine GT.region ?_
  | refine GT.skip ?_
  | refine GT.block ?_
  | refine GT.ret ?_
  | refine GP.thenR ?_
  | (refine GT.condD rfl (fun h => ?_) (fun h => ?_) <;> try (exfalso; omega))
  | refine GP.endR1 rfl ?_)
  refine GT.loop (fun q a L nx => ∃ i : Nat, i ≤ l.length ∧ q = l.length - i ∧ 1 ≤ nx ∧ (∀ (j : Nat) (y : Mv), j < i → l[j]? = some y → y.Ok) ∧ (∀ (k j : Nat) (y z : Mv), j < k → k < i → l[k]? = some y → l[j]? = some z → (y.s == z.s) = false) ∧
      asub [(0, .slice (some ⟨0, 0, none⟩) l.length c), (4, .int .i64 i)] a ∧ subm [(0, .cells (mvC l) 112)] L ∧
      ((i = 0 ∧ aget a 3 = some (.slice none 0 0)) ∨ ∃ o, 0 < i ∧ 1 ≤ o ∧ alook L o = some (.cells (nmC (mvNm l) i) 9) ∧ aget a 3 = some (.slice (some ⟨o, 0, none⟩) i i))) l.length
    ⟨0, by omega, by omega, Nat.le_of_ble_eq_true rfl, fun j y hj => by omega, fun k j y z _ hk => by omega, asub_cons rfl (asub_cons rfl asub_nil), subm_cons rfl subm_nil, .inl ⟨rfl, rfl⟩⟩ ?_
  rintro q a L nx ⟨i, hi, rfl, hnx, hok, hne, hs, hsub, hcase⟩
  have hU : ∀ j y, alook [(0, .cells (mvC l) 112)] j = some y → j < 1 ∧ ObjLt 1 y := Under.look (.cons rfl (Lt.flat hflat) .nil)
  have hE : EnvLt 1 [(0, .slice (some ⟨0, 0, none⟩) l.length c), (4, .int .i64 i)] := .cons (.sl rfl) (.cons (.flat (j := 8) rfl) .nil)
  rcases Nat.lt_or_ge i l.length with hlt | hge
  · obtain ⟨x, hx⟩ : ∃ x, l[i]? = some x := ⟨_, List.getElem?_eq_getElem hlt⟩
    have hnm : mvNm l i = x.s := by unfold mvNm; rw [hx]
    have g0 : (mvC l)[0 + (i : Int).toNat * 8]? = some (.string x.s) := by
      have := congrArg (·[0]?) (mvC_at l i x hx)
      simpa [List.getElem?_take, List.getElem?_drop] using this
    have g1 : ((mvC l).drop (0 + (i : Int).toNat * 8)).take 8 = x.vs := by simpa using mvC_at l i x hx
    have next : x.Ok → (∀ j, j < i → (x.s == mvNm l j) = false) → (∀ (j : Nat) (y : Mv), j < i + 1 → l[j]? = some y → y.Ok) ∧ (∀ (k j : Nat) (y z : Mv), j < k → k < i + 1 → l[k]? = some y → l[j]? = some z → (y.s == z.s) = false) := fun h1 h2 => by
      refine ⟨fun j y hj hy => ?_, fun k j y z hjk hk hy hz => ?_⟩
      · rcases Nat.lt_or_ge j i with q | q
        · exact hok j y q hy
        · obtain rfl : j = i := by omega
          rw [hx] at hy; cases hy; exact h1
      · rcases Nat.lt_or_ge k i with q | q
        · exact hne k j y z hjk q hy hz
        · obtain rfl : k = i := by omega
          rw [hx] at hy; cases hy
          have := h2 j hjk
          unfold mvNm at this
          rw [hz] at this; exact this
    rcases hcase with ⟨h0, h3⟩ | ⟨o, hpos, ho, hob, h3⟩
    · refine GT.resetL (a1 := (3, .slice none 0 0) :: [(0, .slice (some ⟨0, 0, none⟩) l.length c), (4, .int .i64 i)]) 1 (asub_cons h3 hs) hsub hnx rfl rfl hU (.cons (.flat (j := 8) rfl) hE) (fun g hg => absurd hg (Nat.not_lt_zero g)) ?_
      clear hs hsub hnx h3
      repeat' (first
      | refine GT.draws (id := 7) [[], [], [0, 1], [0, 1, 2], [0, 1, 2, 3], [0, 1, 2, 3, 4], [], [], [], [7, 8], [7, 8, 9], [7, 8, 9, 10], [0, 1, 2, 3, 4, 5, 6, 7, 8, 9, 10, 11], [0, 1, 2, 3, 4, 5, 6, 7, 8, 9, 10, 11, 12], [], [], [14, 15], [14, 15, 16], [0, 1, 2, 3, 4, 5, 6, 7, 8, 9, 10, 11, 12, 13, 14, 15, 16, 17], [0, 1, 2, 3, 4, 5, 6, 7, 8, 9, 10, 11, 12, 13, 14, 15, 16, 17, 18], [0, 1, 2, 3, 4, 5, 6, 7, 8, 9, 10, 11, 12, 13, 14, 15, 16, 17, 18, 19], [0, 1, 2, 3, 4, 5, 6, 7, 8, 9, 10, 11, 12, 13, 14, 15, 16, 17, 18, 19, 20]] [19] (by kernel_rfl) ?_
      | exact ⟨_, rfl, fun q => absurd q h⟩
      | refine GL.sf rfl rfl rfl rfl ?_
      | refine GL.sv rfl rfl rfl rfl ?_
      | refine GL.done ?_
      | refine GP.thenN ?_
      | refine GT.seq ?_
      | refine GT.region ?_
      | refine GD.li rfl rfl (by exact onAt.none rfl) rfl (by repeat first | exact AllG.nil rfl | refine AllG.cons rfl (by first | exact GO.sf rfl rfl | exact GO.sv rfl rfl | exact GO.indexS (s := 8) rfl rfl rfl rfl rfl (by omega) | exact GO.loadC rfl rfl rfl rfl rfl g0 | exact GO.loadG (s := 8) rfl rfl rfl rfl rfl rfl (by omega) g1 | exact GO.call rfl rfl Tryd.func61 rfl rfl rfl (w_move61 x) | exact GO.call rfl rfl Tryd.func54 rfl rfl rfl (w_name54 _) | exact GO.call rfl rfl Tryd.func26 rfl rfl rfl (w_word26n _) | exact GO.call rfl rfl Tryd.func55 rfl rfl rfl (d_when55 _ _) | exact GO.call rfl rfl Tryd.func53 rfl rfl rfl (d_first53 [whenI (!nameB x.s) 8, whenI false 9, firstNZ (moveNs x)] rfl rfl rfl)) ?_) ?_
      | refine GD.he rfl rfl rfl (by exact onAt.none rfl) rfl (by exact GO.sf rfl rfl) ?_ ?_
      | refine GD.done rfl rfl rfl ?_
      | exact AllJs.nil rfl
      | refine GL.v rfl rfl rfl (by first | exact GO.indexS (s := 8) rfl rfl rfl rfl rfl (by omega) | exact GO.loadC rfl rfl rfl rfl rfl g0 | exact GO.add rfl rfl rfl (by omega)) ?_
      | refine GT.skip ?_
      | refine GT.block ?_
      | refine GT.ret ?_
      | refine GP.thenR ?_
      | refine GP.inN ?_
      | refine GP.inR ?_
      | refine GP.invR ?_
      | (refine GT.condD rfl (fun h => ?_) (fun h => ?_) <;> try (exfalso; omega))
      | (refine GT.condN rfl (fun h => ?_) (fun h => ?_) <;> try (exfalso; omega))
      | refine GP.endR1 rfl ?_)
      have k := of_firstNZ h
      simp only [List.mem_cons, List.not_mem_nil, or_false, forall_eq_or_imp, forall_eq] at k
      have hn := next (move_ok k.2.2) (fun j hj => by omega)
      exact GP.invN (l.length - (i + 1)) (by omega) ⟨i + 1, by omega, rfl, Nat.le_of_ble_eq_true rfl, hn.1, hn.2, asub_cons rfl (asub_cons rfl asub_nil), subm_cons rfl subm_nil, .inr ⟨3, by omega, Nat.le_of_ble_eq_true rfl, by subst h0; rw [nmC_succ, hnm]; rfl, by subst h0; rfl⟩⟩
    · refine GT.resetE (L' := [(0, .cells (mvC l) 112)]) 1 o (u' := .slice (some ⟨1, 0, none⟩) i i) hs hsub rfl rfl rfl hU hE ho trivial hob (strC_flat _) h3 (fun ρ h1 h2 => .sl h2) rfl ?_
      clear hs hsub hnx h3 ho hob
      have k26 := fun {A : AW} {b c : Nat} hb => w_word26 (A := A) (b := b) (c := c) ((List.range i).map (mvNm l)) x.s (by simp; omega) hb
      rw [show ((List.range i).map (mvNm l)).length = i by simp] at k26
      have hnl : (nmC (mvNm l) i).length = i * 1 := by rw [nmC_len]; omega
      repeat' (first
      | refine GT.draws (id := 7) [[], [], [0, 1], [0, 1, 2], [0, 1, 2, 3], [0, 1, 2, 3, 4], [], [], [], [7, 8], [7, 8, 9], [7, 8, 9, 10], [0, 1, 2, 3, 4, 5, 6, 7, 8, 9, 10, 11], [0, 1, 2, 3, 4, 5, 6, 7, 8, 9, 10, 11, 12], [], [], [14, 15], [14, 15, 16], [0, 1, 2, 3, 4, 5, 6, 7, 8, 9, 10, 11, 12, 13, 14, 15, 16, 17], [0, 1, 2, 3, 4, 5, 6, 7, 8, 9, 10, 11, 12, 13, 14, 15, 16, 17, 18], [0, 1, 2, 3, 4, 5, 6, 7, 8, 9, 10, 11, 12, 13, 14, 15, 16, 17, 18, 19], [0, 1, 2, 3, 4, 5, 6, 7, 8, 9, 10, 11, 12, 13, 14, 15, 16, 17, 18, 19, 20]] [19] (by kernel_rfl) ?_
      | exact ⟨_, rfl, fun q => absurd q h⟩
      | refine GL.sf rfl rfl rfl rfl ?_
      | refine GL.sv rfl rfl rfl rfl ?_
      | refine GL.done ?_
      | refine GP.thenN ?_
      | refine GT.seq ?_
      | refine GT.region ?_
      | refine GD.li rfl rfl (by exact onAt.none rfl) rfl (by repeat first | exact AllG.nil rfl | refine AllG.cons rfl (by first | exact GO.sf rfl rfl | exact GO.sv rfl rfl | exact GO.indexS (s := 8) rfl rfl rfl rfl rfl (by omega) | exact GO.loadC rfl rfl rfl rfl rfl g0 | exact GO.loadG (s := 8) rfl rfl rfl rfl rfl rfl (by omega) g1 | exact GO.call rfl rfl Tryd.func61 rfl rfl rfl (w_move61 x) | exact GO.call rfl rfl Tryd.func54 rfl rfl rfl (w_name54 _) | exact GO.call rfl rfl Tryd.func26 rfl rfl rfl (k26 (rd_self rfl)) | exact GO.call rfl rfl Tryd.func55 rfl rfl rfl (d_when55 _ _) | exact GO.call rfl rfl Tryd.func53 rfl rfl rfl (d_first53 [whenI (!nameB x.s) 8, whenI (hasS ((List.range i).map (mvNm l)) x.s) 9, firstNZ (moveNs x)] rfl rfl rfl)) ?_) ?_
      | refine GD.he rfl rfl rfl (by exact onAt.none rfl) rfl (by exact GO.sf rfl rfl) ?_ ?_
      | refine GD.done rfl rfl rfl ?_
      | exact AllJs.nil rfl
      | refine GL.v rfl rfl rfl (by first | exact GO.indexS (s := 8) rfl rfl rfl rfl rfl (by omega) | exact GO.loadC rfl rfl rfl rfl rfl g0 | exact GO.appendN (olds := nmC (mvNm l) i) rfl rfl rfl rfl rfl rfl rfl rfl rfl rfl rfl rfl rfl rfl hnl (Nat.le_of_ble_eq_true rfl) rfl (Nat.le_of_ble_eq_true rfl) (Nat.le_of_ble_eq_true rfl) (Nat.le_trans (m := 1000 + 8) (Nat.add_le_add (by omega) (Nat.le_of_ble_eq_true rfl)) (Nat.le_of_ble_eq_true rfl)) | exact GO.add rfl rfl rfl (by omega)) ?_
      | refine GT.skip ?_
      | refine GT.block ?_
      | refine GT.ret ?_
      | refine GP.thenR ?_
      | refine GP.inN ?_
      | refine GP.inR ?_
      | refine GP.invR ?_
      | (refine GT.condD rfl (fun h => ?_) (fun h => ?_) <;> try (exfalso; omega))
      | (refine GT.condN rfl (fun h => ?_) (fun h => ?_) <;> try (exfalso; omega))
      | refine GP.endR1 rfl ?_)
      have k := of_firstNZ h
      simp only [List.mem_cons, List.not_mem_nil, or_false, forall_eq_or_imp, forall_eq] at k
      have hn := next (move_ok k.2.2) (hasS_no (of_whenI k.2.1 (by decide)))
      exact GP.invN (l.length - (i + 1)) (by omega) ⟨i + 1, by omega, rfl, Nat.le_of_ble_eq_true rfl, hn.1, hn.2, asub_cons rfl (asub_cons rfl asub_nil), subm_cons rfl subm_nil, .inr ⟨4, by omega, Nat.le_of_ble_eq_true rfl, by rw [nmC_succ, hnm]; rfl, rfl⟩⟩
  · obtain rfl : i = l.length := by omega
    refine GT.resetL 1 hs hsub hnx rfl rfl hU hE (fun g hg => absurd hg (Nat.not_lt_zero g)) ?_
    repeat' (first
    | refine GL.sf rfl rfl rfl rfl ?_
    | refine GL.sv rfl rfl rfl rfl ?_
    | refine GL.done ?_
    | refine GP.thenN ?_
    | refine GT.seq ?_
    | refine GT.region ?_
    | refine GT.ret ?_
    | refine GT.exit ?_
    | refine GP.thenE ?_
    | refine GP.hit ?_
    | refine GP.invE ?_
    | (refine GT.condD rfl (fun h => ?_) (fun h => ?_) <;> try (exfalso; omega))
    | refine GP.endR1 rfl ?_)
    exact ⟨0, rfl, fun _ => ⟨fun j y hy => hok j y (List.getElem?_eq_some_iff.1 hy).1 hy, fun k j y z hjk hy hz => hne k j y z hjk (List.getElem?_eq_some_iff.1 hy).1 hy hz⟩⟩
theorem w_list21 {A : AW} {p c : Nat} (l : List Mv) (hl : l.length ≤ 1000) (hp : A.rd p 0 (mvC l).length = some (mvC l)) : AC Tryd.prog 21 [.slice (some ⟨p, 0, none⟩) l.length c] A (fun v A1 => (∃ e, v = .int .i64 e ∧ (e = 0 → MvOk l)) ∧ A1 = A) := by
  obtain ⟨fj, hflat⟩ := mvC_flat l
  refine AC.pureX (R := fun v => ∃ e, v = .int .i64 e ∧ (e = 0 → MvOk l)) (SmallX.nil.cons (k := 0) (b := p) (f := 0) (o := .cells (mvC l) 112) (.flat hp hflat)) (args := [.slice (some ⟨0, 0, none⟩) l.length c]) (AC.mono (w_list21s l c hl) ?_) (.sl rfl rfl .nil)
  rintro v A1 ⟨b, rfl, h⟩
  exact ⟨⟨b, rfl, h⟩, 8, rfl⟩
end Go.M
