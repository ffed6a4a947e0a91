/- Functions of the given program, walked (no condition beyond what each theorem says). -/
import Derived.Test.YtfhodefiknfccaaDoorH2
import Derived.Test.YtfhodefiknfccaaDoorA6
set_option linter.unusedVariables false
set_option linter.unusedSimpArgs false
namespace Go.M
open Go.Proofs Go.RowKit
set_option maxRecDepth 8000
set_option maxHeartbeats 8000000
abbrev zC (n : Nat) : List Value := List.replicate n (Value.int .i64 0)
theorem zC_flat : ∀ n : Nat, ∃ j, noAddrs j (zC n) = true
  | 0 => ⟨1, rfl⟩
  | n + 1 => by obtain ⟨j, h⟩ := zC_flat n; exact ⟨j + 1, by unfold zC; rw [List.replicate_succ]; simpa [noAddrs] using h⟩
theorem zC_snoc (n : Nat) : zC (n + 1) = zC n ++ [.int .i64 0] := List.replicate_succ'
theorem w_mapped169 {A : AW} {x c : Nat} (ps : Pts) (h : ∀ i, i < ps.length → In6 (pt ps i).1 ∧ In6 (pt ps i).2) (hn : 0 < ps.length ∧ ps.length ≤ 1000) (hx : A.rd x 0 (ptC ps).length = some (ptC ps)) :
    AC Tryd.prog 169 [.slice (some ⟨x, 0, none⟩) ps.length c, .func (.func 170) #[] #[]] A (isR (.slice (some ⟨A.next, 0, none⟩) ps.length ps.length) (A.push (.cells (zC ps.length) 48))) := by
  obtain ⟨fz, hfz⟩ := ptC_flat ps
  have hlen := ptC_len ps
  refine AC.mono (AC.givesX (Φ := fun cs => cs = zC ps.length) (e := 48) (SmallX.nil.cons (k := 0) (b := x) (f := 0) (o := .cells (ptC ps) 97) (.flat hx hfz)) (args := [.slice (some ⟨0, 0, none⟩) ps.length c, .func (.func 170) #[] #[]]) (v2 := .slice (some ⟨A.next, 0, none⟩) ps.length ps.length) ?_
    (.sl rfl rfl (.flat (k := 8) rfl .nil))) (fun v A1 hv => by obtain ⟨cs, rfl, rfl, rfl⟩ := hv; exact ⟨rfl, rfl⟩)
  clear hx
  refine AC.go Tryd.func169 rfl rfl ?_
  repeat' (first
  | refine GL.sf rfl rfl rfl rfl ?_
  | refine GL.sv rfl rfl rfl rfl ?_
  | refine GL.done ?_
  | refine GP.thenN ?_
  | refine GT.seq ?_
  | refine GT.region ?_
  | refine GT.block ?_)
  refine GT.loop (fun q a L nx => ∃ i : Nat, i ≤ ps.length ∧ q = ps.length - i ∧ 1 ≤ nx ∧ asub [(1, .func (.func 170) #[] #[]), (8, .slice (some ⟨0, 0, none⟩) ps.length c), (9, .int .i64 ps.length), (10, .int .i64 i)] a ∧ subm [(0, .cells (ptC ps) 97)] L ∧
      ((i = 0 ∧ aget a 5 = some (.slice none 0 0)) ∨ ∃ o, 0 < i ∧ 1 ≤ o ∧ alook L o = some (.cells (zC i) 48) ∧ aget a 5 = some (.slice (some ⟨o, 0, none⟩) i i))) ps.length
    ⟨0, by omega, by omega, Nat.le_of_ble_eq_true rfl, asub_cons rfl (asub_cons rfl (asub_cons rfl (asub_cons rfl asub_nil))), subm_cons rfl subm_nil, .inl ⟨rfl, rfl⟩⟩ ?_
  rintro q a L nx ⟨i, hi, rfl, hnx, hs, hsub, hcase⟩
  have hU : ∀ j y, alook [(0, .cells (ptC ps) 97)] j = some y → j < 1 ∧ ObjLt 1 y := Under.look (.cons rfl (Lt.flat hfz) .nil)
  have hE : EnvLt 1 [(1, .func (.func 170) #[] #[]), (8, .slice (some ⟨0, 0, none⟩) ps.length c), (9, .int .i64 ps.length), (10, .int .i64 i)] := .cons (.flat (j := 8) rfl) (.cons (.sl rfl) (.cons (.flat (j := 8) rfl) (.cons (.flat (j := 8) rfl) .nil)))
  rcases hcase with ⟨h0, h3⟩ | ⟨o, hpos, ho, hob, h3⟩
  · refine GT.resetL (a1 := (5, .slice none 0 0) :: [(1, .func (.func 170) #[] #[]), (8, .slice (some ⟨0, 0, none⟩) ps.length c), (9, .int .i64 ps.length), (10, .int .i64 i)]) 1 (asub_cons h3 hs) hsub hnx rfl rfl hU (.cons (.flat (j := 8) rfl) hE) (fun g hg => absurd hg (Nat.not_lt_zero g)) ?_
    clear hs hsub hnx h3
    have hlt : i < ps.length := by omega
    have g2 : ((ptC ps).drop (0 + (i : Int).toNat * 2)).take 2 = [.int .i64 (pt ps i).1, .int .i64 (pt ps i).2] := by simpa using pt_two hlt
    have h6 := h i hlt
    repeat' (first
    | refine GL.sf rfl rfl rfl rfl ?_
    | refine GL.sv rfl rfl rfl rfl ?_
    | refine GL.sn rfl rfl rfl ?_
    | refine GL.done ?_
    | refine GP.thenN ?_
    | refine GT.seq ?_
    | refine GT.region ?_
    | refine GL.v rfl rfl rfl (by first | exact GO.indexS (s := 2) rfl rfl rfl rfl rfl (by omega) | exact GO.loadG (s := 2) rfl rfl rfl rfl rfl rfl (by omega) g2 | exact GO.callV rfl rfl rfl Tryd.func170 rfl rfl rfl (w_point170 _ _ h6.1 h6.2) | exact GO.add rfl rfl rfl (by omega)) ?_
    | refine GT.skip ?_
    | refine GT.block ?_
    | refine GP.inN ?_
    | (refine GT.condD rfl (fun h => ?_) (fun h => ?_) <;> try (exfalso; omega)))
    exact GP.invN (ps.length - (i + 1)) (by omega) ⟨i + 1, by omega, rfl, Nat.le_of_ble_eq_true rfl, asub_cons rfl (asub_cons rfl (asub_cons rfl (asub_cons rfl asub_nil))), subm_cons rfl subm_nil, .inr ⟨3, by omega, Nat.le_of_ble_eq_true rfl, by subst h0; rfl, by subst h0; rfl⟩⟩
  · refine GT.resetE (L' := [(0, .cells (ptC ps) 97)]) 1 o (u' := .slice (some ⟨1, 0, none⟩) i i) hs hsub rfl rfl rfl hU hE ho trivial hob (zC_flat _) h3 (fun ρ h1 h2 => .sl h2) rfl ?_
    clear hs hsub hnx h3 ho hob
    rcases Nat.lt_or_ge i ps.length with hlt | hge
    · have hnl : (zC i).length = i * 1 := by simp
      have g2 : ((ptC ps).drop (0 + (i : Int).toNat * 2)).take 2 = [.int .i64 (pt ps i).1, .int .i64 (pt ps i).2] := by simpa using pt_two hlt
      have h6 := h i hlt
      repeat' (first
      | refine GL.sf rfl rfl rfl rfl ?_
      | refine GL.sn rfl rfl rfl ?_
      | refine GL.done ?_
      | refine GP.thenN ?_
      | refine GT.seq ?_
      | refine GT.region ?_
      | refine GL.v rfl rfl rfl (by first | exact GO.indexS (s := 2) rfl rfl rfl rfl rfl (by omega) | exact GO.loadG (s := 2) rfl rfl rfl rfl rfl rfl (by omega) g2 | exact GO.callV rfl rfl rfl Tryd.func170 rfl rfl rfl (w_point170 _ _ h6.1 h6.2) | exact GO.appendN (olds := zC i) rfl rfl rfl rfl rfl rfl rfl rfl rfl rfl rfl rfl rfl rfl hnl (Nat.le_of_ble_eq_true rfl) rfl (Nat.le_of_ble_eq_true rfl) (Nat.le_of_ble_eq_true rfl) (Nat.le_trans (m := 1000 + 8) (Nat.add_le_add (by omega) (Nat.le_of_ble_eq_true rfl)) (Nat.le_of_ble_eq_true rfl)) | exact GO.add rfl rfl rfl (by omega)) ?_
      | refine GT.skip ?_
      | refine GT.block ?_
      | refine GP.inN ?_
      | (refine GT.condD rfl (fun h => ?_) (fun h => ?_) <;> try (exfalso; omega)))
      exact GP.invN (ps.length - (i + 1)) (by omega) ⟨i + 1, by omega, rfl, Nat.le_of_ble_eq_true rfl, asub_cons rfl (asub_cons rfl (asub_cons rfl (asub_cons rfl asub_nil))), subm_cons rfl subm_nil, .inr ⟨4, by omega, Nat.le_of_ble_eq_true rfl, by rw [zC_snoc]; rfl, rfl⟩⟩
    · obtain rfl : i = ps.length := by omega
      repeat' (first
      | refine GL.sf rfl rfl rfl rfl ?_
      | refine GL.done ?_
      | refine GP.thenN ?_
      | refine GT.seq ?_
      | refine GT.region ?_
      | refine GT.ret ?_
      | refine GT.exit ?_
      | refine GP.thenE ?_
      | refine GP.hit ?_
      | refine GP.invE ?_
      | (refine GT.condD rfl (fun h => ?_) (fun h => ?_) <;> try (exfalso; omega))
      | refine GP.endR1 rfl ?_)
      exact ⟨1, _, rfl, Nat.le_of_ble_eq_true rfl, zC_flat _, rfl, .sl (f := 0) (g := 0) (if_pos rfl) rfl .nil⟩
/-- Is a point to the right of a side? -/
theorem w_right171 {A : AW} {b1 b2 : Nat} (ax ay bx by' px py : Int) (h1 : In6 ax) (h2 : In6 ay) (h3 : In6 bx) (h4 : In6 by') (h5 : In6 px) (h6 : In6 py) (e1 : A.rd b1 0 2 = some [.int .i64 ax, .int .i64 ay]) (e2 : A.rd b2 0 2 = some [.int .i64 bx, .int .i64 by']) :
    AC Tryd.prog 171 [.agg #[.int .i64 px, .int .i64 py], .pointer (some ⟨b1, 0, none⟩), .pointer (some ⟨b2, 0, none⟩)] A (isR (.bool (decide (crossI ax ay bx by' px py < 0))) A) := by
  refine AC.isX ((SmallX.nil.cons (k := 0) (b := b1) (f := 0) (o := .cells [.int .i64 ax, .int .i64 ay] 97) (.flat (k := 8) e1 rfl)).cons (b := b2) (f := 0) (o := .cells [.int .i64 bx, .int .i64 by'] 97) (.flat (k := 8) e2 rfl)) (args := [.agg #[.int .i64 px, .int .i64 py], .pointer (some ⟨0, 0, none⟩), .pointer (some ⟨1, 0, none⟩)]) ?_ ⟨8, rfl⟩ (.flat (k := 16) rfl (.ptr (f := 0) rfl rfl (.ptr (f := 0) rfl rfl .nil)))
  refine AC.go Tryd.func171 rfl rfl ?_
  clear e1 e2
  repeat' (first
  | refine GL.sf rfl rfl rfl rfl ?_
  | refine GL.done ?_
  | refine GP.thenN ?_
  | refine GT.seq ?_
  | refine GT.region ?_
  | refine GL.v rfl rfl rfl (by exact GO.call rfl rfl Tryd.func167 rfl rfl rfl (w_cross167 _ _ _ _ _ _ h1 h2 h3 h4 h5 h6)) ?_
  | refine GT.ret ?_
  | refine GP.endR1 rfl ?_)
  rfl
/-- No corner is to the right of a side. -/
theorem w_index175r {A : AW} {x c b1 b2 : Nat} (ps : Pts) (i : Nat) (hp : PolyOk ps) (hi : i < ps.length) (hx : A.rd x 0 (ptC ps).length = some (ptC ps))
    (e1 : A.rd b1 0 2 = some [.int .i64 (pt ps i).1, .int .i64 (pt ps i).2]) (e2 : A.rd b2 0 2 = some [.int .i64 (pt ps ((i + 1) % ps.length)).1, .int .i64 (pt ps ((i + 1) % ps.length)).2]) :
    AC Tryd.prog 175 [.slice (some ⟨x, 0, none⟩) ps.length c, .func (.func 171) #[] #[.pointer (some ⟨b1, 0, none⟩), .pointer (some ⟨b2, 0, none⟩)]] A (isR (.int .i64 (-1)) A) := by
  obtain ⟨fz, hfz⟩ := ptC_flat ps
  have hlen := ptC_len ps
  have hn := hp.len
  have m1 := mod_lt (i := i + 1) (show 0 < ps.length by omega)
  refine AC.isX (((SmallX.nil.cons (k := 0) (b := x) (f := 0) (o := .cells (ptC ps) 97) (.flat hx hfz)).cons (b := b1) (f := 0) (o := .cells [.int .i64 (pt ps i).1, .int .i64 (pt ps i).2] 97) (.flat (k := 8) e1 rfl)).cons (b := b2) (f := 0) (o := .cells [.int .i64 (pt ps ((i + 1) % ps.length)).1, .int .i64 (pt ps ((i + 1) % ps.length)).2] 97) (.flat (k := 8) e2 rfl))
    (args := [.slice (some ⟨0, 0, none⟩) ps.length c, .func (.func 171) #[] #[.pointer (some ⟨1, 0, none⟩), .pointer (some ⟨2, 0, none⟩)]]) ?_ ⟨8, rfl⟩ (.sl rfl rfl (.func (by intro l h; cases h) .nil (.ptr (f := 0) (g := 0) rfl rfl (.ptr (f := 0) (g := 0) rfl rfl .nil)) .nil))
  refine AC.go Tryd.func175 rfl rfl ?_
  clear hx e1 e2
  repeat' (first
  | refine GL.sf rfl rfl rfl rfl ?_
  | refine GL.sv rfl rfl rfl rfl ?_
  | refine GL.done ?_
  | refine GP.thenN ?_
  | refine GT.seq ?_
  | refine GT.region ?_
  | refine GT.block ?_)
  refine GT.loop (fun q a L nx => ∃ k : Nat, k ≤ ps.length ∧ q = ps.length - k ∧ asub [(0, .slice (some ⟨0, 0, none⟩) ps.length c), (1, .func (.func 171) #[] #[.pointer (some ⟨1, 0, none⟩), .pointer (some ⟨2, 0, none⟩)]), (7, .int .i64 ps.length), (8, .int .i64 k)] a ∧
      L = [(2, .cells [.int .i64 (pt ps ((i + 1) % ps.length)).1, .int .i64 (pt ps ((i + 1) % ps.length)).2] 97), (1, .cells [.int .i64 (pt ps i).1, .int .i64 (pt ps i).2] 97), (0, .cells (ptC ps) 97)] ∧ nx = 3) ps.length
    ⟨0, by omega, by omega, asub_cons rfl (asub_cons rfl (asub_cons rfl (asub_cons rfl asub_nil))), rfl, rfl⟩ ?_
  rintro q a L nx ⟨k, hk, rfl, hs, rfl, rfl⟩
  refine GT.keep hs ?_
  clear hs
  rcases Nat.lt_or_ge k ps.length with hkl | hkg
  · have gk : ((ptC ps).drop (0 + (k : Int).toNat * 2)).take 2 = [.int .i64 (pt ps k).1, .int .i64 (pt ps k).2] := by simpa using pt_two hkl
    have hle : ¬ crossI (pt ps i).1 (pt ps i).2 (pt ps ((i + 1) % ps.length)).1 (pt ps ((i + 1) % ps.length)).2 (pt ps k).1 (pt ps k).2 < 0 := by
      have := hp.left i k hi hkl
      unfold crS at this
      omega
    have ck := fun {A : AW} {b1 b2 : Nat} e1 e2 => w_right171 (A := A) (b1 := b1) (b2 := b2) (pt ps i).1 (pt ps i).2 (pt ps ((i + 1) % ps.length)).1 (pt ps ((i + 1) % ps.length)).2 (pt ps k).1 (pt ps k).2 (hp.in6 i hi).1 (hp.in6 i hi).2 (hp.in6 _ m1).1 (hp.in6 _ m1).2 (hp.in6 _ hkl).1 (hp.in6 _ hkl).2 e1 e2
    rw [decide_eq_false hle] at ck
    repeat' (first
    | refine GL.sf rfl rfl rfl rfl ?_
    | refine GL.done ?_
    | refine GP.thenN ?_
    | refine GT.seq ?_
    | refine GT.region ?_
    | refine GL.v rfl rfl rfl (by first | exact GO.indexS (s := 2) rfl rfl rfl rfl rfl (by omega) | exact GO.loadG (s := 2) rfl rfl rfl rfl rfl rfl (by omega) gk | exact GO.callV rfl rfl rfl Tryd.func171 rfl rfl rfl (ck rfl rfl) | exact GO.add rfl rfl rfl (by omega)) ?_
    | refine GT.skip ?_
    | refine GT.block ?_
    | refine GP.inN ?_
    | refine GT.condF rfl ?_
    | (refine GT.condD rfl (fun h => ?_) (fun h => ?_) <;> try (exfalso; omega)))
    exact GP.invN (ps.length - (k + 1)) (by omega) ⟨k + 1, by omega, rfl, asub_cons rfl (asub_cons rfl (asub_cons rfl (asub_cons rfl asub_nil))), rfl, rfl⟩
  ·
    repeat' (first
    | refine GL.sf rfl rfl rfl rfl ?_
    | refine GL.done ?_
    | refine GP.thenN ?_
    | refine GT.seq ?_
    | refine GT.region ?_
    | refine GT.ret ?_
    | refine GT.exit ?_
    | refine GP.thenE ?_
    | refine GP.hit ?_
    | refine GP.invE ?_
    | (refine GT.condD rfl (fun h => ?_) (fun h => ?_) <;> try (exfalso; omega))
    | refine GP.endR1 rfl ?_)
    rfl
theorem w_contains172r {A : AW} {x c b1 b2 : Nat} (ps : Pts) (i : Nat) (hp : PolyOk ps) (hi : i < ps.length) (hx : A.rd x 0 (ptC ps).length = some (ptC ps))
    (e1 : A.rd b1 0 2 = some [.int .i64 (pt ps i).1, .int .i64 (pt ps i).2]) (e2 : A.rd b2 0 2 = some [.int .i64 (pt ps ((i + 1) % ps.length)).1, .int .i64 (pt ps ((i + 1) % ps.length)).2]) :
    AC Tryd.prog 172 [.slice (some ⟨x, 0, none⟩) ps.length c, .func (.func 171) #[] #[.pointer (some ⟨b1, 0, none⟩), .pointer (some ⟨b2, 0, none⟩)]] A (isR (.bool false) A) := by
  obtain ⟨fz, hfz⟩ := ptC_flat ps
  refine AC.isX (((SmallX.nil.cons (k := 0) (b := x) (f := 0) (o := .cells (ptC ps) 97) (.flat hx hfz)).cons (b := b1) (f := 0) (o := .cells [.int .i64 (pt ps i).1, .int .i64 (pt ps i).2] 97) (.flat (k := 8) e1 rfl)).cons (b := b2) (f := 0) (o := .cells [.int .i64 (pt ps ((i + 1) % ps.length)).1, .int .i64 (pt ps ((i + 1) % ps.length)).2] 97) (.flat (k := 8) e2 rfl))
    (args := [.slice (some ⟨0, 0, none⟩) ps.length c, .func (.func 171) #[] #[.pointer (some ⟨1, 0, none⟩), .pointer (some ⟨2, 0, none⟩)]]) ?_ ⟨8, rfl⟩ (.sl rfl rfl (.func (by intro l h; cases h) .nil (.ptr (f := 0) (g := 0) rfl rfl (.ptr (f := 0) (g := 0) rfl rfl .nil)) .nil))
  refine AC.go Tryd.func172 rfl rfl ?_
  clear hx e1 e2
  repeat' (first
  | refine GL.sf rfl rfl rfl rfl ?_
  | refine GL.done ?_
  | refine GP.thenN ?_
  | refine GT.seq ?_
  | refine GT.region ?_
  | refine GL.v rfl rfl rfl (by exact GO.call rfl rfl Tryd.func175 rfl rfl rfl (w_index175r ps i hp hi (rd_self rfl) rfl rfl)) ?_
  | refine GT.ret ?_
  | refine GP.endR1 rfl ?_)
  rfl
/-- No corner is there twice. -/
theorem w_index176 {A : AW} {x c : Nat} (ps : Pts) (i : Nat) (hp : PolyOk ps) (hi : i < ps.length) (hx : A.rd x 0 (ptC ps).length = some (ptC ps)) :
    AC Tryd.prog 176 [.slice (some ⟨x, 0, none⟩) i c, .agg #[.int .i64 (pt ps i).1, .int .i64 (pt ps i).2]] A (isR (.int .i64 (-1)) A) := by
  obtain ⟨fz, hfz⟩ := ptC_flat ps
  have hlen := ptC_len ps
  have hn := hp.len
  refine AC.isX (SmallX.nil.cons (k := 0) (b := x) (f := 0) (o := .cells (ptC ps) 97) (.flat hx hfz)) (args := [.slice (some ⟨0, 0, none⟩) i c, .agg #[.int .i64 (pt ps i).1, .int .i64 (pt ps i).2]]) ?_ ⟨8, rfl⟩ (.sl rfl rfl (.flat (k := 16) rfl .nil))
  refine AC.go Tryd.func176 rfl rfl ?_
  clear hx
  repeat' (first
  | refine GL.sf rfl rfl rfl rfl ?_
  | refine GL.sv rfl rfl rfl rfl ?_
  | refine GL.done ?_
  | refine GP.thenN ?_
  | refine GT.seq ?_
  | refine GT.region ?_
  | refine GT.block ?_)
  refine GT.loop (fun q a L nx => ∃ k : Nat, k ≤ i ∧ q = i - k ∧ asub [(3, .pointer (some ⟨1, 0, none⟩)), (0, .slice (some ⟨0, 0, none⟩) i c), (7, .int .i64 i), (8, .int .i64 k)] a ∧ L = [(1, .cells [.int .i64 (pt ps i).1, .int .i64 (pt ps i).2] 97), (0, .cells (ptC ps) 97)] ∧ nx = 2) i
    ⟨0, by omega, by omega, asub_cons rfl (asub_cons rfl (asub_cons rfl (asub_cons rfl asub_nil))), rfl, rfl⟩ ?_
  rintro q a L nx ⟨k, hk, rfl, hs, rfl, rfl⟩
  refine GT.keep hs ?_
  clear hs
  rcases Nat.lt_or_ge k i with hkl | hkg
  · have gk : ((ptC ps).drop (0 + (k : Int).toNat * 2)).take 2 = [.int .i64 (pt ps k).1, .int .i64 (pt ps k).2] := by simpa using pt_two (show k < ps.length by omega)
    have hne : ¬((pt ps i).1 = (pt ps k).1 ∧ (pt ps i).2 = (pt ps k).2) := fun e => hp.ne i k hkl hi (Prod.ext e.1.symm e.2.symm)
    repeat' (first
    | refine GT.draws (id := 4) [[], [], [], [1, 2], [1, 2, 3], [0, 1, 2, 3, 4]] [] (by kernel_rfl) ?_
    | refine GL.sf rfl rfl rfl rfl ?_
    | refine GL.done ?_
    | refine GP.thenN ?_
    | refine GT.seq ?_
    | refine GT.region ?_
    | refine GD.li rfl rfl (by exact onAt.none rfl) rfl (by repeat first | exact AllG.nil rfl | refine AllG.cons rfl (by first | exact GO.sf rfl rfl | exact GO.indexS (s := 2) rfl rfl rfl rfl rfl (by omega) | exact GO.loadG (s := 2) rfl rfl rfl rfl rfl rfl (by omega) gk | exact GO.eq rfl rfl rfl rfl rfl Tryd.eqGuardType97 (w_aeq97 _ _ _ _) rfl) ?_) ?_
    | refine GD.done rfl rfl rfl ?_
    | refine GL.v rfl rfl rfl (by exact GO.add rfl rfl rfl (by omega)) ?_
    | refine GT.skip ?_
    | refine GT.block ?_
    | refine GP.inN ?_
    | (refine GT.condD rfl (fun h => ?_) (fun h => ?_) <;> try (exfalso; omega)))
    exact GP.invN (i - (k + 1)) (by omega) ⟨k + 1, by omega, rfl, asub_cons rfl (asub_cons rfl (asub_cons rfl (asub_cons rfl asub_nil))), rfl, rfl⟩
  ·
    repeat' (first
    | refine GL.sf rfl rfl rfl rfl ?_
    | refine GL.done ?_
    | refine GP.thenN ?_
    | refine GT.seq ?_
    | refine GT.region ?_
    | refine GT.ret ?_
    | refine GT.exit ?_
    | refine GP.thenE ?_
    | refine GP.hit ?_
    | refine GP.invE ?_
    | (refine GT.condD rfl (fun h => ?_) (fun h => ?_) <;> try (exfalso; omega))
    | refine GP.endR1 rfl ?_)
    rfl
theorem w_contains173 {A : AW} {x c : Nat} (ps : Pts) (i : Nat) (hp : PolyOk ps) (hi : i < ps.length) (hx : A.rd x 0 (ptC ps).length = some (ptC ps)) :
    AC Tryd.prog 173 [.slice (some ⟨x, 0, none⟩) i c, .agg #[.int .i64 (pt ps i).1, .int .i64 (pt ps i).2]] A (isR (.bool false) A) := by
  obtain ⟨fz, hfz⟩ := ptC_flat ps
  refine AC.isX (SmallX.nil.cons (k := 0) (b := x) (f := 0) (o := .cells (ptC ps) 97) (.flat hx hfz)) (args := [.slice (some ⟨0, 0, none⟩) i c, .agg #[.int .i64 (pt ps i).1, .int .i64 (pt ps i).2]]) ?_ ⟨8, rfl⟩ (.sl rfl rfl (.flat (k := 16) rfl .nil))
  refine AC.go Tryd.func173 rfl rfl ?_
  clear hx
  repeat' (first
  | refine GL.sf rfl rfl rfl rfl ?_
  | refine GL.done ?_
  | refine GP.thenN ?_
  | refine GT.seq ?_
  | refine GT.region ?_
  | refine GL.v rfl rfl rfl (by exact GO.call rfl rfl Tryd.func176 rfl rfl rfl (w_index176 ps i hp hi (rd_self rfl))) ?_
  | refine GT.ret ?_
  | refine GP.endR1 rfl ?_)
  rfl
end Go.M
