/- Functions of the given program, walked (no condition beyond what each theorem says). -/
import Derived.Test.YtfhodefiknfccaaDoorA8
import Derived.Test.YtfhodefiknfccaaDoorH3
set_option linter.unusedVariables false
set_option linter.unusedSimpArgs false
namespace Go.M
/-- A rule. -/
structure Rl where
  p : Int
  e : Int
  l : Int
  m : Int
/-- A moment. -/
structure Mo where
  v : Int
  c : Bool
  s : Bool
  t : Bool
abbrev Rl.vs (r : Rl) : List Value := [.int .i64 r.p, .int .i64 r.e, .int .i64 r.l, .int .i64 r.m]
abbrev Mo.vs (x : Mo) : List Value := [.int .i64 x.v, .bool x.c, .bool x.s, .bool x.t]
def Mo.all (x : Mo) : Bool := x.c && x.s && x.t
structure Rl.Ok (r : Rl) : Prop where
  p : 0 ≤ r.p ∧ r.p ≤ 10000
  e : 0 ≤ r.e ∧ r.e ≤ 10000
  l : 0 ≤ r.l ∧ r.l ≤ 10000
  m : 1 ≤ r.m ∧ r.m ≤ 100
  ep : r.e ≤ r.p
  pl : r.p ≤ r.l
def gdN (r : Rl) (g : Int) (x : Mo) : Int := if x.v < r.l then 0 else g + 1
def nextS (r : Rl) (st g : Int) (x : Mo) : Int :=
  if st = 0 ∧ x.v < r.p then 1 else if st = 1 ∧ x.v < r.e ∧ x.all = true then 2 else if st = 1 ∧ r.m ≤ g then 0 else if st = 2 ∧ (x.all = false ∨ r.m ≤ g) then 1 else st
def gdS (r : Rl) (μ : Nat → Mo) : Nat → Int
  | 0 => 0
  | i + 1 => gdN r (gdS r μ i) (μ i)
def stS (r : Rl) (μ : Nat → Mo) : Nat → Int
  | 0 => 0
  | i + 1 => nextS r (stS r μ i) (gdS r μ (i + 1)) (μ i)
theorem gdS_range {r : Rl} {μ : Nat → Mo} : ∀ i, 0 ≤ gdS r μ i ∧ gdS r μ i ≤ i
  | 0 => by simp [gdS]
  | i + 1 => by
    have := gdS_range (r := r) (μ := μ) i
    unfold gdS gdN
    split <;> omega
theorem gdS_zero {r : Rl} {μ : Nat → Mo} {i : Nat} (h : (μ i).v < r.l) : gdS r μ (i + 1) = 0 := by
  unfold gdS gdN; rw [if_pos h]
theorem stS_range {r : Rl} {μ : Nat → Mo} : ∀ i, stS r μ i = 0 ∨ stS r μ i = 1 ∨ stS r μ i = 2
  | 0 => .inl rfl
  | i + 1 => by
    have := stS_range (r := r) (μ := μ) i
    unfold stS nextS
    repeat' split
    all_goals first | omega | assumption
theorem stS_all {r : Rl} {μ : Nat → Mo} {i : Nat} (h : stS r μ (i + 1) = 2) : (μ i).all = true := by
  cases hc : (μ i).all with
  | true => rfl
  | false =>
    exfalso
    have hr := stS_range (r := r) (μ := μ) i
    unfold stS nextS at h
    rw [hc] at h
    repeat' split at h
    all_goals simp_all
theorem gdS_same {r : Rl} {μ μ' : Nat → Mo} (hv : ∀ i, (μ i).v = (μ' i).v) : ∀ i, gdS r μ i = gdS r μ' i
  | 0 => rfl
  | i + 1 => by unfold gdS gdN; rw [gdS_same hv i, hv i]
theorem stS_same {r : Rl} {μ μ' : Nat → Mo} : ∀ n, (∀ i, i < n → μ i = μ' i) → stS r μ n = stS r μ' n ∧ gdS r μ n = gdS r μ' n
  | 0, _ => ⟨rfl, rfl⟩
  | n + 1, h => by
    obtain ⟨h1, h2⟩ := stS_same (r := r) n fun i hi => h i (by omega)
    have h3 : gdS r μ (n + 1) = gdS r μ' (n + 1) := by unfold gdS; rw [h2, h n (by omega)]
    refine ⟨?_, h3⟩
    unfold stS
    rw [h1, h3, h n (by omega)]
theorem stS_le {r : Rl} {μ μ' : Nat → Mo} (hr : r.Ok) (hv : ∀ i, (μ i).v = (μ' i).v) (ha : ∀ i, (μ i).all = true → (μ' i).all = true) : ∀ i, stS r μ i ≤ stS r μ' i
  | 0 => Int.le_refl _
  | i + 1 => by
    have ih := stS_le hr hv ha i
    have h1 := stS_range (r := r) (μ := μ) i
    have h2 := stS_range (r := r) (μ := μ') i
    have hg := gdS_same (r := r) hv (i + 1)
    have hz := gdS_zero (r := r) (μ := μ) (i := i)
    have hai := ha i
    have hvi := hv i
    have h3 := hr.ep
    have h4 := hr.pl
    have h5 := hr.m.1
    have key : ∀ (s s' g v : Int) (A B : Bool), s ≤ s' → (s = 0 ∨ s = 1 ∨ s = 2) → (s' = 0 ∨ s' = 1 ∨ s' = 2) → (v < r.l → g = 0) → (A = true → B = true) →
        (if s = 0 ∧ v < r.p then 1 else if s = 1 ∧ v < r.e ∧ A = true then 2 else if s = 1 ∧ r.m ≤ g then 0 else if s = 2 ∧ (A = false ∨ r.m ≤ g) then 1 else s) ≤
        (if s' = 0 ∧ v < r.p then (1 : Int) else if s' = 1 ∧ v < r.e ∧ B = true then 2 else if s' = 1 ∧ r.m ≤ g then 0 else if s' = 2 ∧ (B = false ∨ r.m ≤ g) then 1 else s') := by
      intro s s' g v A B hle k1 k2 kz kA
      by_cases q : v < r.l
      · have kz := kz q
        rcases k1 with rfl | rfl | rfl <;> rcases k2 with rfl | rfl | rfl <;> cases A <;> cases B <;> simp only [reduceCtorEq, forall_const] at kA <;> simp only [and_true, and_false, true_or, false_or, true_and, false_and, reduceCtorEq, reduceIte, Int.reduceEq] at hle ⊢
        all_goals first | omega | (repeat' split) <;> omega
      · rcases k1 with rfl | rfl | rfl <;> rcases k2 with rfl | rfl | rfl <;> cases A <;> cases B <;> simp only [reduceCtorEq, forall_const] at kA <;> simp only [and_true, and_false, true_or, false_or, true_and, false_and, reduceCtorEq, reduceIte, Int.reduceEq] at hle ⊢
        all_goals first | omega | (repeat' split) <;> omega
    have := key (stS r μ i) (stS r μ' i) (gdS r μ (i + 1)) (μ i).v (μ i).all (μ' i).all ih h1 h2 hz hai
    unfold stS nextS
    rw [← hg, ← hvi]
    exact this
end Go.M
namespace Go.M
open Go.Proofs Go.RowKit
set_option maxRecDepth 8000
set_option maxHeartbeats 8000000
def clearW : ByteArray := ⟨#[99, 108, 101, 97, 114]⟩
def staffW : ByteArray := ⟨#[115, 116, 97, 102, 102]⟩
def lightW : ByteArray := ⟨#[108, 105, 103, 104, 116]⟩
/-- The words for what a moment lacks. -/
def wdL (x : Mo) : List ByteArray := cond x.c [] [clearW] ++ (cond x.s [] [staffW] ++ cond x.t [] [lightW])
theorem wdL_all {x : Mo} (h : x.all = true) : wdL x = [] := by
  obtain ⟨v, c, s, t⟩ := x
  cases c <;> cases s <;> cases t <;> first | rfl | exact absurd (show false = true from h) (by decide)
theorem wdL_pos {x : Mo} (h : x.all = false) : 0 < (wdL x).length ∧ (wdL x).length ≤ 3 := by
  obtain ⟨v, c, s, t⟩ := x
  cases c <;> cases s <;> cases t <;> first | exact ⟨Nat.le_of_ble_eq_true rfl, Nat.le_of_ble_eq_true rfl⟩ | exact absurd (show true = false from h) (by decide)
theorem w_missing65t {A : AW} (x : Mo) (h : x.all = true) : AC Tryd.prog 65 [.agg x.vs.toArray] A (isR (.slice none 0 0) A) := by
  obtain ⟨v, c, s, t⟩ := x
  cases c <;> cases s <;> cases t <;> first | exact absurd (show false = true from h) (by decide) | skip
  refine AC.is0 ?_ ⟨8, rfl⟩ (.flat (k := 16) rfl .nil)
  refine AC.go Tryd.func65 rfl rfl ?_
  repeat' (first
  | refine GT.unroll 4 ?_
  | refine GL.sf rfl rfl rfl rfl ?_
  | refine GL.nf rfl rfl rfl ?_
  | refine GL.done ?_
  | refine GP.thenN ?_
  | refine GT.seq ?_
  | refine GT.region ?_
  | refine GL.v rfl rfl rfl (by exact GO.add rfl rfl rfl (by omega)) ?_
  | refine GT.skip ?_
  | refine GT.block ?_
  | refine GT.ret ?_
  | refine GT.exit ?_
  | refine GP.thenE ?_
  | refine GP.inN ?_
  | refine GP.hit ?_
  | refine GP.againN ?_
  | refine GP.againE ?_
  | refine GU.step ?_
  | refine GT.condT rfl ?_
  | refine GT.condF rfl ?_
  | refine GP.endR1 rfl ?_)
  rfl
theorem w_missing65f {A : AW} (x : Mo) (h : x.all = false) : AC Tryd.prog 65 [.agg x.vs.toArray] A (isR (.slice (some ⟨A.next, 0, none⟩) (wdL x).length (wdL x).length) (A.push (.cells ((wdL x).map Value.string) 9))) := by
  refine AC.mono (AC.givesX (Φ := fun cs => cs = (wdL x).map Value.string) (e := 9) SmallX.nil (args := [.agg x.vs.toArray]) (v2 := .slice (some ⟨A.next, 0, none⟩) (wdL x).length (wdL x).length) ?_ (.flat (k := 16) rfl .nil)) (fun v A1 hv => by obtain ⟨cs, rfl, rfl, rfl⟩ := hv; exact ⟨rfl, rfl⟩)
  refine AC.go Tryd.func65 rfl rfl ?_
  obtain ⟨v, c, s, t⟩ := x
  cases c <;> cases s <;> cases t <;> first | exact absurd (show true = false from h) (by decide) | skip
  all_goals
    repeat' (first
    | refine GT.unroll 4 ?_
    | refine GL.sf rfl rfl rfl rfl ?_
    | refine GL.nf rfl rfl rfl ?_
    | refine GL.done ?_
    | refine GP.thenN ?_
    | refine GT.seq ?_
    | refine GT.region ?_
    | refine GL.v rfl rfl rfl (by exact GO.add rfl rfl rfl (by omega)) ?_
    | refine GT.skip ?_
    | refine GT.block ?_
    | refine GT.ret ?_
    | refine GT.exit ?_
    | refine GP.thenE ?_
    | refine GP.inN ?_
    | refine GP.hit ?_
    | refine GP.againN ?_
    | refine GP.againE ?_
    | refine GU.step ?_
    | refine GT.condT rfl ?_
    | refine GT.condF rfl ?_
    | refine GP.endR1 rfl ?_)
  all_goals first | exact ⟨2, _, rfl, Nat.le_of_ble_eq_true rfl, ⟨16, rfl⟩, rfl, .sl (f := 0) (g := 0) (if_pos rfl) rfl .nil⟩ | exact ⟨3, _, rfl, Nat.le_of_ble_eq_true rfl, ⟨16, rfl⟩, rfl, .sl (f := 0) (g := 0) (if_pos rfl) rfl .nil⟩ | exact ⟨4, _, rfl, Nat.le_of_ble_eq_true rfl, ⟨16, rfl⟩, rfl, .sl (f := 0) (g := 0) (if_pos rfl) rfl .nil⟩ | exact ⟨5, _, rfl, Nat.le_of_ble_eq_true rfl, ⟨16, rfl⟩, rfl, .sl (f := 0) (g := 0) (if_pos rfl) rfl .nil⟩ | exact ⟨6, _, rfl, Nat.le_of_ble_eq_true rfl, ⟨16, rfl⟩, rfl, .sl (f := 0) (g := 0) (if_pos rfl) rfl .nil⟩ | exact ⟨7, _, rfl, Nat.le_of_ble_eq_true rfl, ⟨16, rfl⟩, rfl, .sl (f := 0) (g := 0) (if_pos rfl) rfl .nil⟩ | exact ⟨8, _, rfl, Nat.le_of_ble_eq_true rfl, ⟨16, rfl⟩, rfl, .sl (f := 0) (g := 0) (if_pos rfl) rfl .nil⟩ | exact ⟨9, _, rfl, Nat.le_of_ble_eq_true rfl, ⟨16, rfl⟩, rfl, .sl (f := 0) (g := 0) (if_pos rfl) rfl .nil⟩ | exact ⟨10, _, rfl, Nat.le_of_ble_eq_true rfl, ⟨16, rfl⟩, rfl, .sl (f := 0) (g := 0) (if_pos rfl) rfl .nil⟩ | exact ⟨11, _, rfl, Nat.le_of_ble_eq_true rfl, ⟨16, rfl⟩, rfl, .sl (f := 0) (g := 0) (if_pos rfl) rfl .nil⟩ | exact ⟨12, _, rfl, Nat.le_of_ble_eq_true rfl, ⟨16, rfl⟩, rfl, .sl (f := 0) (g := 0) (if_pos rfl) rfl .nil⟩
/-- The cells of moments. -/
def mosC (l : List Mo) : List Value := l.flatMap Mo.vs
theorem mosC_cons (x : Mo) (l : List Mo) : mosC (x :: l) = x.vs ++ mosC l := by simp [mosC]
theorem mosC_len : ∀ l : List Mo, (mosC l).length = l.length * 4
  | [] => rfl
  | x :: l => by rw [mosC_cons]; simp [mosC_len l]; omega
theorem mosC_flat : ∀ l : List Mo, ∃ j, noAddrs j (mosC l) = true
  | [] => ⟨1, rfl⟩
  | x :: l => by obtain ⟨j, h⟩ := mosC_flat l; exact ⟨j + 4, by rw [mosC_cons]; simpa [noAddrs] using h⟩
theorem mosC_at : ∀ (l : List Mo) (i : Nat) (x : Mo), l[i]? = some x → ((mosC l).drop (i * 4)).take 4 = x.vs
  | [], i, x, h => by simp at h
  | y :: l, 0, x, h => by
    simp at h; subst h
    rw [mosC_cons]; rfl
  | y :: l, i + 1, x, h => by
    have := mosC_at l i x (by simpa using h)
    rw [mosC_cons, show (i + 1) * 4 = 4 + i * 4 by omega, ← List.drop_drop]
    exact this
theorem mosC_app (l l' : List Mo) : mosC (l ++ l') = mosC l ++ mosC l' := by simp [mosC]
abbrev moL (μ : Nat → Mo) (n : Nat) : List Mo := (List.range n).map μ
theorem moL_at {μ : Nat → Mo} {n i : Nat} (h : i < n) : (moL μ n)[i]? = some (μ i) := by simp [moL, h]
theorem moL_len {μ : Nat → Mo} {n : Nat} : (moL μ n).length = n := by simp [moL]
theorem moL_succ {μ : Nat → Mo} {n : Nat} : moL μ (n + 1) = moL μ n ++ [μ n] := by simp [moL, List.range_succ]
abbrev moC (μ : Nat → Mo) (n : Nat) : List Value := mosC (moL μ n)
theorem moC_len {μ : Nat → Mo} {n : Nat} : (moC μ n).length = n * 4 := by rw [mosC_len, moL_len]
theorem moC_at {μ : Nat → Mo} {n i : Nat} (h : i < n) : ((moC μ n).drop (i * 4)).take 4 = (μ i).vs := mosC_at _ i _ (moL_at h)
theorem moC_succ {μ : Nat → Mo} {n : Nat} : moC μ (n + 1) = moC μ n ++ (μ n).vs := by
  unfold moC; rw [moL_succ, mosC_app]; simp [mosC]
theorem w_view106 {A : AW} (x : Mo) (h : 0 ≤ x.v ∧ x.v ≤ 10000) : AC Tryd.prog 106 [.agg x.vs.toArray] A (isR (.int .i64 0) A) := by
  refine AC.is0 ?_ ⟨8, rfl⟩ (.flat (k := 16) rfl .nil)
  refine AC.go Tryd.func106 rfl rfl ?_
  repeat' (first
  | refine GL.sf rfl rfl rfl rfl ?_
  | refine GL.done ?_
  | refine GP.thenN ?_
  | refine GT.seq ?_
  | refine GT.region ?_
  | refine GL.v rfl rfl rfl (by exact GO.call rfl rfl Tryd.func107 rfl rfl rfl (w_view107 _ h)) ?_
  | refine GT.ret ?_
  | refine GP.endR1 rfl ?_)
  rfl
theorem w_mapped105 {A : AW} {x c n : Nat} (μ : Nat → Mo) (h : ∀ i, i < n → 0 ≤ (μ i).v ∧ (μ i).v ≤ 10000) (hn : 0 < n ∧ n ≤ 1000) (hx : A.rd x 0 (moC μ n).length = some (moC μ n)) :
    AC Tryd.prog 105 [.slice (some ⟨x, 0, none⟩) n c, .func (.func 106) #[] #[]] A (isR (.slice (some ⟨A.next, 0, none⟩) n n) (A.push (.cells (zC n) 48))) := by
  obtain ⟨fz, hfz⟩ := mosC_flat (moL μ n)
  have hlen := moC_len (μ := μ) (n := n)
  refine AC.mono (AC.givesX (Φ := fun cs => cs = zC n) (e := 48) (SmallX.nil.cons (k := 0) (b := x) (f := 0) (o := .cells (moC μ n) 91) (.flat hx hfz)) (args := [.slice (some ⟨0, 0, none⟩) n c, .func (.func 106) #[] #[]]) (v2 := .slice (some ⟨A.next, 0, none⟩) n n) ?_
    (.sl rfl rfl (.flat (k := 8) rfl .nil))) (fun v A1 hv => by obtain ⟨cs, rfl, rfl, rfl⟩ := hv; exact ⟨rfl, rfl⟩)
  clear hx
  refine AC.go Tryd.func105 rfl rfl ?_
  repeat' (first
  | refine GL.sf rfl rfl rfl rfl ?_
  | refine GL.sv rfl rfl rfl rfl ?_
  | refine GL.done ?_
  | refine GP.thenN ?_
  | refine GT.seq ?_
  | refine GT.region ?_
  | refine GT.block ?_)
  refine GT.loop (fun q a L nx => ∃ i : Nat, i ≤ n ∧ q = n - i ∧ 1 ≤ nx ∧ asub [(1, .func (.func 106) #[] #[]), (8, .slice (some ⟨0, 0, none⟩) n c), (9, .int .i64 n), (10, .int .i64 i)] a ∧ subm [(0, .cells (moC μ n) 91)] L ∧
      ((i = 0 ∧ aget a 5 = some (.slice none 0 0)) ∨ ∃ o, 0 < i ∧ 1 ≤ o ∧ alook L o = some (.cells (zC i) 48) ∧ aget a 5 = some (.slice (some ⟨o, 0, none⟩) i i))) n
    ⟨0, by omega, by omega, Nat.le_of_ble_eq_true rfl, asub_cons rfl (asub_cons rfl (asub_cons rfl (asub_cons rfl asub_nil))), subm_cons rfl subm_nil, .inl ⟨rfl, rfl⟩⟩ ?_
  rintro q a L nx ⟨i, hi, rfl, hnx, hs, hsub, hcase⟩
  have hU : ∀ j y, alook [(0, .cells (moC μ n) 91)] j = some y → j < 1 ∧ ObjLt 1 y := Under.look (.cons rfl (Lt.flat hfz) .nil)
  have hE : EnvLt 1 [(1, .func (.func 106) #[] #[]), (8, .slice (some ⟨0, 0, none⟩) n c), (9, .int .i64 n), (10, .int .i64 i)] := .cons (.flat (j := 8) rfl) (.cons (.sl rfl) (.cons (.flat (j := 8) rfl) (.cons (.flat (j := 8) rfl) .nil)))
  rcases hcase with ⟨h0, h3⟩ | ⟨o, hpos, ho, hob, h3⟩
  · refine GT.resetL (a1 := (5, .slice none 0 0) :: [(1, .func (.func 106) #[] #[]), (8, .slice (some ⟨0, 0, none⟩) n c), (9, .int .i64 n), (10, .int .i64 i)]) 1 (asub_cons h3 hs) hsub hnx rfl rfl hU (.cons (.flat (j := 8) rfl) hE) (fun g hg => absurd hg (Nat.not_lt_zero g)) ?_
    clear hs hsub hnx h3
    have hlt : i < n := by omega
    have g2 : ((moC μ n).drop (0 + (i : Int).toNat * 4)).take 4 = (μ i).vs := by simpa using moC_at hlt
    have h6 := h i hlt
    repeat' (first
    | refine GL.sf rfl rfl rfl rfl ?_
    | refine GL.sv rfl rfl rfl rfl ?_
    | refine GL.sn rfl rfl rfl ?_
    | refine GL.done ?_
    | refine GP.thenN ?_
    | refine GT.seq ?_
    | refine GT.region ?_
    | refine GL.v rfl rfl rfl (by first | exact GO.indexS (s := 4) rfl rfl rfl rfl rfl (by omega) | exact GO.loadG (s := 4) rfl rfl rfl rfl rfl rfl (by omega) g2 | exact GO.callV rfl rfl rfl Tryd.func106 rfl rfl rfl (w_view106 (μ i) h6) | exact GO.add rfl rfl rfl (by omega)) ?_
    | refine GT.skip ?_
    | refine GT.block ?_
    | refine GP.inN ?_
    | (refine GT.condD rfl (fun h => ?_) (fun h => ?_) <;> try (exfalso; omega)))
    exact GP.invN (n - (i + 1)) (by omega) ⟨i + 1, by omega, rfl, Nat.le_of_ble_eq_true rfl, asub_cons rfl (asub_cons rfl (asub_cons rfl (asub_cons rfl asub_nil))), subm_cons rfl subm_nil, .inr ⟨3, by omega, Nat.le_of_ble_eq_true rfl, by subst h0; rfl, by subst h0; rfl⟩⟩
  · refine GT.resetE (L' := [(0, .cells (moC μ n) 91)]) 1 o (u' := .slice (some ⟨1, 0, none⟩) i i) hs hsub rfl rfl rfl hU hE ho trivial hob (zC_flat _) h3 (fun ρ h1 h2 => .sl h2) rfl ?_
    clear hs hsub hnx h3 ho hob
    rcases Nat.lt_or_ge i n with hlt | hge
    · have hnl : (zC i).length = i * 1 := by simp
      have g2 : ((moC μ n).drop (0 + (i : Int).toNat * 4)).take 4 = (μ i).vs := by simpa using moC_at hlt
      have h6 := h i hlt
      repeat' (first
      | refine GL.sf rfl rfl rfl rfl ?_
      | refine GL.sn rfl rfl rfl ?_
      | refine GL.done ?_
      | refine GP.thenN ?_
      | refine GT.seq ?_
      | refine GT.region ?_
      | refine GL.v rfl rfl rfl (by first | exact GO.indexS (s := 4) rfl rfl rfl rfl rfl (by omega) | exact GO.loadG (s := 4) rfl rfl rfl rfl rfl rfl (by omega) g2 | exact GO.callV rfl rfl rfl Tryd.func106 rfl rfl rfl (w_view106 (μ i) h6) | exact GO.appendN (olds := zC i) rfl rfl rfl rfl rfl rfl rfl rfl rfl rfl rfl rfl rfl rfl hnl (Nat.le_of_ble_eq_true rfl) rfl (Nat.le_of_ble_eq_true rfl) (Nat.le_of_ble_eq_true rfl) (Nat.le_trans (m := 1000 + 8) (Nat.add_le_add (by omega) (Nat.le_of_ble_eq_true rfl)) (Nat.le_of_ble_eq_true rfl)) | exact GO.add rfl rfl rfl (by omega)) ?_
      | refine GT.skip ?_
      | refine GT.block ?_
      | refine GP.inN ?_
      | (refine GT.condD rfl (fun h => ?_) (fun h => ?_) <;> try (exfalso; omega)))
      exact GP.invN (n - (i + 1)) (by omega) ⟨i + 1, by omega, rfl, Nat.le_of_ble_eq_true rfl, asub_cons rfl (asub_cons rfl (asub_cons rfl (asub_cons rfl asub_nil))), subm_cons rfl subm_nil, .inr ⟨4, by omega, Nat.le_of_ble_eq_true rfl, by rw [zC_snoc]; rfl, rfl⟩⟩
    · obtain rfl : i = n := by omega
      repeat' (first
      | refine GL.sf rfl rfl rfl rfl ?_
      | refine GL.done ?_
      | refine GP.thenN ?_
      | refine GT.seq ?_
      | refine GT.region ?_
      | refine GT.ret ?_
      | refine GT.exit ?_
      | refine GP.thenE ?_
      | refine GP.hit ?_
      | refine GP.invE ?_
      | (refine GT.condD rfl (fun h => ?_) (fun h => ?_) <;> try (exfalso; omega))
      | refine GP.endR1 rfl ?_)
      exact ⟨1, _, rfl, Nat.le_of_ble_eq_true rfl, zC_flat _, rfl, .sl (f := 0) (g := 0) (if_pos rfl) rfl .nil⟩
theorem zC_ints (n : Nat) : zC n = (List.replicate n (0 : Int)).map (Value.int .i64) := by simp [zC]
theorem zC_first (n : Nat) : firstNZ (List.replicate n (0 : Int)) = 0 := firstNZ_all fun y hy => (List.mem_replicate.1 hy).2
theorem w_moments63 {A : AW} {x c n : Nat} (r : Rl) (hr : r.Ok) (μ : Nat → Mo) (hv : ∀ i, i < n → 0 ≤ (μ i).v ∧ (μ i).v ≤ 10000) (hn : 0 < n ∧ n ≤ 256) (hx : A.rd x 0 (moC μ n).length = some (moC μ n)) :
    AC Tryd.prog 63 [.agg r.vs.toArray, .slice (some ⟨x, 0, none⟩) n c] A (isR (.int .i64 0) A) := by
  obtain ⟨fz, hfz⟩ := mosC_flat (moL μ n)
  have hrd : ∀ {L : LM} {nx ro gl b : Nat}, alook L b = some (.cells (zC n) 48) → (AW.of L nx ro gl).rd b 0 n = some ((List.replicate n (0 : Int)).map (Value.int .i64)) := fun {L nx ro gl b} hb => by
    have := rd_self (nx := nx) (ro := ro) (gl := gl) hb
    rw [← zC_ints]
    simpa using this
  have k1 := fun {A : AW} {b c : Nat} (hb : A.rd b 0 n = some ((List.replicate n (0 : Int)).map (Value.int .i64))) => w_first102 (A := A) (b := b) (f := 0) (l := n) (c := c) (List.replicate n 0) (by simp) (Nat.ble_eq_true_of_le (by omega)) hb
  rw [zC_first] at k1
  refine AC.isX (SmallX.nil.cons (k := 0) (b := x) (f := 0) (o := .cells (moC μ n) 91) (.flat hx hfz)) (args := [.agg r.vs.toArray, .slice (some ⟨0, 0, none⟩) n c]) ?_ ⟨8, rfl⟩ (.flat (k := 32) rfl (.sl rfl rfl .nil))
  have hd : decide ((256 : Int) < (n : Int)) = false := decide_eq_false (by omega)
  have hz : firstNZ [0, whenI (decide ((256 : Int) < (n : Int))) 5] = 0 := by rw [hd]; rfl
  refine AC.go Tryd.func63 rfl rfl ?_
  clear hx
  repeat' (first
  | refine GL.sf rfl rfl rfl rfl ?_
  | refine GL.sv rfl rfl rfl rfl ?_
  | refine GL.done ?_
  | refine GP.thenN ?_
  | refine GT.seq ?_
  | refine GT.region ?_
  | refine GL.v rfl rfl rfl (by first | exact GO.call rfl rfl Tryd.func103 rfl rfl rfl (w_rule103 _ _ _ _ ⟨hr.p, hr.e, hr.l, hr.m, hr.ep, hr.pl⟩) | exact GO.call rfl rfl Tryd.func104 rfl rfl rfl (w_when104 _ _) | exact GO.call rfl rfl Tryd.func102 rfl rfl rfl (w_first102 [0, whenI (decide ((256 : Int) < (n : Int))) 5] rfl rfl rfl) | exact GO.push (GO.call rfl rfl Tryd.func105 rfl rfl rfl (w_mapped105 μ hv ⟨hn.1, by omega⟩ (rd_self rfl))) | exact GO.call rfl rfl Tryd.func102 rfl rfl rfl (k1 (hrd rfl))) ?_
  | refine GT.skip ?_
  | refine GT.ret ?_
  | (refine GT.condN rfl (fun h => ?_) (fun h => ?_) <;> try (exfalso; omega))
  | refine GP.endR1 rfl ?_)
  all_goals first | rfl | (exfalso; exact h hz)
end Go.M
