/- Functions of the given program, walked (no condition beyond what each theorem says). -/
import Derived.Test.YtfhodefiknfccaaDoorH2
import Derived.Test.YtfhodefiknfccaaDoorB5
set_option linter.unusedVariables false
set_option linter.unusedSimpArgs false
namespace Go.M
open Go.Proofs Go.RowKit
set_option maxRecDepth 8000
set_option maxHeartbeats 8000000
/-- A landing. -/
structure Ld where
  s : ByteArray
  ct : Int
  a : Int
  b : Int
abbrev Ld.vs (d : Ld) : List Value := [.string d.s, .int .i64 d.ct, .int .i64 d.a, .int .i64 d.b]
def Ld.Ok (d : Ld) : Prop := NameOk d.s ∧ (1 ≤ d.ct ∧ d.ct ≤ 3) ∧ SpanOk d.a d.b
def esN (nm : Nat → ByteArray) (i : Nat) : List MapEntry := (List.range i).map fun j => ⟨.string (nm j), .bool true, j⟩
theorem esN_succ {nm : Nat → ByteArray} {i : Nat} : esN nm (i + 1) = esN nm i ++ [⟨.string (nm i), .bool true, i⟩] := by
  unfold esN; rw [List.range_succ, List.map_append]; rfl
theorem esN_lt {nm : Nat → ByteArray} {k : Nat} : ∀ i, Lt k ((esN nm i).map (·.val))
  | 0 => .nil
  | i + 1 => by
    have h := esN_lt (nm := nm) (k := k) i
    obtain ⟨j, hj⟩ : ∃ j, noAddrs j ((esN nm (i + 1)).map (·.val)) = true := by
      have : ∀ n, ∃ j, noAddrs j (List.replicate n (Value.bool true)) = true := fun n => by
        induction n with
        | zero => exact ⟨1, rfl⟩
        | succ n ih => obtain ⟨j, h⟩ := ih; exact ⟨j + 1, by rw [List.replicate_succ]; simpa [noAddrs] using h⟩
      have e : (esN nm (i + 1)).map (·.val) = List.replicate (i + 1) (Value.bool true) := by
        unfold esN
        rw [List.map_map]
        apply List.ext_getElem?
        intro n
        rw [List.getElem?_map, List.getElem?_replicate]
        rcases Nat.lt_or_ge n (i + 1) with h | h
        · rw [List.getElem?_range h, if_pos h]; rfl
        · rw [List.getElem?_eq_none (by simpa using h), if_neg (by omega)]; rfl
      rw [e]; exact this _
    exact Lt.flat hj
theorem findNow_all {s : ByteArray} : ∀ (es : List MapEntry) (i : Nat), (∀ e ∈ es, ∃ k, e.key = .string k ∧ (s == k) = false) → Instr.findNow .string (.string s) es i = some none
  | [], _, _ => rfl
  | ⟨k, v, b⟩ :: es, i, h => by
    obtain ⟨k', hk, hne⟩ := h _ List.mem_cons_self
    simp only at hk
    subst hk
    rw [findNow_ne hne]
    exact findNow_all es (i + 1) fun e he => h e (List.mem_cons_of_mem _ he)
theorem findNow_esN {s : ByteArray} {nm : Nat → ByteArray} {i : Nat} (h : ∀ j, j < i → (s == nm j) = false) : Instr.findNow .string (.string s) (esN nm i) 0 = some none := by
  refine findNow_all _ _ fun e he => ?_
  unfold esN at he
  obtain ⟨j, hj, rfl⟩ := List.mem_map.1 he
  exact ⟨nm j, rfl, h j (List.mem_range.1 hj)⟩
def ldC (l : List Ld) : List Value := l.flatMap Ld.vs
theorem ldC_cons (x : Ld) (l : List Ld) : ldC (x :: l) = x.vs ++ ldC l := by simp [ldC]
theorem ldC_len : ∀ l : List Ld, (ldC l).length = l.length * 4
  | [] => rfl
  | x :: l => by rw [ldC_cons]; simp [ldC_len l]; omega
theorem ldC_flat : ∀ l : List Ld, ∃ j, noAddrs j (ldC l) = true
  | [] => ⟨1, rfl⟩
  | x :: l => by
    obtain ⟨j, h⟩ := ldC_flat l
    rw [ldC_cons]
    exact ⟨j + 4, by simpa [noAddrs] using h⟩
theorem ldC_at : ∀ (l : List Ld) (i : Nat) (x : Ld), l[i]? = some x → ((ldC l).drop (i * 4)).take 4 = x.vs
  | [], i, x, h => by simp at h
  | y :: l, 0, x, h => by
    simp at h; subst h
    rw [ldC_cons]; rfl
  | y :: l, i + 1, x, h => by
    have := ldC_at l i x (by simpa using h)
    rw [ldC_cons, show (i + 1) * 4 = 4 + i * 4 by omega, ← List.drop_drop]
    exact this
/-- A valid list. -/
structure LdOk (l : List Ld) : Prop where
  ok : ∀ (i : Nat) (x : Ld), l[i]? = some x → x.Ok
  ne : ∀ (i j : Nat) (x y : Ld), j < i → l[i]? = some x → l[j]? = some y → (x.s == y.s) = false
def ldNm (l : List Ld) (j : Nat) : ByteArray := match l[j]? with
  | some x => x.s
  | none => ⟨#[]⟩
theorem w_label140 {A : AW} (x : Ld) : AC Tryd.prog 140 [.agg x.vs.toArray] A (isR (.string x.s) A) := by
  refine AC.is0 ?_ ⟨8, rfl⟩ (.flat (k := 32) rfl .nil)
  refine AC.go Tryd.func140 rfl rfl ?_
  repeat' (first
  | refine GL.sf rfl rfl rfl rfl ?_
  | refine GL.done ?_
  | refine GP.thenN ?_
  | refine GT.seq ?_
  | refine GT.region ?_
  | refine GT.ret ?_
  | refine GP.endR1 rfl ?_)
  rfl
theorem w_check141 {A : AW} (x : Ld) (h : x.Ok) : AC Tryd.prog 141 [.agg x.vs.toArray] A (isR (.int .i64 0) A) := by
  refine AC.is0 ?_ ⟨8, rfl⟩ (.flat (k := 32) rfl .nil)
  refine AC.go Tryd.func141 rfl rfl ?_
  repeat' (first
  | refine GT.draws (id := 1) [[], [0], [0, 1], [], [3], [0, 1, 2, 3, 4], [0, 1, 2, 3, 4, 5], [0, 1, 2, 3, 4, 5, 6], [0, 1, 2, 3, 4, 5, 6, 7]] [6] (by kernel_rfl) ?_
  | refine GL.sf rfl rfl rfl rfl ?_
  | refine GL.done ?_
  | refine GP.thenN ?_
  | refine GT.seq ?_
  | refine GT.region ?_
  | refine GD.li rfl rfl (by exact onAt.none rfl) rfl (by repeat first | exact AllG.nil rfl | refine AllG.cons rfl (by first | exact GO.sf rfl rfl | exact GO.call rfl rfl Tryd.func158 rfl rfl rfl (w_category158 _ h.2.1) | exact GO.call rfl rfl Tryd.func160 rfl rfl rfl (w_ticks160 _ _ h.2.2) | exact GO.call rfl rfl Tryd.func98 rfl rfl rfl (w_first98 [0, 0] rfl rfl rfl)) ?_) ?_
  | refine GD.he rfl rfl rfl (by exact onAt.none rfl) rfl (by exact GO.sf rfl rfl) ?_ ?_
  | refine GD.done rfl rfl rfl ?_
  | exact AllJs.nil rfl
  | refine GT.ret ?_
  | refine GP.endR1 rfl ?_)
  rfl
theorem w_named139 {A : AW} {p c : Nat} (l : List Ld) (hV : LdOk l) (hl : l.length ≤ 32) (hp : A.rd p 0 (ldC l).length = some (ldC l)) :
    AC Tryd.prog 139 [.slice (some ⟨p, 0, none⟩) l.length c, .int .i64 32, .func (.func 140) #[] #[], .func (.func 141) #[] #[]] A (isR (.int .i64 0) A) := by
  obtain ⟨fj, hflat⟩ := ldC_flat l
  have hlen := ldC_len l
  refine AC.isX (SmallX.nil.cons (k := 0) (b := p) (f := 0) (o := .cells (ldC l) 163) (.flat hp hflat)) (args := [.slice (some ⟨0, 0, none⟩) l.length c, .int .i64 32, .func (.func 140) #[] #[], .func (.func 141) #[] #[]]) ?_ ⟨8, rfl⟩ (.sl rfl rfl (.flat (k := 8) rfl (.flat (k := 8) rfl (.flat (k := 8) rfl .nil))))
  refine AC.go Tryd.func139 rfl rfl ?_
  clear hp
  repeat' (first
  | refine GL.sf rfl rfl rfl rfl ?_
  | refine GL.sv rfl rfl rfl rfl ?_
  | refine GL.done ?_
  | refine GP.thenN ?_
  | refine GT.seq ?_
  | refine GT.region ?_
  | refine GT.skip ?_
  | refine GT.block ?_
  | (refine GT.condD rfl (fun h => ?_) (fun h => ?_) <;> try (exfalso; omega)))
  refine GT.loop (fun q a L nx => ∃ i : Nat, i ≤ l.length ∧ q = l.length - i ∧ 2 ≤ nx ∧ asub [(2, .func (.func 140) #[] #[]), (3, .func (.func 141) #[] #[]), (9, .map (some 1)), (19, .slice (some ⟨0, 0, none⟩) l.length c), (20, .int .i64 l.length), (21, .int .i64 i)] a ∧ subm [(1, .map (esN (ldNm l) i) i), (0, .cells (ldC l) 163)] L) l.length
    ⟨0, by omega, by omega, Nat.le_of_ble_eq_true rfl, asub_cons rfl (asub_cons rfl (asub_cons rfl (asub_cons rfl (asub_cons rfl (asub_cons rfl asub_nil))))), subm_cons rfl (subm_cons rfl subm_nil)⟩ ?_
  rintro q a L nx ⟨i, hi, rfl, hnx, hs, hsub⟩
  refine GT.resetL 2 hs hsub hnx rfl rfl (Under.look (.cons rfl (esN_lt i) (.cons rfl (Lt.flat hflat) .nil))) (.cons (.flat (j := 8) rfl) (.cons (.flat (j := 8) rfl) (.cons (.map rfl) (.cons (.sl rfl) (.cons (.flat (j := 8) rfl) (.cons (.flat (j := 8) rfl) .nil)))))) (fun g hg => absurd hg (Nat.not_lt_zero g)) ?_
  clear hs hsub hnx
  rcases Nat.lt_or_ge i l.length with hlt | hge
  · obtain ⟨x, hx⟩ : ∃ x, l[i]? = some x := ⟨_, List.getElem?_eq_getElem hlt⟩
    have hok := hV.ok i x hx
    have hnm : ldNm l i = x.s := by unfold ldNm; rw [hx]
    have hf : Instr.findNow .string (.string x.s) (esN (ldNm l) i) 0 = some none := findNow_esN fun j hj => by
      obtain ⟨y, hy⟩ : ∃ y, l[j]? = some y := ⟨_, List.getElem?_eq_getElem (by omega)⟩
      unfold ldNm
      rw [hy]
      exact hV.ne i j x y hj hx hy
    have g : ((ldC l).drop (0 + (i : Int).toNat * 4)).take 4 = x.vs := by simpa using ldC_at l i x hx
    repeat' (first
    | refine GT.draws (id := 8) [[], [0], [0, 1], [0, 1, 2], [], [], [4, 5], [0, 1, 2, 3, 4, 5, 6], [], [], [0, 1, 2, 3, 4, 5, 6, 7, 8, 9], [0, 1, 2, 3, 4, 5, 6, 7, 8, 9, 10], [0, 1, 2, 3, 4, 5, 6, 7, 8, 9, 10, 11], [0, 1, 2, 3, 4, 5, 6, 7, 8, 9, 10, 11, 12]] [11] (by kernel_rfl) ?_
    | refine GL.mapNew rfl rfl rfl rfl rfl rfl rfl rfl rfl rfl hf rfl ?_
    | refine GL.sf rfl rfl rfl rfl ?_
    | refine GL.sn rfl rfl rfl ?_
    | refine GL.done ?_
    | refine GP.thenN ?_
    | refine GT.seq ?_
    | refine GT.region ?_
    | refine GD.li rfl rfl (by exact onAt.none rfl) rfl (by repeat first | exact AllG.nil rfl | refine AllG.cons rfl (by first | exact GO.sf rfl rfl | exact GO.call rfl rfl Tryd.func145 rfl rfl rfl (d_isname145 _ hok.1) | exact GO.call rfl rfl Tryd.func132 rfl rfl rfl (w_when132 _ _) | exact GO.lookupNone rfl rfl rfl rfl rfl rfl hf rfl | exact GO.callV rfl rfl rfl Tryd.func141 rfl rfl rfl (w_check141 x hok) | exact GO.call rfl rfl Tryd.func98 rfl rfl rfl (w_first98 [0, 0, 0] rfl rfl rfl)) ?_) ?_
    | refine GD.he rfl rfl rfl (by exact onAt.none rfl) rfl (by exact GO.sf rfl rfl) ?_ ?_
    | refine GD.done rfl rfl rfl ?_
    | exact AllJs.nil rfl
    | refine GL.v rfl rfl rfl (by first | exact GO.indexS (s := 4) rfl rfl rfl rfl rfl (by omega) | exact GO.loadG (s := 4) rfl rfl rfl rfl rfl rfl (by omega) g | exact GO.callV rfl rfl rfl Tryd.func140 rfl rfl rfl (w_label140 x) | exact GO.add rfl rfl rfl (by omega)) ?_
    | refine GT.skip ?_
    | refine GT.block ?_
    | refine GP.inN ?_
    | refine GT.condF rfl ?_
    | (refine GT.condD rfl (fun h => ?_) (fun h => ?_) <;> try (exfalso; omega)))
    exact GP.invN (l.length - (i + 1)) (by omega) ⟨i + 1, by omega, rfl, Nat.le_of_ble_eq_true rfl, asub_cons rfl (asub_cons rfl (asub_cons rfl (asub_cons rfl (asub_cons rfl (asub_cons rfl asub_nil))))), subm_cons (by rw [esN_succ, hnm]; rfl) (subm_cons rfl subm_nil)⟩
  ·
    repeat' (first
    | refine GL.sf rfl rfl rfl rfl ?_
    | refine GL.done ?_
    | refine GP.thenN ?_
    | refine GT.seq ?_
    | refine GT.region ?_
    | refine GT.ret ?_
    | refine GT.exit ?_
    | refine GP.thenE ?_
    | refine GP.hit ?_
    | refine GP.invE ?_
    | (refine GT.condD rfl (fun h => ?_) (fun h => ?_) <;> try (exfalso; omega))
    | refine GP.endR1 rfl ?_)
    rfl
theorem w_check110 {A : AW} {p c : Nat} (l : List Ld) (hV : LdOk l) (hl : l.length ≤ 32) (hp : A.rd p 0 (ldC l).length = some (ldC l)) : AC Tryd.prog 110 [.slice (some ⟨p, 0, none⟩) l.length c] A (isR (.int .i64 0) A) := by
  obtain ⟨fj, hflat⟩ := ldC_flat l
  refine AC.isX (SmallX.nil.cons (k := 0) (b := p) (f := 0) (o := .cells (ldC l) 163) (.flat hp hflat)) (args := [.slice (some ⟨0, 0, none⟩) l.length c]) ?_ ⟨8, rfl⟩ (.sl rfl rfl .nil)
  refine AC.go Tryd.func110 rfl rfl ?_
  clear hp
  repeat' (first
  | refine GL.sf rfl rfl rfl rfl ?_
  | refine GL.done ?_
  | refine GP.thenN ?_
  | refine GT.seq ?_
  | refine GT.region ?_
  | refine GL.v rfl rfl rfl (by exact GO.call rfl rfl Tryd.func139 rfl rfl rfl (w_named139 l hV hl (rd_self rfl))) ?_
  | refine GT.ret ?_
  | refine GP.endR1 rfl ?_)
  rfl
theorem w_check110n {A : AW} : AC Tryd.prog 110 [.slice none 0 0] A (isR (.int .i64 0) A) := by
  refine AC.is0 ?_ ⟨8, rfl⟩ (.flat (k := 8) rfl .nil)
  refine AC.go Tryd.func110 rfl rfl ?_
  repeat' (first
  | refine GL.v rfl rfl rfl (GO.call rfl rfl Tryd.func139 rfl rfl rfl (AC.go Tryd.func139 rfl rfl (by repeat' (first | exact ⟨rfl, rfl⟩ | refine GT.unroll 1 ?_ | refine GL.sf rfl rfl rfl rfl ?_ | refine GL.done ?_ | refine GP.thenN ?_ | refine GT.seq ?_ | refine GT.region ?_ | refine GT.skip ?_ | refine GT.block ?_ | refine GT.ret ?_ | refine GT.exit ?_ | refine GP.thenE ?_ | refine GP.hit ?_ | refine GP.againE ?_ | refine GU.step ?_ | refine GT.condF rfl ?_ | refine GP.endR1 rfl ?_)))) ?_
  | refine GL.sf rfl rfl rfl rfl ?_
  | refine GL.done ?_
  | refine GP.thenN ?_
  | refine GT.seq ?_
  | refine GT.region ?_
  | refine GT.ret ?_
  | refine GP.endR1 rfl ?_)
  rfl
def mvC (l : List Mv) : List Value := l.flatMap Mv.vs
theorem mvC_cons (x : Mv) (l : List Mv) : mvC (x :: l) = x.vs ++ mvC l := by simp [mvC]
theorem mvC_len : ∀ l : List Mv, (mvC l).length = l.length * 8
  | [] => rfl
  | x :: l => by rw [mvC_cons]; simp [mvC_len l]; omega
theorem mvC_flat : ∀ l : List Mv, ∃ j, noAddrs j (mvC l) = true
  | [] => ⟨1, rfl⟩
  | x :: l => by
    obtain ⟨j, h⟩ := mvC_flat l
    rw [mvC_cons]
    exact ⟨j + 8, by simpa [noAddrs] using h⟩
theorem mvC_at : ∀ (l : List Mv) (i : Nat) (x : Mv), l[i]? = some x → ((mvC l).drop (i * 8)).take 8 = x.vs
  | [], i, x, h => by simp at h
  | y :: l, 0, x, h => by
    simp at h; subst h
    rw [mvC_cons]; rfl
  | y :: l, i + 1, x, h => by
    have := mvC_at l i x (by simpa using h)
    rw [mvC_cons, show (i + 1) * 8 = 8 + i * 8 by omega, ← List.drop_drop]
    exact this
/-- A valid list. -/
structure MvOk (l : List Mv) : Prop where
  ok : ∀ (i : Nat) (x : Mv), l[i]? = some x → x.Ok
  ne : ∀ (i j : Nat) (x y : Mv), j < i → l[i]? = some x → l[j]? = some y → (x.s == y.s) = false
def mvNm (l : List Mv) (j : Nat) : ByteArray := match l[j]? with
  | some x => x.s
  | none => ⟨#[]⟩
theorem w_label143 {A : AW} (x : Mv) : AC Tryd.prog 143 [.agg x.vs.toArray] A (isR (.string x.s) A) := by
  refine AC.is0 ?_ ⟨8, rfl⟩ (.flat (k := 32) rfl .nil)
  refine AC.go Tryd.func143 rfl rfl ?_
  repeat' (first
  | refine GL.sf rfl rfl rfl rfl ?_
  | refine GL.done ?_
  | refine GP.thenN ?_
  | refine GT.seq ?_
  | refine GT.region ?_
  | refine GT.ret ?_
  | refine GP.endR1 rfl ?_)
  rfl
theorem w_check144 {A : AW} (x : Mv) (h : x.Ok) : AC Tryd.prog 144 [.agg x.vs.toArray] A (isR (.int .i64 0) A) := by
  refine AC.is0 ?_ ⟨8, rfl⟩ (.flat (k := 32) rfl .nil)
  refine AC.go Tryd.func144 rfl rfl ?_
  repeat' (first
  | refine GT.draws (id := 1) [[], [0], [0, 1], [], [3], [0, 1, 2, 3, 4], [], [6], [0, 1, 2, 3, 4, 5, 6, 7], [0, 1, 2, 3, 4, 5, 6, 7, 8], [0, 1, 2, 3, 4, 5, 6, 7, 8, 9], [0, 1, 2, 3, 4, 5, 6, 7, 8, 9, 10]] [9] (by kernel_rfl) ?_
  | refine GL.sf rfl rfl rfl rfl ?_
  | refine GL.done ?_
  | refine GP.thenN ?_
  | refine GT.seq ?_
  | refine GT.region ?_
  | refine GD.li rfl rfl (by exact onAt.none rfl) rfl (by repeat first | exact AllG.nil rfl | refine AllG.cons rfl (by first | exact GO.sf rfl rfl | exact GO.call rfl rfl Tryd.func157 rfl rfl rfl (w_size157 _ h.2.1) | exact GO.call rfl rfl Tryd.func161 rfl rfl rfl (w_box161 _ _ _ _ h.2.2.1) | exact GO.call rfl rfl Tryd.func160 rfl rfl rfl (w_ticks160 _ _ h.2.2.2) | exact GO.call rfl rfl Tryd.func98 rfl rfl rfl (w_first98 [0, 0, 0] rfl rfl rfl)) ?_) ?_
  | refine GD.he rfl rfl rfl (by exact onAt.none rfl) rfl (by exact GO.sf rfl rfl) ?_ ?_
  | refine GD.done rfl rfl rfl ?_
  | exact AllJs.nil rfl
  | refine GT.ret ?_
  | refine GP.endR1 rfl ?_)
  rfl
theorem w_named142 {A : AW} {p c : Nat} (l : List Mv) (hV : MvOk l) (hl : l.length ≤ 32) (hp : A.rd p 0 (mvC l).length = some (mvC l)) :
    AC Tryd.prog 142 [.slice (some ⟨p, 0, none⟩) l.length c, .int .i64 32, .func (.func 143) #[] #[], .func (.func 144) #[] #[]] A (isR (.int .i64 0) A) := by
  obtain ⟨fj, hflat⟩ := mvC_flat l
  have hlen := mvC_len l
  refine AC.isX (SmallX.nil.cons (k := 0) (b := p) (f := 0) (o := .cells (mvC l) 103) (.flat hp hflat)) (args := [.slice (some ⟨0, 0, none⟩) l.length c, .int .i64 32, .func (.func 143) #[] #[], .func (.func 144) #[] #[]]) ?_ ⟨8, rfl⟩ (.sl rfl rfl (.flat (k := 8) rfl (.flat (k := 8) rfl (.flat (k := 8) rfl .nil))))
  refine AC.go Tryd.func142 rfl rfl ?_
  clear hp
  repeat' (first
  | refine GL.sf rfl rfl rfl rfl ?_
  | refine GL.sv rfl rfl rfl rfl ?_
  | refine GL.done ?_
  | refine GP.thenN ?_
  | refine GT.seq ?_
  | refine GT.region ?_
  | refine GT.skip ?_
  | refine GT.block ?_
  | (refine GT.condD rfl (fun h => ?_) (fun h => ?_) <;> try (exfalso; omega)))
  refine GT.loop (fun q a L nx => ∃ i : Nat, i ≤ l.length ∧ q = l.length - i ∧ 2 ≤ nx ∧ asub [(2, .func (.func 143) #[] #[]), (3, .func (.func 144) #[] #[]), (9, .map (some 1)), (19, .slice (some ⟨0, 0, none⟩) l.length c), (20, .int .i64 l.length), (21, .int .i64 i)] a ∧ subm [(1, .map (esN (mvNm l) i) i), (0, .cells (mvC l) 103)] L) l.length
    ⟨0, by omega, by omega, Nat.le_of_ble_eq_true rfl, asub_cons rfl (asub_cons rfl (asub_cons rfl (asub_cons rfl (asub_cons rfl (asub_cons rfl asub_nil))))), subm_cons rfl (subm_cons rfl subm_nil)⟩ ?_
  rintro q a L nx ⟨i, hi, rfl, hnx, hs, hsub⟩
  refine GT.resetL 2 hs hsub hnx rfl rfl (Under.look (.cons rfl (esN_lt i) (.cons rfl (Lt.flat hflat) .nil))) (.cons (.flat (j := 8) rfl) (.cons (.flat (j := 8) rfl) (.cons (.map rfl) (.cons (.sl rfl) (.cons (.flat (j := 8) rfl) (.cons (.flat (j := 8) rfl) .nil)))))) (fun g hg => absurd hg (Nat.not_lt_zero g)) ?_
  clear hs hsub hnx
  rcases Nat.lt_or_ge i l.length with hlt | hge
  · obtain ⟨x, hx⟩ : ∃ x, l[i]? = some x := ⟨_, List.getElem?_eq_getElem hlt⟩
    have hok := hV.ok i x hx
    have hnm : mvNm l i = x.s := by unfold mvNm; rw [hx]
    have hf : Instr.findNow .string (.string x.s) (esN (mvNm l) i) 0 = some none := findNow_esN fun j hj => by
      obtain ⟨y, hy⟩ : ∃ y, l[j]? = some y := ⟨_, List.getElem?_eq_getElem (by omega)⟩
      unfold mvNm
      rw [hy]
      exact hV.ne i j x y hj hx hy
    have g : ((mvC l).drop (0 + (i : Int).toNat * 8)).take 8 = x.vs := by simpa using mvC_at l i x hx
    repeat' (first
    | refine GT.draws (id := 8) [[], [0], [0, 1], [0, 1, 2], [], [], [4, 5], [0, 1, 2, 3, 4, 5, 6], [], [], [0, 1, 2, 3, 4, 5, 6, 7, 8, 9], [0, 1, 2, 3, 4, 5, 6, 7, 8, 9, 10], [0, 1, 2, 3, 4, 5, 6, 7, 8, 9, 10, 11], [0, 1, 2, 3, 4, 5, 6, 7, 8, 9, 10, 11, 12]] [11] (by kernel_rfl) ?_
    | refine GL.mapNew rfl rfl rfl rfl rfl rfl rfl rfl rfl rfl hf rfl ?_
    | refine GL.sf rfl rfl rfl rfl ?_
    | refine GL.sn rfl rfl rfl ?_
    | refine GL.done ?_
    | refine GP.thenN ?_
    | refine GT.seq ?_
    | refine GT.region ?_
    | refine GD.li rfl rfl (by exact onAt.none rfl) rfl (by repeat first | exact AllG.nil rfl | refine AllG.cons rfl (by first | exact GO.sf rfl rfl | exact GO.call rfl rfl Tryd.func145 rfl rfl rfl (d_isname145 _ hok.1) | exact GO.call rfl rfl Tryd.func132 rfl rfl rfl (w_when132 _ _) | exact GO.lookupNone rfl rfl rfl rfl rfl rfl hf rfl | exact GO.callV rfl rfl rfl Tryd.func144 rfl rfl rfl (w_check144 x hok) | exact GO.call rfl rfl Tryd.func98 rfl rfl rfl (w_first98 [0, 0, 0] rfl rfl rfl)) ?_) ?_
    | refine GD.he rfl rfl rfl (by exact onAt.none rfl) rfl (by exact GO.sf rfl rfl) ?_ ?_
    | refine GD.done rfl rfl rfl ?_
    | exact AllJs.nil rfl
    | refine GL.v rfl rfl rfl (by first | exact GO.indexS (s := 8) rfl rfl rfl rfl rfl (by omega) | exact GO.loadG (s := 8) rfl rfl rfl rfl rfl rfl (by omega) g | exact GO.callV rfl rfl rfl Tryd.func143 rfl rfl rfl (w_label143 x) | exact GO.add rfl rfl rfl (by omega)) ?_
    | refine GT.skip ?_
    | refine GT.block ?_
    | refine GP.inN ?_
    | refine GT.condF rfl ?_
    | (refine GT.condD rfl (fun h => ?_) (fun h => ?_) <;> try (exfalso; omega)))
    exact GP.invN (l.length - (i + 1)) (by omega) ⟨i + 1, by omega, rfl, Nat.le_of_ble_eq_true rfl, asub_cons rfl (asub_cons rfl (asub_cons rfl (asub_cons rfl (asub_cons rfl (asub_cons rfl asub_nil))))), subm_cons (by rw [esN_succ, hnm]; rfl) (subm_cons rfl subm_nil)⟩
  ·
    repeat' (first
    | refine GL.sf rfl rfl rfl rfl ?_
    | refine GL.done ?_
    | refine GP.thenN ?_
    | refine GT.seq ?_
    | refine GT.region ?_
    | refine GT.ret ?_
    | refine GT.exit ?_
    | refine GP.thenE ?_
    | refine GP.hit ?_
    | refine GP.invE ?_
    | (refine GT.condD rfl (fun h => ?_) (fun h => ?_) <;> try (exfalso; omega))
    | refine GP.endR1 rfl ?_)
    rfl
theorem w_check111 {A : AW} {p c : Nat} (l : List Mv) (hV : MvOk l) (hl : l.length ≤ 32) (hp : A.rd p 0 (mvC l).length = some (mvC l)) : AC Tryd.prog 111 [.slice (some ⟨p, 0, none⟩) l.length c] A (isR (.int .i64 0) A) := by
  obtain ⟨fj, hflat⟩ := mvC_flat l
  refine AC.isX (SmallX.nil.cons (k := 0) (b := p) (f := 0) (o := .cells (mvC l) 103) (.flat hp hflat)) (args := [.slice (some ⟨0, 0, none⟩) l.length c]) ?_ ⟨8, rfl⟩ (.sl rfl rfl .nil)
  refine AC.go Tryd.func111 rfl rfl ?_
  clear hp
  repeat' (first
  | refine GL.sf rfl rfl rfl rfl ?_
  | refine GL.done ?_
  | refine GP.thenN ?_
  | refine GT.seq ?_
  | refine GT.region ?_
  | refine GL.v rfl rfl rfl (by exact GO.call rfl rfl Tryd.func142 rfl rfl rfl (w_named142 l hV hl (rd_self rfl))) ?_
  | refine GT.ret ?_
  | refine GP.endR1 rfl ?_)
  rfl
theorem w_check111n {A : AW} : AC Tryd.prog 111 [.slice none 0 0] A (isR (.int .i64 0) A) := by
  refine AC.is0 ?_ ⟨8, rfl⟩ (.flat (k := 8) rfl .nil)
  refine AC.go Tryd.func111 rfl rfl ?_
  repeat' (first
  | refine GL.v rfl rfl rfl (GO.call rfl rfl Tryd.func142 rfl rfl rfl (AC.go Tryd.func142 rfl rfl (by repeat' (first | exact ⟨rfl, rfl⟩ | refine GT.unroll 1 ?_ | refine GL.sf rfl rfl rfl rfl ?_ | refine GL.done ?_ | refine GP.thenN ?_ | refine GT.seq ?_ | refine GT.region ?_ | refine GT.skip ?_ | refine GT.block ?_ | refine GT.ret ?_ | refine GT.exit ?_ | refine GP.thenE ?_ | refine GP.hit ?_ | refine GP.againE ?_ | refine GU.step ?_ | refine GT.condF rfl ?_ | refine GP.endR1 rfl ?_)))) ?_
  | refine GL.sf rfl rfl rfl rfl ?_
  | refine GL.done ?_
  | refine GP.thenN ?_
  | refine GT.seq ?_
  | refine GT.region ?_
  | refine GT.ret ?_
  | refine GP.endR1 rfl ?_)
  rfl
end Go.M
