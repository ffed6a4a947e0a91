/- Functions of the given program, walked (no condition beyond what each theorem says). -/
import Derived.Test.YtfhodefiknfccaaDoorRows
import Derived.WalkKit
import Derived.ProofKit
import Derived.OpenShut
import Derived.LaidMore
import Derived.Stop.Joined
import Derived.Test.YtfhodefiknfccaaDoorK4
import Derived.Test.YtfhodefiknfccaaDoorK9
set_option linter.unusedVariables false
set_option linter.unusedSimpArgs false
namespace Go.M
set_option maxRecDepth 100000
open Go.RowKit Go.Proofs Go.ChangeShapes Go.WideShapes Go.ChangeAt
variable {H : Type} {enc : TypeId × Value → H} {W : World} {sp : Nat → Bool} {held : Bool}
theorem cells_at {a : Addr} {n : Nat} {cs : List Value} (h : W.cells? 0 a n = some cs) : cs.length = n ∧ ∀ i, i < n → W.cell? (a.add i) = cs[i]? := by
  unfold World.cells? at h
  rw [if_pos (Nat.zero_le _)] at h
  exact ⟨by simpa using mapM_some_length h, fun i hi => mapM_some_get h i i (by simp [hi])⟩
theorem chunk_len {T : Type} {E : T → List Value} {n : Nat} (hE : ∀ y, (E y).length = n) : ∀ l : List T, (l.flatMap E).length = l.length * n
  | [] => by simp
  | y :: l => by rw [List.flatMap_cons, List.length_append, hE, chunk_len hE l, List.length_cons, Nat.succ_mul, Nat.add_comm]
theorem chunk_at {T : Type} {E : T → List Value} {n : Nat} (hE : ∀ y, (E y).length = n) : ∀ (l : List T) (i r : Nat) (y : T), l[i]? = some y → r < n → (l.flatMap E)[i * n + r]? = (E y)[r]?
  | [], i, r, y, h, _ => by simp at h
  | z :: l, 0, r, y, h, hr => by
    simp at h; subst h
    rw [List.flatMap_cons, Nat.zero_mul, Nat.zero_add, List.getElem?_append_left (by rw [hE]; exact hr)]
  | z :: l, i + 1, r, y, h, hr => by
    have := chunk_at hE l i r y (by simpa using h) hr
    rw [List.flatMap_cons, List.getElem?_append_right (by rw [hE, Nat.succ_mul]; omega), hE, ← this]
    congr 1
    rw [Nat.succ_mul]; omega
theorem open_slG {t e : TypeId} {n : Nat} {T : Type} (E : T → List Value) (Pr : T → Prop) (ht : Tryd.prog.underlying t = some (.slice e)) (hce : Tryd.prog.cellsOf e = n) (hn : 0 < n) (hE : ∀ y, (E y).length = n)
    (hopen : ∀ {fuel : Nat} {cs : List Value} {x : DataW H × List MemPlace}, DataW.trod enc Tryd.prog W 0 sp held fuel e cs = some x → ∃ y, cs = E y ∧ Pr y) {fuel : Nat} {cs : List Value} {x : DataW H × List MemPlace} (h : DataW.trod enc Tryd.prog W 0 sp held fuel t cs = some x) :
    (∃ b c, cs = [.slice b 0 c] ∧ (b = none → c = 0)) ∨ ∃ (a b c : Nat) (l : List T), cs = [.slice (some ⟨a, b, none⟩) l.length c] ∧ 0 < l.length ∧ (∀ y ∈ l, Pr y) ∧ ∃ (row : Array Value) (e' : TypeId) (fz : Nat × Nat), W.heap[a]? = some (.cells row e' fz) ∧ b + (l.flatMap E).length ≤ row.size ∧ (row.toList.drop b).take (l.flatMap E).length = l.flatMap E := by
  rcases DataW.trod_slice ht h with ⟨rfl, _⟩ | ⟨a, len, cap, elems, rest, m, _, rfl, _, _, h1, h2, hlen, hel, _⟩
  · exact .inl ⟨none, 0, rfl, fun _ => rfl⟩
  · rcases Nat.eq_zero_or_pos len with q | q
    · subst q
      exact .inl ⟨some a, cap, rfl, fun h => by cases h⟩
    · right
      have get : ∀ i, i < len → ∃ y, W.cells? 0 (a.add (i * n)) n = some (E y) ∧ Pr y := fun i hi => by
        have he := hel i hi
        rw [hce] at he
        cases hc : W.cells? 0 (a.add (i * n)) n with
        | none => rw [hc] at he; simp at he; omega
        | some c5 =>
          rw [hc] at he
          simp only [Option.bind_some] at he
          obtain ⟨x, hx⟩ : ∃ x, elems[i]? = some x := ⟨_, List.getElem?_eq_getElem (by omega)⟩
          rw [hx] at he
          obtain ⟨y, hy, hp⟩ := hopen he
          exact ⟨y, by rw [hy], hp⟩
      have hspot : a.spot = none := by
        obtain ⟨y, hc, _⟩ := get 0 q
        have h0 := (cells_at hc).2 0 hn
        obtain ⟨v, hv⟩ : ∃ v, (E y)[0]? = some v := ⟨_, List.getElem?_eq_getElem (by rw [hE]; exact hn)⟩
        rw [hv] at h0
        have := World.cell?_spot (v := v) h0
        simpa [Addr.add] using this
      obtain ⟨ab, ao, asp⟩ := a
      have hspot : asp = none := hspot
      subst hspot
      have addE : ∀ k, (({ block := ab, off := ao, spot := none } : Addr).add k) = { block := ab, off := ao + k, spot := none } := fun k => by
        simp only [Addr.add]; split
        · rename_i e; subst e; rfl
        · rfl
      have each : ∀ i, i < len → ∃ y, Pr y ∧ ∀ r, r < n → W.cell? ⟨ab, ao + (i * n + r), none⟩ = (E y)[r]? := fun i hi => by
        obtain ⟨y, hc, hp⟩ := get i hi
        refine ⟨y, hp, fun r hr => ?_⟩
        rw [← (cells_at hc).2 r hr, addE]
        congr 1
        rw [Addr.add]
        split
        · rename_i e; subst e; simp
        · simp [Nat.add_assoc]
      obtain ⟨y0, _, hy0⟩ := each 0 q
      obtain ⟨v0, hv0⟩ : ∃ v, (E y0)[0]? = some v := ⟨_, List.getElem?_eq_getElem (by rw [hE]; exact hn)⟩
      have hc0 : W.cell? ⟨ab, ao, none⟩ = some v0 := by
        have := hy0 0 hn
        rw [hv0] at this
        simpa using this
      have hrow : ∃ row e fz, W.heap[ab]? = some (.cells row e fz) := by
        simp only [World.cell?] at hc0
        split at hc0
        · exact ⟨_, _, _, by assumption⟩
        · cases hc0
      obtain ⟨row, e', fz, hrow⟩ := hrow
      have hcell : ∀ k, W.cell? ⟨ab, ao + k, none⟩ = row[ao + k]? := fun k => by
        simp [World.cell?, hrow]
      have hl : ∃ l : List T, l.length = len ∧ (∀ y ∈ l, Pr y) ∧ ∀ i y, l[i]? = some y → ∀ r, r < n → row[ao + (i * n + r)]? = (E y)[r]? := by
        clear hel hlen
        have gen : ∀ m, m ≤ len → ∃ l : List T, l.length = m ∧ (∀ y ∈ l, Pr y) ∧ ∀ i y, l[i]? = some y → ∀ r, r < n → row[ao + (i * n + r)]? = (E y)[r]? := by
          intro m
          induction m with
          | zero => exact fun _ => ⟨[], rfl, fun y h => (by cases h), fun i y h => (by simp at h)⟩
          | succ m ih =>
            intro hm
            obtain ⟨l, hl, hpr, hall⟩ := ih (by omega)
            obtain ⟨y, hp, hy⟩ := each m (by omega)
            refine ⟨l ++ [y], by simp [hl], fun z hz => ?_, fun i z hz r hr => ?_⟩
            · rcases List.mem_append.1 hz with q | q
              · exact hpr z q
              · obtain rfl := List.mem_singleton.1 q; exact hp
            rcases Nat.lt_or_ge i m with q | q
            · rw [List.getElem?_append_left (by omega)] at hz
              exact hall i z hz r hr
            · have hi : i = m := by
                have := (List.getElem?_eq_some_iff.1 hz).1
                simp at this; omega
              subst hi
              rw [List.getElem?_append_right (by omega)] at hz
              simp [hl] at hz
              subst hz
              rw [← hcell]; exact hy r hr
        exact gen len (Nat.le_refl _)
      obtain ⟨l, rfl, hpr, hl⟩ := hl
      have hcl := chunk_len hE l
      have hat : ∀ k, k < (l.flatMap E).length → row[ao + k]? = (l.flatMap E)[k]? := fun k hk => by
        rw [hcl] at hk
        have hd : k / n < l.length := Nat.div_lt_of_lt_mul (by rw [Nat.mul_comm]; exact hk)
        obtain ⟨y, hy⟩ : ∃ y, l[k / n]? = some y := ⟨_, List.getElem?_eq_getElem hd⟩
        have hr := hl (k / n) y hy (k % n) (Nat.mod_lt _ hn)
        have hc := chunk_at hE l (k / n) (k % n) y hy (Nat.mod_lt _ hn)
        have ek : k / n * n + k % n = k := by rw [Nat.mul_comm]; exact Nat.div_add_mod k n
        rw [ek] at hr hc
        rw [hr, hc]
      have hsz : ao + (l.flatMap E).length ≤ row.size := by
        have hp : 0 < (l.flatMap E).length := by rw [hcl]; exact Nat.mul_pos q hn
        have := hat ((l.flatMap E).length - 1) (by omega)
        rw [List.getElem?_eq_getElem (by omega)] at this
        have := (Array.getElem?_eq_some_iff.1 this).1
        omega
      refine ⟨ab, ao, cap, l, rfl, q, hpr, row, e', fz, hrow, hsz, ?_⟩
      apply List.ext_getElem?
      intro k
      rcases Nat.lt_or_ge k (l.flatMap E).length with hk | hk
      · rw [List.getElem?_take, if_pos hk, List.getElem?_drop, Array.getElem?_toList]
        exact hat k hk
      · rw [List.getElem?_eq_none (by rw [List.length_take]; omega), List.getElem?_eq_none hk]
end Go.M
namespace Go.M
set_option maxRecDepth 100000
open Go.RowKit Go.Proofs Go.ChangeShapes Go.WideShapes Go.ChangeAt
variable {H : Type} {enc : TypeId × Value → H} {W : World} {sp : Nat → Bool} {held : Bool}
theorem wc9 : Tryd.prog.cellsOf 9 = 1 := by kernel_rfl
theorem wc3 : Tryd.prog.cellsOf 3 = 1 := by kernel_rfl
theorem wc97 : Tryd.prog.cellsOf 97 = 2 := by kernel_rfl
theorem wc101 : Tryd.prog.cellsOf 101 = 2 := by kernel_rfl
theorem wc110 : Tryd.prog.cellsOf 110 = 4 := by kernel_rfl
theorem wc112 : Tryd.prog.cellsOf 112 = 8 := by kernel_rfl
theorem wc159 : Tryd.prog.cellsOf 159 = 4 := by kernel_rfl
theorem wc151 : Tryd.prog.cellsOf 151 = 4 := by kernel_rfl
theorem wc149 : Tryd.prog.cellsOf 149 = 1 := by kernel_rfl
theorem wc65 : Tryd.prog.cellsOf 65 = 4 := by kernel_rfl
theorem wc72 : Tryd.prog.cellsOf 72 = 28 := by kernel_rfl
theorem wc66 : Tryd.prog.cellsOf 66 = 1 := by kernel_rfl
theorem wc67 : Tryd.prog.cellsOf 67 = 1 := by kernel_rfl
theorem wc69 : Tryd.prog.cellsOf 69 = 24 := by kernel_rfl
theorem wc68 : Tryd.prog.cellsOf 68 = 1 := by kernel_rfl
theorem wc70 : Tryd.prog.cellsOf 70 = 1 := by kernel_rfl
theorem open3 {fuel : Nat} {v : Value} {x : Option (DataW H × List MemPlace)} (h : DataW.trod enc Tryd.prog W 0 sp held fuel 3 [v] = x) (hx : x.isSome = true) : ∃ n : Int, v = .int .i64 n := by
  obtain ⟨y, rfl⟩ := Option.isSome_iff_exists.1 hx
  obtain ⟨n, e, _⟩ := DataW.trod_int Tryd.underlying3 h
  exact ⟨n, by simpa using e⟩
theorem open97 {fuel : Nat} {cs : List Value} {x : DataW H × List MemPlace} (h : DataW.trod enc Tryd.prog W 0 sp held fuel 97 cs = some x) : ∃ a b : Int, cs = [.int .i64 a, .int .i64 b] := by
  obtain ⟨xs, n, rfl, rfl, hl, hxs, hf⟩ := DataW.trod_struct Tryd.underlying97 h
  have hxs : xs.length = 2 := hxs
  rw [wc97] at hl
  have h0 : DataW.trod enc Tryd.prog W 0 sp held n 3 ((cs.drop 0).take (Tryd.prog.cellsOf 3)) = xs[0]? := hf 0 _ rfl
  have h1 : DataW.trod enc Tryd.prog W 0 sp held n 3 ((cs.drop 1).take (Tryd.prog.cellsOf 3)) = xs[1]? := hf 1 _ rfl
  rw [wc3] at h0 h1
  match cs, hl with
  | [a, b], _ =>
    obtain ⟨u, rfl⟩ := open3 (v := a) h0 (by simp [hxs])
    obtain ⟨v, rfl⟩ := open3 (v := b) h1 (by simp [hxs])
    exact ⟨u, v, rfl⟩
theorem open101 {fuel : Nat} {cs : List Value} {x : DataW H × List MemPlace} (h : DataW.trod enc Tryd.prog W 0 sp held fuel 101 cs = some x) : ∃ a b : Int, cs = [.int .i64 a, .int .i64 b] := by
  obtain ⟨xs, n, rfl, rfl, hl, hxs, hf⟩ := DataW.trod_struct Tryd.underlying101 h
  have hxs : xs.length = 2 := hxs
  rw [wc101] at hl
  have h0 : DataW.trod enc Tryd.prog W 0 sp held n 3 ((cs.drop 0).take (Tryd.prog.cellsOf 3)) = xs[0]? := hf 0 _ rfl
  have h1 : DataW.trod enc Tryd.prog W 0 sp held n 3 ((cs.drop 1).take (Tryd.prog.cellsOf 3)) = xs[1]? := hf 1 _ rfl
  rw [wc3] at h0 h1
  match cs, hl with
  | [a, b], _ =>
    obtain ⟨u, rfl⟩ := open3 (v := a) h0 (by simp [hxs])
    obtain ⟨v, rfl⟩ := open3 (v := b) h1 (by simp [hxs])
    exact ⟨u, v, rfl⟩
theorem open110 {fuel : Nat} {cs : List Value} {x : DataW H × List MemPlace} (h : DataW.trod enc Tryd.prog W 0 sp held fuel 110 cs = some x) : ∃ a b c d : Int, cs = [.int .i64 a, .int .i64 b, .int .i64 c, .int .i64 d] := by
  obtain ⟨xs, n, rfl, rfl, hl, hxs, hf⟩ := DataW.trod_struct Tryd.underlying110 h
  have hxs : xs.length = 2 := hxs
  rw [wc110] at hl
  have h0 : DataW.trod enc Tryd.prog W 0 sp held n 97 ((cs.drop 0).take (Tryd.prog.cellsOf 97)) = xs[0]? := hf 0 _ rfl
  have h1 : DataW.trod enc Tryd.prog W 0 sp held n 97 ((cs.drop 2).take (Tryd.prog.cellsOf 97)) = xs[1]? := hf 1 _ rfl
  rw [wc97] at h0 h1
  match cs, hl with
  | [a, b, c, d], _ =>
    match xs, hxs with
    | [x0, x1], _ =>
      obtain ⟨a1, b1, e1⟩ := open97 (show DataW.trod enc Tryd.prog W 0 sp held n 97 [a, b] = some x0 from h0)
      obtain ⟨a2, b2, e2⟩ := open97 (show DataW.trod enc Tryd.prog W 0 sp held n 97 [c, d] = some x1 from h1)
      simp at e1 e2
      exact ⟨a1, b1, a2, b2, by rw [e1.1, e1.2, e2.1, e2.2]⟩
theorem openS {fuel : Nat} {v : Value} {x : Option (DataW H × List MemPlace)} (h : DataW.trod enc Tryd.prog W 0 sp held fuel 9 [v] = x) (hx : x.isSome = true) : ∃ s : ByteArray, v = .string s := by
  obtain ⟨y, rfl⟩ := Option.isSome_iff_exists.1 hx
  obtain ⟨s, e, _⟩ := DataW.trod_string Tryd.underlying9 h
  exact ⟨s, by simpa using e⟩
theorem open159 {fuel : Nat} {cs : List Value} {x : DataW H × List MemPlace} (h : DataW.trod enc Tryd.prog W 0 sp held fuel 159 cs = some x) : ∃ d : Ld, cs = d.vs ∧ True := by
  obtain ⟨xs, n, rfl, rfl, hl, hxs, hf⟩ := DataW.trod_struct Tryd.underlying159 h
  have hxs : xs.length = 3 := hxs
  rw [wc159] at hl
  have h0 : DataW.trod enc Tryd.prog W 0 sp held n 9 ((cs.drop 0).take (Tryd.prog.cellsOf 9)) = xs[0]? := hf 0 _ rfl
  have h1 : DataW.trod enc Tryd.prog W 0 sp held n 3 ((cs.drop 1).take (Tryd.prog.cellsOf 3)) = xs[1]? := hf 1 _ rfl
  have h2 : DataW.trod enc Tryd.prog W 0 sp held n 101 ((cs.drop 2).take (Tryd.prog.cellsOf 101)) = xs[2]? := hf 2 _ rfl
  rw [wc9] at h0
  rw [wc3] at h1
  rw [wc101] at h2
  match cs, hl with
  | [a, b, c, d], _ =>
    match xs, hxs with
    | [x0, x1, x2], _ =>
      obtain ⟨s, rfl⟩ := openS (v := a) h0 rfl
      obtain ⟨u, rfl⟩ := open3 (v := b) h1 rfl
      obtain ⟨a2, b2, e2⟩ := open101 (show DataW.trod enc Tryd.prog W 0 sp held n 101 [c, d] = some x2 from h2)
      simp at e2
      exact ⟨⟨s, u, a2, b2⟩, by rw [e2.1, e2.2], trivial⟩
theorem open112 {fuel : Nat} {cs : List Value} {x : DataW H × List MemPlace} (h : DataW.trod enc Tryd.prog W 0 sp held fuel 112 cs = some x) : ∃ m : Mv, cs = m.vs ∧ True := by
  obtain ⟨xs, n, rfl, rfl, hl, hxs, hf⟩ := DataW.trod_struct Tryd.underlying112 h
  have hxs : xs.length = 4 := hxs
  rw [wc112] at hl
  have h0 : DataW.trod enc Tryd.prog W 0 sp held n 9 ((cs.drop 0).take (Tryd.prog.cellsOf 9)) = xs[0]? := hf 0 _ rfl
  have h1 : DataW.trod enc Tryd.prog W 0 sp held n 3 ((cs.drop 1).take (Tryd.prog.cellsOf 3)) = xs[1]? := hf 1 _ rfl
  have h2 : DataW.trod enc Tryd.prog W 0 sp held n 110 ((cs.drop 2).take (Tryd.prog.cellsOf 110)) = xs[2]? := hf 2 _ rfl
  have h3 : DataW.trod enc Tryd.prog W 0 sp held n 101 ((cs.drop 6).take (Tryd.prog.cellsOf 101)) = xs[3]? := hf 3 _ rfl
  rw [wc9] at h0
  rw [wc3] at h1
  rw [wc110] at h2
  rw [wc101] at h3
  match cs, hl with
  | [a, b, c1, c2, c3, c4, d1, d2], _ =>
    match xs, hxs with
    | [x0, x1, x2, x3], _ =>
      obtain ⟨s, rfl⟩ := openS (v := a) h0 rfl
      obtain ⟨u, rfl⟩ := open3 (v := b) h1 rfl
      obtain ⟨a1, b1, a2, b2, e1⟩ := open110 (show DataW.trod enc Tryd.prog W 0 sp held n 110 [c1, c2, c3, c4] = some x2 from h2)
      obtain ⟨a3, b3, e3⟩ := open101 (show DataW.trod enc Tryd.prog W 0 sp held n 101 [d1, d2] = some x3 from h3)
      simp at e1 e3
      exact ⟨⟨s, u, a1, b1, a2, b2, a3, b3⟩, by rw [e1.1, e1.2.1, e1.2.2.1, e1.2.2.2, e3.1, e3.2], trivial⟩
theorem open65 {fuel : Nat} {cs : List Value} {x : DataW H × List MemPlace} (h : DataW.trod enc Tryd.prog W 0 sp held fuel 65 cs = some x) : ∃ r : Rl, cs = r.vs := by
  obtain ⟨xs, n, rfl, rfl, hl, hxs, hf⟩ := DataW.trod_struct Tryd.underlying65 h
  have hxs : xs.length = 4 := hxs
  rw [wc65] at hl
  have h0 : DataW.trod enc Tryd.prog W 0 sp held n 3 ((cs.drop 0).take (Tryd.prog.cellsOf 3)) = xs[0]? := hf 0 _ rfl
  have h1 : DataW.trod enc Tryd.prog W 0 sp held n 3 ((cs.drop 1).take (Tryd.prog.cellsOf 3)) = xs[1]? := hf 1 _ rfl
  have h2 : DataW.trod enc Tryd.prog W 0 sp held n 3 ((cs.drop 2).take (Tryd.prog.cellsOf 3)) = xs[2]? := hf 2 _ rfl
  have h3 : DataW.trod enc Tryd.prog W 0 sp held n 3 ((cs.drop 3).take (Tryd.prog.cellsOf 3)) = xs[3]? := hf 3 _ rfl
  rw [wc3] at h0 h1 h2 h3
  match cs, hl with
  | [a, b, c, d], _ =>
    match xs, hxs with
    | [x0, x1, x2, x3], _ =>
      obtain ⟨u0, rfl⟩ := open3 (v := a) h0 rfl
      obtain ⟨u1, rfl⟩ := open3 (v := b) h1 rfl
      obtain ⟨u2, rfl⟩ := open3 (v := c) h2 rfl
      obtain ⟨u3, rfl⟩ := open3 (v := d) h3 rfl
      exact ⟨⟨u0, u1, u2, u3⟩, rfl⟩
/-- An area as it is given: its polygon is a slice somewhere. -/
structure Ra where
  s : ByteArray
  sz : Int
  ct : Int
  v : Value
abbrev Ra.vs (y : Ra) : List Value := [.string y.s, .int .i64 y.sz, .int .i64 y.ct, y.v]
def ptE2 (p : Int × Int) : List Value := [.int .i64 p.1, .int .i64 p.2]
/-- A list that lies in a row of the heap. -/
def InRow (W : World) (a b : Nat) (cs : List Value) (n : Nat) : Prop := ∃ (row : Array Value) (e : TypeId) (fz : Nat × Nat), row.size = n ∧ W.heap[a]? = some (.cells row e fz) ∧ b + cs.length ≤ row.size ∧ (row.toList.drop b).take cs.length = cs
def PolyAt (W : World) (v : Value) : Prop := (∃ b c, v = .slice b 0 c ∧ (b = none → c = 0)) ∨ ∃ (a b c n : Nat) (ps : Pts), v = .slice (some ⟨a, b, none⟩) ps.length c ∧ ps ≠ [] ∧ InRow W a b (ptC ps) n
theorem open151 {fuel : Nat} {cs : List Value} {x : DataW H × List MemPlace} (h : DataW.trod enc Tryd.prog W 0 sp held fuel 151 cs = some x) : ∃ y : Ra, cs = y.vs ∧ PolyAt W y.v := by
  obtain ⟨xs, n, rfl, rfl, hl, hxs, hf⟩ := DataW.trod_struct Tryd.underlying151 h
  have hxs : xs.length = 4 := hxs
  rw [wc151] at hl
  have h0 : DataW.trod enc Tryd.prog W 0 sp held n 9 ((cs.drop 0).take (Tryd.prog.cellsOf 9)) = xs[0]? := hf 0 _ rfl
  have h1 : DataW.trod enc Tryd.prog W 0 sp held n 3 ((cs.drop 1).take (Tryd.prog.cellsOf 3)) = xs[1]? := hf 1 _ rfl
  have h2 : DataW.trod enc Tryd.prog W 0 sp held n 3 ((cs.drop 2).take (Tryd.prog.cellsOf 3)) = xs[2]? := hf 2 _ rfl
  have h3 : DataW.trod enc Tryd.prog W 0 sp held n 149 ((cs.drop 3).take (Tryd.prog.cellsOf 149)) = xs[3]? := hf 3 _ rfl
  rw [wc9] at h0
  rw [wc3] at h1 h2
  rw [wc149] at h3
  match cs, hl with
  | [a, b, c, d], _ =>
    match xs, hxs with
    | [x0, x1, x2, x3], _ =>
      obtain ⟨s, rfl⟩ := openS (v := a) h0 rfl
      obtain ⟨u1, rfl⟩ := open3 (v := b) h1 rfl
      obtain ⟨u2, rfl⟩ := open3 (v := c) h2 rfl
      refine ⟨⟨s, u1, u2, d⟩, rfl, ?_⟩
      rcases open_slG (W := W) (enc := enc) (sp := sp) (held := held) (E := ptE2) (Pr := fun _ => True) Tryd.underlying149 wc97 (by decide) (fun _ => rfl) (fun h => by
          obtain ⟨p, q, e⟩ := open97 h
          exact ⟨(p, q), e, trivial⟩) (show DataW.trod enc Tryd.prog W 0 sp held n 149 [d] = some x3 from h3) with ⟨b, c, e, hb⟩ | ⟨a, b, c, l, e, hp, _, row, e', fz, k1, k2, k3⟩
      · exact .inl ⟨b, c, by simpa using e, hb⟩
      · have e2 : l.flatMap ptE2 = ptC l := rfl
        rw [e2] at k2 k3
        exact .inr ⟨a, b, c, row.size, l, by simpa using e, fun h => by rw [h] at hp; simp at hp, row, e', fz, rfl, k1, k2, k3⟩
end Go.M
namespace Go.M
set_option maxRecDepth 100000
open Go.RowKit Go.Proofs Go.ChangeShapes Go.WideShapes Go.ChangeAt
variable {H : Type} {enc : TypeId × Value → H} {W : World} {sp : Nat → Bool} {held : Bool}
theorem open69 {fuel : Nat} {cs : List Value} {x : DataW H × List MemPlace} (h : DataW.trod enc Tryd.prog W 0 sp held fuel 69 cs = some x) : ∃ vw : Nat → Int, cs = viC vw ∧ ∀ i, i < 24 → 0 ≤ vw i ∧ vw i ≤ 65535 := by
  obtain ⟨xs, m, rfl, rfl, hl, hn, hel⟩ := DataW.trod_array Tryd.underlying69 h
  rw [wc69] at hl
  rw [wc68] at hel
  have each : ∀ i, i < 24 → ∃ n : Int, cs[i]? = some (.int .u16 n) ∧ 0 ≤ n ∧ n ≤ 65535 := fun i hi => by
    obtain ⟨v, hv⟩ : ∃ v, cs[i]? = some v := ⟨_, List.getElem?_eq_getElem (by omega)⟩
    have he := hel i hi
    have e1 : (cs.drop (i * 1)).take 1 = [v] := by
      rw [Nat.mul_one]
      have hil := (List.getElem?_eq_some_iff.1 hv).1
      rw [List.drop_eq_getElem_cons hil, (List.getElem?_eq_some_iff.1 hv).2]; rfl
    rw [e1] at he
    obtain ⟨y, hy⟩ : ∃ y, xs[i]? = some y := ⟨_, List.getElem?_eq_getElem (by omega)⟩
    rw [hy] at he
    obtain ⟨n, e, _, hw⟩ := DataW.trod_int Tryd.underlying68 he
    have e : v = .int .u16 n := by simpa using e
    subst e
    refine ⟨n, hv, ?_⟩
    simpa [Lit.wf, IntKind.min, IntKind.max, IntKind.signed, IntKind.bits] using hw
  have hc : ∀ i : Nat, ∃ n : Int, i < 24 → cs[i]? = some (.int .u16 n) ∧ 0 ≤ n ∧ n ≤ 65535 := fun i => by
    by_cases q : i < 24
    · obtain ⟨n, hn⟩ := each i q; exact ⟨n, fun _ => hn⟩
    · exact ⟨0, fun h => absurd h q⟩
  refine ⟨fun i => (hc i).choose, ?_, fun i hi => ((hc i).choose_spec hi).2⟩
  have e : viC (fun i => (hc i).choose) = (List.range 24).map fun i => .int .u16 ((hc i).choose) := rfl
  rw [e]
  apply List.ext_getElem?
  intro i
  rcases Nat.lt_or_ge i 24 with q | q
  · rw [((hc i).choose_spec q).1]
    simp [q]
  · rw [List.getElem?_eq_none (by omega), List.getElem?_eq_none (by simpa using q)]
theorem openU {fuel : Nat} {v : Value} {x : Option (DataW H × List MemPlace)} (h : DataW.trod enc Tryd.prog W 0 sp held fuel 70 [v] = x) (hx : x.isSome = true) : ∃ n : Int, v = .int .u32 n := by
  obtain ⟨y, rfl⟩ := Option.isSome_iff_exists.1 hx
  obtain ⟨n, e, _⟩ := DataW.trod_int Tryd.underlying70 h
  exact ⟨n, by simpa using e⟩
/-- A slice of a flat list that is given. -/
def FlatAt (W : World) (v : Value) (n : Nat) (cs : List Value) : Prop := (n = 0 ∧ ∃ b c, v = .slice b 0 c ∧ (b = none → c = 0)) ∨ (0 < n ∧ ∃ a b c m, v = .slice (some ⟨a, b, none⟩) n c ∧ InRow W a b cs m)
theorem open66 {fuel : Nat} {v : Value} {x : DataW H × List MemPlace} (h : DataW.trod enc Tryd.prog W 0 sp held fuel 66 [v] = some x) : ∃ d : List Ld, FlatAt W v d.length (ldC d) := by
  rcases open_slG (W := W) (enc := enc) (sp := sp) (held := held) (E := Ld.vs) (Pr := fun _ => True) Tryd.underlying66 wc159 (by decide) (fun _ => rfl) open159 h with ⟨b, c, e, hb⟩ | ⟨a, b, c, l, e, hp, _, row, e', fz, k1, k2, k3⟩
  · exact ⟨[], .inl ⟨rfl, b, c, by simpa using e, hb⟩⟩
  · exact ⟨l, .inr ⟨hp, a, b, c, row.size, by simpa using e, row, e', fz, rfl, k1, k2, k3⟩⟩
theorem open67 {fuel : Nat} {v : Value} {x : DataW H × List MemPlace} (h : DataW.trod enc Tryd.prog W 0 sp held fuel 67 [v] = some x) : ∃ m : List Mv, FlatAt W v m.length (mvC m) := by
  rcases open_slG (W := W) (enc := enc) (sp := sp) (held := held) (E := Mv.vs) (Pr := fun _ => True) Tryd.underlying67 wc112 (by decide) (fun _ => rfl) open112 h with ⟨b, c, e, hb⟩ | ⟨a, b, c, l, e, hp, _, row, e', fz, k1, k2, k3⟩
  · exact ⟨[], .inl ⟨rfl, b, c, by simpa using e, hb⟩⟩
  · exact ⟨l, .inr ⟨hp, a, b, c, row.size, by simpa using e, row, e', fz, rfl, k1, k2, k3⟩⟩
theorem open63 {fuel : Nat} {v : Value} {x : DataW H × List MemPlace} (h : DataW.trod enc Tryd.prog W 0 sp held fuel 63 [v] = some x) : ∃ ys : List Ra, FlatAt W v ys.length (ys.flatMap Ra.vs) ∧ ∀ y ∈ ys, PolyAt W y.v := by
  rcases open_slG (W := W) (enc := enc) (sp := sp) (held := held) (E := Ra.vs) (Pr := fun y => PolyAt W y.v) Tryd.underlying63 wc151 (by decide) (fun _ => rfl) open151 h with ⟨b, c, e, hb⟩ | ⟨a, b, c, l, e, hp, hpr, row, e', fz, k1, k2, k3⟩
  · exact ⟨[], .inl ⟨rfl, b, c, by simpa using e, hb⟩, fun y h => by cases h⟩
  · exact ⟨l, .inr ⟨hp, a, b, c, row.size, by simpa using e, row, e', fz, rfl, k1, k2, k3⟩, hpr⟩
theorem open72 {fuel : Nat} {cs : List Value} {x : DataW H × List MemPlace} (h : DataW.trod enc Tryd.prog W 0 sp held fuel 72 cs = some x) :
    ∃ (v1 v2 : Value) (d : List Ld) (m : List Mv) (vw : Nat → Int) (s t : Int), cs = v1 :: v2 :: (viC vw ++ [.int .u32 s, .int .u32 t]) ∧ FlatAt W v1 d.length (ldC d) ∧ FlatAt W v2 m.length (mvC m) ∧ ∀ i, i < 24 → 0 ≤ vw i ∧ vw i ≤ 65535 := by
  obtain ⟨xs, n, rfl, rfl, hl, hxs, hf⟩ := DataW.trod_struct Tryd.underlying72 h
  have hxs : xs.length = 5 := hxs
  rw [wc72] at hl
  have h0 : DataW.trod enc Tryd.prog W 0 sp held n 66 ((cs.drop 0).take (Tryd.prog.cellsOf 66)) = xs[0]? := hf 0 _ rfl
  have h1 : DataW.trod enc Tryd.prog W 0 sp held n 67 ((cs.drop 1).take (Tryd.prog.cellsOf 67)) = xs[1]? := hf 1 _ rfl
  have h2 : DataW.trod enc Tryd.prog W 0 sp held n 69 ((cs.drop 2).take (Tryd.prog.cellsOf 69)) = xs[2]? := hf 2 _ rfl
  have h3 : DataW.trod enc Tryd.prog W 0 sp held n 70 ((cs.drop 26).take (Tryd.prog.cellsOf 70)) = xs[3]? := hf 3 _ rfl
  have h4 : DataW.trod enc Tryd.prog W 0 sp held n 70 ((cs.drop 27).take (Tryd.prog.cellsOf 70)) = xs[4]? := hf 4 _ rfl
  rw [wc66] at h0
  rw [wc67] at h1
  rw [wc69] at h2
  rw [wc70] at h3 h4
  match xs, hxs with
  | [x0, x1, x2, x3, x4], _ =>
    match cs, hl with
    | v1 :: v2 :: r, hl =>
      have hr : r.length = 26 := by simpa using hl
      have h2 : DataW.trod enc Tryd.prog W 0 sp held n 69 (r.take 24) = some x2 := h2
      obtain ⟨vw, e2, hvw⟩ := open69 h2
      obtain ⟨a, b, hab⟩ : ∃ a b, r.drop 24 = [a, b] := by
        have : (r.drop 24).length = 2 := by rw [List.length_drop]; omega
        match r.drop 24, this with
        | [a, b], _ => exact ⟨a, b, rfl⟩
      have h3 : DataW.trod enc Tryd.prog W 0 sp held n 70 ((r.drop 24).take 1) = some x3 := h3
      have h4 : DataW.trod enc Tryd.prog W 0 sp held n 70 ((r.drop 25).take 1) = some x4 := h4
      rw [show r.drop 25 = (r.drop 24).drop 1 by rw [List.drop_drop]] at h4
      rw [hab] at h3 h4
      obtain ⟨s, rfl⟩ := openU (v := a) h3 rfl
      obtain ⟨t, rfl⟩ := openU (v := b) h4 rfl
      obtain ⟨d, hd⟩ := open66 (show DataW.trod enc Tryd.prog W 0 sp held n 66 [v1] = some x0 from h0)
      obtain ⟨m, hm⟩ := open67 (show DataW.trod enc Tryd.prog W 0 sp held n 67 [v2] = some x1 from h1)
      refine ⟨v1, v2, d, m, vw, s, t, ?_, hd, hm, hvw⟩
      rw [← e2, ← hab, List.take_append_drop]
theorem var_heapW {P : Program} {w : World} {n : String} {g : Nat} {cs : Array Value} (hg : P.globalNamed n = some g) (h : w.var? P n = some cs) : ∃ e fz, w.heap[g]? = some (.cells cs e fz) := by
  unfold World.var? at h
  rw [hg] at h
  simp only [Option.bind_some] at h
  split at h
  · cases h; exact ⟨_, _, by assumption⟩
  · cases h
theorem gSides : Tryd.prog.globalNamed "glideslope/area.sides" = some 2 := by kernel_rfl
theorem tSides : (Tryd.prog.globals[2]?).map (·.type) = some 274 := by kernel_rfl
theorem wc274 : Tryd.prog.cellsOf 274 = 4 := by kernel_rfl
theorem wc273 : Tryd.prog.cellsOf 273 = 1 := by kernel_rfl
theorem wc271 : Tryd.prog.cellsOf 271 = 1 := by kernel_rfl
abbrev laidS : List (String × DataW Unit) := [("glideslope/area.sides", YtfhodefiknfccaaDoor.Rows.laid_glideslope_area_sides)]
theorem open273 {fuel : Nat} {v : Value} {b : UInt8} {r : List UInt8} {q : List MemPlace} {f0 : FuncId} (hone : ((List.range Tryd.prog.funcs.size).filter fun f => (Tryd.prog.funcs[f]?).any (·.name.toUTF8.data.toList == b :: r)) = [f0])
    (h : DataW.trod (funcToken Tryd.prog) Tryd.prog W 0 sp true fuel 273 [v] = some (.agg [.held (b :: r)], q)) : v = .func (.func f0) #[] #[] := by
  obtain ⟨xs, n, rfl, hx, hl, hxs, hf⟩ := DataW.trod_struct Tryd.underlying273 h
  have h0 := hf 0 ⟨ "beyond", 271, 0, false, "", "glideslope/area", 0⟩ rfl
  have hxs : xs.length = 1 := hxs
  dsimp only at h0
  rw [wc271] at h0
  match xs, hxs with
  | [x0], _ =>
    have hx := (Prod.mk.inj hx).1
    simp only [List.map_cons, List.map_nil, DataW.agg.injEq, List.cons.injEq, and_true] at hx
    obtain ⟨y, qq⟩ := x0
    simp only at hx
    subst hx
    exact func_of_trod Tryd.underlying271 hone (show DataW.trod _ Tryd.prog W 0 _ _ n 271 [v] = some (.held (b :: r), qq) from h0)
theorem sides_heap (h : laidMetH Tryd.prog laidS W) : ∃ cs e fz, W.heap[2]? = some (.cells cs e fz) ∧ cs.toList = sidesC := by
  obtain ⟨g, t, cs, fuel, p, hg, ht, hv, hd⟩ := h.funcs (List.mem_cons_self)
  obtain rfl := Option.some.inj (gSides.symm.trans hg)
  obtain rfl := Option.some.inj (tSides.symm.trans ht)
  obtain ⟨e, fz, hh⟩ := var_heapW hg hv
  refine ⟨cs, e, fz, hh, ?_⟩
  generalize hcs : cs.toList = l at hd
  obtain ⟨xs, m, rfl, hx, hl, hn, hel⟩ := DataW.trod_array Tryd.underlying274 hd
  rw [wc274] at hl
  rw [wc273] at hel
  match l, hl with
  | [a0, a1, a2, a3], _ =>
    match xs, hn with
    | [⟨x0, q0⟩, ⟨x1, q1⟩, ⟨x2, q2⟩, ⟨x3, q3⟩], _ =>
      have hx := (Prod.mk.inj hx).1
      have hx : DataW.agg [.agg [.held [103, 108, 105, 100, 101, 115, 108, 111, 112, 101, 47, 97, 114, 101, 97, 46, 115, 105, 100, 101, 115, 36, 49]], .agg [.held [103, 108, 105, 100, 101, 115, 108, 111, 112, 101, 47, 97, 114, 101, 97, 46, 115, 105, 100, 101, 115, 36, 50]], .agg [.held [103, 108, 105, 100, 101, 115, 108, 111, 112, 101, 47, 97, 114, 101, 97, 46, 115, 105, 100, 101, 115, 36, 51]], .agg [.held [103, 108, 105, 100, 101, 115, 108, 111, 112, 101, 47, 97, 114, 101, 97, 46, 115, 105, 100, 101, 115, 36, 52]]] = DataW.agg [x0, x1, x2, x3] := hx
      simp only [DataW.agg.injEq, List.cons.injEq, and_true] at hx
      obtain ⟨rfl, rfl, rfl, rfl⟩ := hx
      have r0 := open273 (v := a0) (f0 := 197) (by kernel_rfl) (hel 0 (by decide))
      have r1 := open273 (v := a1) (f0 := 198) (by kernel_rfl) (hel 1 (by decide))
      have r2 := open273 (v := a2) (f0 := 199) (by kernel_rfl) (hel 2 (by decide))
      have r3 := open273 (v := a3) (f0 := 200) (by kernel_rfl) (hel 3 (by decide))
      rw [r0, r1, r2, r3]
theorem heapW0 (h : W.ShapedOpen Tryd.prog) : ∃ cs e fz, W.heap[0]? = some (.cells cs e fz) := by
  have hr : ∃ z t, (((begin Tryd.prog (fun _ _ => 0) default).world.heap)[0]?).bind Obj.row? = some (z, t) := by
    have : ((((begin Tryd.prog (fun _ _ => 0) default).world.heap)[0]?).bind Obj.row?).isSome = true := by kernel_rfl
    obtain ⟨x, hx⟩ := Option.isSome_iff_exists.1 this
    exact ⟨x.1, x.2, hx⟩
  obtain ⟨z, t, hz⟩ := hr
  obtain ⟨cs, hc, _⟩ := h.1 0 z t (of_decide_eq_true (by kernel_rfl)) hz
  exact ⟨cs, t, _, hc⟩
theorem heapW1 (h : W.ShapedOpen Tryd.prog) : ∃ cs e fz, W.heap[1]? = some (.cells cs e fz) := by
  have hr : ∃ z t, (((begin Tryd.prog (fun _ _ => 0) default).world.heap)[1]?).bind Obj.row? = some (z, t) := by
    have : ((((begin Tryd.prog (fun _ _ => 0) default).world.heap)[1]?).bind Obj.row?).isSome = true := by kernel_rfl
    obtain ⟨x, hx⟩ := Option.isSome_iff_exists.1 this
    exact ⟨x.1, x.2, hx⟩
  obtain ⟨z, t, hz⟩ := hr
  obtain ⟨cs, hc, _⟩ := h.1 1 z t (of_decide_eq_true (by kernel_rfl)) hz
  exact ⟨cs, t, _, hc⟩
end Go.M
namespace Go.M
set_option maxRecDepth 100000
open Go.RowKit Go.Proofs Go.ChangeShapes Go.WideShapes Go.ChangeAt
variable {H : Type} {enc : TypeId × Value → H} {W : World}
/-- How a slice that is given is told in the abstract memory: whether an address is there, its room, its place. -/
def FlatRep (W : World) (v : Value) (n : Nat) (cs : List Value) (k : Nat) (e : Bool) (c : Nat) (B : Option Loc) : Prop :=
  (n = 0 → B = none) ∧ (0 < n → e = true ∧ ∃ a b m, B = some ⟨a, b, 0, m⟩ ∧ InRow W a b cs m) ∧
  ∀ (β : Bet) (S : Nat → Prop), S 3 → S k → β 3 = none → β k = B → VR β S (.slice (slA e (if n = 0 then 3 else k)) n c) v
theorem FlatAt.rep {v : Value} {n k : Nat} {cs : List Value} (h : FlatAt W v n cs) : ∃ e c B, FlatRep W v n cs k e c B := by
  rcases h with ⟨rfl, b, c, rfl, hb⟩ | ⟨hn, a, b, c, m, rfl, hr⟩
  · cases b with
    | none =>
      obtain rfl := hb rfl
      exact ⟨false, 0, none, fun _ => rfl, fun h => absurd h (by decide), fun β S _ _ _ _ => .sl0 .nil⟩
    | some a => exact ⟨true, c, none, fun _ => rfl, fun h => absurd h (by decide), fun β S h3 _ b3 _ => .slD h3 b3 (Nat.le_refl _) .nil⟩
  · refine ⟨true, c, some ⟨a, b, 0, m⟩, fun h => by omega, fun _ => ⟨rfl, a, b, m, rfl, hr⟩, fun β S _ hk _ bk => ?_⟩
    rw [if_neg (by omega)]
    exact .sl (L := ⟨a, b, 0, m⟩) (o := 0) hk bk (Nat.le_refl _) (.inl rfl) .nil
def PolyRep (W : World) (v : Value) (ps : Pts) (φ : Bool) (κ : Nat) (B : Option Loc) : Prop :=
  (ps = [] → B = none) ∧ (ps ≠ [] → φ = true ∧ ∃ a b m, B = some ⟨a, b, 0, m⟩ ∧ InRow W a b (ptC ps) m) ∧
  ∀ (β : Bet) (S : Nat → Prop) (j : Nat), S j → β j = B → VR β S (.slice (slA φ j) ps.length κ) v
theorem PolyAt.rep {v : Value} (h : PolyAt W v) : ∃ ps φ κ B, PolyRep W v ps φ κ B := by
  rcases h with ⟨b, c, rfl, hb⟩ | ⟨a, b, c, n, ps, rfl, hne, hr⟩
  · cases b with
    | none =>
      obtain rfl := hb rfl
      exact ⟨[], false, 0, none, fun _ => rfl, fun h => absurd rfl h, fun β S j _ _ => .sl0 .nil⟩
    | some a => exact ⟨[], true, c, none, fun _ => rfl, fun h => absurd rfl h, fun β S j hj bj => .slD hj bj (Nat.le_refl _) .nil⟩
  · exact ⟨ps, true, c, some ⟨a, b, 0, n⟩, fun h => absurd h hne, fun _ => ⟨rfl, a, b, n, rfl, hr⟩, fun β S j hj bj => .sl (L := ⟨a, b, 0, n⟩) (o := 0) hj bj (Nat.le_refl _) (.inl rfl) .nil⟩
/-- The areas that are given, their polygons by their numbers. -/
def toAr (f : Nat → Pts) : Nat → List Ra → List Ar
  | _, [] => []
  | o, y :: ys => ⟨y.s, y.sz, y.ct, f o⟩ :: toAr f (o + 1) ys
theorem toAr_len {f : Nat → Pts} : ∀ (ys : List Ra) (o : Nat), (toAr f o ys).length = ys.length
  | [], _ => rfl
  | y :: ys, o => by rw [toAr, List.length_cons, toAr_len ys, List.length_cons]
theorem toAr_at {f : Nat → Pts} : ∀ (ys : List Ra) (o i : Nat) (a : Ar), (toAr f o ys)[i]? = some a → ∃ y, ys[i]? = some y ∧ a.ps = f (o + i)
  | [], o, i, a, h => by simp [toAr] at h
  | y :: ys, o, 0, a, h => by
    simp [toAr] at h
    exact ⟨y, by simp, by subst h; rfl⟩
  | y :: ys, o, i + 1, a, h => by
    obtain ⟨z, h1, h2⟩ := toAr_at ys (o + 1) i a (by simpa [toAr] using h)
    exact ⟨z, by simpa using h1, by rw [h2]; congr 1; omega⟩
theorem rb_vrs {β : Bet} {S : Nat → Prop} {f : Nat → Pts} {φ : Nat → Bool} {κ : Nat → Nat} : ∀ (ys : List Ra) (o : Nat), (∀ i y, ys[i]? = some y → VR β S (.slice (slA (φ (o + i)) (7 + (o + i))) (f (o + i)).length (κ (o + i))) y.v) →
    VRs β S (rbC φ (fun j => 7 + j) κ o (toAr f o ys)) (ys.flatMap Ra.vs)
  | [], _, _ => .nil
  | y :: ys, o, h => by
    rw [toAr, List.flatMap_cons]
    unfold rbC
    refine VRs.append (vs := [.string y.s, .int .i64 y.sz, .int .i64 y.ct, .slice (slA (φ o) (7 + o)) (f o).length (κ o)]) (.string (.int (.int (VRs.cons (h 0 y rfl) .nil)))) ?_
    exact rb_vrs ys (o + 1) fun i z hz => by
      have := h (i + 1) z (by simpa using hz)
      rwa [show o + (i + 1) = o + 1 + i by omega] at this
/-- The start. -/
def stO (l : List Ar) (d : List Ld) (m : List Mv) (φ : Nat → Bool) (κ : Nat → Nat) (j : Nat) : Option AObj :=
  if j = 0 then some (.cells [] 0) else if j = 1 then some (.cells [] 0) else if j = 2 then some (.cells sidesC 274) else if j = 4 then (if d.length = 0 then none else some (.cells (ldC d) 159)) else
  if j = 5 then (if m.length = 0 then none else some (.cells (mvC m) 112)) else if j = 6 then (if l.length = 0 then none else some (.cells (rbC φ (fun j => 7 + j) κ 0 l) 151)) else if 7 ≤ j ∧ j < 7 + l.length then rbF l (j - 7) else none
def stB (n0 n1 n2 : Nat) (Bd Bm Ba : Option Loc) (Bp : Nat → Option Loc) (n j : Nat) : Option Loc :=
  if j = 0 then some ⟨0, 0, 0, n0⟩ else if j = 1 then some ⟨1, 0, 0, n1⟩ else if j = 2 then some ⟨2, 0, 0, n2⟩ else if j = 4 then Bd else if j = 5 then Bm else if j = 6 then Ba else if 7 ≤ j ∧ j < 7 + n then Bp (j - 7) else none
abbrev stA (l : List Ar) (d : List Ld) (m : List Mv) (φ : Nat → Bool) (κ : Nat → Nat) : AW := ⟨stO l d m φ κ, 7 + l.length, 7 + l.length, 3⟩
theorem ORel.row {β : Bet} {S : Nat → Prop} {a b n : Nat} {c cs : List Value} {e : TypeId} (hr : InRow W a b cs n) (hv : VRs β S c cs) : ORel Tryd.prog β S W false ⟨a, b, 0, n⟩ (.cells c e) := by
  obtain ⟨row, e', fz, rfl, hh, hl, hc⟩ := hr
  have hn := hv.length
  exact ⟨row, e', fz, hh, rfl, by show b + c.length ≤ row.size; omega, by show VRs β S c ((row.toList.drop b).take c.length); rw [hn, hc]; exact hv, fun h => by cases h⟩
theorem ORel.none0 {β : Bet} {S : Nat → Prop} {a : Nat} {row : Array Value} {e e' : TypeId} {fz : Nat × Nat} (hh : W.heap[a]? = some (.cells row e' fz)) : ORel Tryd.prog β S W false ⟨a, 0, 0, row.size⟩ (.cells [] e) :=
  ⟨row, e', fz, hh, rfl, by simp, by simp; exact .nil, fun h => by cases h⟩
theorem start_simW {r0 r1 r2 : Array Value} {e0 e1 e2 : TypeId} {f0 f1 f2 : Nat × Nat} (h0 : W.heap[0]? = some (.cells r0 e0 f0)) (h1 : W.heap[1]? = some (.cells r1 e1 f1)) (h2 : W.heap[2]? = some (.cells r2 e2 f2)) (q2 : r2.toList = sidesC)
    {l : List Ar} {d : List Ld} {m : List Mv} {φ : Nat → Bool} {κ : Nat → Nat} {Bd Bm Ba : Option Loc} {Bp : Nat → Option Loc}
    (hd : (d.length = 0 → Bd = none) ∧ (0 < d.length → ∃ a b n, Bd = some ⟨a, b, 0, n⟩ ∧ InRow W a b (ldC d) n)) (hm : (m.length = 0 → Bm = none) ∧ (0 < m.length → ∃ a b n, Bm = some ⟨a, b, 0, n⟩ ∧ InRow W a b (mvC m) n))
    (ha : (l.length = 0 → Ba = none) ∧ (0 < l.length → ∃ a b n cs, Ba = some ⟨a, b, 0, n⟩ ∧ InRow W a b cs n ∧ VRs (stB r0.size r1.size r2.size Bd Bm Ba Bp l.length) (fun j => j < 7 + l.length) (rbC φ (fun j => 7 + j) κ 0 l) cs))
    (hp : ∀ i a, l[i]? = some a → (a.ps = [] → Bp i = none) ∧ (a.ps ≠ [] → ∃ x y n, Bp i = some ⟨x, y, 0, n⟩ ∧ InRow W x y (ptC a.ps) n)) :
    Sim Tryd.prog W W.heap.size (stB r0.size r1.size r2.size Bd Bm Ba Bp l.length) (fun j => j < 7 + l.length) (stA l d m φ κ) W := by
  have s2 : r2.size = 4 := by rw [← Array.length_toList, q2]; rfl
  have in2 : InRow W 2 0 sidesC r2.size := ⟨r2, e2, f2, rfl, h2, by rw [s2]; decide, by rw [q2]; rfl⟩
  have flat : ∀ {β : Bet} {S : Nat → Prop} {cs : List Value}, (∃ k, noAddrs k cs = true) → VRs β S cs cs := fun ⟨k, h⟩ => VRs.refl_of_noAddrs k _ h
  have big : ∀ i, 7 + l.length ≤ i → stB r0.size r1.size r2.size Bd Bm Ba Bp l.length i = none := fun i hi => by
    unfold stB
    rw [if_neg (by omega), if_neg (by omega), if_neg (by omega), if_neg (by omega), if_neg (by omega), if_neg (by omega), if_neg (by omega)]
  have dec : ∀ j, j < 7 + l.length → decide ((stA l d m φ κ).ro ≤ j) = false := fun j hj => decide_eq_false (show ¬ 7 + l.length ≤ j by omega)
  have lt : ∀ i o, stO l d m φ κ i = some o → i < 7 + l.length := fun i o ho => by
    unfold stO at ho
    repeat' split at ho
    all_goals first | omega | cases ho
  refine ⟨.refl _ _, Nat.le_refl _, fun i o ho => ?_, fun i hi => ?_, lt, fun i j L L' hi _ h _ => ?_, fun i L hi h => ?_, fun i hi => hi, Nat.le_refl _, fun g hg => ?_, show 3 ≤ 7 + l.length by omega, fun i L _ hb => ?_⟩
  · have hlt := lt i o ho
    rw [dec i hlt]
    have ho : stO l d m φ κ i = some o := ho
    unfold stO at ho
    unfold stB
    split at ho
    · rename_i q; subst q; cases ho; exact ⟨_, rfl, ORel.none0 h0⟩
    rename_i q0
    rw [if_neg q0]
    split at ho
    · rename_i q; subst q; cases ho; exact ⟨_, rfl, ORel.none0 h1⟩
    rename_i q1
    rw [if_neg q1]
    split at ho
    · rename_i q; subst q; cases ho; exact ⟨_, rfl, ORel.row in2 (flat ⟨16, rfl⟩)⟩
    rename_i q2'
    rw [if_neg q2']
    split at ho
    · rename_i q
      rw [if_pos q]
      split at ho
      · cases ho
      · rename_i hn; cases ho
        obtain ⟨a, b, n, rfl, hr⟩ := hd.2 (by omega)
        exact ⟨_, rfl, ORel.row hr (flat (ldC_flat d))⟩
    rename_i q4
    rw [if_neg q4]
    split at ho
    · rename_i q
      rw [if_pos q]
      split at ho
      · cases ho
      · rename_i hn; cases ho
        obtain ⟨a, b, n, rfl, hr⟩ := hm.2 (by omega)
        exact ⟨_, rfl, ORel.row hr (flat (mvC_flat m))⟩
    rename_i q5
    rw [if_neg q5]
    split at ho
    · rename_i q
      rw [if_pos q]
      split at ho
      · cases ho
      · rename_i hn; cases ho
        obtain ⟨a, b, n, cs, e, hr, hv⟩ := ha.2 (by omega)
        exact ⟨_, e, ORel.row hr hv⟩
    rename_i q6
    rw [if_neg q6]
    split at ho
    · rename_i q7
      rw [if_pos q7]
      obtain ⟨a, hla⟩ : ∃ a, l[i - 7]? = some a := ⟨_, List.getElem?_eq_getElem (show i - 7 < l.length by omega)⟩
      have hne : arP l (i - 7) ≠ [] := fun e => by rw [rbF_no e] at ho; cases ho
      rw [rbF_yes hne] at ho; cases ho
      rw [arP_at hla] at hne ⊢
      obtain ⟨x, y, n, e, hr⟩ := (hp _ a hla).2 hne
      exact ⟨_, e, ORel.row hr (flat (ptC_flat _))⟩
    · cases ho
  · have hi : stO l d m φ κ i = none := hi
    unfold stO at hi
    unfold stB
    split at hi
    · cases hi
    rename_i q0
    rw [if_neg q0]
    split at hi
    · cases hi
    rename_i q1
    rw [if_neg q1]
    split at hi
    · cases hi
    rename_i q2'
    rw [if_neg q2']
    split at hi
    · rename_i q
      rw [if_pos q]
      split at hi
      · rename_i hn; exact hd.1 hn
      · cases hi
    rename_i q4
    rw [if_neg q4]
    split at hi
    · rename_i q
      rw [if_pos q]
      split at hi
      · rename_i hn; exact hm.1 hn
      · cases hi
    rename_i q5
    rw [if_neg q5]
    split at hi
    · rename_i q
      rw [if_pos q]
      split at hi
      · rename_i hn; exact ha.1 hn
      · cases hi
    rename_i q6
    rw [if_neg q6]
    split at hi
    · rename_i q7
      rw [if_pos q7]
      obtain ⟨a, hla⟩ : ∃ a, l[i - 7]? = some a := ⟨_, List.getElem?_eq_getElem (show i - 7 < l.length by omega)⟩
      refine (hp _ a hla).1 ?_
      by_cases e : arP l (i - 7) = []
      · rw [arP_at hla] at e; exact e
      · rw [rbF_yes e] at hi; cases hi
    · rename_i q7; rw [if_neg q7]
  · rw [big i hi] at h; cases h
  · rw [big i hi] at h; cases h
  · have hg : g < 3 := hg
    refine ⟨show g < 7 + l.length by omega, ?_⟩
    match g, hg with
    | 0, _ => exact ⟨_, rfl, rfl, rfl⟩
    | 1, _ => exact ⟨_, rfl, rfl, rfl⟩
    | 2, _ => exact ⟨_, rfl, rfl, rfl⟩
  · unfold stB at hb
    split at hb
    · cases hb; rfl
    split at hb
    · cases hb; rfl
    split at hb
    · cases hb; rfl
    split at hb
    · rcases Nat.eq_zero_or_pos d.length with q | q
      · rw [hd.1 q] at hb; cases hb
      · obtain ⟨a, b, n, e, _⟩ := hd.2 q
        rw [e] at hb; cases hb; rfl
    split at hb
    · rcases Nat.eq_zero_or_pos m.length with q | q
      · rw [hm.1 q] at hb; cases hb
      · obtain ⟨a, b, n, e, _⟩ := hm.2 q
        rw [e] at hb; cases hb; rfl
    split at hb
    · rcases Nat.eq_zero_or_pos l.length with q | q
      · rw [ha.1 q] at hb; cases hb
      · obtain ⟨a, b, n, cs, e, _⟩ := ha.2 q
        rw [e] at hb; cases hb; rfl
    split at hb
    · rename_i q7
      obtain ⟨a, hla⟩ : ∃ a, l[i - 7]? = some a := ⟨_, List.getElem?_eq_getElem (show i - 7 < l.length by omega)⟩
      by_cases e : a.ps = []
      · rw [(hp _ a hla).1 e] at hb; cases hb
      · obtain ⟨x, y, n, e2, _⟩ := (hp _ a hla).2 e
        rw [e2] at hb; cases hb; rfl
    · cases hb
end Go.M
namespace Go.M
set_option maxRecDepth 100000
open Go.RowKit Go.Proofs Go.ChangeShapes Go.WideShapes Go.ChangeAt
variable {H : Type} {enc : TypeId × Value → H} {W : World}
theorem stA_nj {l : List Ar} {d : List Ld} {m : List Mv} {φ : Nat → Bool} {κ : Nat → Nat} {ea ed e0 : Bool} (ha : 0 < l.length → ea = true) (hd : 0 < d.length → ed = true) (hm : 0 < m.length → e0 = true) (hp : ∀ i a, l[i]? = some a → a.ps ≠ [] → φ i = true) :
    NjAt (stA l d m φ κ) ea ed e0 (if l.length = 0 then 3 else 6) (if d.length = 0 then 3 else 4) (if m.length = 0 then 3 else 5) φ (fun j => 7 + j) κ l d m := by
  have pos : ∀ {α : Type} {x : List α}, ne x = true → 0 < x.length := fun {α x} h => by
    cases x with
    | nil => cases h
    | cons y x => exact Nat.succ_pos _
  have nil : ∀ {α : Type} {x : List α}, ne x = false → x.length = 0 := fun {α x} h => by
    cases x with
    | nil => rfl
    | cons y x => cases h
  have o3 : (stA l d m φ κ).objs 3 = none := by
    show stO l d m φ κ 3 = none
    unfold stO
    rw [if_neg (by decide), if_neg (by decide), if_neg (by decide), if_neg (by decide), if_neg (by decide), if_neg (by decide), if_neg (by omega)]
  have rd : ∀ {k : Nat} {c : List Value} {e : TypeId}, (stA l d m φ κ).objs k = some (.cells c e) → (stA l d m φ κ).rd k 0 c.length = some c := fun h => by
    unfold AW.rd
    rw [h]; simp
  have rd0 : ∀ {k : Nat} {c : List Value} {e : TypeId}, (stA l d m φ κ).objs k = some (.cells c e) → (stA l d m φ κ).rd k 0 0 = some [] := fun h => by
    unfold AW.rd
    rw [h]; simp
  refine ⟨⟨rfl, rd0 (c := []) (e := 0) rfl, rd0 (c := []) (e := 0) rfl, rd (c := sidesC) (e := 274) rfl⟩, ⟨fun z _ => by rw [if_pos (nil z)]; exact o3, fun z => ⟨ha (pos z), ?_⟩⟩, fun i a hi => ?_, ⟨fun z _ => by rw [if_pos (nil z)]; exact o3, fun z => ⟨hd (pos z), ?_⟩⟩, ⟨fun z _ => by rw [if_pos (nil z)]; exact o3, fun z => ⟨hm (pos z), ?_⟩⟩⟩
  · have := pos z
    rw [if_neg (by omega)]
    refine rd (e := 151) ?_
    show stO l d m φ κ 6 = _
    unfold stO
    rw [if_neg (by decide), if_neg (by decide), if_neg (by decide), if_neg (by decide), if_neg (by decide), if_pos rfl, if_neg (by omega)]
  · have hil := (List.getElem?_eq_some_iff.1 hi).1
    have e : (stA l d m φ κ).objs (7 + i) = rbF l i := by
      show stO l d m φ κ (7 + i) = _
      unfold stO
      rw [if_neg (by omega), if_neg (by omega), if_neg (by omega), if_neg (by omega), if_neg (by omega), if_neg (by omega), if_pos (by omega), show 7 + i - 7 = i by omega]
    by_cases q : a.ps = []
    · exact .inl ⟨q, fun _ => e.trans (rbF_no (by rw [arP_at hi]; exact q))⟩
    · refine .inr ⟨q, hp i a hi q, rd (e := 97) (e.trans ?_)⟩
      rw [rbF_yes (by rw [arP_at hi]; exact q), arP_at hi]
  · have := pos z
    rw [if_neg (by omega)]
    refine rd (e := 159) ?_
    show stO l d m φ κ 4 = _
    unfold stO
    rw [if_neg (by decide), if_neg (by decide), if_neg (by decide), if_pos rfl, if_neg (by omega)]
  · have := pos z
    rw [if_neg (by omega)]
    refine rd (e := 112) ?_
    show stO l d m φ κ 5 = _
    unfold stO
    rw [if_neg (by decide), if_neg (by decide), if_neg (by decide), if_neg (by decide), if_pos rfl, if_neg (by omega)]
theorem law4_all {A : AW} {ea ed e0 : Bool} {p q r0 cl cd c0 : Nat} {φ : Nat → Bool} {ν κ : Nat → Nat} (l : List Ar) (r : Rl) (d : List Ld) (m0 : List Mv) (vw : Nat → Int) (s t : Int) (hvw : ∀ i, i < 24 → 0 ≤ vw i ∧ vw i ≤ 65535)
    (hnj : NjAt A ea ed e0 p q r0 φ ν κ l d m0) : AC Tryd.prog 4 [.slice (slA ea p) l.length cl, .agg r.vs.toArray, .agg (niC ed e0 q r0 d.length cd m0.length c0 vw s t).toArray] A (isR (.bool true) A) := by
  rcases Nat.lt_or_ge 4 l.length with h | h
  · exact w_law4long l r d m0 vw s t h hnj
  · exact w_law4 l r d m0 vw s t hvw h hnj
theorem calls_law4 {v0 v1 v2 : Value} {r : Rl} {d : List Ld} {m : List Mv} {ys : List Ra} {vw : Nat → Int} {s t : Int} (hsh : W.ShapedOpen Tryd.prog) (hL : laidMetH Tryd.prog laidS W)
    (h0 : FlatAt W v0 ys.length (ys.flatMap Ra.vs)) (hy : ∀ y ∈ ys, PolyAt W y.v) (h1 : FlatAt W v1 d.length (ldC d)) (h2 : FlatAt W v2 m.length (mvC m)) (hvw : ∀ i, i < 24 → 0 ≤ vw i ∧ vw i ≤ 65535) :
    Calls Tryd.prog 4 #[v0, .agg r.vs.toArray, .agg (v1 :: v2 :: (viC vw ++ [.int .u32 s, .int .u32 t])).toArray] W fun e W' => e = .returned (.bool true) ∧ Below W.heap.size W W' := by
  obtain ⟨ea, cl, Ba, ra1, ra2, ra3⟩ := h0.rep (k := 6)
  obtain ⟨ed, cd, Bd, rd1, rd2, rd3⟩ := h1.rep (k := 4)
  obtain ⟨e0, c0, Bm, rm1, rm2, rm3⟩ := h2.rep (k := 5)
  have hc : ∀ i : Nat, ∃ q : Pts × Bool × Nat × Option Loc, ∀ y, ys[i]? = some y → PolyRep W y.v q.1 q.2.1 q.2.2.1 q.2.2.2 := fun i => by
    cases e : ys[i]? with
    | none => exact ⟨([], false, 0, none), fun y h => by cases h⟩
    | some y =>
      obtain ⟨ps, φ, κ, B, h⟩ := (hy y (List.mem_of_getElem? e)).rep
      exact ⟨(ps, φ, κ, B), fun z hz => by cases hz; exact h⟩
  obtain ⟨f, hf⟩ : ∃ f : Nat → Pts × Bool × Nat × Option Loc, ∀ i y, ys[i]? = some y → PolyRep W y.v (f i).1 (f i).2.1 (f i).2.2.1 (f i).2.2.2 := ⟨fun i => (hc i).choose, fun i => (hc i).choose_spec⟩
  obtain ⟨l, hl⟩ : ∃ l, l = toAr (fun i => (f i).1) 0 ys := ⟨_, rfl⟩
  have hll : l.length = ys.length := by rw [hl]; exact toAr_len ys 0
  have hat : ∀ (i : Nat) (a : Ar), l[i]? = some a → ∃ y, ys[i]? = some y ∧ a.ps = (f i).1 := fun i a h => by
    rw [hl] at h
    obtain ⟨y, g1, g2⟩ := toAr_at ys 0 i a h
    exact ⟨y, g1, by rw [g2, Nat.zero_add]⟩
  obtain ⟨r0, x0, f0, g0⟩ := heapW0 hsh
  obtain ⟨r1, x1, f1, g1⟩ := heapW1 hsh
  obtain ⟨r2, x2, f2, g2, q2⟩ := sides_heap hL
  obtain ⟨β, hβ⟩ : ∃ β, β = stB r0.size r1.size r2.size Bd Bm Ba (fun i => (f i).2.2.2) l.length := ⟨_, rfl⟩
  have b3 : β 3 = none := by rw [hβ]; unfold stB; rw [if_neg (by decide), if_neg (by decide), if_neg (by decide), if_neg (by decide), if_neg (by decide), if_neg (by decide), if_neg (by omega)]
  have b4 : β 4 = Bd := by rw [hβ]; rfl
  have b5 : β 5 = Bm := by rw [hβ]; rfl
  have b6 : β 6 = Ba := by rw [hβ]; rfl
  have b7 : ∀ i, i < l.length → β (7 + i) = (f i).2.2.2 := fun i hi => by
    rw [hβ]; unfold stB
    rw [if_neg (by omega), if_neg (by omega), if_neg (by omega), if_neg (by omega), if_neg (by omega), if_neg (by omega), if_pos (by omega), show 7 + i - 7 = i by omega]
  have cells : VRs β (fun j => j < 7 + l.length) (rbC (fun i => (f i).2.1) (fun j => 7 + j) (fun i => (f i).2.2.1) 0 l) (ys.flatMap Ra.vs) := by
    rw [hl]
    refine rb_vrs ys 0 fun i y hi => ?_
    rw [Nat.zero_add]
    have hil := (List.getElem?_eq_some_iff.1 hi).1
    exact (hf i y hi).2.2 β _ (7 + i) (show 7 + i < 7 + (toAr (fun i => (f i).1) 0 ys).length by rw [toAr_len]; omega) (b7 i (by omega))
  have sim : Sim Tryd.prog W W.heap.size β (fun j => j < 7 + l.length) (stA l d m (fun i => (f i).2.1) (fun i => (f i).2.2.1)) W := by
    rw [hβ]
    refine start_simW g0 g1 g2 q2 ⟨rd1, fun h => (rd2 h).2⟩ ⟨rm1, fun h => (rm2 h).2⟩ ⟨fun h => ra1 (by omega), fun h => ?_⟩ (fun i a hi => ?_)
    · obtain ⟨_, a, b, n, e, hr⟩ := ra2 (by omega)
      exact ⟨a, b, n, _, e, hr, by rw [← hβ]; exact cells⟩
    · obtain ⟨y, hy, e⟩ := hat i a hi
      have h := hf i y hy
      rw [e]
      exact ⟨h.1, fun hne => (h.2.1 hne).2⟩
  have nj : NjAt (stA l d m (fun i => (f i).2.1) (fun i => (f i).2.2.1)) ea ed e0 (if l.length = 0 then 3 else 6) (if d.length = 0 then 3 else 4) (if m.length = 0 then 3 else 5) (fun i => (f i).2.1) (fun j => 7 + j) (fun i => (f i).2.2.1) l d m :=
    stA_nj (fun h => (ra2 (by omega)).1) (fun h => (rd2 h).1) (fun h => (rm2 h).1) (fun i a hi hne => by
      obtain ⟨y, hy, e⟩ := hat i a hi
      rw [e] at hne
      exact ((hf i y hy).2.1 hne).1)
  have hv0 := ra3 β (fun j => j < 7 + l.length) (show 3 < 7 + l.length by omega) (show 6 < 7 + l.length by omega) b3 b6
  rw [← hll] at hv0
  have hv1 := rd3 β (fun j => j < 7 + l.length) (show 3 < 7 + l.length by omega) (show 4 < 7 + l.length by omega) b3 b4
  have hv2 := rm3 β (fun j => j < 7 + l.length) (show 3 < 7 + l.length by omega) (show 5 < 7 + l.length by omega) b3 b5
  refine Calls.mono (law4_all l r d m vw s t hvw nj W W.heap.size W β (fun j => j < 7 + l.length) _ sim (VRs.cons hv0 (VRs.cons (VRs.refl_of_noAddrs 64 _ rfl) (.agg (VRs.cons hv1 (VRs.cons hv2 (VRs.refl_of_noAddrs 64 _ rfl))) .nil)))) fun e W' he => ?_
  cases e with
  | panicked => exact he.elim
  | outgrown => exact he.elim
  | returned v' =>
    obtain ⟨β1, S1, v, A1, k1, k2, rfl, _⟩ := he
    obtain rfl : v' = .bool true := by cases k2; rfl
    exact ⟨rfl, k1.sim.below⟩
end Go.M
