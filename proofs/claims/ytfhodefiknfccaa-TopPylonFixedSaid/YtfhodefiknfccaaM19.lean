/- Part 19: drawn orders, in the form in which it is used. -/
import Derived.Test.YtfhodefiknfccaaM18
set_option linter.unusedVariables false
set_option linter.unusedSimpArgs false
namespace Go.M
open Go.RowKit
variable {P : Program} {n m : Nat} {A A' A1 A2 A0 : AW} {a a1 a0 : AEnv} {Q Q' : AQ} {R : Value → AW → Prop} {p : Prop} {L L' L0 : LM} {nx nx' nx0 ro gl : Nat} {D : Plan} {id i : Nat} {o : Oper} {v : Value}

abbrev MS := List (LM × Nat)
def msOf (ro gl : Nat) (Ms : MS) : List AW := Ms.map fun x => AW.of x.1 x.2 ro gl
structure GD (P : Program) (n m : Nat) (D : Plan) (id : Nat) (a0 : AEnv) (L0 : LM) (nx0 ro gl : Nat) (Q : AQ) (i : Nat) (a : AEnv) (Ms : MS) : Prop where
  run : DG P n m D id a0 (AW.of L0 nx0 ro gl) Q i a (msOf ro gl Ms)

theorem GT.draws {l : List Oper} (An : List (List Nat)) (H : List Nat) (hc : (Plan.mk l An H).chk n = true) (h : GD P n m ⟨l, An, H⟩ id a L nx ro gl Q 0 a [(L, nx)]) : GT P n m (.region id l.toArray true) a L nx ro gl Q :=
  ⟨AT.draws An H hc h.run⟩
theorem GD.done {Ms : MS} (hm : P.follows .mixedOrders = true) (hi : Nat.beq D.l.length i = true) (hl : Ms[D.H.length]? = some (L, nx)) (hq : GP Q .normal a L nx ro gl) : GD P n m D id a0 L0 nx0 ro gl Q i a Ms :=
  ⟨DG.done hm (Nat.eq_of_beq_eq_true hi) (M := AW.of L nx ro gl) (by unfold msOf; rw [List.getElem?_map, hl]; rfl) hq.run⟩

def okMs' (D : Plan) (i : Nat) (Ms : MS) : MS := (Ms.zipIdx.filter fun x => D.okk i x.2).map (·.1)
theorem okMs_map (D : Plan) (i : Nat) (Ms : MS) (ro gl : Nat) : D.okMs i (msOf ro gl Ms) = (okMs' D i Ms).map fun x => AW.of x.1 x.2 ro gl := by
  unfold Plan.okMs okMs' msOf
  rw [List.zipIdx_map, List.filter_map, List.map_map, List.map_map]
  rfl
inductive AllMs (p : LM → Nat → Prop) : MS → Prop
  | nil {ms : MS} : ms = [] → AllMs p ms
  | cons {ms r : MS} {L : LM} {nx : Nat} : ms = (L, nx) :: r → p L nx → AllMs p r → AllMs p ms
theorem AllMs.all {ro gl : Nat} {p : AW → Prop} {ms : MS} (h : AllMs (fun L nx => p (AW.of L nx ro gl)) ms) : AllM p (ms.map fun x => AW.of x.1 x.2 ro gl) := by
  induction h with
  | nil e => subst e; exact trivial
  | cons e h _ ih => subst e; exact ⟨h, ih⟩

theorem GD.light {Ms : MS} {d : Nat} (ho : D.l[i]? = some o) (hH : D.H.contains i = false) (hon : D.onAt a o) (hd : o.dst = some d) (h : AllMs (fun L nx => AOp P n o (D.env a0 a i o) (AW.of L nx ro gl) (isR v (AW.of L nx ro gl))) (okMs' D i Ms))
    (k : GD P n m D id a0 L0 nx0 ro gl Q (i + 1) ((d, v) :: a) Ms) : GD P n m D id a0 L0 nx0 ro gl Q i a Ms :=
  ⟨DG.light ho hH hon (okMs_map D i Ms ro gl) rfl (AllMs.all h) (by rw [hd]; exact k.run)⟩
theorem GD.off {Ms : MS} {e g d : Nat} {b : Bool} {u : Value} (ho : D.l[i]? = some o) (hH : D.H.contains i = false) (h1 : o.guard = some (g, b)) (h2 : (D.l[g]?).bind (·.dst) = some d) (h3 : aget a d = some u) (h5 : u = .bool (!b) ∨ u = undef) (hd : o.dst = some e)
    (k : GD P n m D id a0 L0 nx0 ro gl Q (i + 1) ((e, undef) :: a) Ms) : GD P n m D id a0 L0 nx0 ro gl Q i a Ms :=
  ⟨DG.off ho hH h1 h2 h3 h5 (by rw [hd]; exact k.run)⟩

inductive AllJs (p : Nat → Prop) : List Nat → Prop
  | nil {js : List Nat} : js = [] → AllJs p js
  | cons {js r : List Nat} {j : Nat} : js = j :: r → p j → AllJs p r → AllJs p js
theorem AllJs.all {p : Nat → Prop} {js : List Nat} (h : AllJs p js) : AllJ p js := by
  induction h with
  | nil e => subst e; exact trivial
  | cons e h _ ih => subst e; exact ⟨h, ih⟩

theorem GD.heavy {Ms : MS} {d : Nat} (ho : D.l[i]? = some o) (hr : D.H[Ms.length - 1]? = some i) (hM : Ms[Ms.length - 1]? = some (L, nx)) (hon : D.onAt a o) (hd : o.dst = some d) (h : AOp P n o (D.env a0 a i o) (AW.of L nx ro gl) (isR v (AW.of L' nx' ro gl)))
    (hf : AllJs (D.again P n a0 a (AW.of L' nx' ro gl)) (D.floats i (Ms.length - 1))) (k : GD P n m D id a0 L0 nx0 ro gl Q (i + 1) ((d, v) :: a) (Ms ++ [(L', nx')])) : GD P n m D id a0 L0 nx0 ro gl Q i a Ms :=
  ⟨DG.heavy (r := Ms.length - 1) (M := AW.of L nx ro gl) (M' := AW.of L' nx' ro gl) ho hr (by unfold msOf; rw [List.getElem?_map, hM]; rfl) hon rfl h rfl hf.all (by rw [hd]; have := k.run; rw [msOf, List.map_append] at this; exact this)⟩
theorem GD.heavyN {Ms : MS} (ho : D.l[i]? = some o) (hr : D.H[Ms.length - 1]? = some i) (hM : Ms[Ms.length - 1]? = some (L, nx)) (hon : D.onAt a o) (hd : o.dst = none) (h : nstep P o (D.env a0 a i o) L nx ro gl = some L')
    (hf : AllJs (D.again P n a0 a (AW.of L' nx ro gl)) (D.floats i (Ms.length - 1))) (k : GD P n m D id a0 L0 nx0 ro gl Q (i + 1) a (Ms ++ [(L', nx)])) : GD P n m D id a0 L0 nx0 ro gl Q i a Ms :=
  ⟨DG.heavy (r := Ms.length - 1) (M := AW.of L nx ro gl) (M' := AW.of L' nx ro gl) ho hr (by unfold msOf; rw [List.getElem?_map, hM]; rfl) hon rfl (nstep_sound h) rfl hf.all (by rw [hd]; have := k.run; rw [msOf, List.map_append] at this; exact this)⟩

theorem GD.heavyF {Ms : MS} (ho : D.l[i]? = some o) (hr : D.H[Ms.length - 1]? = some i) (hM : Ms[Ms.length - 1]? = some (L, nx)) (hon : D.onAt a o) (hd : o.dst = none) (h : nstepF P o (D.env a0 a i o) L nx ro gl = some L')
    (hf : AllJs (D.again P n a0 a (AW.of L' nx ro gl)) (D.floats i (Ms.length - 1))) (k : GD P n m D id a0 L0 nx0 ro gl Q (i + 1) a (Ms ++ [(L', nx)])) : GD P n m D id a0 L0 nx0 ro gl Q i a Ms := GD.heavyN ho hr hM hon hd (nstepF_eq h) hf k
theorem again.one {j d : Nat} {oj : Oper} {u : Value} {M' : AW} (h1 : D.l[j]? = some oj) (hd : oj.dst = some d) (h2 : aget a d = some u) (h4 : AOp P n oj (D.env a0 a j oj) M' (isR u M')) : D.again P n a0 a M' j :=
  ⟨oj, h1, .inr ⟨u, fun d' hd' => by rw [hd] at hd'; cases hd'; exact h2, h4⟩⟩
theorem again.off {j g d e : Nat} {b : Bool} {u : Value} {oj : Oper} {M' : AW} (h1 : D.l[j]? = some oj) (hg : oj.guard = some (g, b)) (h2 : (D.l[g]?).bind (·.dst) = some d) (h3 : aget a d = some u) (h5 : u = .bool (!b) ∨ u = undef) (hd : oj.dst = some e) (h4 : aget a e = some undef) : D.again P n a0 a M' j :=
  ⟨oj, h1, .inl ⟨⟨g, b, d, u, hg, h2, h3, h5⟩, fun d' hd' => by rw [hd] at hd'; cases hd'; exact h4⟩⟩

theorem onAt.none (h : o.guard = none) : D.onAt a o := .inl h
theorem onAt.yes {g d : Nat} {b : Bool} (h1 : o.guard = some (g, b)) (h2 : (D.l[g]?).bind (·.dst) = some d) (h3 : aget a d = some (.bool b)) : D.onAt a o := .inr ⟨g, b, d, h1, h2, h3⟩

theorem Good.congr {Ms : List AW} (he : ∀ t, aget a1 t = aget a t) (h : Good P n D a0 A0 i a Ms) : Good P n D a0 A0 i a1 Ms := by
  have e : aget a1 = aget a := funext he
  have henv : ∀ j o, D.env a0 a1 j o = D.env a0 a j o := fun j o => by unfold Plan.env Plan.src; rw [e]
  refine ⟨h.len, h.head, fun t ht => by rw [e]; exact h.keep t ht, fun j o hj ho => ?_⟩
  have := h.obs j o hj ho
  unfold Plan.ob Plan.offAt Plan.onAt Plan.opAt at this ⊢
  simp only [e, henv]
  exact this
theorem GD.shadow {Ms : MS} {d : Nat} {u : Value} (h : aget a d = some u) (k : GD P n m D id a0 L0 nx0 ro gl Q i ((d, u) :: a) Ms) : GD P n m D id a0 L0 nx0 ro gl Q i a Ms :=
  ⟨fun hc hg => k.run hc (hg.congr fun t => by
    simp only [aget]
    split
    · rename_i e; subst e; exact h.symm
    · rfl)⟩
theorem GD.forkD [Decidable p] {Ms : MS} {g d : Nat} {b : Bool} (ho : D.l[i]? = some o) (h1 : o.guard = some (g, b)) (h2 : (D.l[g]?).bind (·.dst) = some d) (h3 : aget a d = some (.bool (decide p)))
    (k1 : p → GD P n m D id a0 L0 nx0 ro gl Q i ((d, .bool true) :: a) Ms) (k2 : ¬p → GD P n m D id a0 L0 nx0 ro gl Q i ((d, .bool false) :: a) Ms) : GD P n m D id a0 L0 nx0 ro gl Q i a Ms := by
  by_cases q : p
  · exact GD.shadow (by rw [h3, decide_eq_true q]) (k1 q)
  · exact GD.shadow (by rw [h3, decide_eq_false q]) (k2 q)
theorem GD.forkN [Decidable p] {Ms : MS} {g d : Nat} {b : Bool} (ho : D.l[i]? = some o) (h1 : o.guard = some (g, b)) (h2 : (D.l[g]?).bind (·.dst) = some d) (h3 : aget a d = some (.bool (!decide p)))
    (k1 : p → GD P n m D id a0 L0 nx0 ro gl Q i ((d, .bool false) :: a) Ms) (k2 : ¬p → GD P n m D id a0 L0 nx0 ro gl Q i ((d, .bool true) :: a) Ms) : GD P n m D id a0 L0 nx0 ro gl Q i a Ms := by
  by_cases q : p
  · exact GD.shadow (by rw [h3, decide_eq_true q]; rfl) (k1 q)
  · exact GD.shadow (by rw [h3, decide_eq_false q]; rfl) (k2 q)
theorem GD.forkB {Ms : MS} {g d : Nat} {b u : Bool} (ho : D.l[i]? = some o) (h1 : o.guard = some (g, b)) (h2 : (D.l[g]?).bind (·.dst) = some d) (h3 : aget a d = some (.bool u))
    (k1 : u = true → GD P n m D id a0 L0 nx0 ro gl Q i ((d, .bool true) :: a) Ms) (k2 : u = false → GD P n m D id a0 L0 nx0 ro gl Q i ((d, .bool false) :: a) Ms) : GD P n m D id a0 L0 nx0 ro gl Q i a Ms := by
  cases u with
  | true => exact GD.shadow h3 (k1 rfl)
  | false => exact GD.shadow h3 (k2 rfl)
end Go.M
