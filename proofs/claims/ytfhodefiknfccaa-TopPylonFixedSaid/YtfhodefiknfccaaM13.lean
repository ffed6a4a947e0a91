/- Part 13: regions whose order is drawn. -/
import Derived.Test.YtfhodefiknfccaaM12
import Derived.Orders
set_option linter.unusedVariables false
set_option linter.unusedSimpArgs false
namespace Go.M
open Go.RowKit
variable {P : Program} {w0 w w' w1 w2 : World} {N n m : Nat} {β β' β1 β2 : Bet} {S S' S1 S2 : Nat → Prop} {A A' A1 A2 A0 : AW} {a a1 a0 : AEnv} {ae : Act} {Q Q' : AQ}

/-- Which operation writes a slot. -/
def wrOf (l : List Oper) (t : Nat) : Option Nat := l.findIdx? (fun o => o.dst == some t)
def readsOf (l : List Oper) (o : Oper) : List Nat :=
  (o.op.operands.toList.filterMap fun | .tmp t => some t | _ => none) ++ (match o.guard with | some (g, _) => ((l[g]?).bind (·.dst)).toList | none => [])
def predsOf (o : Oper) : List Nat := o.after.toList.filterMap fun e => if Region.binds .any e then some e.on else none

/-- 'An': for each operation some that surely come before it; 'H': those that turn the memory. -/
structure Plan where
  l : List Oper
  An : List (List Nat)
  H : List Nat
def Plan.an (D : Plan) (i : Nat) : List Nat := D.An.getD i []
def Plan.chkOp (D : Plan) (n i : Nat) (o : Oper) : Bool :=
  (predsOf o).all (fun p => decide (p < i)) && (D.an i).all (fun j => decide (j < i) && ((predsOf o).contains j || (predsOf o).any fun p => (D.an p).contains j)) &&
  (readsOf D.l o).all (fun t => match wrOf D.l t with | none => true | some j => (D.an i).contains j || j == i || (D.an j).contains i) &&
  (match o.dst with | some d => wrOf D.l d == some i && decide (d < n) | none => true) &&
  (match o.guard with | some (g, _) => (D.an i).contains g && ((D.l[g]?).bind (·.dst)).isSome | none => true)
def Plan.chain (D : Plan) : List Nat → Bool
  | x :: y :: r => (D.an y).contains x && D.chain (y :: r)
  | _ => true
def Plan.chk (D : Plan) (n : Nat) : Bool := (D.l.zipIdx).all (fun x => D.chkOp n x.2 x.1) && D.chain D.H && D.H.all (fun h => decide (h < D.l.length))

def Plan.src (D : Plan) (a0 a : AEnv) (i t : Nat) : Option Value :=
  match wrOf D.l t with
  | some j => if (D.an i).contains j then aget a t else aget a0 t
  | none => aget a0 t
def Plan.env (D : Plan) (a0 a : AEnv) (i : Nat) (o : Oper) : AEnv := (readsOf D.l o).filterMap fun t => (D.src a0 a i t).map fun v => (t, v)
def Plan.okk (D : Plan) (i k : Nat) : Bool := (D.H.zipIdx).all fun x => (!(D.an i).contains x.1 || decide (x.2 < k)) && (!(D.an x.1).contains i || decide (k ≤ x.2))

def Plan.opAt (P : Program) (n : Nat) (D : Plan) (a0 a : AEnv) (j : Nat) (o : Oper) (M M' : AW) : Prop :=
  ∃ v, (∀ d, o.dst = some d → aget a d = some v) ∧ AOp P n o (D.env a0 a j o) M (isR v M')
def Plan.offAt (D : Plan) (a : AEnv) (o : Oper) : Prop :=
  (∃ g b d u, o.guard = some (g, b) ∧ (D.l[g]?).bind (·.dst) = some d ∧ aget a d = some u ∧ (u = .bool (!b) ∨ u = undef)) ∧ ∀ d, o.dst = some d → aget a d = some undef
def Plan.onAt (D : Plan) (a : AEnv) (o : Oper) : Prop :=
  o.guard = none ∨ ∃ g b d, o.guard = some (g, b) ∧ (D.l[g]?).bind (·.dst) = some d ∧ aget a d = some (.bool b)
def Plan.ob (P : Program) (n : Nat) (D : Plan) (a0 a : AEnv) (Ms : List AW) (j : Nat) (o : Oper) : Prop :=
  (D.offAt a o ∧ j ∉ D.H) ∨ (D.onAt a o ∧ ((∀ r, D.H[r]? = some j → ∃ M M', Ms[r]? = some M ∧ Ms[r + 1]? = some M' ∧ D.opAt P n a0 a j o M M') ∧
    (j ∉ D.H → ∀ k M, Ms[k]? = some M → D.okk j k = true → D.opAt P n a0 a j o M M)))

/-! ### What has been checked -/
structure Plan.Ok (D : Plan) (n : Nat) : Prop where
  preds : ∀ i o, D.l[i]? = some o → ∀ p ∈ predsOf o, p < i
  anlt : ∀ i o, D.l[i]? = some o → ∀ j ∈ D.an i, j < i
  ancl : ∀ i o, D.l[i]? = some o → ∀ j ∈ D.an i, j ∈ predsOf o ∨ ∃ p ∈ predsOf o, j ∈ D.an p
  reads : ∀ i o, D.l[i]? = some o → ∀ t ∈ readsOf D.l o, ∀ j, wrOf D.l t = some j → j ∈ D.an i ∨ j = i ∨ i ∈ D.an j
  dst : ∀ i o, D.l[i]? = some o → ∀ d, o.dst = some d → wrOf D.l d = some i ∧ d < n
  guard : ∀ i o, D.l[i]? = some o → ∀ g b, o.guard = some (g, b) → g ∈ D.an i
  chain : ∀ r x y, D.H[r]? = some x → D.H[r + 1]? = some y → x ∈ D.an y
  hlt : ∀ h ∈ D.H, h < D.l.length

theorem Plan.chain_spec (D : Plan) : ∀ (H : List Nat), D.chain H = true → ∀ (r x y : Nat), H[r]? = some x → H[r + 1]? = some y → x ∈ D.an y
  | [], _, r, x, y, h, _ => by simp at h
  | [z], _, r, x, y, h1, h2 => by simp at h2
  | z :: u :: H, h, r, x, y, h1, h2 => by
    simp only [Plan.chain, Bool.and_eq_true] at h
    cases r with
    | zero => simp at h1 h2; subst h1; subst h2; simpa using h.1
    | succ r => exact Plan.chain_spec D (u :: H) h.2 r x y (by simpa using h1) (by simpa using h2)

theorem Plan.ok_of_chk {D : Plan} (h : D.chk n = true) : D.Ok n := by
  simp only [Plan.chk, Bool.and_eq_true, List.all_eq_true, decide_eq_true_eq] at h
  obtain ⟨⟨h1, h2⟩, h3⟩ := h
  have hop : ∀ i o, D.l[i]? = some o → D.chkOp n i o = true := fun i o ho => h1 (o, i) (by rw [List.mk_mem_zipIdx_iff_getElem?]; exact ho)
  have all : ∀ i o, D.l[i]? = some o → (∀ p ∈ predsOf o, p < i) ∧ (∀ j ∈ D.an i, j < i ∧ (j ∈ predsOf o ∨ ∃ p ∈ predsOf o, j ∈ D.an p)) ∧
      (∀ t ∈ readsOf D.l o, ∀ j, wrOf D.l t = some j → j ∈ D.an i ∨ j = i ∨ i ∈ D.an j) ∧ (∀ d, o.dst = some d → wrOf D.l d = some i ∧ d < n) ∧ (∀ g b, o.guard = some (g, b) → g ∈ D.an i) := by
    intro i o ho
    have := hop i o ho
    simp only [Plan.chkOp, Bool.and_eq_true, List.all_eq_true, decide_eq_true_eq, Bool.or_eq_true, List.contains_eq_mem, List.any_eq_true] at this
    obtain ⟨⟨⟨⟨p1, p2⟩, p3⟩, p4⟩, p5⟩ := this
    refine ⟨p1, p2, fun t ht j hj => ?_, fun d hd => ?_, fun g b hg => ?_⟩
    · have := p3 t ht
      rw [hj] at this
      simp only [Bool.or_eq_true, decide_eq_true_eq, beq_iff_eq] at this
      rcases this with (h | h) | h
      · exact .inl h
      · exact .inr (.inl h)
      · exact .inr (.inr h)
    · rw [hd] at p4
      simpa using p4
    · rw [hg] at p5
      simp only [Bool.and_eq_true, decide_eq_true_eq] at p5
      exact p5.1
  exact ⟨fun i o ho => (all i o ho).1, fun i o ho j hj => ((all i o ho).2.1 j hj).1, fun i o ho j hj => ((all i o ho).2.1 j hj).2, fun i o ho => (all i o ho).2.2.1, fun i o ho => (all i o ho).2.2.2.1, fun i o ho => (all i o ho).2.2.2.2, Plan.chain_spec D D.H h2, h3⟩

/-! ### The runs -/
theorem aget_filterMap {f : Nat → Option Value} : ∀ (ts : List Nat) (t : Nat) (v : Value), aget (ts.filterMap fun t => (f t).map fun v => (t, v)) t = some v → t ∈ ts ∧ f t = some v
  | [], _, _, h => by simp [aget] at h
  | u :: ts, t, v, h => by
    cases hu : f u with
    | none =>
      rw [List.filterMap_cons, hu] at h
      obtain ⟨h1, h2⟩ := aget_filterMap ts t v h
      exact ⟨List.mem_cons_of_mem _ h1, h2⟩
    | some x =>
      rw [List.filterMap_cons, hu] at h
      simp only [Option.map_some, aget] at h
      split at h
      · rename_i e; subst e; cases h; exact ⟨List.mem_cons_self .., hu⟩
      · obtain ⟨h1, h2⟩ := aget_filterMap ts t v h
        exact ⟨List.mem_cons_of_mem _ h1, h2⟩

/-- Where a run stands. -/
structure At (P : Program) (w0 : World) (N n m : Nat) (β : Bet) (S : Nat → Prop) (A0 : AW) (D : Plan) (a0 a : AEnv) (Ms : List AW) (listed : Array Bool) (ae : Act) (w : World) : Prop where
  size : listed.size = D.l.length
  down : ∀ i, listed.getD i false = true → ∀ j ∈ D.an i, listed.getD j false = true
  pre : ∃ k M β1 S1, Ms[k]? = some M ∧ k ≤ D.H.length ∧ (∀ r h, D.H[r]? = some h → (listed.getD h false = true ↔ r < k)) ∧ Aft P w0 N m β S A0 β1 S1 M w ∧
    ∀ t v, (match wrOf D.l t with | some j => if listed.getD j false = true then aget a t else aget a0 t | none => aget a0 t) = some v → ∃ v', ae.tmps[t]? = some v' ∧ VR β1 S1 v v'
  tsize : ae.tmps.size = n
  defers : ae.defers = []

def unl (listed : Array Bool) : Nat := (listed.toList.filter (!·)).length

theorem unl_set {listed : Array Bool} {i : Nat} (h : i < listed.size) (hf : listed.getD i true = false) : unl (listed.setIfInBounds i true) + 1 = unl listed := by
  have e : (listed.setIfInBounds i true).toList = listed.toList.set i true := by simp
  have hl : listed.toList[i]? = some false := by
    rw [Array.getElem?_toList]
    simp [h] at hf ⊢
    exact hf
  unfold unl
  rw [e]
  generalize listed.toList = xs at hl
  clear h hf e
  induction xs generalizing i with
  | nil => simp at hl
  | cons x xs ih =>
    cases i with
    | zero => simp at hl; subst hl; simp
    | succ i =>
      simp only [List.getElem?_cons_succ] at hl
      have := ih hl
      simp only [List.set_cons_succ, List.filter_cons]
      cases x <;> simp <;> omega

theorem listed_all {listed : Array Bool} (h : unl listed = 0) (i : Nat) (hi : i < listed.size) : listed.getD i false = true := by
  unfold unl at h
  have h0 : listed.toList.filter (!·) = [] := List.eq_nil_of_length_eq_zero h
  rw [List.filter_eq_nil_iff] at h0
  have := h0 (listed[i]) (by simp)
  simp [hi]
  simpa using this

theorem getD_set {listed : Array Bool} {i j : Nat} (hi : i < listed.size) : (listed.setIfInBounds i true).getD j false = if j = i then true else listed.getD j false := by
  by_cases h : j = i
  · subst h; simp [hi]
  · simp [h, Array.getElem?_setIfInBounds_ne (Ne.symm h)]

theorem wrOf_spec {l : List Oper} {t j : Nat} (h : wrOf l t = some j) : ∃ o, l[j]? = some o ∧ o.dst = some t := by
  unfold wrOf at h
  rw [List.findIdx?_eq_some_iff_getElem] at h
  obtain ⟨hl, h1, _⟩ := h
  exact ⟨l[j], List.getElem?_eq_getElem hl, by simpa using h1⟩

variable {D : Plan} {Ms : List AW} {listed : Array Bool}

def Plan.slot (D : Plan) (a0 a : AEnv) (listed : Array Bool) (t : Nat) : Option Value :=
  match wrOf D.l t with
  | some j => if listed.getD j false = true then aget a t else aget a0 t
  | none => aget a0 t

theorem At.next {i k' : Nat} {o : Oper} {M' : AW} {v v' : Value} (hok : D.Ok n) (h : At P w0 N n m β S A0 D a0 a Ms listed ae w) (hi : i < listed.size) (ho : D.l[i]? = some o)
    (hAn : ∀ j ∈ D.an i, listed.getD j false = true) (hM : Ms[k']? = some M') (hk : k' ≤ D.H.length)
    (hpre : ∀ r h, D.H[r]? = some h → ((listed.setIfInBounds i true).getD h false = true ↔ r < k')) (haft : Aft P w0 N m β S A0 β2 S2 M' w1)
    (hsl : ∀ t v, D.slot a0 a listed t = some v → ∃ v', ae.tmps[t]? = some v' ∧ VR β2 S2 v v') (hv : VR β2 S2 v v') (hd : ∀ d, o.dst = some d → aget a d = some v) :
    At P w0 N n m β S A0 D a0 a Ms (listed.setIfInBounds i true) (ae.put o.dst v') w1 := by
  refine ⟨by simp [h.size], fun x hx j hj => ?_, ⟨k', M', β2, S2, hM, hk, hpre, haft, fun t u hu => ?_⟩, ?_, ?_⟩
  · rw [getD_set hi] at hx ⊢
    by_cases q : j = i
    · simp [q]
    · rw [if_neg q]
      by_cases q2 : x = i
      · subst q2; exact hAn j hj
      · rw [if_neg q2] at hx; exact h.down x hx j hj
  · by_cases q : o.dst = some t
    · have := hok.dst i o ho t q
      rw [this.1] at hu
      simp only [getD_set hi, if_true] at hu
      rw [hd t q] at hu
      cases hu
      refine ⟨v', ?_, hv⟩
      rw [q]
      simp [Act.put, h.tsize, this.2]
    · have hs : D.slot a0 a listed t = some u := by
        unfold Plan.slot
        cases hw : wrOf D.l t with
        | none => rw [hw] at hu; exact hu
        | some j =>
          rw [hw] at hu
          simp only [getD_set hi] at hu
          have hji : ¬ j = i := by
            intro e; subst e
            obtain ⟨o', h1, h2⟩ := wrOf_spec hw
            rw [ho] at h1; cases h1
            exact q h2
          simpa [hji] using hu
      obtain ⟨u', e1, r⟩ := hsl t u hs
      refine ⟨u', ?_, r⟩
      cases hdst : o.dst with
      | none => exact e1
      | some d =>
        have : d ≠ t := fun e => q (by rw [hdst, e])
        simp only [Act.put]
        rw [Array.getElem?_setIfInBounds_ne this]; exact e1
  · cases o.dst <;> simp [Act.put, h.tsize]
  · cases o.dst <;> exact h.defers

theorem At.step {i : Nat} {Z : Exit → Act → World → Prop} (hok : D.Ok n) (hob : ∀ j o, D.l[j]? = some o → D.ob P n a0 a Ms j o) (h : At P w0 N n m β S A0 D a0 a Ms listed ae w)
    (hr : i ∈ Region.ready .any D.l.toArray listed) : wpOp P D.l.toArray Z i (fun ae1 w1 => At P w0 N n m β S A0 D a0 a Ms (listed.setIfInBounds i true) ae1 w1) ae w := by
  obtain ⟨hun, o, ho', hpl⟩ := mem_ready.1 hr
  have ho : D.l[i]? = some o := by simpa using ho'
  have hlt : i < D.l.length := (List.getElem?_eq_some_iff.1 ho).1
  have hi : i < listed.size := by rw [h.size]; exact hlt
  have hunf : listed.getD i false = false := by simp [hi] at hun ⊢; exact hun
  have hps : ∀ p ∈ predsOf o, listed.getD p false = true := by
    intro p hp
    unfold predsOf at hp
    rw [List.mem_filterMap] at hp
    obtain ⟨e, he, h2⟩ := hp
    split at h2
    · rename_i hb
      cases h2
      exact hpl e (by simpa using he) hb
    · cases h2
  have hAn : ∀ j ∈ D.an i, listed.getD j false = true := by
    intro j hj
    rcases hok.ancl i o ho j hj with h1 | ⟨p, h1, h2⟩
    · exact hps j h1
    · exact h.down p (hps p h1) j h2
  have hdesc : ∀ j, i ∈ D.an j → listed.getD j false = false := by
    intro j hj
    cases q : listed.getD j false with
    | false => rfl
    | true => have := h.down j q i hj; rw [hunf] at this; cases this
  obtain ⟨k, M, β1, S1, hM, hk, hpre, haft, hsl⟩ := h.pre
  have hsl' : ∀ t v, D.slot a0 a listed t = some v → ∃ v', ae.tmps[t]? = some v' ∧ VR β1 S1 v v' := hsl
  have her : ER n β1 S1 (D.env a0 a i o) ae := by
    refine ⟨h.tsize, h.defers, fun t v hv => ?_⟩
    obtain ⟨h1, h2⟩ := aget_filterMap _ t v hv
    refine hsl' t v ?_
    unfold Plan.src at h2
    unfold Plan.slot
    cases hw : wrOf D.l t with
    | none => rw [hw] at h2; exact h2
    | some j =>
      rw [hw] at h2
      simp only at h2 ⊢
      by_cases q : j ∈ D.an i
      · rw [if_pos (by simpa using q)] at h2
        rw [if_pos (hAn j q)]; exact h2
      · rw [if_neg (by simpa using q)] at h2
        rcases hok.reads i o ho t h1 j hw with g | g | g
        · exact absurd g q
        · subst g; rw [if_neg (by simp [hunf])]; exact h2
        · rw [if_neg (by simp [hdesc j g])]; exact h2
  have hokk : D.okk i k = true := by
    unfold Plan.okk
    rw [List.all_eq_true]
    rintro ⟨x, r⟩ hx
    rw [List.mk_mem_zipIdx_iff_getElem?] at hx
    simp only [Bool.and_eq_true, Bool.or_eq_true, Bool.not_eq_true', decide_eq_true_eq, List.contains_eq_mem, decide_eq_false_iff_not]
    constructor
    · by_cases q : x ∈ D.an i
      · exact .inr ((hpre r x hx).1 (hAn x q))
      · exact .inl q
    · by_cases q : i ∈ D.an x
      · right
        have := hdesc x q
        have hn : ¬ r < k := fun hlt => by rw [(hpre r x hx).2 hlt] at this; cases this
        omega
      · exact .inl q
  have hguard : ∀ g b d, o.guard = some (g, b) → (D.l[g]?).bind (·.dst) = some d → ∀ u, aget a d = some u → (∀ t, u = .bool t → yielded D.l.toArray ae.tmps g = some t) ∧ (u = undef → yielded D.l.toArray ae.tmps g = none) := by
    intro g b d hg hgd u ht
    have hga := hAn g (hok.guard i o ho g b hg)
    cases hlg : D.l[g]? with
    | none => simp [hlg] at hgd
    | some og =>
      simp only [hlg, Option.bind_some] at hgd
      have hw := (hok.dst g og hlg d hgd).1
      obtain ⟨v', e1, r⟩ := hsl' d u (by unfold Plan.slot; rw [hw]; simp only; rw [if_pos hga]; exact ht)
      constructor
      · rintro t rfl
        cases r
        simp [yielded, hlg, hgd, e1]
      · rintro rfl
        cases r
        simp [yielded, hlg, hgd, e1]
  unfold wpOp
  rw [ho']
  simp only
  rcases hob i o ho with ⟨⟨⟨g, b, d, u, h1, h2, h3, h5⟩, h4⟩, hnh⟩ | ⟨hon, hH, hL⟩
  · rw [if_neg (by
      rcases h5 with h5 | h5
      · simp [Region.wanted, h1, (hguard g b d h1 h2 _ h3).1 _ h5]
      · simp [Region.wanted, h1, (hguard g b d h1 h2 _ h3).2 h5])]
    refine At.next hok h hi ho hAn hM hk (fun r x hx => ?_) haft hsl' (.tuple .nil .nil) h4
    rw [getD_set hi]
    have : x ≠ i := fun e => hnh (e ▸ List.mem_of_getElem? hx)
    rw [if_neg this]
    exact hpre r x hx
  · rw [if_pos (by
      rcases hon with h1 | ⟨g, b, d, h1, h2, h3⟩
      · simp [Region.wanted, h1]
      · simp [Region.wanted, h1, (hguard g b d h1 h2 _ h3).1 _ rfl])]
    refine .inl ?_
    have hgo : ∀ k' M', Ms[k']? = some M' → k' ≤ D.H.length → (∀ r h, D.H[r]? = some h → ((listed.setIfInBounds i true).getD h false = true ↔ r < k')) → D.opAt P n a0 a i o M M' →
        o.wp P ae w (fun ae1 w1 => At P w0 N n m β S A0 D a0 a Ms (listed.setIfInBounds i true) ae1 w1) Z := by
      intro k' M' hM' hk' hpre' ⟨v, hd, hop⟩
      refine hop w0 N w β1 S1 ae haft.sim her _ _ fun u u' w1 β2 S2 A2 hu hx hv => ?_
      obtain ⟨rfl, rfl⟩ := hu
      refine At.next hok h hi ho hAn hM' hk' hpre' (haft.trans hx haft.next) (fun t x hx' => ?_) hv hd
      obtain ⟨x', e1, r⟩ := hsl' t x hx'
      exact ⟨x', e1, hx.near.VRs haft.sim.sub r⟩
    by_cases q : i ∈ D.H
    · obtain ⟨r, hr'⟩ := List.getElem?_of_mem q
      have hkr : k = r := by
        have h1 : ¬ r < k := fun hlt => by rw [(hpre r i hr').2 hlt] at hunf; cases hunf
        rcases Nat.lt_or_ge k r with h2 | h2
        · exfalso
          have hr1 : r - 1 < D.H.length := by have := (List.getElem?_eq_some_iff.1 hr').1; omega
          have hx := List.getElem?_eq_getElem hr1
          have e : r - 1 + 1 = r := by omega
          have hm := hok.chain (r - 1) _ i hx (by rw [e]; exact hr')
          have := (hpre (r - 1) _ hx).1 (hAn _ hm)
          omega
        · omega
      subst hkr
      obtain ⟨M1, M', e1, e2, hop⟩ := hH k hr'
      rw [hM] at e1; cases e1
      refine hgo (k + 1) M' e2 (by have := (List.getElem?_eq_some_iff.1 hr').1; omega) (fun r x hx => ?_) hop
      rw [getD_set hi]
      by_cases q2 : x = i
      · subst q2
        simp only [if_true, true_iff]
        rcases Nat.lt_trichotomy r k with h1 | h1 | h1
        · omega
        · omega
        · exfalso
          have hr1 : r - 1 < D.H.length := by have := (List.getElem?_eq_some_iff.1 hx).1; omega
          have hy := List.getElem?_eq_getElem hr1
          have e : r - 1 + 1 = r := by omega
          have hm := hok.chain (r - 1) _ x hy (by rw [e]; exact hx)
          have := (hpre (r - 1) _ hy).1 (hAn _ hm)
          omega
      · rw [if_neg q2, hpre r x hx]
        have : r ≠ k := fun e => by subst e; rw [hr'] at hx; cases hx; exact q2 rfl
        omega
    · refine hgo k M hM hk (fun r x hx => ?_) (hL q k M hM hokk)
      rw [getD_set hi]
      have : x ≠ i := fun e => q (e ▸ List.mem_of_getElem? hx)
      rw [if_neg this]
      exact hpre r x hx

theorem At.all {listed : Array Bool} (hok : D.Ok n) (h : At P w0 N n m β S A0 D a0 a Ms listed ae w) (hr : Region.ready .any D.l.toArray listed = []) : ∀ i, i < D.l.length → listed.getD i false = true := by
  intro i
  induction i using Nat.strongRecOn with
  | _ i ih =>
    intro hi
    cases q : listed.getD i false with
    | true => rfl
    | false =>
      exfalso
      have hi' : i < listed.size := by rw [h.size]; exact hi
      have ho := List.getElem?_eq_getElem hi
      have : i ∈ Region.ready .any D.l.toArray listed := by
        rw [mem_ready]
        refine ⟨by simp [hi'] at q ⊢; exact q, D.l[i], by simp, fun e he hb => ?_⟩
        have hp : e.on ∈ predsOf D.l[i] := by
          unfold predsOf
          rw [List.mem_filterMap]
          exact ⟨e, by simpa using he, by rw [if_pos hb]⟩
        have := hok.preds i _ ho _ hp
        exact ih e.on this (by omega)
      rw [hr] at this
      cases this

theorem At.run {Z : Exit → Act → World → Prop} (hok : D.Ok n) (hob : ∀ j o, D.l[j]? = some o → D.ob P n a0 a Ms j o)
    (hfin : ∀ listed ae w, At P w0 N n m β S A0 D a0 a Ms listed ae w → (∀ i, i < D.l.length → listed.getD i false = true) → Z .normal ae w) : ∀ (fuel : Nat) (listed : Array Bool) (ae : Act) (w : World), unl listed ≤ fuel → At P w0 N n m β S A0 D a0 a Ms listed ae w →
    wpAny P .any D.l.toArray Z fuel listed ae w
  | 0, listed, ae, w, hf, h => by
    have hall : ∀ i, i < D.l.length → listed.getD i false = true := fun i hi => listed_all (by omega) i (by rw [h.size]; exact hi)
    refine ⟨?_, hfin listed ae w h hall⟩
    rw [List.eq_nil_iff_forall_not_mem]
    intro i hi
    obtain ⟨h1, o, ho, _⟩ := mem_ready.1 hi
    have hlt : i < D.l.length := by
      have := (Array.getElem?_eq_some_iff.1 ho).1
      simpa using this
    have := hall i hlt
    have hs : i < listed.size := by rw [h.size]; exact hlt
    simp [hs] at h1 this
    rw [this] at h1; cases h1
  | fuel + 1, listed, ae, w, hf, h => by
    refine ⟨fun hr => hfin listed ae w h (At.all hok h hr), fun i hi => ?_⟩
    obtain ⟨h1, o, ho, _⟩ := mem_ready.1 hi
    have hlt : i < D.l.length := by
      have := (Array.getElem?_eq_some_iff.1 ho).1
      simpa using this
    have hs : i < listed.size := by rw [h.size]; exact hlt
    have hu := unl_set hs h1
    exact wpOp_mono (fun ae1 w1 h1 => At.run hok hob hfin fuel _ ae1 w1 (by omega) h1) (At.step hok hob h hi)

theorem AT.drawn {id : Nat} {M : AW} (hm : P.follows .mixedOrders = true) (hc : D.chk n = true) (hob : ∀ j o, D.l[j]? = some o → D.ob P n a0 a Ms j o) (h0 : Ms[0]? = some A0) (hl : Ms[D.H.length]? = some M)
    (hkeep : ∀ t, wrOf D.l t = none → aget a t = aget a0 t) (hq : Q .normal a M) : AT P n m (.region id D.l.toArray true) a0 A0 Q := by
  have hok := Plan.ok_of_chk hc
  intro w0 N w β S ae hmn hs he
  refine wp_region_any hm (At.run (m := m) (β := β) (S := S) (w0 := w0) (N := N) (A0 := A0) hok hob ?_ _ _ _ _ ?_ ?_)
  · intro listed ae1 w1 h hall
    obtain ⟨k, M', β1, S1, hM', hk, hpre, haft, hsl⟩ := h.pre
    have hkH : k = D.H.length := by
      rcases Nat.lt_or_ge k D.H.length with hlt | hge
      · exfalso
        have hx := List.getElem?_eq_getElem hlt
        have := (hpre k _ hx).1 (hall _ (hok.hlt _ (List.getElem_mem hlt)))
        omega
      · omega
    subst hkH
    rw [hl] at hM'; cases hM'
    refine ⟨β1, S1, a, M, haft, ⟨h.tsize, h.defers, fun t v hv => hsl t v ?_⟩, hq⟩
    cases hw : wrOf D.l t with
    | none => simp only; rw [← hkeep t hw]; exact hv
    | some j =>
      simp only
      obtain ⟨o, ho, _⟩ := wrOf_spec hw
      rw [if_pos (hall j (List.getElem?_eq_some_iff.1 ho).1)]
      exact hv
  · unfold unl
    simp
  · refine ⟨by simp, fun i hi => ?_, ⟨0, A0, β, S, h0, Nat.zero_le _, fun r x hx => ?_, Aft.refl hs.drew hmn, fun t v hv => ?_⟩, he.size, he.defers⟩
    · exfalso
      rw [Array.getD_eq_getD_getElem?] at hi
      rcases Nat.lt_or_ge i D.l.length with hlt | hge
      · simp [hlt] at hi
      · simp [hge] at hi
    · constructor
      · intro hi
        exfalso
        rcases Nat.lt_or_ge x D.l.length with hlt | hge
        · simp [hlt] at hi
        · simp [hge] at hi
      · intro h; omega
    · refine he.get t v ?_
      cases hw : wrOf D.l t with
      | none => rw [hw] at hv; exact hv
      | some j =>
        rw [hw] at hv
        simp only at hv
        split at hv
        · rename_i hi
          exfalso
          rcases Nat.lt_or_ge j D.l.length with hlt | hge
          · simp [hlt] at hi
          · simp [hge] at hi
        · exact hv

end Go.M
