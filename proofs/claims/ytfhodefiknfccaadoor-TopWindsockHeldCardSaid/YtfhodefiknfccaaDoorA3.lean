/- Part of the abstract machine of this claim (no condition). -/
import Derived.Orders
import Derived.Test.YtfhodefiknfccaaDoorA2
set_option linter.unusedVariables false
set_option linter.unusedSimpArgs false
namespace Go.M
open Go.RowKit
variable {P : Program} {w0 w w' w1 w2 : World} {N n m : Nat} {β β' β1 β2 : Bet} {S S' S1 S2 : Nat → Prop} {A A' A1 A2 A0 : AW} {a a1 a0 : AEnv} {ae : Act} {Q Q' : AQ}

/-- Which operation writes a slot. -/
def wrOf (l : List Oper) (t : Nat) : Option Nat := l.findIdx? (fun o => o.dst == some t)
def readsOf (l : List Oper) (o : Oper) : List Nat :=
  (o.op.operands.toList.filterMap fun | .tmp t => some t | _ => none) ++ (match o.guard with | some (g, _) => ((l[g]?).bind (·.dst)).toList | none => [])
def predsOf (o : Oper) : List Nat := o.after.toList.filterMap fun e => if Region.binds .any e then some e.on else none

/-- 'An': for each operation some that surely come before it; 'H': those that turn the memory. -/
structure Plan where
  l : List Oper
  An : List (List Nat)
  H : List Nat
def Plan.an (D : Plan) (i : Nat) : List Nat := D.An.getD i []
def Plan.chkOp (D : Plan) (n i : Nat) (o : Oper) : Bool :=
  (predsOf o).all (fun p => decide (p < i)) && (D.an i).all (fun j => decide (j < i) && ((predsOf o).contains j || (predsOf o).any fun p => (D.an p).contains j)) &&
  (readsOf D.l o).all (fun t => match wrOf D.l t with | none => true | some j => (D.an i).contains j || j == i || (D.an j).contains i) &&
  (match o.dst with | some d => wrOf D.l d == some i && decide (d < n) | none => true) &&
  (match o.guard with | some (g, _) => (D.an i).contains g && ((D.l[g]?).bind (·.dst)).isSome | none => true)
def Plan.chain (D : Plan) : List Nat → Bool
  | x :: y :: r => (D.an y).contains x && D.chain (y :: r)
  | _ => true
def Plan.chk (D : Plan) (n : Nat) : Bool := (D.l.zipIdx).all (fun x => D.chkOp n x.2 x.1) && D.chain D.H && D.H.all (fun h => decide (h < D.l.length))

def Plan.src (D : Plan) (a0 a : AEnv) (i t : Nat) : Option Value :=
  match wrOf D.l t with
  | some j => if (D.an i).contains j then aget a t else aget a0 t
  | none => aget a0 t
def Plan.env (D : Plan) (a0 a : AEnv) (i : Nat) (o : Oper) : AEnv := (readsOf D.l o).filterMap fun t => (D.src a0 a i t).map fun v => (t, v)
def Plan.okk (D : Plan) (i k : Nat) : Bool := (D.H.zipIdx).all fun x => (!(D.an i).contains x.1 || decide (x.2 < k)) && (!(D.an x.1).contains i || decide (k ≤ x.2))

def Plan.opAt (P : Program) (n : Nat) (D : Plan) (a0 a : AEnv) (j : Nat) (o : Oper) (M M' : AW) : Prop :=
  ∃ v, (∀ d, o.dst = some d → aget a d = some v) ∧ AOp P n o (D.env a0 a j o) M (isR v M')
def Plan.offAt (D : Plan) (a : AEnv) (o : Oper) : Prop :=
  (∃ g b d u, o.guard = some (g, b) ∧ (D.l[g]?).bind (·.dst) = some d ∧ aget a d = some u ∧ (u = .bool (!b) ∨ u = undef)) ∧ ∀ d, o.dst = some d → aget a d = some undef
def Plan.onAt (D : Plan) (a : AEnv) (o : Oper) : Prop :=
  o.guard = none ∨ ∃ g b d, o.guard = some (g, b) ∧ (D.l[g]?).bind (·.dst) = some d ∧ aget a d = some (.bool b)
def Plan.ob (P : Program) (n : Nat) (D : Plan) (a0 a : AEnv) (Ms : List AW) (j : Nat) (o : Oper) : Prop :=
  (D.offAt a o ∧ j ∉ D.H) ∨ (D.onAt a o ∧ ((∀ r, D.H[r]? = some j → ∃ M M', Ms[r]? = some M ∧ Ms[r + 1]? = some M' ∧ D.opAt P n a0 a j o M M') ∧
    (j ∉ D.H → ∀ k M, Ms[k]? = some M → D.okk j k = true → D.opAt P n a0 a j o M M)))

/-! ### What has been checked -/
structure Plan.Ok (D : Plan) (n : Nat) : Prop where
  preds : ∀ i o, D.l[i]? = some o → ∀ p ∈ predsOf o, p < i
  anlt : ∀ i o, D.l[i]? = some o → ∀ j ∈ D.an i, j < i
  ancl : ∀ i o, D.l[i]? = some o → ∀ j ∈ D.an i, j ∈ predsOf o ∨ ∃ p ∈ predsOf o, j ∈ D.an p
  reads : ∀ i o, D.l[i]? = some o → ∀ t ∈ readsOf D.l o, ∀ j, wrOf D.l t = some j → j ∈ D.an i ∨ j = i ∨ i ∈ D.an j
  dst : ∀ i o, D.l[i]? = some o → ∀ d, o.dst = some d → wrOf D.l d = some i ∧ d < n
  guard : ∀ i o, D.l[i]? = some o → ∀ g b, o.guard = some (g, b) → g ∈ D.an i
  chain : ∀ r x y, D.H[r]? = some x → D.H[r + 1]? = some y → x ∈ D.an y
  hlt : ∀ h ∈ D.H, h < D.l.length

theorem Plan.chain_spec (D : Plan) : ∀ (H : List Nat), D.chain H = true → ∀ (r x y : Nat), H[r]? = some x → H[r + 1]? = some y → x ∈ D.an y
  | [], _, r, x, y, h, _ => by simp at h
  | [z], _, r, x, y, h1, h2 => by simp at h2
  | z :: u :: H, h, r, x, y, h1, h2 => by
    simp only [Plan.chain, Bool.and_eq_true] at h
    cases r with
    | zero => simp at h1 h2; subst h1; subst h2; simpa using h.1
    | succ r => exact Plan.chain_spec D (u :: H) h.2 r x y (by simpa using h1) (by simpa using h2)

theorem Plan.ok_of_chk {D : Plan} (h : D.chk n = true) : D.Ok n := by
  simp only [Plan.chk, Bool.and_eq_true, List.all_eq_true, decide_eq_true_eq] at h
  obtain ⟨⟨h1, h2⟩, h3⟩ := h
  have hop : ∀ i o, D.l[i]? = some o → D.chkOp n i o = true := fun i o ho => h1 (o, i) (by rw [List.mk_mem_zipIdx_iff_getElem?]; exact ho)
  have all : ∀ i o, D.l[i]? = some o → (∀ p ∈ predsOf o, p < i) ∧ (∀ j ∈ D.an i, j < i ∧ (j ∈ predsOf o ∨ ∃ p ∈ predsOf o, j ∈ D.an p)) ∧
      (∀ t ∈ readsOf D.l o, ∀ j, wrOf D.l t = some j → j ∈ D.an i ∨ j = i ∨ i ∈ D.an j) ∧ (∀ d, o.dst = some d → wrOf D.l d = some i ∧ d < n) ∧ (∀ g b, o.guard = some (g, b) → g ∈ D.an i) := by
    intro i o ho
    have := hop i o ho
    simp only [Plan.chkOp, Bool.and_eq_true, List.all_eq_true, decide_eq_true_eq, Bool.or_eq_true, List.contains_eq_mem, List.any_eq_true] at this
    obtain ⟨⟨⟨⟨p1, p2⟩, p3⟩, p4⟩, p5⟩ := this
    refine ⟨p1, p2, fun t ht j hj => ?_, fun d hd => ?_, fun g b hg => ?_⟩
    · have := p3 t ht
      rw [hj] at this
      simp only [Bool.or_eq_true, decide_eq_true_eq, beq_iff_eq] at this
      rcases this with (h | h) | h
      · exact .inl h
      · exact .inr (.inl h)
      · exact .inr (.inr h)
    · rw [hd] at p4
      simpa using p4
    · rw [hg] at p5
      simp only [Bool.and_eq_true, decide_eq_true_eq] at p5
      exact p5.1
  exact ⟨fun i o ho => (all i o ho).1, fun i o ho j hj => ((all i o ho).2.1 j hj).1, fun i o ho j hj => ((all i o ho).2.1 j hj).2, fun i o ho => (all i o ho).2.2.1, fun i o ho => (all i o ho).2.2.2.1, fun i o ho => (all i o ho).2.2.2.2, Plan.chain_spec D D.H h2, h3⟩

/-! ### The runs -/
theorem aget_filterMap {f : Nat → Option Value} : ∀ (ts : List Nat) (t : Nat) (v : Value), aget (ts.filterMap fun t => (f t).map fun v => (t, v)) t = some v → t ∈ ts ∧ f t = some v
  | [], _, _, h => by simp [aget] at h
  | u :: ts, t, v, h => by
    cases hu : f u with
    | none =>
      rw [List.filterMap_cons, hu] at h
      obtain ⟨h1, h2⟩ := aget_filterMap ts t v h
      exact ⟨List.mem_cons_of_mem _ h1, h2⟩
    | some x =>
      rw [List.filterMap_cons, hu] at h
      simp only [Option.map_some, aget] at h
      split at h
      · rename_i e; subst e; cases h; exact ⟨List.mem_cons_self .., hu⟩
      · obtain ⟨h1, h2⟩ := aget_filterMap ts t v h
        exact ⟨List.mem_cons_of_mem _ h1, h2⟩

/-- Where a run stands. -/
structure At (P : Program) (w0 : World) (N n m : Nat) (β : Bet) (S : Nat → Prop) (A0 : AW) (D : Plan) (a0 a : AEnv) (Ms : List AW) (listed : Array Bool) (ae : Act) (w : World) : Prop where
  size : listed.size = D.l.length
  down : ∀ i, listed.getD i false = true → ∀ j ∈ D.an i, listed.getD j false = true
  pre : ∃ k M β1 S1, Ms[k]? = some M ∧ k ≤ D.H.length ∧ (∀ r h, D.H[r]? = some h → (listed.getD h false = true ↔ r < k)) ∧ Aft P w0 N m β S A0 β1 S1 M w ∧
    ∀ t v, (match wrOf D.l t with | some j => if listed.getD j false = true then aget a t else aget a0 t | none => aget a0 t) = some v → ∃ v', ae.tmps[t]? = some v' ∧ VR β1 S1 v v'
  tsize : ae.tmps.size = n
  defers : ae.defers = []

def unl (listed : Array Bool) : Nat := (listed.toList.filter (!·)).length

theorem unl_set {listed : Array Bool} {i : Nat} (h : i < listed.size) (hf : listed.getD i true = false) : unl (listed.setIfInBounds i true) + 1 = unl listed := by
  have e : (listed.setIfInBounds i true).toList = listed.toList.set i true := by simp
  have hl : listed.toList[i]? = some false := by
    rw [Array.getElem?_toList]
    simp [h] at hf ⊢
    exact hf
  unfold unl
  rw [e]
  generalize listed.toList = xs at hl
  clear h hf e
  induction xs generalizing i with
  | nil => simp at hl
  | cons x xs ih =>
    cases i with
    | zero => simp at hl; subst hl; simp
    | succ i =>
      simp only [List.getElem?_cons_succ] at hl
      have := ih hl
      simp only [List.set_cons_succ, List.filter_cons]
      cases x <;> simp <;> omega

theorem listed_all {listed : Array Bool} (h : unl listed = 0) (i : Nat) (hi : i < listed.size) : listed.getD i false = true := by
  unfold unl at h
  have h0 : listed.toList.filter (!·) = [] := List.eq_nil_of_length_eq_zero h
  rw [List.filter_eq_nil_iff] at h0
  have := h0 (listed[i]) (by simp)
  simp [hi]
  simpa using this

theorem getD_set {listed : Array Bool} {i j : Nat} (hi : i < listed.size) : (listed.setIfInBounds i true).getD j false = if j = i then true else listed.getD j false := by
  by_cases h : j = i
  · subst h; simp [hi]
  · simp [h, Array.getElem?_setIfInBounds_ne (Ne.symm h)]

theorem wrOf_spec {l : List Oper} {t j : Nat} (h : wrOf l t = some j) : ∃ o, l[j]? = some o ∧ o.dst = some t := by
  unfold wrOf at h
  rw [List.findIdx?_eq_some_iff_getElem] at h
  obtain ⟨hl, h1, _⟩ := h
  exact ⟨l[j], List.getElem?_eq_getElem hl, by simpa using h1⟩

variable {D : Plan} {Ms : List AW} {listed : Array Bool}

def Plan.slot (D : Plan) (a0 a : AEnv) (listed : Array Bool) (t : Nat) : Option Value :=
  match wrOf D.l t with
  | some j => if listed.getD j false = true then aget a t else aget a0 t
  | none => aget a0 t

theorem At.next {i k' : Nat} {o : Oper} {M' : AW} {v v' : Value} (hok : D.Ok n) (h : At P w0 N n m β S A0 D a0 a Ms listed ae w) (hi : i < listed.size) (ho : D.l[i]? = some o)
    (hAn : ∀ j ∈ D.an i, listed.getD j false = true) (hM : Ms[k']? = some M') (hk : k' ≤ D.H.length)
    (hpre : ∀ r h, D.H[r]? = some h → ((listed.setIfInBounds i true).getD h false = true ↔ r < k')) (haft : Aft P w0 N m β S A0 β2 S2 M' w1)
    (hsl : ∀ t v, D.slot a0 a listed t = some v → ∃ v', ae.tmps[t]? = some v' ∧ VR β2 S2 v v') (hv : VR β2 S2 v v') (hd : ∀ d, o.dst = some d → aget a d = some v) :
    At P w0 N n m β S A0 D a0 a Ms (listed.setIfInBounds i true) (ae.put o.dst v') w1 := by
  refine ⟨by simp [h.size], fun x hx j hj => ?_, ⟨k', M', β2, S2, hM, hk, hpre, haft, fun t u hu => ?_⟩, ?_, ?_⟩
  · rw [getD_set hi] at hx ⊢
    by_cases q : j = i
    · simp [q]
    · rw [if_neg q]
      by_cases q2 : x = i
      · subst q2; exact hAn j hj
      · rw [if_neg q2] at hx; exact h.down x hx j hj
  · by_cases q : o.dst = some t
    · have := hok.dst i o ho t q
      rw [this.1] at hu
      simp only [getD_set hi, if_true] at hu
      rw [hd t q] at hu
      cases hu
      refine ⟨v', ?_, hv⟩
      rw [q]
      simp [Act.put, h.tsize, this.2]
    · have hs : D.slot a0 a listed t = some u := by
        unfold Plan.slot
        cases hw : wrOf D.l t with
        | none => rw [hw] at hu; exact hu
        | some j =>
          rw [hw] at hu
          simp only [getD_set hi] at hu
          have hji : ¬ j = i := by
            intro e; subst e
            obtain ⟨o', h1, h2⟩ := wrOf_spec hw
            rw [ho] at h1; cases h1
            exact q h2
          simpa [hji] using hu
      obtain ⟨u', e1, r⟩ := hsl t u hs
      refine ⟨u', ?_, r⟩
      cases hdst : o.dst with
      | none => exact e1
      | some d =>
        have : d ≠ t := fun e => q (by rw [hdst, e])
        simp only [Act.put]
        rw [Array.getElem?_setIfInBounds_ne this]; exact e1
  · cases o.dst <;> simp [Act.put, h.tsize]
  · cases o.dst <;> exact h.defers

theorem At.step {ro : Option Nat} {i : Nat} {Z : Exit → Act → World → Prop} (hok : D.Ok n) (hob : ∀ j o, D.l[j]? = some o → D.ob P n a0 a Ms j o) (h : At P w0 N n m β S A0 D a0 a Ms listed ae w)
    (hr : i ∈ Region.ready .any D.l.toArray listed) : wpOpIn (FR ro) 0 P D.l.toArray Z i (fun ae1 w1 => At P w0 N n m β S A0 D a0 a Ms (listed.setIfInBounds i true) ae1 w1) ae w := by
  obtain ⟨hun, o, ho', hpl⟩ := mem_ready.1 hr
  have ho : D.l[i]? = some o := by simpa using ho'
  have hlt : i < D.l.length := (List.getElem?_eq_some_iff.1 ho).1
  have hi : i < listed.size := by rw [h.size]; exact hlt
  have hunf : listed.getD i false = false := by simp [hi] at hun ⊢; exact hun
  have hps : ∀ p ∈ predsOf o, listed.getD p false = true := by
    intro p hp
    unfold predsOf at hp
    rw [List.mem_filterMap] at hp
    obtain ⟨e, he, h2⟩ := hp
    split at h2
    · rename_i hb
      cases h2
      exact hpl e (by simpa using he) hb
    · cases h2
  have hAn : ∀ j ∈ D.an i, listed.getD j false = true := by
    intro j hj
    rcases hok.ancl i o ho j hj with h1 | ⟨p, h1, h2⟩
    · exact hps j h1
    · exact h.down p (hps p h1) j h2
  have hdesc : ∀ j, i ∈ D.an j → listed.getD j false = false := by
    intro j hj
    cases q : listed.getD j false with
    | false => rfl
    | true => have := h.down j q i hj; rw [hunf] at this; cases this
  obtain ⟨k, M, β1, S1, hM, hk, hpre, haft, hsl⟩ := h.pre
  have hsl' : ∀ t v, D.slot a0 a listed t = some v → ∃ v', ae.tmps[t]? = some v' ∧ VR β1 S1 v v' := hsl
  have her : ER n β1 S1 (D.env a0 a i o) ae := by
    refine ⟨h.tsize, h.defers, fun t v hv => ?_⟩
    obtain ⟨h1, h2⟩ := aget_filterMap _ t v hv
    refine hsl' t v ?_
    unfold Plan.src at h2
    unfold Plan.slot
    cases hw : wrOf D.l t with
    | none => rw [hw] at h2; exact h2
    | some j =>
      rw [hw] at h2
      simp only at h2 ⊢
      by_cases q : j ∈ D.an i
      · rw [if_pos (by simpa using q)] at h2
        rw [if_pos (hAn j q)]; exact h2
      · rw [if_neg (by simpa using q)] at h2
        rcases hok.reads i o ho t h1 j hw with g | g | g
        · exact absurd g q
        · subst g; rw [if_neg (by simp [hunf])]; exact h2
        · rw [if_neg (by simp [hdesc j g])]; exact h2
  have hokk : D.okk i k = true := by
    unfold Plan.okk
    rw [List.all_eq_true]
    rintro ⟨x, r⟩ hx
    rw [List.mk_mem_zipIdx_iff_getElem?] at hx
    simp only [Bool.and_eq_true, Bool.or_eq_true, Bool.not_eq_true', decide_eq_true_eq, List.contains_eq_mem, decide_eq_false_iff_not]
    constructor
    · by_cases q : x ∈ D.an i
      · exact .inr ((hpre r x hx).1 (hAn x q))
      · exact .inl q
    · by_cases q : i ∈ D.an x
      · right
        have := hdesc x q
        have hn : ¬ r < k := fun hlt => by rw [(hpre r x hx).2 hlt] at this; cases this
        omega
      · exact .inl q
  have hguard : ∀ g b d, o.guard = some (g, b) → (D.l[g]?).bind (·.dst) = some d → ∀ u, aget a d = some u → (∀ t, u = .bool t → yielded D.l.toArray ae.tmps g = some t) ∧ (u = undef → yielded D.l.toArray ae.tmps g = none) := by
    intro g b d hg hgd u ht
    have hga := hAn g (hok.guard i o ho g b hg)
    cases hlg : D.l[g]? with
    | none => simp [hlg] at hgd
    | some og =>
      simp only [hlg, Option.bind_some] at hgd
      have hw := (hok.dst g og hlg d hgd).1
      obtain ⟨v', e1, r⟩ := hsl' d u (by unfold Plan.slot; rw [hw]; simp only; rw [if_pos hga]; exact ht)
      constructor
      · rintro t rfl
        cases r
        simp [yielded, hlg, hgd, e1]
      · rintro rfl
        cases r
        simp [yielded, hlg, hgd, e1]
  unfold wpOpIn
  rw [ho']
  simp only
  rcases hob i o ho with ⟨⟨⟨g, b, d, u, h1, h2, h3, h5⟩, h4⟩, hnh⟩ | ⟨hon, hH, hL⟩
  · rw [if_neg (by
      rcases h5 with h5 | h5
      · simp [Region.wanted, h1, (hguard g b d h1 h2 _ h3).1 _ h5]
      · simp [Region.wanted, h1, (hguard g b d h1 h2 _ h3).2 h5])]
    refine ⟨fun _ _ => trivial, At.next hok h hi ho hAn hM hk (fun r x hx => ?_) haft hsl' (.tuple .nil .nil) h4⟩
    rw [getD_set hi]
    have : x ≠ i := fun e => hnh (e ▸ List.mem_of_getElem? hx)
    rw [if_neg this]
    exact hpre r x hx
  · rw [if_pos (by
      rcases hon with h1 | ⟨g, b, d, h1, h2, h3⟩
      · simp [Region.wanted, h1]
      · simp [Region.wanted, h1, (hguard g b d h1 h2 _ h3).1 _ rfl])]
    have hgo : ∀ k' M', Ms[k']? = some M' → k' ≤ D.H.length → (∀ r h, D.H[r]? = some h → ((listed.setIfInBounds i true).getD h false = true ↔ r < k')) → D.opAt P n a0 a i o M M' →
        o.wpIn (FR ro) 0 P ae w (fun ae1 w1 => At P w0 N n m β S A0 D a0 a Ms (listed.setIfInBounds i true) ae1 w1) Z := by
      intro k' M' hM' hk' hpre' ⟨v, hd, hop⟩
      refine hop ro w0 N w β1 S1 ae haft.sim her _ _ fun u u' w1 β2 S2 A2 hu hx hv => ?_
      obtain ⟨rfl, rfl⟩ := hu
      refine At.next hok h hi ho hAn hM' hk' hpre' (haft.trans hx haft.next) (fun t x hx' => ?_) hv hd
      obtain ⟨x', e1, r⟩ := hsl' t x hx'
      exact ⟨x', e1, hx.near.VRs haft.sim.sub r⟩
    by_cases q : i ∈ D.H
    · obtain ⟨r, hr'⟩ := List.getElem?_of_mem q
      have hkr : k = r := by
        have h1 : ¬ r < k := fun hlt => by rw [(hpre r i hr').2 hlt] at hunf; cases hunf
        rcases Nat.lt_or_ge k r with h2 | h2
        · exfalso
          have hr1 : r - 1 < D.H.length := by have := (List.getElem?_eq_some_iff.1 hr').1; omega
          have hx := List.getElem?_eq_getElem hr1
          have e : r - 1 + 1 = r := by omega
          have hm := hok.chain (r - 1) _ i hx (by rw [e]; exact hr')
          have := (hpre (r - 1) _ hx).1 (hAn _ hm)
          omega
        · omega
      subst hkr
      obtain ⟨M1, M', e1, e2, hop⟩ := hH k hr'
      rw [hM] at e1; cases e1
      refine hgo (k + 1) M' e2 (by have := (List.getElem?_eq_some_iff.1 hr').1; omega) (fun r x hx => ?_) hop
      rw [getD_set hi]
      by_cases q2 : x = i
      · subst q2
        simp only [if_true, true_iff]
        rcases Nat.lt_trichotomy r k with h1 | h1 | h1
        · omega
        · omega
        · exfalso
          have hr1 : r - 1 < D.H.length := by have := (List.getElem?_eq_some_iff.1 hx).1; omega
          have hy := List.getElem?_eq_getElem hr1
          have e : r - 1 + 1 = r := by omega
          have hm := hok.chain (r - 1) _ x hy (by rw [e]; exact hx)
          have := (hpre (r - 1) _ hy).1 (hAn _ hm)
          omega
      · rw [if_neg q2, hpre r x hx]
        have : r ≠ k := fun e => by subst e; rw [hr'] at hx; cases hx; exact q2 rfl
        omega
    · refine hgo k M hM hk (fun r x hx => ?_) (hL q k M hM hokk)
      rw [getD_set hi]
      have : x ≠ i := fun e => q (e ▸ List.mem_of_getElem? hx)
      rw [if_neg this]
      exact hpre r x hx

theorem At.all {listed : Array Bool} (hok : D.Ok n) (h : At P w0 N n m β S A0 D a0 a Ms listed ae w) (hr : Region.ready .any D.l.toArray listed = []) : ∀ i, i < D.l.length → listed.getD i false = true := by
  intro i
  induction i using Nat.strongRecOn with
  | _ i ih =>
    intro hi
    cases q : listed.getD i false with
    | true => rfl
    | false =>
      exfalso
      have hi' : i < listed.size := by rw [h.size]; exact hi
      have ho := List.getElem?_eq_getElem hi
      have : i ∈ Region.ready .any D.l.toArray listed := by
        rw [mem_ready]
        refine ⟨by simp [hi'] at q ⊢; exact q, D.l[i], by simp, fun e he hb => ?_⟩
        have hp : e.on ∈ predsOf D.l[i] := by
          unfold predsOf
          rw [List.mem_filterMap]
          exact ⟨e, by simpa using he, by rw [if_pos hb]⟩
        have := hok.preds i _ ho _ hp
        exact ih e.on this (by omega)
      rw [hr] at this
      cases this

theorem At.run {ro : Option Nat} {Z : Exit → Act → World → Prop} (hok : D.Ok n) (hob : ∀ j o, D.l[j]? = some o → D.ob P n a0 a Ms j o)
    (hfin : ∀ listed ae w, At P w0 N n m β S A0 D a0 a Ms listed ae w → (∀ i, i < D.l.length → listed.getD i false = true) → Z .normal ae w) : ∀ (fuel : Nat) (listed : Array Bool) (ae : Act) (w : World), unl listed ≤ fuel → At P w0 N n m β S A0 D a0 a Ms listed ae w →
    wpAnyIn (FR ro) 0 P .any D.l.toArray Z fuel listed ae w
  | 0, listed, ae, w, hf, h => by
    have hall : ∀ i, i < D.l.length → listed.getD i false = true := fun i hi => listed_all (by omega) i (by rw [h.size]; exact hi)
    refine ⟨?_, hfin listed ae w h hall⟩
    rw [List.eq_nil_iff_forall_not_mem]
    intro i hi
    obtain ⟨h1, o, ho, _⟩ := mem_ready.1 hi
    have hlt : i < D.l.length := by
      have := (Array.getElem?_eq_some_iff.1 ho).1
      simpa using this
    have := hall i hlt
    have hs : i < listed.size := by rw [h.size]; exact hlt
    simp [hs] at h1 this
    rw [this] at h1; cases h1
  | fuel + 1, listed, ae, w, hf, h => by
    refine ⟨fun hr => hfin listed ae w h (At.all hok h hr), fun i hi => ?_⟩
    obtain ⟨h1, o, ho, _⟩ := mem_ready.1 hi
    have hlt : i < D.l.length := by
      have := (Array.getElem?_eq_some_iff.1 ho).1
      simpa using this
    have hs : i < listed.size := by rw [h.size]; exact hlt
    have hu := unl_set hs h1
    exact wpOpIn_mono (fun ae1 w1 h1 => At.run hok hob hfin fuel _ ae1 w1 (by omega) h1) (At.step hok hob h hi)

theorem AT.drawn {id : Nat} {M : AW} (hm : P.follows .mixedOrders = true) (hc : D.chk n = true) (hob : ∀ j o, D.l[j]? = some o → D.ob P n a0 a Ms j o) (h0 : Ms[0]? = some A0) (hl : Ms[D.H.length]? = some M)
    (hkeep : ∀ t, wrOf D.l t = none → aget a t = aget a0 t) (hq : Q .normal a M) : AT P n m (.region id D.l.toArray true) a0 A0 Q := by
  have hok := Plan.ok_of_chk hc
  intro ro w0 N w β S ae hmn hs he
  refine wpIn_region_any hm (At.run (m := m) (β := β) (S := S) (w0 := w0) (N := N) (A0 := A0) hok hob ?_ _ _ _ _ ?_ ?_)
  · intro listed ae1 w1 h hall
    obtain ⟨k, M', β1, S1, hM', hk, hpre, haft, hsl⟩ := h.pre
    have hkH : k = D.H.length := by
      rcases Nat.lt_or_ge k D.H.length with hlt | hge
      · exfalso
        have hx := List.getElem?_eq_getElem hlt
        have := (hpre k _ hx).1 (hall _ (hok.hlt _ (List.getElem_mem hlt)))
        omega
      · omega
    subst hkH
    rw [hl] at hM'; cases hM'
    refine ⟨β1, S1, a, M, haft, ⟨h.tsize, h.defers, fun t v hv => hsl t v ?_⟩, hq⟩
    cases hw : wrOf D.l t with
    | none => simp only; rw [← hkeep t hw]; exact hv
    | some j =>
      simp only
      obtain ⟨o, ho, _⟩ := wrOf_spec hw
      rw [if_pos (hall j (List.getElem?_eq_some_iff.1 ho).1)]
      exact hv
  · unfold unl
    simp
  · refine ⟨by simp, fun i hi => ?_, ⟨0, A0, β, S, h0, Nat.zero_le _, fun r x hx => ?_, Aft.refl hs.drew hmn, fun t v hv => ?_⟩, he.size, he.defers⟩
    · exfalso
      rw [Array.getD_eq_getD_getElem?] at hi
      rcases Nat.lt_or_ge i D.l.length with hlt | hge
      · simp [hlt] at hi
      · simp [hge] at hi
    · constructor
      · intro hi
        exfalso
        rcases Nat.lt_or_ge x D.l.length with hlt | hge
        · simp [hlt] at hi
        · simp [hge] at hi
      · intro h; omega
    · refine he.get t v ?_
      cases hw : wrOf D.l t with
      | none => rw [hw] at hv; exact hv
      | some j =>
        rw [hw] at hv
        simp only at hv
        split at hv
        · rename_i hi
          exfalso
          rcases Nat.lt_or_ge j D.l.length with hlt | hge
          · simp [hlt] at hi
          · simp [hge] at hi
        · exact hv

end Go.M
namespace Go.M
open Go.RowKit
variable {P : Program} {N n m : Nat} {A A' A1 A2 A0 : AW} {a a1 a0 : AEnv} {Q Q' : AQ} {D : Plan} {Ms : List AW} {id : Nat}

structure Good (P : Program) (n : Nat) (D : Plan) (a0 : AEnv) (A0 : AW) (i : Nat) (a : AEnv) (Ms : List AW) : Prop where
  len : ∀ r h, D.H[r]? = some h → (h < i ↔ r + 1 < Ms.length)
  head : Ms[0]? = some A0
  keep : ∀ t, (∀ j, wrOf D.l t = some j → i ≤ j) → aget a t = aget a0 t
  obs : ∀ j o, j < i → D.l[j]? = some o → D.ob P n a0 a Ms j o

def DG (P : Program) (n m : Nat) (D : Plan) (id : Nat) (a0 : AEnv) (A0 : AW) (Q : AQ) (i : Nat) (a : AEnv) (Ms : List AW) : Prop :=
  D.chk n = true → Good P n D a0 A0 i a Ms → AT P n m (.region id D.l.toArray true) a0 A0 Q

theorem AT.draws {l : List Oper} (An : List (List Nat)) (H : List Nat) (hc : (Plan.mk l An H).chk n = true) (h : DG P n m ⟨l, An, H⟩ id a A Q 0 a [A]) : AT P n m (.region id l.toArray true) a A Q :=
  h hc ⟨fun r h _ => by simp, rfl, fun _ _ => rfl, fun j _ hj => by omega⟩

theorem DG.done {i : Nat} {M : AW} (hm : P.follows .mixedOrders = true) (hi : D.l.length = i) (hl : Ms[D.H.length]? = some M) (hq : Q .normal a M) : DG P n m D id a0 A0 Q i a Ms := fun hc hg =>
  AT.drawn (a := a) (Ms := Ms) hm hc (fun j o ho => hg.obs j o (by rw [← hi]; exact (List.getElem?_eq_some_iff.1 ho).1) ho) hg.head hl (fun t ht => hg.keep t fun j hj => by rw [ht] at hj; cases hj) hq

theorem aget_put_ne {d : Option Tmp} {v : Value} {t : Nat} (h : d ≠ some t) : aget (aput a d v) t = aget a t := by
  cases d with
  | none => rfl
  | some d => simp only [aput, aget]; rw [if_neg (fun e => h (by rw [e]))]
theorem aget_put {d : Option Tmp} {v : Value} {t : Nat} (h : d = some t) : aget (aput a d v) t = some v := by
  subst h; simp [aput, aget]

section
variable {i : Nat} {o : Oper} {v : Value}
theorem put_other (hok : D.Ok n) (ho : D.l[i]? = some o) {j d : Nat} {oj : Oper} (hj : D.l[j]? = some oj) (hji : j ≠ i) (hd : oj.dst = some d) : aget (aput a o.dst v) d = aget a d :=
  aget_put_ne fun e => hji (by
    have h1 := (hok.dst i o ho d e).1
    have h2 := (hok.dst j oj hj d hd).1
    rw [h2] at h1; exact Option.some.inj h1)

theorem env_put (hok : D.Ok n) (ho : D.l[i]? = some o) {j : Nat} {oj : Oper} (hj : D.l[j]? = some oj) (hji : j < i ∨ j = i) : D.env a0 (aput a o.dst v) j oj = D.env a0 a j oj := by
  unfold Plan.env
  congr 1
  funext t
  have : D.src a0 (aput a o.dst v) j t = D.src a0 a j t := by
    unfold Plan.src
    cases hw : wrOf D.l t with
    | none => rfl
    | some x =>
      simp only
      by_cases q : x ∈ D.an j
      · rw [if_pos (by simpa using q), if_pos (by simpa using q)]
        obtain ⟨ox, h1, h2⟩ := wrOf_spec hw
        have := hok.anlt j oj hj x q
        exact put_other hok ho h1 (by omega) h2
      · rw [if_neg (by simpa using q), if_neg (by simpa using q)]
  rw [this]

theorem onAt_put (hok : D.Ok n) (ho : D.l[i]? = some o) {j : Nat} {oj : Oper} (hj : D.l[j]? = some oj) (hji : j < i ∨ j = i) (h : D.onAt a oj) : D.onAt (aput a o.dst v) oj := by
  rcases h with h | ⟨g, b, d, h1, h2, h3⟩
  · exact .inl h
  · refine .inr ⟨g, b, d, h1, h2, ?_⟩
    have hg := hok.anlt j oj hj g (hok.guard j oj hj g b h1)
    cases hl : D.l[g]? with
    | none => simp [hl] at h2
    | some og =>
      simp only [hl, Option.bind_some] at h2
      rw [put_other hok ho hl (by omega) h2]
      exact h3

theorem offAt_put (hok : D.Ok n) (ho : D.l[i]? = some o) {j : Nat} {oj : Oper} (hj : D.l[j]? = some oj) (hji : j < i) (h : D.offAt a oj) : D.offAt (aput a o.dst v) oj := by
  obtain ⟨⟨g, b, d, u, h1, h2, h3, h5⟩, h4⟩ := h
  refine ⟨⟨g, b, d, u, h1, h2, ?_, h5⟩, fun d' hd' => by rw [put_other hok ho hj (by omega) hd']; exact h4 d' hd'⟩
  have hg := hok.anlt j oj hj g (hok.guard j oj hj g b h1)
  cases hl : D.l[g]? with
  | none => simp [hl] at h2
  | some og =>
    simp only [hl, Option.bind_some] at h2
    rw [put_other hok ho hl (by omega) h2]
    exact h3

theorem opAt_put (hok : D.Ok n) (ho : D.l[i]? = some o) {j : Nat} {oj : Oper} (hj : D.l[j]? = some oj) (hji : j < i) {M M' : AW} (h : D.opAt P n a0 a j oj M M') : D.opAt P n a0 (aput a o.dst v) j oj M M' := by
  obtain ⟨u, h1, h2⟩ := h
  exact ⟨u, fun d hd => by rw [put_other hok ho hj (by omega) hd]; exact h1 d hd, by rw [env_put hok ho hj (.inl hji)]; exact h2⟩

theorem keep_put (hok : D.Ok n) (ho : D.l[i]? = some o) (h : ∀ t, (∀ j, wrOf D.l t = some j → i ≤ j) → aget a t = aget a0 t) : ∀ t, (∀ j, wrOf D.l t = some j → i + 1 ≤ j) → aget (aput a o.dst v) t = aget a0 t := by
  intro t ht
  rw [aget_put_ne (fun e => ?_)]
  · exact h t fun j hj => by have := ht j hj; omega
  · have := ht i (hok.dst i o ho t e).1
    omega

/-- The memories that an operation may meet. -/
def Plan.okMs (D : Plan) (i : Nat) (Ms : List AW) : List AW := (Ms.zipIdx.filter fun x => D.okk i x.2).map (·.1)
def AllM (p : AW → Prop) : List AW → Prop
  | [] => True
  | M :: Ms => p M ∧ AllM p Ms
theorem AllM.mem {p : AW → Prop} : ∀ {Ms : List AW}, AllM p Ms → ∀ M ∈ Ms, p M
  | [], _, _, h => by cases h
  | M :: Ms, h, M', hm => by
    rcases List.mem_cons.1 hm with rfl | hm
    · exact h.1
    · exact AllM.mem h.2 M' hm

theorem DG.light {ms : List AW} (ho : D.l[i]? = some o) (hH : D.H.contains i = false) (hon : D.onAt a o) (hms : D.okMs i Ms = ms) {e : AEnv} (he : D.env a0 a i o = e) (h : AllM (fun M => AOp P n o e M (isR v M)) ms)
    (k : DG P n m D id a0 A0 Q (i + 1) (aput a o.dst v) Ms) : DG P n m D id a0 A0 Q i a Ms := fun hc hg => by
  subst hms; subst he
  have hok := Plan.ok_of_chk hc
  have hH : i ∉ D.H := by simpa using hH
  refine k hc ⟨fun r h hr => ?_, hg.head, keep_put hok ho hg.keep, fun j oj hj hoj => ?_⟩
  · have : h ≠ i := fun e => hH (e ▸ List.mem_of_getElem? hr)
    rw [← hg.len r h hr]; omega
  · by_cases q : j = i
    · subst q
      rw [ho] at hoj; cases hoj
      refine .inr ⟨onAt_put hok ho ho (.inr rfl) hon, fun r hr => absurd (List.mem_of_getElem? hr) hH, fun _ k M hM hokk => ⟨v, fun d hd => aget_put hd, ?_⟩⟩
      rw [env_put hok ho ho (.inr rfl)]
      refine h.mem M ?_
      unfold Plan.okMs
      rw [List.mem_map]
      exact ⟨(M, k), by rw [List.mem_filter, List.mk_mem_zipIdx_iff_getElem?]; exact ⟨hM, hokk⟩, rfl⟩
    · have hji : j < i := by omega
      rcases hg.obs j oj hji hoj with ⟨h1, h2⟩ | ⟨h1, h2, h3⟩
      · exact .inl ⟨offAt_put hok ho hoj hji h1, h2⟩
      · refine .inr ⟨onAt_put hok ho hoj (.inl hji) h1, fun r hr => ?_, fun hn k M hM hokk => opAt_put hok ho hoj hji (h3 hn k M hM hokk)⟩
        obtain ⟨M, M', e1, e2, e3⟩ := h2 r hr
        exact ⟨M, M', e1, e2, opAt_put hok ho hoj hji e3⟩

theorem DG.off (ho : D.l[i]? = some o) (hH : D.H.contains i = false) {g : Nat} {b : Bool} {d : Nat} {u : Value} (h1 : o.guard = some (g, b)) (h2 : (D.l[g]?).bind (·.dst) = some d) (h3 : aget a d = some u) (h5 : u = .bool (!b) ∨ u = undef)
    (k : DG P n m D id a0 A0 Q (i + 1) (aput a o.dst undef) Ms) : DG P n m D id a0 A0 Q i a Ms := fun hc hg => by
  have hok := Plan.ok_of_chk hc
  have hH : i ∉ D.H := by simpa using hH
  refine k hc ⟨fun r h hr => ?_, hg.head, keep_put hok ho hg.keep, fun j oj hj hoj => ?_⟩
  · have : h ≠ i := fun e => hH (e ▸ List.mem_of_getElem? hr)
    rw [← hg.len r h hr]; omega
  · by_cases q : j = i
    · subst q
      rw [ho] at hoj; cases hoj
      refine .inl ⟨⟨⟨g, b, d, u, h1, h2, ?_, h5⟩, fun d hd => aget_put hd⟩, hH⟩
      have hgl := hok.anlt j o ho g (hok.guard j o ho g b h1)
      cases hl : D.l[g]? with
      | none => simp [hl] at h2
      | some og =>
        simp only [hl, Option.bind_some] at h2
        rw [put_other hok ho hl (by omega) h2]
        exact h3
    · have hji : j < i := by omega
      rcases hg.obs j oj hji hoj with ⟨h1, h2⟩ | ⟨h1, h2, h3⟩
      · exact .inl ⟨offAt_put hok ho hoj hji h1, h2⟩
      · refine .inr ⟨onAt_put hok ho hoj (.inl hji) h1, fun r hr => ?_, fun hn k M hM hokk => opAt_put hok ho hoj hji (h3 hn k M hM hokk)⟩
        obtain ⟨M, M', e1, e2, e3⟩ := h2 r hr
        exact ⟨M, M', e1, e2, opAt_put hok ho hoj hji e3⟩

/-- The light operations that may come behind the r-th heavy one. -/
def Plan.floats (D : Plan) (i r : Nat) : List Nat := (List.range i).filter fun j => !D.H.contains j && D.okk j (r + 1)
def AllJ (p : Nat → Prop) : List Nat → Prop
  | [] => True
  | j :: js => p j ∧ AllJ p js
theorem AllJ.mem {p : Nat → Prop} : ∀ {js : List Nat}, AllJ p js → ∀ j ∈ js, p j
  | [], _, _, h => by cases h
  | j :: js, h, j', hm => by
    rcases List.mem_cons.1 hm with rfl | hm
    · exact h.1
    · exact AllJ.mem h.2 j' hm
def Plan.again (P : Program) (n : Nat) (D : Plan) (a0 a : AEnv) (M' : AW) (j : Nat) : Prop :=
  ∃ oj, D.l[j]? = some oj ∧ (D.offAt a oj ∨ D.opAt P n a0 a j oj M' M')
theorem Plan.again.intro {j : Nat} {oj : Oper} {u : Value} {e : AEnv} {M' : AW} (h1 : D.l[j]? = some oj) (h2 : oj.dst.isNone = true ∨ oj.dst.bind (aget a) = some u) (h3 : D.env a0 a j oj = e) (h4 : AOp P n oj e M' (isR u M')) : D.again P n a0 a M' j :=
  ⟨oj, h1, .inr ⟨u, fun d hd => by rcases h2 with h2 | h2; (rw [hd] at h2; cases h2); (rw [hd] at h2; exact h2), by rw [h3]; exact h4⟩⟩

theorem DG.heavy {r : Nat} {M M' : AW} {js : List Nat} (ho : D.l[i]? = some o) (hr : D.H[r]? = some i) (hM : Ms[r]? = some M) (hon : D.onAt a o) {e : AEnv} (he : D.env a0 a i o = e) (h : AOp P n o e M (isR v M'))
    (hjs : D.floats i r = js) (hf : AllJ (D.again P n a0 a M') js) (k : DG P n m D id a0 A0 Q (i + 1) (aput a o.dst v) (Ms ++ [M'])) : DG P n m D id a0 A0 Q i a Ms := fun hc hg => by
  subst hjs; subst he
  have hok := Plan.ok_of_chk hc
  have hlen : Ms.length = r + 1 := by
    have h1 := hg.len r i hr
    have h2 := (List.getElem?_eq_some_iff.1 hM).1
    omega
  have hlt : ∀ k M, Ms[k]? = some M → (Ms ++ [M'])[k]? = some M := fun k M h => by rw [List.getElem?_append_left (List.getElem?_eq_some_iff.1 h).1]; exact h
  have hnew : (Ms ++ [M'])[r + 1]? = some M' := by rw [List.getElem?_append_right (by omega)]; simp [hlen]
  have hinj : ∀ r' h, D.H[r']? = some h → r < r' → i < h := by
    intro r' h hr' hlt'
    induction r' generalizing h with
    | zero => omega
    | succ r' ih =>
      have hl' : r' < D.H.length := by have := (List.getElem?_eq_some_iff.1 hr').1; omega
      have hx := List.getElem?_eq_getElem hl'
      have hm := hok.chain r' _ h hx hr'
      have hhl : h < D.l.length := hok.hlt h (List.mem_of_getElem? hr')
      have := hok.anlt h _ (List.getElem?_eq_getElem hhl) _ hm
      rcases Nat.lt_or_ge r r' with q | q
      · have := ih _ hx q; omega
      · have : r' = r := by omega
        subst this
        rw [hr] at hx; have := Option.some.inj hx; omega
  refine k hc ⟨fun r' h hr' => ?_, hlt _ _ hg.head, keep_put hok ho hg.keep, fun j oj hj hoj => ?_⟩
  · simp only [List.length_append, List.length_singleton]
    rcases Nat.lt_trichotomy r' r with q | q | q
    · have := (hg.len r' h hr').2 (by omega)
      omega
    · subst q; rw [hr] at hr'; cases hr'; omega
    · have := hinj r' h hr' q
      omega
  · by_cases q : j = i
    · subst q
      rw [ho] at hoj; cases hoj
      refine .inr ⟨onAt_put hok ho ho (.inr rfl) hon, fun r' hr' => ?_, fun hn => absurd (List.mem_of_getElem? hr) hn⟩
      have e : r' = r := by
        rcases Nat.lt_trichotomy r' r with q | q | q
        · have := (hg.len r' j hr').2 (by omega); omega
        · exact q
        · have := hinj r' j hr' q; omega
      subst e
      exact ⟨M, M', hlt _ _ hM, hnew, v, fun d hd => aget_put hd, by rw [env_put hok ho ho (.inr rfl)]; exact h⟩
    · have hji : j < i := by omega
      rcases hg.obs j oj hji hoj with ⟨h1, h2⟩ | ⟨h1, h2, h3⟩
      · exact .inl ⟨offAt_put hok ho hoj hji h1, h2⟩
      · by_cases hjH : j ∈ D.H
        · refine .inr ⟨onAt_put hok ho hoj (.inl hji) h1, fun r hr => ?_, fun hn => absurd hjH hn⟩
          obtain ⟨M, M', e1, e2, e3⟩ := h2 r hr
          exact ⟨M, M', hlt _ _ e1, hlt _ _ e2, opAt_put hok ho hoj hji e3⟩
        · by_cases hfl : D.okk j (r + 1) = true
          · have hmem : j ∈ D.floats i r := by
              unfold Plan.floats
              rw [List.mem_filter]
              exact ⟨List.mem_range.2 hji, by simp [hjH, hfl]⟩
            obtain ⟨oj', e1, e2⟩ := hf.mem j hmem
            rw [hoj] at e1; cases e1
            rcases e2 with e2 | e2
            · exact .inl ⟨offAt_put hok ho hoj hji e2, hjH⟩
            · refine .inr ⟨onAt_put hok ho hoj (.inl hji) h1, fun r hr => absurd (List.mem_of_getElem? hr) hjH, fun hn k M hM hokk => opAt_put hok ho hoj hji ?_⟩
              rcases Nat.lt_or_ge k Ms.length with hk | hk
              · rw [List.getElem?_append_left hk] at hM; exact h3 hn k M hM hokk
              · have : k = r + 1 := by
                  have := (List.getElem?_eq_some_iff.1 hM).1
                  simp at this
                  omega
                subst this
                rw [hnew] at hM; cases hM
                exact e2
          · refine .inr ⟨onAt_put hok ho hoj (.inl hji) h1, fun r hr => absurd (List.mem_of_getElem? hr) hjH, fun hn k M hM hokk => opAt_put hok ho hoj hji ?_⟩
            rcases Nat.lt_or_ge k Ms.length with hk | hk
            · rw [List.getElem?_append_left hk] at hM; exact h3 hn k M hM hokk
            · have : k = r + 1 := by
                have := (List.getElem?_eq_some_iff.1 hM).1
                simp at this
                omega
              subst this
              exact absurd hokk hfl
end

end Go.M
namespace Go.M
open Go.RowKit
variable {P : Program} {w0 w w' w1 w2 : World} {N n m : Nat} {β β' β1 β2 : Bet} {S S' S1 S2 : Nat → Prop} {A A' A1 A2 A0 : AW} {a a1 a0 : AEnv} {ae : Act} {Q Q' : AQ}

def alook : List (Nat × AObj) → Nat → Option AObj
  | [], _ => none
  | (s, o) :: r, t => if s = t then some o else alook r t
def AW.of (L : List (Nat × AObj)) (nx ro gl : Nat) : AW := ⟨alook L, nx, ro, gl⟩
theorem AW.of_push {L : List (Nat × AObj)} {nx ro gl : Nat} (o : AObj) : (AW.of L nx ro gl).push o = AW.of ((nx, o) :: L) (nx + 1) ro gl := by
  simp only [AW.push, AW.of, AW.mk.injEq, and_true]
  funext j
  simp only [alook, eq_comm]
def aset : List (Nat × AObj) → Nat → AObj → List (Nat × AObj)
  | [], j, o => [(j, o)]
  | (s, x) :: r, j, o => if s = j then (s, o) :: r else (s, x) :: aset r j o
theorem alook_aset : ∀ (L : List (Nat × AObj)) (j : Nat) (o : AObj) (i : Nat), alook (aset L j o) i = if i = j then some o else alook L i
  | [], j, o, i => by simp only [aset, alook, eq_comm]
  | (s, x) :: r, j, o, i => by
    simp only [aset]
    split
    · rename_i e; subst e
      simp only [alook]
      by_cases q : s = i
      · subst q; simp
      · simp [q, Ne.symm q]
    · rename_i e
      simp only [alook, alook_aset r j o i]
      by_cases q : s = i
      · subst q; simp [e]
      · simp [q]
theorem AW.of_upd {L : List (Nat × AObj)} {nx ro gl : Nat} (j : Nat) (o : AObj) : (AW.of L nx ro gl).upd j (some o) = AW.of (aset L j o) nx ro gl := by
  simp only [AW.upd, AW.of, AW.mk.injEq, and_true]
  funext i
  rw [alook_aset]

/-! ### Contracts, carried to any memory -/
/-- Arguments alike but for the names of what they point to. -/
inductive AR (ρ : Nat → Option (Nat × Nat)) : List Value → List Value → Prop
  | nil : AR ρ [] []
  | flat {v vs vs'} {k : Nat} : noAddrs k [v] = true → AR ρ vs vs' → AR ρ (v :: vs) (v :: vs')
  | ptr {j b f g h vs vs'} : ρ j = some (b, f) → h = f + g → AR ρ vs vs' → AR ρ (.pointer (some ⟨j, g, none⟩) :: vs) (.pointer (some ⟨b, h, none⟩) :: vs')
  | sl {j b f g h n c vs vs'} : ρ j = some (b, f) → h = f + g → AR ρ vs vs' → AR ρ (.slice (some ⟨j, g, none⟩) n c :: vs) (.slice (some ⟨b, h, none⟩) n c :: vs')
  | map {j b f vs vs'} : ρ j = some (b, f) → AR ρ vs vs' → AR ρ (.map (some j) :: vs) (.map (some b) :: vs')
  | agg {c c' vs vs'} : AR ρ c.toList c'.toList → AR ρ vs vs' → AR ρ (.agg c :: vs) (.agg c' :: vs')
  | tuple {c c' vs vs'} : AR ρ c.toList c'.toList → AR ρ vs vs' → AR ρ (.tuple c :: vs) (.tuple c' :: vs')
  | func {fn f f' c c' vs vs'} : (∀ l, fn ≠ .yield l) → AR ρ f.toList f'.toList → AR ρ c.toList c'.toList → AR ρ vs vs' → AR ρ (.func fn f c :: vs) (.func fn f' c' :: vs')

def objIn (A : AW) (b f : Nat) : AObj → Prop
  | .cells c _ => A.rd b f c.length = some c ∧ ∃ n, noAddrs n c = true
  | .map es k => A.objs b = some (.map es k) ∧ ∃ n, noAddrs n (es.map (·.val)) = true
  | .iter _ _ => False
  | .loop .. => False
  | .dfr => False
  | .over _ => False

def small (ρ : Nat → Option (Nat × Nat)) (k : Nat) (β : Bet) : Bet := fun j => if j < k then (ρ j).bind fun x => (β x.1).map fun L => ⟨L.blk, L.off + x.2, 0, L.tot⟩ else none

theorem AR.vrs {ρ : Nat → Option (Nat × Nat)} {k : Nat} {vs us : List Value} (h : AR ρ vs us) (hk : ∀ j x, ρ j = some x → j < k) : ∀ {vs' : List Value}, VRs β S us vs' → VRs (small ρ k β) (fun j => j < k) vs vs' := by
  induction h with
  | nil => intro vs' hv; cases hv; exact .nil
  | @flat v vs us kk hn _ ih =>
    intro vs' hv
    cases vs' with
    | nil => have := hv.length; simp at this
    | cons v' vs' =>
      have e : v' = v := by have := VRs.eq_of_noAddrs hv.cons_inv.1 kk hn; simpa using this
      subst e
      exact VRs.cons (VRs.refl_of_noAddrs kk _ hn) (ih hv.cons_inv.2)
  | @ptr j b f g h vs us hr he _ ih =>
    intro vs' hv
    have hj := hk j _ hr
    cases hv with
    | @ptr _ _ L _ _ hs hb hv =>
      have : small ρ k β j = some ⟨L.blk, L.off + f, 0, L.tot⟩ := by simp [small, hj, hr, hb]
      have q := VRs.ptr (S := fun j => j < k) (o := g) hj this (ih hv)
      rw [he, ← Nat.add_assoc]; exact q
    | ptrD hs hb hv => exact .ptrD hj (by simp [small, hj, hr, hb]) (ih hv)
  | @sl j b f g h n c vs us hr he _ ih =>
    intro vs' hv
    have hj := hk j _ hr
    cases hv with
    | @sl _ _ L _ _ _ _ _ hs hb hc ho hv =>
      have : small ρ k β j = some ⟨L.blk, L.off + f, 0, L.tot⟩ := by simp [small, hj, hr, hb]
      have q := VRs.sl (S := fun j => j < k) (o := g) (n := n) hj this hc (.inr (.inl rfl)) (ih hv)
      rw [he, ← Nat.add_assoc]; exact q
    | slD hs hb hc hv => exact .slD hj (by simp [small, hj, hr, hb]) hc (ih hv)
  | @map j b f vs us hr _ ih =>
    intro vs' hv
    have hj := hk j _ hr
    cases hv with
    | @map _ L _ _ hs hb hv =>
      have : small ρ k β j = some ⟨L.blk, L.off + f, 0, L.tot⟩ := by simp [small, hj, hr, hb]
      exact VRs.map (S := fun j => j < k) (L := ⟨L.blk, L.off + f, 0, L.tot⟩) hj this (ih hv)
    | mapD hs hb hv => exact .mapD hj (by simp [small, hj, hr, hb]) (ih hv)
  | agg _ _ ih1 ih2 => intro vs' hv; cases hv with | agg g q => exact .agg (ih1 g) (ih2 q)
  | tuple _ _ ih1 ih2 => intro vs' hv; cases hv with | tuple g q => exact .tuple (ih1 g) (ih2 q)
  | func hy _ _ _ ih1 ih2 ih3 =>
    intro vs' hv
    cases hv with
    | func hy' g1 g2 q => exact .func hy (ih1 g1) (ih2 g2) (ih3 q)
    | yield _ _ _ => exact absurd rfl (hy _)
    | yieldD _ _ _ => exact absurd rfl (hy _)
/-- The same, where a name's place is the other's, whole. -/
theorem AR.vrsTo {ρ : Nat → Option (Nat × Nat)} {β' : Bet} {S' : Nat → Prop} {vs us : List Value} (h : AR ρ vs us) (hρ : ∀ j x, ρ j = some x → x.2 = 0 ∧ β' j = β x.1 ∧ (S x.1 → S' j)) : ∀ {vs' : List Value}, VRs β S us vs' → VRs β' S' vs vs' := by
  induction h with
  | nil => intro vs' hv; cases hv; exact .nil
  | @flat v vs us kk hn _ ih =>
    intro vs' hv
    cases vs' with
    | nil => have := hv.length; simp at this
    | cons v' vs' =>
      have e : v' = v := by have := VRs.eq_of_noAddrs hv.cons_inv.1 kk hn; simpa using this
      subst e
      exact VRs.cons (VRs.refl_of_noAddrs kk _ hn) (ih hv.cons_inv.2)
  | @ptr j b f g h vs us hr he _ ih =>
    intro vs' hv
    obtain ⟨e0, e1, e2⟩ := hρ j _ hr
    have e0 : f = 0 := e0
    subst e0
    rw [Nat.zero_add] at he
    subst he
    cases hv with
    | ptr hs hb hv => exact .ptr (e2 hs) (e1.trans hb) (ih hv)
    | ptrD hs hb hv => exact .ptrD (e2 hs) (e1.trans hb) (ih hv)
  | @sl j b f g h n c vs us hr he _ ih =>
    intro vs' hv
    obtain ⟨e0, e1, e2⟩ := hρ j _ hr
    have e0 : f = 0 := e0
    subst e0
    rw [Nat.zero_add] at he
    subst he
    cases hv with
    | sl hs hb hc ho hv => exact .sl (e2 hs) (e1.trans hb) hc ho (ih hv)
    | slD hs hb hc hv => exact .slD (e2 hs) (e1.trans hb) hc (ih hv)
  | @map j b f vs us hr _ ih =>
    intro vs' hv
    obtain ⟨_, e1, e2⟩ := hρ j _ hr
    cases hv with
    | map hs hb hv => exact .map (e2 hs) (e1.trans hb) (ih hv)
    | mapD hs hb hv => exact .mapD (e2 hs) (e1.trans hb) (ih hv)
  | agg _ _ ih1 ih2 => intro vs' hv; cases hv with | agg g q => exact .agg (ih1 g) (ih2 q)
  | tuple _ _ ih1 ih2 => intro vs' hv; cases hv with | tuple g q => exact .tuple (ih1 g) (ih2 q)
  | func hy _ _ _ ih1 ih2 ih3 =>
    intro vs' hv
    cases hv with
    | func hy' g1 g2 q => exact .func hy (ih1 g1) (ih2 g2) (ih3 q)
    | yield _ _ _ => exact absurd rfl (hy _)
    | yieldD _ _ _ => exact absurd rfl (hy _)

theorem Sim.small {ρ : Nat → Option (Nat × Nat)} {k : Nat} {L : List (Nat × AObj)} (h : Sim P w0 N β S A w) (hk : ∀ j x, ρ j = some x → j < k) (hd : ∀ j, alook L j = none → ρ j = none)
    (hL : ∀ j o, alook L j = some o → j < k ∧ ∃ x, ρ j = some x ∧ objIn A x.1 x.2 o) : Sim P w w.heap.size (small ρ k β) (fun j => j < k) (AW.of L k k 0) w := by
  have hlt : ∀ j L', M.small ρ k β j = some L' → j < k := fun j L' hj => by
    unfold M.small at hj
    split at hj
    · assumption
    · cases hj
  refine ⟨.refl _ _, Nat.le_refl _, ?_, fun j hj => ?_, fun j o ho => (hL j o ho).1, fun i j L1 L2 hi _ hb _ => ?_, fun i L1 hi hb => ?_, fun j hj => hj, Nat.le_refl _, fun g hg => ?_, Nat.zero_le _, fun j L1 _ hb => ?_⟩
  · intro j o ho
    obtain ⟨hj, ⟨b, f⟩, hr, hin⟩ := hL j o ho
    have hdec : decide ((AW.of L k k 0).ro ≤ j) = false := by
      show decide (k ≤ j) = false
      simp only [decide_eq_false_iff_not]; omega
    rw [hdec]
    cases o with
    | cells c e =>
      obtain ⟨h1, nn, h2⟩ := hin
      unfold AW.rd at h1
      split at h1
      · rename_i c0 e0 hob
        split at h1
        · rename_i hfit
          simp only [Option.some.injEq] at h1
          obtain ⟨L0, hb, cs, e', fz, g1, g2, g3, g4, _⟩ := h.live b _ hob
          refine ⟨⟨L0.blk, L0.off + f, 0, L0.tot⟩, by simp [M.small, hj, hr, hb], cs, e', fz, g1, g2, by show L0.off + f + c.length ≤ L0.tot; omega, ?_, by simp⟩
          have hc : VRs β S c ((cs.toList.drop (L0.off + f)).take c.length) := by
            rw [← list_inner cs.toList L0.off c0.length f c.length hfit]
            have := (g4.drop f).take c.length
            rw [h1] at this
            exact this
          have e1 := VRs.eq_of_noAddrs hc nn h2
          show VRs _ _ c ((cs.toList.drop (L0.off + f)).take c.length)
          rw [e1]
          exact VRs.refl_of_noAddrs nn _ h2
        · cases h1
      · cases h1
    | map es kk =>
      obtain ⟨h1, nn, h2⟩ := hin
      obtain ⟨L0, hb, es', g1, g2, g3, g4, g5⟩ := h.live b _ h1
      refine ⟨⟨L0.blk, L0.off + f, 0, L0.tot⟩, by simp [M.small, hj, hr, hb], es', g1, g2, g3, g4, ?_⟩
      rw [VRs.eq_of_noAddrs g5 nn h2]
      exact VRs.refl_of_noAddrs nn _ h2
    | iter s p => exact hin.elim
    | loop => exact hin.elim
    | dfr => exact hin.elim
    | over => exact hin.elim
  · have := hd j hj
    simp [M.small, this]
  · have := hlt i L1 hb
    exact absurd hi (by show ¬ k ≤ i; omega)
  · have := hlt i L1 hb
    exact absurd hi (by show ¬ k ≤ i; omega)
  · exact absurd hg (by show ¬ g < 0; omega)
  · unfold M.small at hb
    split at hb
    · cases hr : ρ j with
      | none => simp [hr] at hb
      | some x =>
        simp only [hr, Option.bind_some] at hb
        cases hx : β x.1 with
        | none => simp [hx] at hb
        | some L0 => simp [hx] at hb; subst hb; rfl
    · cases hb

/-- A contract in a small memory, for a value without addresses. -/
theorem AC.pureOf {f : FuncId} {args args2 : List Value} {R : Value → Prop} {L : List (Nat × AObj)} {k : Nat} (ρ : Nat → Option (Nat × Nat)) (h : AC P f args (AW.of L k k 0) (fun v _ => R v ∧ ∃ j, noAddrs j [v] = true))
    (hk : ∀ j x, ρ j = some x → j < k) (hd : ∀ j, alook L j = none → ρ j = none) (hL : ∀ j o, alook L j = some o → j < k ∧ ∃ x, ρ j = some x ∧ objIn A x.1 x.2 o) (ha : AR ρ args args2) :
    AC P f args2 A (fun v A1 => R v ∧ A1 = A) := by
  intro w0 N w β S args' hs hv
  refine Calls.mono (h w w.heap.size w _ _ args' (hs.small hk hd hL) (ha.vrs hk hv)) fun e w1 he => ?_
  cases e with
  | returned v' =>
    obtain ⟨β1, S1, v, A1, h1, h2, hr, j, hj⟩ := he
    have q : [v'] = [v] := VRs.eq_of_noAddrs h2 j hj
    have q : v' = v := by simpa using q
    subst q
    exact ⟨β, S, v', A, ⟨hs.again h1.sim.below, .refl _ _ _, Nat.le_refl _, rfl, rfl⟩, VRs.refl_of_noAddrs j _ hj, hr, rfl⟩
  | panicked => exact he
  | outgrown => exact he

/-- Without objects. -/
theorem AC.pure0 {f : FuncId} {args : List Value} {R : Value → Prop} (h : AC P f args (AW.of [] 0 0 0) (fun v _ => R v ∧ ∃ j, noAddrs j [v] = true)) (ha : AR (fun _ => none) args args) : AC P f args A (fun v A1 => R v ∧ A1 = A) :=
  AC.pureOf (fun _ => none) h (by simp) (by simp) (by simp [alook]) ha
theorem AC.is0 {f : FuncId} {args : List Value} {v : Value} (h : AC P f args (AW.of [] 0 0 0) (fun u _ => u = v)) (hv : ∃ j, noAddrs j [v] = true) (ha : AR (fun _ => none) args args) : AC P f args A (isR v A) :=
  AC.pure0 (h.mono fun u _ e => ⟨e, e ▸ hv⟩) ha
/-- One object: a slice's or a pointer's. -/
theorem AC.is1 {f : FuncId} {args args2 : List Value} {v : Value} {o : AObj} {b g : Nat} (h : AC P f args (AW.of [(0, o)] 1 1 0) (fun u _ => u = v)) (hv : ∃ j, noAddrs j [v] = true) (ho : objIn A b g o) (ha : AR (fun j => if j = 0 then some (b, g) else none) args args2) : AC P f args2 A (isR v A) :=
  AC.pureOf (R := fun u => u = v) (fun j => if j = 0 then some (b, g) else none) (h.mono fun u _ e => ⟨e, e ▸ hv⟩) (fun j x hx => by split at hx <;> simp_all) (fun j hj => by
      by_cases q : j = 0
      · subst q; simp [alook] at hj
      · simp [q])
    (fun j o' ho' => by
      simp only [alook] at ho'
      split at ho'
      · rename_i e; subst e; cases ho'; exact ⟨by omega, (b, g), by simp, ho⟩
      · cases ho') ha

end Go.M
namespace Go.M
open Go.RowKit
variable {P : Program} {N n m : Nat} {A A' A1 A2 A0 : AW} {a a1 a0 : AEnv} {Q Q' : AQ} {K : AEnv → AW → Prop} {R : Value → AW → Prop} {rs : List ResultVar}

theorem AThen.normal (h : K a A) : AThen K Q .normal a A := h
theorem AThen.ret (h : Q .ret a A) : AThen K Q .ret a A := h
theorem AThen.exit {id : Nat} (h : Q (.exit id) a A) : AThen K Q (.exit id) a A := h
theorem AIn.normal {id : Nat} (h : Q .normal a A) : AIn id Q .normal a A := h
theorem AIn.ret {id : Nat} (h : Q .ret a A) : AIn id Q .ret a A := h
theorem AIn.hit {id : Nat} (h : Q .normal a A) : AIn id Q (.exit id) a A := by simp only [AIn, if_true]; exact h
theorem AIn.miss {id id' : Nat} (hn : (id' == id) = false) (h : Q (.exit id') a A) : AIn id Q (.exit id') a A := by
  have : ¬ id' = id := by simpa using hn
  simp only [AIn]; rw [if_neg this]; exact h
theorem AEnd.ret {v : Value} (h1 : ares P A a rs = some v) (h2 : R v A) : AEnd P rs R .ret a A := ⟨v, h1, h2⟩
theorem AEnd.normal {v : Value} (h1 : ares P A a rs = some v) (h2 : R v A) : AEnd P rs R .normal a A := ⟨v, h1, h2⟩
theorem ARounds.step {c : Code} {k : Nat} (h : AT P n m c a A (AThen (ARounds P n m c Q k) Q)) : ARounds P n m c Q (k + 1) a A := h

theorem i64_wrap {x : Int} (h1 : -9223372036854775808 ≤ x) (h2 : x ≤ 9223372036854775807) : IntKind.i64.wrap x = x := by
  rw [IntKind.wrap_i64]; omega

variable {ops : Array Oper} {rest : List Oper} {o : Oper}
theorem AOp.addI {t t2 : TypeId} {X Y : Operand} {x y : Int} (ho : o.op = .binOp .add t X Y t2) (hx : aev A.gl a X = some (.int .i64 x)) (hy : aev A.gl a Y = some (.int .i64 y)) (h1 : -9223372036854775808 ≤ x + y ∧ x + y ≤ 9223372036854775807) : AOp P n o a A (isR (.int .i64 (x + y)) A) :=
  .ibin ho hx hy (by simp only [M.ibin]; rw [i64_wrap h1.1 h1.2])
theorem AOp.subI {t t2 : TypeId} {X Y : Operand} {x y : Int} (ho : o.op = .binOp .sub t X Y t2) (hx : aev A.gl a X = some (.int .i64 x)) (hy : aev A.gl a Y = some (.int .i64 y)) (h1 : -9223372036854775808 ≤ x - y ∧ x - y ≤ 9223372036854775807) : AOp P n o a A (isR (.int .i64 (x - y)) A) :=
  .ibin ho hx hy (by simp only [M.ibin]; rw [i64_wrap h1.1 h1.2])
theorem AOp.mulI {t t2 : TypeId} {X Y : Operand} {x y : Int} (ho : o.op = .binOp .mul t X Y t2) (hx : aev A.gl a X = some (.int .i64 x)) (hy : aev A.gl a Y = some (.int .i64 y)) (h1 : -9223372036854775808 ≤ x * y ∧ x * y ≤ 9223372036854775807) : AOp P n o a A (isR (.int .i64 (x * y)) A) :=
  .ibin ho hx hy (by simp only [M.ibin]; rw [i64_wrap h1.1 h1.2])
theorem AOp.negI {t : TypeId} {X : Operand} {x : Int} (ho : o.op = .unOp .neg t X) (hx : aev A.gl a X = some (.int .i64 x)) (h1 : -9223372036854775808 ≤ -x ∧ -x ≤ 9223372036854775807) : AOp P n o a A (isR (.int .i64 (-x)) A) := by
  have := AOp.neg (P := P) (n := n) (A := A) ho hx
  rw [i64_wrap (by omega) (by omega)] at this
  rwa [show 0 - x = -x by omega] at this
/-- Division by a positive number, of one that is not negative. -/
theorem AOp.quoI {t t2 : TypeId} {X Y : Operand} {x y : Int} (ho : o.op = .binOp .quo t X Y t2) (hx : aev A.gl a X = some (.int .i64 x)) (hy : aev A.gl a Y = some (.int .i64 y)) (h1 : 0 < y) (h2 : 0 ≤ x ∧ x ≤ 9223372036854775807) : AOp P n o a A (isR (.int .i64 (x / y)) A) :=
  .ibin ho hx hy (by
    have e : x.tdiv y = x / y := Int.tdiv_eq_ediv_of_nonneg h2.1
    have h3 : 0 ≤ x / y := Int.ediv_nonneg h2.1 (by omega)
    have h4 : x / y ≤ x := Int.ediv_le_self _ h2.1
    simp only [M.ibin]
    rw [if_neg (by omega), e, i64_wrap (by omega) (by omega)])
theorem AOp.remI {k : IntKind} {t t2 : TypeId} {X Y : Operand} {x y : Int} (ho : o.op = .binOp .rem t X Y t2) (hx : aev A.gl a X = some (.int k x)) (hy : aev A.gl a Y = some (.int k y)) (h1 : 0 < y) (h2 : 0 ≤ x) : AOp P n o a A (isR (.int k (x % y)) A) :=
  .ibin ho hx hy (by simp only [M.ibin]; rw [if_neg (by omega), Int.tmod_eq_emod_of_nonneg h2])
/-- Division toward zero. -/
theorem AOp.quoT {t t2 : TypeId} {X Y : Operand} {x y : Int} (ho : o.op = .binOp .quo t X Y t2) (hx : aev A.gl a X = some (.int .i64 x)) (hy : aev A.gl a Y = some (.int .i64 y)) (h1 : 0 < y) (h2 : -9223372036854775808 ≤ x ∧ x ≤ 9223372036854775807) : AOp P n o a A (isR (.int .i64 (x.tdiv y)) A) :=
  .ibin ho hx hy (by simp only [M.ibin]; rw [if_neg (by omega), wrap_i64_tdiv x y h2.1 h2.2 (by omega)])
theorem AOp.remT {k : IntKind} {t t2 : TypeId} {X Y : Operand} {x y : Int} (ho : o.op = .binOp .rem t X Y t2) (hx : aev A.gl a X = some (.int k x)) (hy : aev A.gl a Y = some (.int k y)) (h1 : 0 < y) : AOp P n o a A (isR (.int k (x.tmod y)) A) :=
  .ibin ho hx hy (by simp only [M.ibin]; rw [if_neg (by omega)])

/-- Comparisons. -/
def icmp (op : BinOp) (x y : Int) : Option Bool :=
  match op with
  | .eql => some (decide (x = y))
  | .neq => some (!decide (x = y))
  | .lss => some (decide (x < y))
  | .leq => some (decide (x ≤ y))
  | .gtr => some (decide (y < x))
  | .geq => some (decide (y ≤ x))
  | _ => none
theorem AOp.icmp {op : BinOp} {k : IntKind} {t t2 : TypeId} {X Y : Operand} {x y : Int} {b : Bool} (ho : o.op = .binOp op t X Y t2) (hx : aev A.gl a X = some (.int k x)) (hy : aev A.gl a Y = some (.int k y)) (h : M.icmp op x y = some b) : AOp P n o a A (isR (.bool b) A) :=
  .ibin ho hx hy (by unfold M.icmp at h; cases op <;> first | (cases h; rfl) | cases h)
theorem AOp.convI {s d : TypeId} {x : Operand} {k k' : IntKind} {i : Int} (ho : o.op = .convert s d x) (hx : aev A.gl a x = some (.int k i)) (hs : P.underlying s = some (.int k)) (hd : P.underlying d = some (.int k')) (hw : k'.wrap i = i) : AOp P n o a A (isR (.int k' i) A) := by
  have := AOp.iconv (P := P) (n := n) ho hx hs hd
  rwa [hw] at this

theorem AC.isOf {f : FuncId} {args args2 : List Value} {v : Value} {L : List (Nat × AObj)} {k : Nat} (ρ : Nat → Option (Nat × Nat)) (h : AC P f args (AW.of L k k 0) (fun u _ => u = v)) (hv : ∃ j, noAddrs j [v] = true)
    (hk : ∀ j x, ρ j = some x → j < k) (hd : ∀ j, alook L j = none → ρ j = none) (hL : ∀ j o, alook L j = some o → j < k ∧ ∃ x, ρ j = some x ∧ objIn A x.1 x.2 o) (ha : AR ρ args args2) : AC P f args2 A (isR v A) :=
  AC.pureOf (R := fun u => u = v) ρ (h.mono fun u _ e => ⟨e, e ▸ hv⟩) hk hd hL ha
end Go.M
namespace Go.M
open Go.RowKit
variable {P : Program} {N n m : Nat} {A A' A1 A2 A0 : AW} {a a1 a0 : AEnv} {Q Q' : AQ} {K : AEnv → AW → Prop} {R : Value → AW → Prop} {rs : List ResultVar}
variable {ops : Array Oper} {rest : List Oper} {o : Oper} {c : Operand} {x y : Code} {p : Prop}

theorem AC.start {f : FuncId} {fn : Func} {body : Code} {args : List Value} (hf : P.funcs[f]? = some fn) (hb : fn.body = some body) (hl : Nat.ble args.length fn.ntmps = true)
    (h : AT P fn.ntmps A.next body (argEnv 0 args) A (AEnd P fn.results.toList R)) : AC P f args A R := AC.enter hf hb rfl (Nat.le_of_ble_eq_true hl) h

def aerase : List (Nat × AObj) → Nat → List (Nat × AObj)
  | [], _ => []
  | (s, x) :: r, j => if s = j then aerase r j else (s, x) :: aerase r j
theorem alook_aerase : ∀ (L : List (Nat × AObj)) (j i : Nat), alook (aerase L j) i = if i = j then none else alook L i
  | [], j, i => by simp [aerase, alook]
  | (s, x) :: r, j, i => by
    simp only [aerase]
    split
    · rename_i e; subst e
      rw [alook_aerase r s i]
      simp only [alook]
      by_cases q : i = s
      · simp [q]
      · simp [q, Ne.symm q]
    · rename_i e
      simp only [alook, alook_aerase r j i]
      by_cases q : s = i
      · subst q; simp [e]
      · simp [q]
abbrev LM := List (Nat × AObj)
theorem AW.of_kill {L : LM} {nx ro gl : Nat} (j : Nat) : (AW.of L nx ro gl).upd j none = AW.of (aerase L j) nx ro gl := by
  simp only [AW.upd, AW.of, AW.mk.injEq, and_true]
  funext i
  rw [alook_aerase]
theorem AW.of_burn {L : LM} {nx ro gl : Nat} : (AW.of L nx ro gl).burn = AW.of L (nx + 1) ro gl := rfl

/-- What comes out: a value, the memory, the next name. -/
abbrev Out := Option (Value × LM × Nat)
def Out.is (L : LM) (nx : Nat) (x : Option Value) : Out := x.map fun v => (v, L, nx)

def lput (L : LM) (ro b f : Nat) (vs : List Value) : Option LM :=
  match alook L b with
  | some (.cells c e) => if Nat.ble ro b && Nat.ble (f + vs.length) c.length then some (aset L b (.cells (splice c f vs) e)) else none
  | _ => none
theorem lput_eq {L L' : LM} {nx ro gl b f : Nat} {vs : List Value} (h : lput L ro b f vs = some L') : (AW.of L nx ro gl).put b f vs = some (AW.of L' nx ro gl) := by
  unfold lput at h
  split at h
  · rename_i cs e he
    split at h
    · rename_i hc
      simp only [Bool.and_eq_true] at hc
      cases h
      unfold AW.put
      have : (AW.of L nx ro gl).objs b = some (.cells cs e) := he
      rw [this]
      simp only
      rw [if_pos ⟨Nat.le_of_ble_eq_true hc.1, Nat.le_of_ble_eq_true hc.2⟩, AW.of_upd]
    · cases h
  · cases h

def lstore (P : Program) (L : LM) (ro : Nat) (t : TypeId) (v : Value) : Value → Option LM
  | .pointer (some ⟨b, f, none⟩) => if szOf P t = some v.cells.size ∧ v.cells.toList.all (·.oneCell') = true then lput L ro b f v.cells.toList else none
  | _ => none
theorem lstore_eq {L L' : LM} {nx ro gl : Nat} {t : TypeId} {v x : Value} (h : lstore P L ro t v x = some L') : astore P (AW.of L nx ro gl) t v x = some (AW.of L' nx ro gl) := by
  unfold lstore at h
  split at h
  · split at h
    · rename_i hc
      unfold astore
      simp only
      rw [if_pos hc]
      exact lput_eq h
    · cases h
  · cases h

def lappend (P : Program) (L : LM) (nx ro : Nat) (gl : Nat) (t : TypeId) (s x : Value) : Out :=
  match P.underlying t with
  | some (.slice e) => match P.info? e with
    | some i => match i.zero with
      | some z => match s with
        | .slice base k c => match asrc (AW.of L nx ro gl) i.size x with
          | some (mm, ys) =>
            if z.cells.size = i.size ∧ 0 < i.size ∧ ys.all (·.oneCell') = true then
              if k + mm ≤ c then
                if mm = 0 then some (.slice base k c, L, nx) else
                match base with
                | some ⟨b, f, none⟩ => (lput L ro b (f + k * i.size) ys).map fun L1 => (.slice base (k + mm) c, L1, nx)
                | _ => none
              else if 0 < mm ∧ k + mm ≤ 140737488355328 ∧ (k + mm) * i.bytes ≤ 140737488355328 then
                match base with
                | none => if k = 0 ∧ c = 0 then some (.slice (some ⟨nx, 0, none⟩) (k + mm) (k + mm), (nx, .cells ys e) :: L, nx + 1) else none
                | some ⟨b, f, none⟩ => match (AW.of L nx ro gl).rd b f (k * i.size), alook L b with
                  | some olds, some (.cells _ e0) => if ro ≤ b ∧ szOf P e0 = some i.size then some (.slice (some ⟨nx, 0, none⟩) (k + mm) (k + mm), (nx, .cells (olds ++ ys) e) :: aerase L b, nx + 1) else none
                  | _, _ => none
                | _ => none
              else none
            else none
          | none => none
        | _ => none
      | none => none
    | none => none
  | _ => none
theorem lappend_eq {L L' : LM} {nx nx' ro gl : Nat} {t : TypeId} {s x v : Value} (h : lappend P L nx ro gl t s x = some (v, L', nx')) : aappend P (AW.of L nx ro gl) t s x = some (v, AW.of L' nx' ro gl) := by
  unfold lappend at h
  unfold aappend
  split at h
  case h_2 => cases h
  rename_i e hu
  rw [hu]
  simp only
  split at h
  case h_2 => cases h
  rename_i i hi
  rw [hi]
  simp only
  split at h
  case h_2 => cases h
  rename_i z hz
  rw [hz]
  simp only
  split at h
  case h_2 => cases h
  rename_i base k cc
  simp only
  split at h
  case h_2 => cases h
  rename_i mm ys hs
  rw [hs]
  simp only
  split at h
  case isFalse => cases h
  rename_i h1
  rw [if_pos h1]
  split at h
  · rename_i h2
    rw [if_pos h2]
    split at h
    · rename_i h3
      rw [if_pos h3]
      cases h
      rfl
    · rename_i h3
      rw [if_neg h3]
      split at h
      · rename_i b f
        cases hp : lput L ro b (f + k * i.size) ys with
        | none => simp [hp] at h
        | some L1 =>
          simp only [hp, Option.map_some, Option.some.injEq, Prod.mk.injEq] at h
          obtain ⟨rfl, rfl, rfl⟩ := h
          simp only [lput_eq (nx := nx) (gl := gl) hp, Option.map_some]
      · cases h
  · rename_i h2
    rw [if_neg h2]
    split at h
    case isFalse => cases h
    rename_i h3
    rw [if_pos h3]
    split at h
    · split at h
      · rename_i h4
        cases h
        simp only
        rw [if_pos h4, AW.of_push]
        rfl
      · cases h
    · rename_i b f
      split at h
      · rename_i olds c0 e0 ho hb
        split at h
        · rename_i h4
          cases h
          simp only
          have hb' : (AW.of L nx ro gl).objs b = some (.cells c0 e0) := hb
          rw [ho, hb']
          simp only
          have h4' : (AW.of L nx ro gl).ro ≤ b ∧ szOf P e0 = some i.size := h4
          rw [if_pos h4', AW.of_kill, AW.of_push]
          rfl
        · cases h
      · cases h
    · cases h

/-- Operations on values. -/
def bstep (P : Program) (op : BinOp) (t : TypeId) (x y : Value) : Option Value :=
  match x, y with
  | .int k i, .int k' j => if k = k' then (icmp op i j).map .bool else none
  | .string i, .string j => sbin op i j
  | .bool i, .bool j => match P.underlying t, op with
    | some .bool, .eql => some (.bool (i == j))
    | some .bool, .neq => some (.bool (!(i == j)))
    | _, _ => none
  | .slice q _ _, .slice none _ _ => match P.underlying t, op with
    | some (.slice _), .eql => some (.bool q.isNone)
    | some (.slice _), .neq => some (.bool (!q.isNone))
    | _, _ => none
  | _, _ => none

theorem AOp.bstep {op : BinOp} {t t2 : TypeId} {X Y : Operand} {vx vy v : Value} (ho : o.op = .binOp op t X Y t2) (hx : aev A.gl a X = some vx) (hy : aev A.gl a Y = some vy) (h : M.bstep P op t vx vy = some v) : AOp P n o a A (isR v A) := by
  unfold M.bstep at h
  split at h
  · split at h
    · rename_i hk
      subst hk
      rename_i k i j
      cases hc : M.icmp op i j with
      | none => simp [hc] at h
      | some b =>
        simp only [hc, Option.map_some, Option.some.injEq] at h
        subst h
        exact AOp.icmp ho hx hy hc
    · cases h
  · exact AOp.sbin ho hx hy h
  · split at h
    · rename_i hu; cases h
      have := AOp.eqBool (P := P) (n := n) ho (.inl rfl) hx hy hu
      simpa using this
    · rename_i hu; cases h
      have := AOp.eqBool (P := P) (n := n) ho (.inr rfl) hx hy hu
      simpa using this
    · cases h
  · split at h
    · rename_i hu; cases h
      have := AOp.eqNil (P := P) (n := n) ho (.inl rfl) hx hy hu
      simpa using this
    · rename_i hu; cases h
      have := AOp.eqNil (P := P) (n := n) ho (.inr rfl) hx hy hu
      simpa using this
    · cases h
  · cases h

def u8s : List Value → Option (List Int)
  | [] => some []
  | .int .u8 n :: r => (u8s r).map (n :: ·)
  | _ => none
theorem u8s_eq : ∀ {vs : List Value} {ns : List Int}, u8s vs = some ns → vs = ns.map (Value.int .u8)
  | [], ns, h => by cases h; rfl
  | v :: r, ns, h => by
    unfold u8s at h
    split at h
    · rename_i e; cases e
    · rename_i n' r' e
      simp only [List.cons.injEq] at e
      obtain ⟨rfl, rfl⟩ := e
      cases hr : u8s r with
      | none => simp [hr] at h
      | some ms =>
        simp only [hr, Option.map_some, Option.some.injEq] at h
        subst h
        rw [u8s_eq hr]; rfl
    · cases h
/-- One operation. -/
def astep (P : Program) (o : Oper) (a : AEnv) (L : LM) (nx ro gl : Nat) : Out :=
  match o.op with
  | .move x | .assign x => (aev gl a x).map fun v => (v, L, nx)
  | .pick c x y => match aev gl a c with
    | some (.bool true) => (aev gl a x).map fun v => (v, L, nx)
    | some (.bool false) => (aev gl a y).map fun v => (v, L, nx)
    | _ => none
  | .alloc e => if (szOf P e).isSome then (zcells P e).map fun z => (.pointer (some ⟨nx, 0, none⟩), (nx, .cells z e) :: L, nx + 1) else none
  | .box e x => if (szOf P e).isSome then (aev gl a x).map fun v => (.pointer (some ⟨nx, 0, none⟩), (nx, .cells v.cells.toList e) :: L, nx + 1) else none
  | .build t parts => (aparts gl a parts.toList).bind fun ps => (abuild P t ps).map fun v => (v, L, nx)
  | .buildSlice t len parts => (aparts gl a parts.toList).bind fun ps => match P.underlying t with
    | some (.slice e) => (szOf P e).bind fun s => (zrow P e len s).bind fun z => if len * s ≤ 16777216 then (afill (fun i => some (i * s, s)) z ps).map fun c => (.slice (some ⟨nx, 0, none⟩) len len, (nx, .cells c e) :: L, nx + 1) else none
    | _ => none
  | .load t x => (aev gl a x).bind fun v => (aload P (AW.of L nx ro gl) t v).map fun v => (v, L, nx)
  | .fieldAddr t x f => (aev gl a x).bind fun v => (afieldAddr P t v f).map fun v => (v, L, nx)
  | .field t x f => (aev gl a x).bind fun v => (afield P t v f).map fun v => (v, L, nx)
  | .extract x i => (aev gl a x).bind fun v => (aextract v i).map fun v => (v, L, nx)
  | .indexAddr t x i => (aev gl a x).bind fun v => (aev gl a i).bind fun u => (aindexAddr P t v u).map fun v => (v, L, nx)
  | .index t x i => (aev gl a x).bind fun v => (aev gl a i).bind fun u => (aindex P t v u).map fun v => (v, L, nx)
  | .lookup t x i ok => (aev gl a x).bind fun v => (aev gl a i).bind fun u => (alookup P (AW.of L nx ro gl) t v u ok).map fun v => (v, L, nx)
  | .slice t x lo hi mx => (aev gl a x).bind fun v => (aevO gl a lo).bind fun l => (aevO gl a hi).bind fun h => (aevO gl a mx).bind fun m => (aslice P (AW.of L nx ro gl) t v l h m).map fun r => (r.1, L, r.2.next)
  | .makeMap _ none => some (.map (some nx), (nx, .map [] 0) :: L, nx + 1)
  | .range t x => match aev gl a x, P.underlying t with
    | some (.string s), some .string => some (.pointer (some ⟨nx, 0, none⟩), (nx, .iter s 0) :: L, nx + 1)
    | _, _ => none
  | .next x true => match aev gl a x with
    | some (.pointer (some ⟨b, 0, none⟩)) => match alook L b with
      | some (.iter s pos) => if ro ≤ b then if pos < s.size then some (.tuple #[.bool true, .int .i64 pos, .int .i32 (Utf8.decode s pos).1], aset L b (.iter s (pos + (Utf8.decode s pos).2)), nx) else some (.tuple #[.bool false], L, nx) else none
      | _ => none
    | _ => none
  | .convert s d x => match P.underlying s, P.underlying d, aev gl a x with
    | some (.slice e), some .string, some (.slice (some ⟨b, f, none⟩) l _) => match P.underlying e with
      | some (.int .u8) => ((AW.of L nx ro gl).rd b f l).bind fun vs => (u8s vs).map fun ns => (.string (bytesOf ns), L, nx)
      | _ => none
    | _, _, _ => none
  | .unOp .not _ x => match aev gl a x with
    | some (.bool b) => some (.bool (!b), L, nx)
    | _ => none
  | .binOp op t x y _ => (aev gl a x).bind fun v => (aev gl a y).bind fun u => (bstep P op t v u).map fun v => (v, L, nx)
  | .call c => match c.callee, c.args.toList, c.argTypes.toList with
    | .builtin .len, [x], [t] => (aev gl a x).bind fun v => (alen P t v).map fun l => (.int .i64 l, L, nx)
    | .builtin .append, [x, y], [t, t'] => if t = t' then (aev gl a x).bind fun v => (aev gl a y).bind fun u => lappend P L nx ro gl t v u else none
    | .builtin .max, [x, y], _ => match aev gl a x, aev gl a y with
      | some (.int k i), some (.int k' j) => if k = k' then some (.int k (max i j), L, nx) else none
      | _, _ => none
    | .builtin .min, [x, y], _ => match aev gl a x, aev gl a y with
      | some (.int k i), some (.int k' j) => if k = k' then some (.int k (min i j), L, nx) else none
      | _, _ => none
    | _, _, _ => none
  | _ => none

theorem Option.map_out {x : Option Value} {L L' : LM} {nx nx' : Nat} {v : Value} (h : (x.map fun v => (v, L, nx)) = some (v, L', nx')) : x = some v ∧ L' = L ∧ nx' = nx := by
  cases x with
  | none => cases h
  | some u => simp only [Option.map_some, Option.some.injEq, Prod.mk.injEq] at h; obtain ⟨rfl, rfl, rfl⟩ := h; exact ⟨rfl, rfl, rfl⟩
theorem bind_some {α β : Type} {x : Option α} {f : α → Option β} {b : β} (h : x.bind f = some b) : ∃ a, x = some a ∧ f a = some b := by
  cases x with
  | none => cases h
  | some a => exact ⟨a, rfl, h⟩

theorem astep_sound {L L' : LM} {nx nx' ro gl : Nat} {v : Value} (h : astep P o a L nx ro gl = some (v, L', nx')) : AOp P n o a (AW.of L nx ro gl) (isR v (AW.of L' nx' ro gl)) := by
  unfold astep at h
  split at h
  · rename_i x ho; obtain ⟨h1, rfl, rfl⟩ := Option.map_out h; exact AOp.move ho h1
  · rename_i x ho; obtain ⟨h1, rfl, rfl⟩ := Option.map_out h; exact AOp.assign ho h1
  · rename_i c x y ho
    split at h
    · rename_i hc; obtain ⟨h1, rfl, rfl⟩ := Option.map_out h; exact AOp.pick ho hc (fun _ => h1) (fun h => by cases h)
    · rename_i hc; obtain ⟨h1, rfl, rfl⟩ := Option.map_out h; exact AOp.pick ho hc (fun h => by cases h) (fun _ => h1)
    · cases h
  · rename_i e ho
    split at h
    · rename_i hs
      cases hz : zcells P e with
      | none => simp [hz] at h
      | some z =>
        simp only [hz, Option.map_some, Option.some.injEq, Prod.mk.injEq] at h
        obtain ⟨rfl, rfl, rfl⟩ := h
        refine AOp.alloc ho ?_
        unfold zcells at hz
        unfold aalloc
        cases h0 : zeroOf P e with
        | none => simp [h0] at hz
        | some zv =>
          simp only [h0, Option.bind_some] at hz
          split at hz
          · rename_i q
            cases hz
            simp only [q, hs, Bool.and_self, if_true]
            rw [AW.of_push]; rfl
          · cases hz
    · cases h
  · rename_i e x ho
    split at h
    · rename_i hs
      cases hx : aev gl a x with
      | none => simp [hx] at h
      | some vx =>
        simp only [hx, Option.map_some, Option.some.injEq, Prod.mk.injEq] at h
        obtain ⟨rfl, rfl, rfl⟩ := h
        refine AOp.box ho hx ?_
        unfold abox
        rw [if_pos hs, AW.of_push]; rfl
    · cases h
  · rename_i t parts ho
    obtain ⟨ps, h1, h⟩ := bind_some h
    obtain ⟨h2, rfl, rfl⟩ := Option.map_out h
    exact AOp.build ho h1 h2
  · rename_i t len parts ho
    obtain ⟨ps, h1, h⟩ := bind_some h
    split at h
    · rename_i e hu
      obtain ⟨s, h2, h⟩ := bind_some h
      obtain ⟨z, h3, h⟩ := bind_some h
      split at h
      · rename_i hb
        cases hf : afill (fun i => some (i * s, s)) z ps with
        | none => simp [hf] at h
        | some cs =>
          simp only [hf, Option.map_some, Option.some.injEq, Prod.mk.injEq] at h
          obtain ⟨rfl, rfl, rfl⟩ := h
          refine AOp.buildSlice ho h1 ?_
          unfold abuildSlice
          rw [hu]
          simp only [h2, h3, Option.bind_some, hf, Option.map_some]
          rw [if_pos hb, AW.of_push]; rfl
      · cases h
    · cases h
  · rename_i t x ho
    obtain ⟨vx, h1, h⟩ := bind_some h
    obtain ⟨h2, rfl, rfl⟩ := Option.map_out h
    exact AOp.load ho h1 h2
  · rename_i t x f ho
    obtain ⟨vx, h1, h⟩ := bind_some h
    obtain ⟨h2, rfl, rfl⟩ := Option.map_out h
    exact AOp.fieldAddr ho h1 h2
  · rename_i t x f ho
    obtain ⟨vx, h1, h⟩ := bind_some h
    obtain ⟨h2, rfl, rfl⟩ := Option.map_out h
    exact AOp.field ho h1 h2
  · rename_i x i ho
    obtain ⟨vx, h1, h⟩ := bind_some h
    obtain ⟨h2, rfl, rfl⟩ := Option.map_out h
    exact AOp.extract ho h1 h2
  · rename_i t x i ho
    obtain ⟨vx, h1, h⟩ := bind_some h
    obtain ⟨vy, h2, h⟩ := bind_some h
    obtain ⟨h3, rfl, rfl⟩ := Option.map_out h
    exact AOp.indexAddr ho h1 h2 h3
  · rename_i t x i ho
    obtain ⟨vx, h1, h⟩ := bind_some h
    obtain ⟨vy, h2, h⟩ := bind_some h
    obtain ⟨h3, rfl, rfl⟩ := Option.map_out h
    exact AOp.index ho h1 h2 h3
  · rename_i t x i ok ho
    obtain ⟨vx, h1, h⟩ := bind_some h
    obtain ⟨vy, h2, h⟩ := bind_some h
    obtain ⟨h3, rfl, rfl⟩ := Option.map_out h
    exact AOp.lookup ho h1 h2 h3
  · rename_i t x lo hi mx ho
    obtain ⟨vx, h1, h⟩ := bind_some h
    obtain ⟨vl, h2, h⟩ := bind_some h
    obtain ⟨vh, h3, h⟩ := bind_some h
    obtain ⟨vm, h4, h⟩ := bind_some h
    cases h5 : aslice P (AW.of L nx ro gl) t vx vl vh vm with
    | none => simp [h5] at h
    | some r =>
      simp only [h5, Option.map_some, Option.some.injEq, Prod.mk.injEq] at h
      obtain ⟨rfl, rfl, rfl⟩ := h
      have e : r.2 = AW.of L r.2.next ro gl := by
        have key : ∀ B : AW, (B = AW.of L nx ro gl ∨ B = (AW.of L nx ro gl).burn) → B = AW.of L B.next ro gl := by
          rintro B (rfl | rfl) <;> rfl
        apply key
        unfold aslice at h5
        split at h5
        · split at h5
          · cases h5; exact .inl rfl
          · cases h5
        · split at h5
          · split at h5
            · cases h5; exact .inl rfl
            · split at h5
              · cases h5; exact .inr rfl
              · split at h5
                · cases h5; exact .inl rfl
                · cases h5
            · cases h5
          · cases h5
        · split at h5
          · cases h5; exact .inl rfl
          · cases h5
        · cases h5
      have h5' : aslice P (AW.of L nx ro gl) t vx vl vh vm = some (r.1, AW.of L r.2.next ro gl) := by rw [h5, ← e]
      exact AOp.slice ho h1 h2 h3 h4 h5'
  · rename_i t ho
    cases h
    have := AOp.makeMap (P := P) (n := n) (A := AW.of L nx ro gl) (a := a) ho
    simp only [amakeMap, AW.of_push] at this
    exact this
  · rename_i t x ho
    split at h
    · rename_i s h1 h2
      cases h
      have := AOp.range (P := P) (n := n) (A := AW.of L nx ro gl) ho h1 h2
      rw [AW.of_push] at this
      exact this
    · cases h
  · rename_i x ho
    split at h
    · rename_i b h1
      split at h
      · rename_i s pos hb
        split at h
        · rename_i hro
          have hb' : (AW.of L nx ro gl).objs b = some (.iter s pos) := hb
          have hro' : (AW.of L nx ro gl).ro ≤ b := hro
          split at h
          · rename_i hp
            cases h
            have : anext (AW.of L nx ro gl) (.pointer (some ⟨b, 0, none⟩)) = some (.tuple #[.bool true, .int .i64 pos, .int .i32 (Utf8.decode s pos).1], AW.of (aset L b (.iter s (pos + (Utf8.decode s pos).2))) nx ro gl) := by
              unfold anext
              simp only [hb']
              rw [if_pos hro', if_pos hp, AW.of_upd]
            exact AOp.next ho h1 this
          · rename_i hp
            cases h
            have : anext (AW.of L nx ro gl) (.pointer (some ⟨b, 0, none⟩)) = some (.tuple #[.bool false], AW.of L nx ro gl) := by
              unfold anext
              simp only [hb']
              rw [if_pos hro', if_neg hp]
            exact AOp.next ho h1 this
        · cases h
      · cases h
    · cases h
  · rename_i s d x ho
    split at h
    · rename_i e b f l cc h1 h2 h3
      split at h
      · rename_i h4
        obtain ⟨vs, h5, h⟩ := bind_some h
        cases h6 : u8s vs with
        | none => simp [h6] at h
        | some ns =>
          simp only [h6, Option.map_some, Option.some.injEq, Prod.mk.injEq] at h
          obtain ⟨rfl, rfl, rfl⟩ := h
          exact AOp.bytesString ho h3 h1 h4 h2 (by rw [h5, u8s_eq h6])
      · cases h
    · cases h
  · rename_i t x ho
    split at h
    · rename_i b h1; cases h; exact AOp.not ho h1
    · cases h
  · rename_i op t x y t2 ho
    obtain ⟨vx, h1, h⟩ := bind_some h
    obtain ⟨vy, h2, h⟩ := bind_some h
    obtain ⟨h3, rfl, rfl⟩ := Option.map_out h
    exact AOp.bstep ho h1 h2 h3
  · rename_i c ho
    split at h
    · rename_i x t hc ha ht
      obtain ⟨vx, h1, h⟩ := bind_some h
      cases h2 : alen P t vx with
      | none => simp [h2] at h
      | some l =>
        simp only [h2, Option.map_some, Option.some.injEq, Prod.mk.injEq] at h
        obtain ⟨rfl, rfl, rfl⟩ := h
        exact AOp.len ho hc ha ht h1 h2
    · rename_i x y t t' hc ha ht
      split at h
      · rename_i e; subst e
        obtain ⟨vx, h1, h⟩ := bind_some h
        obtain ⟨vy, h2, h⟩ := bind_some h
        exact AOp.append ho hc ha ht h1 h2 (lappend_eq h)
      · cases h
    · rename_i x y hc ha
      split at h
      · rename_i k i k' j h1 h2
        split at h
        · rename_i e; subst e; cases h; exact AOp.imax ho hc ha h1 h2
        · cases h
      · cases h
    · rename_i x y hc ha
      split at h
      · rename_i k i k' j h1 h2
        split at h
        · rename_i e; subst e; cases h; exact AOp.imin ho hc ha h1 h2
        · cases h
      · cases h
    · cases h
  · cases h

/-- An operation without a value. -/
def nstep (P : Program) (o : Oper) (a : AEnv) (L : LM) (nx ro gl : Nat) : Option LM :=
  match o.op with
  | .store t x y => (aev gl a x).bind fun v => (aev gl a y).bind fun u => lstore P L ro t u v
  | .mapUpdate t x y z => (aev gl a x).bind fun v => (aev gl a y).bind fun u => (aev gl a z).bind fun q => match P.underlying t, v with
    | some (.map key _), .map (some b) => match P.underlying key, alook L b with
      | some d, some (.map es clock) => if simpleKey d && noAddrs 8 [u] && decide (ro ≤ b) then (Instr.findNow d u es 0).map fun r => aset L b (amapSet es clock u q r) else none
      | _, _ => none
    | _, _ => none
  | _ => none
theorem nstep_sound {L L' : LM} {nx ro gl : Nat} (h : nstep P o a L nx ro gl = some L') : AOp P n o a (AW.of L nx ro gl) (isR undef (AW.of L' nx ro gl)) := by
  unfold nstep at h
  split at h
  · rename_i t x y ho
    obtain ⟨vx, h1, h⟩ := bind_some h
    obtain ⟨vy, h2, h⟩ := bind_some h
    exact AOp.store ho h1 h2 (lstore_eq h)
  · rename_i t x y z ho
    obtain ⟨vx, h1, g⟩ := bind_some h
    clear h
    obtain ⟨vy, h2, h⟩ := bind_some g
    clear g
    obtain ⟨vz, h3, g⟩ := bind_some h
    clear h
    have h := g
    clear g
    refine AOp.mapUpdate ho h1 h2 h3 ?_
    split at h
    · rename_i key el b hu
      split at h
      · rename_i d es clock hd hb
        split at h
        · rename_i hc
          cases hn : Instr.findNow d vy es 0 with
          | none => simp [hn] at h
          | some r =>
            simp only [hn, Option.map_some, Option.some.injEq] at h
            subst h
            unfold amapUpdate
            rw [hu]
            simp only
            have hb' : (AW.of L nx ro gl).objs b = some (.map es clock) := hb
            rw [hd, hb']
            simp only
            have hc' : (simpleKey d && noAddrs 8 [vy] && decide ((AW.of L nx ro gl).ro ≤ b)) = true := hc
            rw [if_pos hc', hn]
            simp only [Option.map_some, AW.of_upd]
        · cases h
      · cases h
    · cases h
  · cases h

/-! ### The same, with what comes out written out -/
section
variable {β : Type}
def fBin : Nat → Nat → Nat → (Nat → Option β) → Option β
  | 0, lo, _, k => k lo
  | f + 1, lo, x, k => match Nat.ble (lo + 2 ^ f) x with
    | true => fBin f (lo + 2 ^ f) x k
    | false => fBin f lo x k
theorem fBin_eq : ∀ (f lo x : Nat) (k : Nat → Option β), lo ≤ x → x < lo + 2 ^ f → fBin f lo x k = k x
  | 0, lo, x, k, h1, h2 => by
    have : lo = x := by simp at h2; omega
    rw [this]; rfl
  | f + 1, lo, x, k, h1, h2 => by
    unfold fBin
    have e : (2 : Nat) ^ (f + 1) = 2 ^ f + 2 ^ f := by rw [Nat.pow_succ]; omega
    cases q : Nat.ble (lo + 2 ^ f) x with
    | true =>
      have := Nat.le_of_ble_eq_true q
      exact fBin_eq f (lo + 2 ^ f) x k this (by omega)
    | false =>
      have : ¬ lo + 2 ^ f ≤ x := fun h => by rw [Nat.ble_eq_true_of_le h] at q; cases q
      exact fBin_eq f lo x k h1 (by omega)
def fNat (x : Nat) (k : Nat → Option β) : Option β := match Nat.blt x 128 with
  | true => fBin 7 0 x k
  | false => k x
theorem fNat_eq (x : Nat) (k : Nat → Option β) : fNat x k = k x := by
  unfold fNat
  cases q : Nat.blt x 128 with
  | true => exact fBin_eq 7 0 x k (Nat.zero_le _) (by have := Nat.le_of_ble_eq_true q; simp at this ⊢; omega)
  | false => rfl
def fS (v : Value) (k : Value → Option β) : Option β := match v with
  | .int a b => k (.int a b)
  | .bool b => k (.bool b)
  | .string s => k (.string s)
  | v => k v
theorem fS_eq (v : Value) (k : Value → Option β) : fS v k = k v := by cases v <;> rfl
def fVs : List Value → (List Value → Option β) → Option β
  | [], k => k []
  | v :: vs, k => fS v fun v => fVs vs fun vs => k (v :: vs)
theorem fVs_eq : ∀ (vs : List Value) (k : List Value → Option β), fVs vs k = k vs
  | [], _ => rfl
  | v :: vs, k => by simp only [fVs, fS_eq, fVs_eq vs]
def fV (v : Value) (k : Value → Option β) : Option β := match v with
  | .agg c => fVs c.toList fun l => k (.agg l.toArray)
  | .tuple c => fVs c.toList fun l => k (.tuple l.toArray)
  | .pointer (some ⟨b, o, none⟩) => fNat b fun b => fNat o fun o => k (.pointer (some ⟨b, o, none⟩))
  | .slice (some ⟨b, o, none⟩) l c => fNat b fun b => fNat o fun o => fNat l fun l => fNat c fun c => k (.slice (some ⟨b, o, none⟩) l c)
  | .int a b => k (.int a b)
  | .bool b => k (.bool b)
  | .string s => k (.string s)
  | v => k v
theorem fV_eq (v : Value) (k : Value → Option β) : fV v k = k v := by
  unfold fV
  split <;> simp only [fVs_eq, fNat_eq, Array.toArray_toList]
def fO (o : AObj) (k : AObj → Option β) : Option β := match o with
  | .cells c e => fVs c fun c => k (.cells c e)
  | o => k o
theorem fO_eq (o : AObj) (k : AObj → Option β) : fO o k = k o := by cases o <;> simp only [fO, fVs_eq]
def fL : LM → (LM → Option β) → Option β
  | [], k => k []
  | (j, o) :: r, k => fNat j fun j => fO o fun o => fL r fun r => k ((j, o) :: r)
theorem fL_eq : ∀ (L : LM) (k : LM → Option β), fL L k = k L
  | [], _ => rfl
  | (j, o) :: r, k => by simp only [fL, fNat_eq, fO_eq, fL_eq r]
def fHead (L : LM) (k : LM → Option β) : Option β := match L with
  | (j, o) :: r => fNat j fun j => fO o fun o => k ((j, o) :: r)
  | [] => k []
theorem fHead_eq (L : LM) (k : LM → Option β) : fHead L k = k L := by
  unfold fHead
  split
  · simp only [fNat_eq, fO_eq]
  · rfl
end
def polish (o : Oper) (v : Value) (L : LM) (nx : Nat) : Out := match o.op with
  | .alloc _ | .box .. | .buildSlice .. | .makeMap .. | .range .. => fV v fun v => fHead L fun L => fNat nx fun nx => some (v, L, nx)
  | .load .. | .build .. | .fieldAddr .. | .indexAddr .. | .index .. | .field .. => fV v fun v => some (v, L, nx)
  | .slice .. => fV v fun v => fNat nx fun nx => some (v, L, nx)
  | .call _ | .next .. => fV v fun v => fL L fun L => fNat nx fun nx => some (v, L, nx)
  | _ => fS v fun v => some (v, L, nx)
theorem polish_eq (o : Oper) (v : Value) (L : LM) (nx : Nat) : polish o v L nx = some (v, L, nx) := by
  unfold polish
  split <;> simp only [fV_eq, fHead_eq, fNat_eq, fL_eq, fS_eq]
def astepF (P : Program) (o : Oper) (a : AEnv) (L : LM) (nx ro gl : Nat) : Out := match astep P o a L nx ro gl with
  | some (v, L, nx) => polish o v L nx
  | none => none
theorem astepF_sound {L L' : LM} {nx nx' ro gl : Nat} {v : Value} (h : astepF P o a L nx ro gl = some (v, L', nx')) : AOp P n o a (AW.of L nx ro gl) (isR v (AW.of L' nx' ro gl)) := by
  unfold astepF at h
  split at h
  · rename_i h1
    rw [polish_eq] at h
    cases h
    exact astep_sound h1
  · cases h
def nstepF (P : Program) (o : Oper) (a : AEnv) (L : LM) (nx ro gl : Nat) : Option LM := (nstep P o a L nx ro gl).bind fun L => fL L some
theorem nstepF_eq {L L' : LM} {nx ro gl : Nat} (h : nstepF P o a L nx ro gl = some L') : nstep P o a L nx ro gl = some L' := by
  unfold nstepF at h
  obtain ⟨x, h1, h2⟩ := bind_some h
  rw [fL_eq] at h2
  rw [h1, h2]
end Go.M
