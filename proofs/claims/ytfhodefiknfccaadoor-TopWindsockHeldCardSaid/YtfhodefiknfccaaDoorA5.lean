/- Part of the abstract machine of this claim (no condition). -/
import Derived.Test.YtfhodefiknfccaaDoorA4
set_option linter.unusedVariables false
set_option linter.unusedSimpArgs false
namespace Go.M
open Go.RowKit
variable {P : Program} {n m n0 : Nat} {A A' A1 A2 : AW} {a a0 a1 : AEnv} {Q Q' : AQ} {R : Value → AW → Prop} {o : Oper} {fn : Func} {L L' : LM} {nx nx' ro gl : Nat} {rs : List ResultVar}

def YBody (P : Program) (n0 nm : Nat) (a0 : AEnv) (f : FuncId) (ps : Array Tmp) (assign body : Code) (ro gl : Nat) (R : Value → AW → Prop) : AQ := fun e _ A2 =>
  (e = .normal ∧ ∃ L2 nx2, A2 = AW.of L2 nx2 ro gl ∧ alook L2 nm = some (.loop false n0 a0 f ps assign body) ∧ R (.bool true) (AW.of (aset L2 nm (.loop true n0 a0 f ps assign body)) nx2 ro gl)) ∨
  (e = .ret ∧ ∃ L2 nx2, A2 = AW.of L2 nx2 ro gl ∧ alook L2 nm = some (.loop false n0 a0 f ps assign body) ∧ R (.bool false) (AW.of (aset L2 nm (.over .ret)) nx2 ro gl))
def YAssign (P : Program) (n0 m nm : Nat) (a0 : AEnv) (f : FuncId) (ps : Array Tmp) (assign body : Code) (ro gl : Nat) (R : Value → AW → Prop) : AQ := fun e a1 A1 =>
  e = .normal ∧ ∃ L1 nx1, A1 = AW.of L1 nx1 ro gl ∧ alook L1 nm = some (.loop true n0 a0 f ps assign body) ∧ GT P n0 m body a1 (aset L1 nm (.loop false n0 a0 f ps assign body)) nx1 ro gl (YBody P n0 nm a0 f ps assign body ro gl R)
theorem GP.yAssign {nm : Nat} {f : FuncId} {ps : Array Tmp} {assign body : Code} (h1 : alook L nm = some (.loop true n0 a0 f ps assign body)) (h : GT P n0 m body a (aset L nm (.loop false n0 a0 f ps assign body)) nx ro gl (YBody P n0 nm a0 f ps assign body ro gl R)) : GP (YAssign P n0 m nm a0 f ps assign body ro gl R) .normal a L nx ro gl :=
  ⟨⟨rfl, L, nx, rfl, h1, h⟩⟩
theorem GP.yBody {nm : Nat} {f : FuncId} {ps : Array Tmp} {assign body : Code} (h1 : alook L nm = some (.loop false n0 a0 f ps assign body)) (h : R (.bool true) (AW.of (aset L nm (.loop true n0 a0 f ps assign body)) nx ro gl)) : GP (YBody P n0 nm a0 f ps assign body ro gl R) .normal a L nx ro gl :=
  ⟨.inl ⟨rfl, L, nx, rfl, h1, h⟩⟩
theorem GP.yRet {nm : Nat} {f : FuncId} {ps : Array Tmp} {assign body : Code} (h1 : alook L nm = some (.loop false n0 a0 f ps assign body)) (h : R (.bool false) (AW.of (aset L nm (.over .ret)) nx ro gl)) : GP (YBody P n0 nm a0 f ps assign body ro gl R) .ret a L nx ro gl :=
  ⟨.inr ⟨rfl, L, nx, rfl, h1, h⟩⟩
theorem GO.yield {c : Call} {t : Operand} {nm : Nat} {vs : List Value} {ps : Array Tmp} {assign body : Code} {f : FuncId} (ho : o.op = .call c) (hc : c.callee = .value t) (ht : aev gl a t = some (.func (.yield nm) #[] #[]))
    (ha : aevs gl a c.args.toList = some vs) (hob : alook L nm = some (.loop true n0 a0 f ps assign body)) (hro : Nat.ble ro nm = true) (hlen : vs.length = ps.size) (hps : (ps.toList.all fun p => decide (p < n0)) = true)
    (h : GT P n0 nx assign (zipEnv ps.toList vs a0) L nx ro gl (YAssign P n0 nx nm a0 f ps assign body ro gl R)) : GO P n o a L nx ro gl R :=
  ⟨AOp.yield ho hc ht ha hob (Nat.le_of_ble_eq_true hro) hlen (fun p hp => by have := List.all_eq_true.1 hps p hp; simpa using this) (AT.mono h.run fun e a1 A1 ⟨he, L1, nx1, hA, h1, hg⟩ => by
    subst hA
    refine ⟨he, h1, ?_⟩
    rw [AW.of_upd]
    refine AT.mono hg.run fun e a2 A2 q => ?_
    rcases q with ⟨he2, L2, nx2, hA2, h2, hr⟩ | ⟨he2, L2, nx2, hA2, h2, hr⟩
    · subst hA2
      exact .inl ⟨he2, h2, by rw [AW.of_upd]; exact hr⟩
    · subst hA2
      exact .inr ⟨he2, h2, by rw [AW.of_upd]; exact hr⟩)⟩

/-- What is left of a function that ranges over a function. -/
structure GF (P : Program) (n m : Nat) (fn : Func) (c : Code) (a : AEnv) (L : LM) (nx ro gl : Nat) (R : Value → AW → Prop) : Prop where
  run : AF P n m fn c a (AW.of L nx ro gl) R
def GFThen (P : Program) (n m ro gl : Nat) (fn : Func) (y : Code) (R : Value → AW → Prop) : AQ := AThen (fun a A => ∃ L nx, A = AW.of L nx ro gl ∧ GF P n m fn y a L nx ro gl R) (AEnd P fn.results.toList R)
theorem GF.seq {x y : Code} (h : GT P n m x a L nx ro gl (GFThen P n m ro gl fn y R)) : GF P n m fn (.seq x y) a L nx ro gl R :=
  ⟨AF.seq (AT.mono h.run fun e a A q => by
    cases e with
    | normal => obtain ⟨L, nx, rfl, hg⟩ := q; exact hg.run
    | exit id => exact q
    | goto l => exact q
    | ret => exact q
    | panic ch => exact q
    | outgrown => exact q)⟩
theorem GP.fthen {y : Code} (h : GF P n m fn y a L nx ro gl R) : GP (GFThen P n m ro gl fn y R) .normal a L nx ro gl := ⟨⟨L, nx, rfl, h⟩⟩
theorem GP.fret {y : Code} (h : GP (AEnd P fn.results.toList R) .ret a L nx ro gl) : GP (GFThen P n m ro gl fn y R) .ret a L nx ro gl := ⟨h.run⟩
theorem AC.goF {f : FuncId} {fn : Func} {body : Code} {args : List Value} (hf : P.funcs[f]? = some fn) (hb : fn.body = some body) (hl : Nat.ble args.length fn.ntmps = true)
    (h : GF P fn.ntmps nx fn body (argEnv 0 args) L nx ro gl R) : AC P f args (AW.of L nx ro gl) R := AC.enterF hf hb rfl (Nat.le_of_ble_eq_true hl) h.run
/-- Behind the loop: the last operations, from a memory without the loop's record. -/
def FEnd (P : Program) (dn ro gl : Nat) (rs : List ResultVar) (R : Value → AW → Prop) : AQ := fun e a1 A4 => e = .normal ∧ ∃ L4 nx4, A4 = AW.of L4 nx4 ro gl ∧ alook L4 dn = some .dfr ∧ ∃ v, ares P (AW.of (aerase L4 dn) nx4 ro gl) a1 rs = some v ∧ R v (AW.of (aerase L4 dn) nx4 ro gl)
theorem GP.fend1 {dn : Nat} {v : Value} (h1 : alook L dn = some .dfr) (h2 : aresList P (AW.of (aerase L dn) nx ro gl) a rs = some [v]) (h3 : R v (AW.of (aerase L dn) nx ro gl)) : GP (FEnd P dn ro gl rs R) .normal a L nx ro gl :=
  ⟨⟨rfl, L, nx, rfl, h1, v, by unfold ares; rw [h2]; rfl, h3⟩⟩
theorem GP.fend2 {dn : Nat} {v u : Value} (h1 : alook L dn = some .dfr) (h2 : aresList P (AW.of (aerase L dn) nx ro gl) a rs = some [v, u]) (h3 : R (.tuple #[v, u]) (AW.of (aerase L dn) nx ro gl)) : GP (FEnd P dn ro gl rs R) .normal a L nx ro gl :=
  ⟨⟨rfl, L, nx, rfl, h1, _, by unfold ares; rw [h2]; rfl, h3⟩⟩
theorem GF.range {id id2 : Nat} {g : Operand} {ps : Array Tmp} {assign body gbody : Code} {l : List Oper} {gf : FuncId} {gfn : Func} {caps : Array Value}
    (hg : aev gl a g = some (.func (.func gf) #[] caps)) (hgf : P.funcs[gf]? = some gfn) (hgb : gfn.body = some gbody) (hgn : (gfn.name == "runtime.NumGoroutine") = false)
    (hit : ∀ f, AC P gf (.func (.yield (nx + 1)) #[] #[] :: caps.toList) (AW.of ((nx + 1, .loop true n a f ps assign body) :: (nx, .dfr) :: L) (nx + 2) ro gl) (fun _ A3 => ∃ L3 nx3, A3 = AW.of L3 nx3 ro gl ∧ alook L3 (nx + 1) = some (.loop true n a f ps assign body) ∧ alook L3 nx = some .dfr ∧
      GL P n (nx + 1) l.toArray l a (aerase L3 (nx + 1)) nx3 ro gl (FEnd P nx ro gl fn.results.toList R))) :
    GF P n m fn (.seq (.block id (.rangeFunc g ps assign body)) (.seq (.region id2 l.toArray false) .ret)) a L nx ro gl R :=
  ⟨AF.rangeTail hg hgf hgb hgn fun f => by
    have e : ((AW.of L nx ro gl).push .dfr).push (.loop true n a f ps assign body) = AW.of ((nx + 1, .loop true n a f ps assign body) :: (nx, .dfr) :: L) (nx + 2) ro gl := by
      rw [AW.of_push, AW.of_push]
    rw [e]
    refine AC.mono (hit f) fun v A3 ⟨L3, nx3, hA, h1, h2, hl⟩ => ?_
    subst hA
    refine ⟨h1, h2, ?_⟩
    show AL _ _ _ _ _ _ ((AW.of L3 nx3 ro gl).upd (nx + 1) none) _
    rw [AW.of_kill]
    have := hl.run
    refine fun r w0 N w β S ae hm hs he => wpListIn_mono (fun e ae1 w1 ⟨β1, S1, a1, A1, hx, hy, he1, L4, nx4, hA4, hd, v, hv, hr⟩ => ⟨β1, S1, a1, A1, hx, hy, he1, ?_⟩) _ _ _ (this r w0 N w β S ae hm hs he)
    subst hA4
    refine ⟨hd, v, ?_⟩
    show ares _ ((AW.of L4 nx4 ro gl).upd nx none) _ _ = _ ∧ R v ((AW.of L4 nx4 ro gl).upd nx none)
    rw [AW.of_kill]
    exact ⟨hv, hr⟩⟩

/-- A call that gives a value that names at most objects that nobody needs. -/
theorem AR.vrsDead {β β' : Bet} {S S' : Nat → Prop} {ρ : Nat → Option (Nat × Nat)} {vs us : List Value} (h : AR ρ vs us) (hρ : ∀ j x, ρ j = some x → β' j = none ∧ S' j) : ∀ {vs' : List Value}, VRs β S us vs' → VRs β' S' vs vs' := by
  induction h with
  | nil => intro vs' hv; cases hv; exact .nil
  | @flat v vs us kk hn _ ih =>
    intro vs' hv
    cases vs' with
    | nil => have := hv.length; simp at this
    | cons v' vs' =>
      have e : v' = v := by have := VRs.eq_of_noAddrs hv.cons_inv.1 kk hn; simpa using this
      subst e
      exact VRs.cons (VRs.refl_of_noAddrs kk _ hn) (ih hv.cons_inv.2)
  | @ptr j b f g h vs us hr he _ ih =>
    intro vs' hv
    obtain ⟨e1, e2⟩ := hρ j _ hr
    cases hv with
    | ptr hs hb hv => exact .ptrD e2 e1 (ih hv)
    | ptrD hs hb hv => exact .ptrD e2 e1 (ih hv)
  | @sl j b f g h n c vs us hr he _ ih =>
    intro vs' hv
    obtain ⟨e1, e2⟩ := hρ j _ hr
    cases hv with
    | sl hs hb hc ho hv => exact .slD e2 e1 hc (ih hv)
    | slD hs hb hc hv => exact .slD e2 e1 hc (ih hv)
  | @map j b f vs us hr _ ih =>
    intro vs' hv
    obtain ⟨e1, e2⟩ := hρ j _ hr
    cases hv with
    | map hs hb hv => exact .mapD e2 e1 (ih hv)
    | mapD hs hb hv => exact .mapD e2 e1 (ih hv)
  | agg _ _ ih1 ih2 => intro vs' hv; cases hv with | agg g q => exact .agg (ih1 g) (ih2 q)
  | tuple _ _ ih1 ih2 => intro vs' hv; cases hv with | tuple g q => exact .tuple (ih1 g) (ih2 q)
  | func hy _ _ _ ih1 ih2 ih3 =>
    intro vs' hv
    cases hv with
    | func hy' g1 g2 q => exact .func hy (ih1 g1) (ih2 g2) (ih3 q)
    | yield _ _ _ => exact absurd rfl (hy _)
    | yieldD _ _ _ => exact absurd rfl (hy _)
theorem AC.givesD {f : FuncId} {args args2 : List Value} {k G : Nat} {Φ : Value → Prop} (ρ : Nat → Option (Nat × Nat))
    (h : AC P f args (AW.of L k k G) (fun v _ => ∃ u nm, Φ u ∧ AR (fun j => if j = A.next then some (nm, 0) else none) [u] [v]))
    (hk : ∀ j x, ρ j = some x → j < k) (hd : ∀ j, alook L j = none → ρ j = none) (hL : ∀ j o, alook L j = some o → j < k ∧ ∃ x, ρ j = some x ∧ objIn A x.1 x.2 o) (ha : AR ρ args args2)
    (hgl : G = 0 ∨ (A.gl = G ∧ (∀ g, g < G → ρ g = some (g, 0)) ∧ G ≤ k)) : AC P f args2 A (fun v A1 => Φ v ∧ A1 = A.burn) := by
  intro w0 N w β S args' hs hv
  have hsm : Sim P w w.heap.size (M.small ρ k β) (fun j => j < k) (AW.of L k k G) w := by
    rcases hgl with rfl | ⟨h1, h2, h3⟩
    · exact hs.small hk hd hL
    · exact hs.smallG hk hd hL h1 h2 h3
  refine Calls.mono (h w w.heap.size w _ _ args' hsm (ha.vrs hk hv)) fun en w1 he => ?_
  cases en with
  | panicked => exact he
  | outgrown => exact he
  | returned v' =>
    obtain ⟨β1, S1, v, A1, h1, h2, u, nm, hΦ, har⟩ := he
    have hb := (hs.again h1.sim.below).burn
    refine ⟨_, _, u, _, ⟨hb.1, hb.2.1.near, by show A.next ≤ A.next + 1; omega, rfl, rfl⟩, har.vrsDead (fun j x hx => ?_) h2, hΦ, rfl⟩
    split at hx
    · rename_i q; subst q; exact ⟨hb.2.2, .inr rfl⟩
    · cases hx
end Go.M
namespace Go.M
open Go.RowKit
variable {P : Program} {w0 w w' w1 w2 : World} {N n m n0 : Nat} {β β' β1 β2 : Bet} {S S' S1 S2 : Nat → Prop} {A A' A1 A2 : AW} {L : LM}
theorem AR.ofFlat {ρ : Nat → Option (Nat × Nat)} : ∀ {k : Nat} {vs : List Value}, noAddrs k vs = true → AR ρ vs vs
  | 0, _, h => by simp [noAddrs] at h
  | _ + 1, [], _ => .nil
  | k + 1, v :: vs, h => by
    have h2 : noAddrs k vs = true := by simp only [noAddrs, Bool.and_eq_true] at h; exact h.2
    have h1 : noAddrs (k + 1) [v] = true := by
      cases k with
      | zero => simp [noAddrs] at h2
      | succ k => simp only [noAddrs, Bool.and_eq_true] at h ⊢; exact ⟨h.1, trivial⟩
    exact .flat h1 (AR.ofFlat h2)
/-- What a small object is of the great memory. -/
def objX (ρ : Nat → Option (Nat × Nat)) (A : AW) (b f : Nat) : AObj → Prop
  | .cells c _ => ∃ c', A.rd b f c.length = some c' ∧ AR ρ c c'
  | _ => False
theorem objX.flat {ρ : Nat → Option (Nat × Nat)} {b f k : Nat} {c : List Value} {e : TypeId} (h : A.rd b f c.length = some c) (hc : noAddrs k c = true) : objX ρ A b f (.cells c e) := ⟨c, h, .ofFlat hc⟩
structure SmallX (A : AW) (L : LM) (k G : Nat) (ρ : Nat → Option (Nat × Nat)) : Prop where
  hk : ∀ j x, ρ j = some x → j < k
  hd : ∀ j, alook L j = none → ρ j = none
  hL : ∀ j o, alook L j = some o → j < k ∧ ∃ x, ρ j = some x ∧ objX ρ A x.1 x.2 o
  hgl : G ≤ A.gl
  hG : ∀ g, g < G → ρ g = some (g, 0)
  hGk : G ≤ k
theorem Sim.smallX {ρ : Nat → Option (Nat × Nat)} {k G : Nat} (h : Sim P w0 N β S A w) (s : SmallX A L k G ρ) : Sim P w w.heap.size (M.small ρ k β) (fun j => j < k) (AW.of L k k G) w := by
  have hlt : ∀ j L', M.small ρ k β j = some L' → j < k := fun j L' hj => by
    unfold M.small at hj
    split at hj
    · assumption
    · cases hj
  refine ⟨.refl _ _, Nat.le_refl _, ?_, fun j hj => ?_, fun j o ho => (s.hL j o ho).1, fun i j L1 L2 hi _ hb _ => ?_, fun i L1 hi hb => ?_, fun j hj => hj, Nat.le_refl _, fun g hg => ?_, s.hGk, fun j L1 _ hb => ?_⟩
  · intro j o ho
    obtain ⟨hj, ⟨b, f⟩, hr, hin⟩ := s.hL j o ho
    have hdec : decide ((AW.of L k k G).ro ≤ j) = false := by
      show decide (k ≤ j) = false
      simp only [decide_eq_false_iff_not]; omega
    rw [hdec]
    cases o with
    | cells c e =>
      obtain ⟨c2, h1, har⟩ := hin
      unfold AW.rd at h1
      split at h1
      · rename_i c0 e0 hob
        split at h1
        · rename_i hfit
          simp only [Option.some.injEq] at h1
          obtain ⟨L0, hb, cs, e', fz, g1, g2, g3, g4, _⟩ := h.live b _ hob
          have hc : VRs β S c2 ((cs.toList.drop (L0.off + f)).take c.length) := by
            rw [← list_inner cs.toList L0.off c0.length f c.length hfit]
            have := (g4.drop f).take c.length
            rw [h1] at this
            exact this
          exact ⟨⟨L0.blk, L0.off + f, 0, L0.tot⟩, by simp [M.small, hj, hr, hb], cs, e', fz, g1, g2, by show L0.off + f + c.length ≤ L0.tot; omega, har.vrs s.hk hc, by simp⟩
        · cases h1
      · cases h1
    | map es kk => exact hin.elim
    | iter s p => exact hin.elim
    | loop => exact hin.elim
    | dfr => exact hin.elim
    | over => exact hin.elim
  · have := s.hd j hj
    simp [M.small, this]
  · have := hlt i L1 hb
    have hi : k ≤ i := hi
    omega
  · have := hlt i L1 hb
    have hi : k ≤ i := hi
    omega
  · have hg : g < G := hg
    obtain ⟨_, L0, e1, e2, e3⟩ := h.glob g (Nat.lt_of_lt_of_le hg s.hgl)
    have hgk : g < k := Nat.lt_of_lt_of_le hg s.hGk
    exact ⟨hgk, ⟨L0.blk, L0.off + 0, 0, L0.tot⟩, by simp [M.small, hgk, s.hG g hg, e1], e2, by show L0.off + 0 = 0; omega⟩
  · unfold M.small at hb
    split at hb
    · cases hρ : ρ j with
      | none => simp [hρ] at hb
      | some x =>
        cases hβ : β x.1 with
        | none => simp [hρ, hβ] at hb
        | some L' => simp [hρ, hβ] at hb; subst hb; rfl
    · cases hb
theorem AC.pureX {f : FuncId} {args args2 : List Value} {R : Value → Prop} {k G : Nat} {ρ : Nat → Option (Nat × Nat)} (s : SmallX A L k G ρ) (h : AC P f args (AW.of L k k G) (fun v _ => R v ∧ ∃ j, noAddrs j [v] = true)) (ha : AR ρ args args2) :
    AC P f args2 A (fun v A1 => R v ∧ A1 = A) := by
  intro w0 N w β S args' hs hv
  refine Calls.mono (h w w.heap.size w _ _ args' (hs.smallX s) (ha.vrs s.hk hv)) fun e w1 he => ?_
  cases e with
  | returned v' =>
    obtain ⟨β1, S1, v, A1, h1, h2, hr, j, hj⟩ := he
    have q : [v'] = [v] := VRs.eq_of_noAddrs h2 j hj
    have q : v' = v := by simpa using q
    subst q
    exact ⟨β, S, v', A, ⟨hs.again h1.sim.below, .refl _ _ _, Nat.le_refl _, rfl, rfl⟩, VRs.refl_of_noAddrs j _ hj, hr, rfl⟩
  | panicked => exact he
  | outgrown => exact he
theorem AC.isX {f : FuncId} {args args2 : List Value} {v : Value} {k G : Nat} {ρ : Nat → Option (Nat × Nat)} (s : SmallX A L k G ρ) (h : AC P f args (AW.of L k k G) (fun u _ => u = v)) (hv : ∃ j, noAddrs j [v] = true) (ha : AR ρ args args2) : AC P f args2 A (isR v A) :=
  AC.pureX (R := fun u => u = v) s (h.mono fun u _ e => ⟨e, e ▸ hv⟩) ha
theorem AC.givesX {f : FuncId} {args args2 : List Value} {k G : Nat} {Φ : List Value → Prop} {e : TypeId} {v2 : Value} {ρ : Nat → Option (Nat × Nat)} (s : SmallX A L k G ρ)
    (h : AC P f args (AW.of L k k G) (fun v A1 => ∃ nm cs, A1.objs nm = some (.cells cs e) ∧ k ≤ nm ∧ (∃ j, noAddrs j cs = true) ∧ Φ cs ∧ AR (fun j => if j = A.next then some (nm, 0) else none) [v2] [v])) (ha : AR ρ args args2) :
    AC P f args2 A (fun v A1 => ∃ cs, Φ cs ∧ v = v2 ∧ A1 = A.push (.cells cs e)) := by
  intro w0 N w β S args' hs hv
  refine Calls.mono (h w w.heap.size w _ _ args' (hs.smallX s) (ha.vrs s.hk hv)) fun en w1 he => ?_
  cases en with
  | panicked => exact he
  | outgrown => exact he
  | returned v' =>
    obtain ⟨β1, S1, v, A1, h1, h2, nm, cs, hob, hnm, ⟨j, hj⟩, hΦ, har⟩ := he
    obtain ⟨L1, hb1, cs', e', fz, g1, g2, g3, g4, g5⟩ := h1.sim.live nm _ hob
    have hro : A1.ro ≤ nm := by rw [h1.ro]; exact hnm
    have hblk := h1.sim.hi nm L1 hro hb1
    have e4 := VRs.eq_of_noAddrs g4 j hj
    have hagain := hs.again h1.sim.below
    have hcl := hagain.claim (w' := w1) (.cells cs e) L1 (fun i L' hi => by have := hs.blk_lt hi; omega) (by have := hs.size_le; omega) hagain.below (fun _ _ _ => rfl)
      ⟨cs', e', fz, g1, g2, g3, by rw [e4]; exact VRs.refl_of_noAddrs j _ hj, fun _ => g5 (by simp [hro])⟩
    refine ⟨_, _, _, _, ⟨hcl.1, hcl.2.near, by show A.next ≤ A.next + 1; omega, rfl, rfl⟩, har.vrsTo (fun j x hx => ?_) h2, cs, hΦ, rfl, rfl⟩
    split at hx
    · rename_i q
      subst q
      cases hx
      exact ⟨rfl, by simp [hb1], fun _ => .inr rfl⟩
    · cases hx
theorem AC.givesDX {f : FuncId} {args args2 : List Value} {k G : Nat} {Φ : Value → Prop} {ρ : Nat → Option (Nat × Nat)} (s : SmallX A L k G ρ)
    (h : AC P f args (AW.of L k k G) (fun v _ => ∃ u nm, Φ u ∧ AR (fun j => if j = A.next then some (nm, 0) else none) [u] [v])) (ha : AR ρ args args2) : AC P f args2 A (fun v A1 => Φ v ∧ A1 = A.burn) := by
  intro w0 N w β S args' hs hv
  refine Calls.mono (h w w.heap.size w _ _ args' (hs.smallX s) (ha.vrs s.hk hv)) fun en w1 he => ?_
  cases en with
  | panicked => exact he
  | outgrown => exact he
  | returned v' =>
    obtain ⟨β1, S1, v, A1, h1, h2, u, nm, hΦ, har⟩ := he
    have hb := (hs.again h1.sim.below).burn
    refine ⟨_, _, u, _, ⟨hb.1, hb.2.1.near, by show A.next ≤ A.next + 1; omega, rfl, rfl⟩, har.vrsDead (fun j x hx => ?_) h2, hΦ, rfl⟩
    split at hx
    · rename_i q; subst q; exact ⟨hb.2.2, .inr rfl⟩
    · cases hx
/-- A literal memory: one object on top of others. -/
theorem SmallX.nil {A : AW} : SmallX A [] 0 0 (fun _ => none) := ⟨by simp, by simp, by simp [alook], Nat.zero_le _, by simp, Nat.le_refl _⟩
theorem AR.mono {ρ ρ' : Nat → Option (Nat × Nat)} {vs us : List Value} (h : AR ρ vs us) (hm : ∀ j x, ρ j = some x → ρ' j = some x) : AR ρ' vs us := by
  induction h with
  | nil => exact .nil
  | flat hn _ ih => exact .flat hn ih
  | ptr hr he _ ih => exact .ptr (hm _ _ hr) he ih
  | sl hr he _ ih => exact .sl (hm _ _ hr) he ih
  | map hr _ ih => exact .map (hm _ _ hr) ih
  | agg _ _ ih1 ih2 => exact .agg ih1 ih2
  | tuple _ _ ih1 ih2 => exact .tuple ih1 ih2
  | func hy _ _ _ ih1 ih2 ih3 => exact .func hy ih1 ih2 ih3
theorem objX.mono {ρ ρ' : Nat → Option (Nat × Nat)} {b f : Nat} {o : AObj} (h : objX ρ A b f o) (hm : ∀ j x, ρ j = some x → ρ' j = some x) : objX ρ' A b f o := by
  cases o with
  | cells c e => obtain ⟨c', h1, h2⟩ := h; exact ⟨c', h1, h2.mono hm⟩
  | map es kk => exact h.elim
  | iter s p => exact h.elim
  | loop => exact h.elim
  | dfr => exact h.elim
  | over => exact h.elim
abbrev onto (k b f : Nat) (ρ : Nat → Option (Nat × Nat)) : Nat → Option (Nat × Nat) := fun j => if j = k then some (b, f) else ρ j
theorem SmallX.cons {A : AW} {L : LM} {k G b f : Nat} {ρ : Nat → Option (Nat × Nat)} {o : AObj} (s : SmallX A L k G ρ) (ho : objX (onto k b f ρ) A b f o) : SmallX A ((k, o) :: L) (k + 1) G (onto k b f ρ) := by
  have hm : ∀ j x, ρ j = some x → onto k b f ρ j = some x := fun j x h => by
    have := s.hk j x h
    have hne : j ≠ k := by omega
    simp [onto, hne, h]
  refine ⟨fun j x hx => ?_, fun j hj => ?_, fun j y hy => ?_, s.hgl, fun g hg => hm g _ (s.hG g hg), by have := s.hGk; omega⟩
  · simp only [onto] at hx
    split at hx
    · omega
    · have := s.hk j x hx; omega
  · simp only [alook] at hj
    split at hj
    · cases hj
    · rename_i hne
      have hne : j ≠ k := fun e => hne e.symm
      simp [onto, hne, s.hd j hj]
  · simp only [alook] at hy
    split at hy
    · rename_i e
      subst e; cases hy
      exact ⟨by omega, (b, f), by simp [onto], ho⟩
    · obtain ⟨h1, x, h2, h3⟩ := s.hL j y hy
      exact ⟨by omega, x, hm j x h2, h3.mono hm⟩
end Go.M
namespace Go.M
open Go.RowKit
variable {P : Program} {n m : Nat} {a a1 : AEnv} {Q : AQ} {o : Oper} {L L' : LM} {nx ro gl : Nat}
/-- The slice that grows by one element of 's' cells. -/
theorem GO.appendG {c : Call} {t e e0 : TypeId} {X Y : Operand} {inf : TypeInfo} {z : Value} {b i ycap : Nat} {yb : Option Addr} {olds ys : List Value} (ho : o.op = .call c) (hc : c.callee = .builtin .append) (ha : c.args.toList = [X, Y]) (ht : c.argTypes.toList = [t, t])
    (hx : aev gl a X = some (.slice (some ⟨b, 0, none⟩) i i)) (hy : aev gl a Y = some (.slice yb 1 ycap)) (hu : P.underlying t = some (.slice e)) (hi : P.info? e = some inf) (hz : inf.zero = some z) (hzc : z.cells.size = inf.size) (hpos : Nat.blt 0 inf.size = true)
    (hys : asrc (AW.of L nx ro gl) inf.size (.slice yb 1 ycap) = some (1, ys)) (hone : ys.all (·.oneCell') = true) (hlo : alook L b = some (.cells olds e0)) (hlen : olds.length = i * inf.size) (hro : ro ≤ b) (hsz : szOf P e0 = some inf.size) (hbytes : inf.bytes ≤ 1000) (hbig : i ≤ 1000000) :
    GO P n o a L nx ro gl (isR (.slice (some ⟨nx, 0, none⟩) (i + 1) (i + 1)) (AW.of ((nx, .cells (olds ++ ys) e) :: aerase L b) (nx + 1) ro gl)) :=
  ⟨AOp.append ho hc ha ht hx hy (by
    have hob : (AW.of L nx ro gl).objs b = some (.cells olds e0) := hlo
    have hrd : (AW.of L nx ro gl).rd b 0 (i * inf.size) = some olds := by
      unfold AW.rd
      rw [hob]
      simp only
      rw [if_pos (by omega), List.drop_zero, List.take_of_length_le (by omega)]
    have hpos := Nat.lt_of_lt_of_le (Nat.lt_succ_self 0) (Nat.le_of_ble_eq_true hpos)
    have hb : (i + 1) * inf.bytes ≤ 140737488355328 := Nat.le_trans (Nat.mul_le_mul (show i + 1 ≤ 1000001 by omega) hbytes) (by decide)
    unfold aappend
    rw [hu]; simp only; rw [hi]; simp only; rw [hz]; simp only; rw [hys]; simp only
    rw [if_pos ⟨hzc, hpos, hone⟩, if_neg (by omega), if_pos ⟨by decide, by omega, hb⟩, hrd, hob]
    simp only
    rw [if_pos ⟨hro, hsz⟩, AW.of_kill, AW.of_push]
    rfl)⟩
theorem GT.resetL {c : Code} (k : Nat) (ha : asub a1 a) (hL : subm L' L) (hk : k ≤ nx) (hm : Nat.ble m k = true) (hro : Nat.ble ro k = true) (hu : ∀ j y, alook L' j = some y → j < k ∧ ObjLt k y) (he : EnvLt k a1) (hg : ∀ g, g < gl → (alook L' g).isSome = true)
    (h : GT P n m c a1 L' k ro gl Q) : GT P n m c a L nx ro gl Q := by
  refine ⟨fun r w0 N w β S ae hmn hs her => ?_⟩
  have hm := Nat.le_of_ble_eq_true hm
  have hro := Nat.le_of_ble_eq_true hro
  have hs' := hs.reset (A' := AW.of L' k ro gl) rfl rfl hro (fun j o ho => ⟨hL j o ho, hu j o ho⟩) hg
  refine wpIn_mono (h.run r w0 N w _ _ ae hm hs' ?_) (fun e ae1 w1 g => ?_)
  rotate_left
  · obtain ⟨β1, S1, a2, A2, hx, hy, hz⟩ := g
    refine ⟨β1, S1, a2, A2, ⟨hx.sim, ?_, hx.next, hx.ro, hx.gl⟩, hy, hz⟩
    have near1 : Near m β S (fun j => if ((AW.of L' k ro gl).objs j).isSome then β j else none) (fun j => S j ∧ j < (AW.of L' k ro gl).next) :=
      ⟨fun i _ _ => by by_cases q : ((AW.of L' k ro gl).objs i).isSome <;> simp [q], fun i hi hsi => ⟨hsi, by show i < k; omega⟩, fun i _ hsi => hsi.1⟩
    exact near1.trans hx.near (Nat.le_refl _)
  · refine ⟨her.size, her.defers, fun t v hv => ?_⟩
    obtain ⟨v', e1, r⟩ := her.get t v (ha t v hv)
    refine ⟨v', e1, ?_⟩
    exact (he.get hv β S _ r).mono (fun j _ => by by_cases q : ((AW.of L' k ro gl).objs j).isSome <;> simp [q]) (fun _ hj => hj)
end Go.M
namespace Go.M
open Go.RowKit
variable {P : Program} {w0 w w' w1 w2 : World} {N n m n0 : Nat} {β β' β1 β2 : Bet} {S S' S1 S2 : Nat → Prop} {A A' A1 A2 : AW} {a a0 a1 : AEnv} {ae : Act} {Q Q' : AQ} {R : Value → AW → Prop} {o : Oper} {fn : Func} {L L' : LM} {nx nx' ro gl : Nat}
def RangeOk (P : Program) (n m : Nat) (fn : Func) (g : Operand) (ps : Array Tmp) (assign body : Code) (l : List Oper) (R : Value → AW → Prop) (aa : AEnv) (A : AW) : Prop := ∃ (a : AEnv) (gf : FuncId) (gfn : Func) (gbody : Code) (caps : Array Value),
  asub a aa ∧ aev A.gl a g = some (.func (.func gf) #[] caps) ∧ P.funcs[gf]? = some gfn ∧ gfn.body = some gbody ∧ (gfn.name == "runtime.NumGoroutine") = false ∧
  ∀ f, AC P gf (.func (.yield (A.next + 1)) #[] #[] :: caps.toList) ((A.push .dfr).push (.loop true n a f ps assign body)) (fun _ A3 => (A3.objs (A.next + 1) = some (.loop true n a f ps assign body) ∧ A3.objs A.next = some .dfr ∧
      AL P n (A.next + 1) l.toArray l a (A3.upd (A.next + 1) none) (fun e a1 A4 => e = .normal ∧ A4.objs A.next = some .dfr ∧ ∃ v, ares P (A4.upd A.next none) a1 fn.results.toList = some v ∧ R v (A4.upd A.next none))) ∨
      (A3.objs (A.next + 1) = some (.over .ret) ∧ A3.objs A.next = some .dfr ∧ ∃ v, ares P ((A3.upd (A.next + 1) none).upd A.next none) a fn.results.toList = some v ∧ R v ((A3.upd (A.next + 1) none).upd A.next none)))
theorem AF.rangeCore {id id2 : Nat} {g : Operand} {ps : Array Tmp} {assign body : Code} {l : List Oper} (hok : RangeOk P n m fn g ps assign body l R a A) {w0 : World} {N : Nat} {w : World} {β : Bet} {S : Nat → Prop} {ae : Act} (hm : m ≤ A.next) (hs : Sim P w0 N β S A w) (he : ER n β S a ae) {Z : Ending → World → Prop}
    (hz : ∀ v v' w1 β1 S1 A1, R v A1 → Aft P w0 N m β S A β1 S1 A1 w1 → VR β1 S1 v v' → Z (.returned v') w1) :
    (Code.block id (.rangeFunc g ps assign body)).wpIn (FR none) 0 P (Exit.then (((Code.region id2 l.toArray false).seq .ret).wpIn (FR none) 0 P (bodyPostM (FR none) 0 P fn Z)) (bodyPostM (FR none) 0 P fn Z)) ae w := by
  obtain ⟨a, gf, gfn, gbody, caps, hsub, hg, hgf, hgb, hgn, hit⟩ := hok
  replace he := he.sub hsub
  refine wpIn_block (wpIn_rangeFunc fun f _ => ?_)
  have hs1 := hs.push .dfr (.deferred (some [])) ⟨w.heap.size, 0, 0, 0⟩ rfl (World.alloc_heap_new w _)
  have hn1 : Near A.next β S _ _ := hs1.2.1.near
  have he1 : ER n _ _ a ae := he.near hn1 hs.sub
  have hnew : (w.alloc (.deferred (some []))).heap.size = w.heap.size + 1 := World.size_alloc ..
  have hL2 := World.alloc_heap_new (w.alloc (.deferred (some []))) (.loop { state := .ready, pending := none, fn := f, tmps := ae.tmps, params := ps, assign := assign, body := body, defers := w.heap.size })
  have hext : Ext (A.next + 1) (fun j => if j = A.next then some ⟨w.heap.size, 0, 0, 0⟩ else β j) (fun i => S i ∨ i = A.next) (fun j => if j = A.next + 1 then some ⟨w.heap.size + 1, 0, 0, 0⟩ else if j = A.next then some ⟨w.heap.size, 0, 0, 0⟩ else β j) (fun i => (S i ∨ i = A.next) ∨ i = A.next + 1) :=
    ⟨fun i hi => .inl (by
      have : i ≠ A.next + 1 := by
        rcases hi with hi | hi
        · have := hs.sub i hi; omega
        · omega
      simp [this]), fun i hi => .inl hi, fun i hi => by
        rcases hi with hi | hi
        · exact .inl hi
        · exact .inr (by omega)⟩
  have he2 : ER n _ _ a ae := he1.near hext.near hs1.1.sub
  have hs2 := hs1.1.push (.loop true n a f ps assign body) (.loop { state := .ready, pending := none, fn := f, tmps := ae.tmps, params := ps, assign := assign, body := body, defers := w.heap.size }) ⟨w.heap.size + 1, 0, 0, 0⟩ hnew.symm
    ⟨ae.tmps, w.heap.size, by rw [← hnew]; exact hL2, he.size, he2.get⟩
  have hs2' : Sim P w0 N (fun j => if j = A.next + 1 then some ⟨w.heap.size + 1, 0, 0, 0⟩ else if j = A.next then some ⟨w.heap.size, 0, 0, 0⟩ else β j) (fun i => (S i ∨ i = A.next) ∨ i = A.next + 1) ((A.push .dfr).push (.loop true n a f ps assign body)) ((w.alloc (.deferred (some []))).alloc (.loop { state := .ready, pending := none, fn := f, tmps := ae.tmps, params := ps, assign := assign, body := body, defers := w.heap.size })) := hs2.1
  have hn2 : Near A.next β S (fun j => if j = A.next + 1 then some ⟨w.heap.size + 1, 0, 0, 0⟩ else if j = A.next then some ⟨w.heap.size, 0, 0, 0⟩ else β j) (fun i => (S i ∨ i = A.next) ∨ i = A.next + 1) := hn1.trans hext.near (by omega)
  have hgv := aev_sound hs he hg
  generalize hge : ae.eval g = gv at hgv
  cases hgv with
  | @func _ _ f' _ c' _ _ hne hf1 hc1 _ =>
    have hf0 : f' = #[] := by
      have := hf1.length
      simp at this
      exact Array.eq_empty_of_size_eq_zero this.symm
    subst hf0
    refine ⟨w.heap.size + 1, [{ target := .collected w.heap.size, args := #[] }], _, { target := .fn (.func gf) c', args := #[.func (.yield (w.heap.size + 1)) #[] #[]] }, ((w.alloc (.deferred (some []))).alloc (.loop { state := .ready, pending := none, fn := f, tmps := ae.tmps, params := ps, assign := assign, body := body, defers := w.heap.size })), gf, #[.func (.yield (w.heap.size + 1)) #[] #[]] ++ c', _,
      run_enterLoop_outer _ _ _ _ _, ?_, fun _ _ => trivial, ?_, fun h => by simp at h, callsIn_FR (Calls.mono (hit f w0 N _ _ _ _ hs2' ?_) ?_)⟩
    · simp only [resolve, hge]
      simp [go_sem, Deferred.ofValue]
    · have hn' : ¬ gfn.name = "runtime.NumGoroutine" := by simpa using hgn
      simp [invoke, callFunc, hgf, hn', hgb]
    · have := VRs.yield (b := A.next + 1) (L := ⟨w.heap.size + 1, 0, 0, 0⟩) (β := (fun j => if j = A.next + 1 then some ⟨w.heap.size + 1, 0, 0, 0⟩ else if j = A.next then some ⟨w.heap.size, 0, 0, 0⟩ else β j)) (S := (fun i => (S i ∨ i = A.next) ∨ i = A.next + 1)) (.inr rfl) (by simp) (hn2.VRs hs.sub hc1)
      simpa using this
    · intro e w3 he3
      cases e with
      | panicked => exact he3.elim
      | outgrown => exact he3.elim
      | returned v' =>
        obtain ⟨β3, S3, v, A3, hx, _, hcase⟩ := he3
        rcases hcase with ⟨hob, hd, hal⟩ | ⟨hob, hd, hal⟩
        · obtain ⟨L3, e3, tmps3, D3, hl3, hsz3, hget3⟩ := hx.sim.live (A.next + 1) _ hob
          have hS3 : ∀ i, i < A.next + 2 → ((S i ∨ i = A.next) ∨ i = A.next + 1) → S3 i := fun i hi h => hx.near.sub i hi h
          have eL3 : L3 = ⟨w.heap.size + 1, 0, 0, 0⟩ := by
            rcases hx.near.at_ (A.next + 1) (by show A.next + 1 < A.next + 1 + 1; omega) (.inr rfl) with q | q
            · rw [q] at e3; simp at e3; exact e3.symm
            · rw [q] at e3; cases e3
          subst eL3
          have hro3 : A3.ro = A.ro := hx.ro
          have hrole := hs.role
          refine ⟨none, _, run_endLoop hl3 (by simp), ?_⟩
          have hs4 := hx.sim.gone (b := A.next + 1) (by omega) e3 (.loop { state := .exhausted, pending := none, fn := f, tmps := tmps3, params := ps, assign := assign, body := body, defers := D3 })
          have hn3 : Near A.next β3 S3 (fun j => if j = A.next + 1 then none else β3 j) S3 := ⟨fun i hi _ => by
            have : i ≠ A.next + 1 := by omega
            exact .inl (by simp [this]), fun i _ h => h, fun i _ h => h⟩
          have hn4 : Near A.next β S (fun j => if j = A.next + 1 then none else β3 j) S3 :=
            (hn2.trans hx.near (by show A.next ≤ A.next + 1 + 1; omega)).trans hn3 (Nat.le_refl _)
          have he4 : ER n (fun j => if j = A.next + 1 then none else β3 j) S3 a ae := he.near hn4 hs.sub
          have hnx : A.next + 2 ≤ A3.next := hx.next
          have hcode := hal none w0 N _ _ _ ae (by show A.next + 1 ≤ A3.next; omega) hs4 he4
          have hact : ({ ae with defers := [({ target := .collected w.heap.size, args := #[] } : Deferred)] ++ ae.defers } : Act) = { ae with defers := ae.defers ++ [({ target := .collected w.heap.size, args := #[] } : Deferred)] } := by
            rw [he.defers]; rfl
          show ((Code.region id2 l.toArray false).seq .ret).wpIn _ _ _ _ _ _
          rw [hact]
          refine wpIn_seq (wpIn_region_lit (wpListIn_defers (fun e a5 w5 hp => ?_) l ae _ hcode))
          obtain ⟨β5, S5, a5', A4, gx, gy, rfl, hd5, v5, e5, hR⟩ := hp
          refine wpIn_ret ?_
          show LeavesInM (FR none) 0 P fn a5.tmps Z (a5.defers ++ _) .returning w5
          rw [gy.defers]
          obtain ⟨L5, f5, r5⟩ := gx.sim.live A.next _ hd5
          have hLd : β3 A.next = some ⟨w.heap.size, 0, 0, 0⟩ := by
            obtain ⟨Ld, ed, _⟩ := hx.sim.live A.next _ hd
            rcases hx.near.at_ A.next (by show A.next < A.next + 1 + 1; omega) (.inl (.inr rfl)) with q | q
            · rw [q]; simp
            · rw [q] at ed; cases ed
          have eL5 : L5 = ⟨w.heap.size, 0, 0, 0⟩ := by
            rcases gx.near.at_ A.next (by omega) (hS3 A.next (by omega) (.inl (.inr rfl))) with q | q
            · rw [q] at f5; simp [hLd] at f5; exact f5.symm
            · rw [q] at f5; cases f5
          subst eL5
          have hro5 : A4.ro = A.ro := gx.ro.trans hro3
          refine ⟨by simp, .inl ⟨w.heap.size, _, rfl, run_takeDeferred r5, ?_⟩⟩
          have hs6 := gx.sim.gone (b := A.next) (by omega) f5 (.deferred none)
          have hn6 : ∀ k, Near k β5 S5 (fun j => if j = A.next then none else β5 j) S5 := fun k => ⟨fun i _ _ => by by_cases q : i = A.next <;> simp [q], fun _ _ h => h, fun _ _ h => h⟩
          obtain ⟨v6, e6, rv⟩ := ares_sound hs6 (gy.near (hn6 A4.next) gx.sim.sub) e5
          refine ⟨v6, e6, hz v5 v6 _ _ _ _ hR ⟨hs6, ?_, ?_, hro5, gx.gl.trans hx.gl⟩ rv⟩
          · exact (((Near.refl m β S).trans hn4 hm).trans gx.near (by omega)).trans (hn6 m) (Nat.le_refl _)
          · have := gx.next
            show m ≤ A4.next
            omega
        · obtain ⟨L3, e3, r3, hl3, hst3, hpd3⟩ := hx.sim.live (A.next + 1) _ hob
          have hS3 : ∀ i, i < A.next + 2 → ((S i ∨ i = A.next) ∨ i = A.next + 1) → S3 i := fun i hi h => hx.near.sub i hi h
          have eL3 : L3 = ⟨w.heap.size + 1, 0, 0, 0⟩ := by
            rcases hx.near.at_ (A.next + 1) (by show A.next + 1 < A.next + 1 + 1; omega) (.inr rfl) with q | q
            · rw [q] at e3; simp at e3; exact e3.symm
            · rw [q] at e3; cases e3
          subst eL3
          have hro3 : A3.ro = A.ro := hx.ro
          have hrole := hs.role
          refine ⟨some .ret, _, by rw [← hpd3]; exact run_endLoop hl3 (by rw [hst3]; simp), ?_⟩
          have hs4 := hx.sim.gone (b := A.next + 1) (by omega) e3 (.loop { r3 with state := .exhausted })
          have hn3 : Near A.next β3 S3 (fun j => if j = A.next + 1 then none else β3 j) S3 := ⟨fun i hi _ => by
            have : i ≠ A.next + 1 := by omega
            exact .inl (by simp [this]), fun i _ h => h, fun i _ h => h⟩
          have hn4 : Near A.next β S (fun j => if j = A.next + 1 then none else β3 j) S3 :=
            (hn2.trans hx.near (by show A.next ≤ A.next + 1 + 1; omega)).trans hn3 (Nat.le_refl _)
          have he4 : ER n (fun j => if j = A.next + 1 then none else β3 j) S3 a ae := he.near hn4 hs.sub
          have hnx : A.next + 2 ≤ A3.next := hx.next
          have hact : ({ ae with defers := [({ target := .collected w.heap.size, args := #[] } : Deferred)] ++ ae.defers } : Act) = { ae with defers := ae.defers ++ [({ target := .collected w.heap.size, args := #[] } : Deferred)] } := by
            rw [he.defers]; rfl
          show (Code.ret).wpIn _ _ _ _ _ _
          rw [hact]
          refine wpIn_ret ?_
          show LeavesInM (FR none) 0 P fn ae.tmps Z (ae.defers ++ _) .returning _
          rw [he.defers]
          obtain ⟨v5, e5, hR⟩ := hal
          have hLd : β3 A.next = some ⟨w.heap.size, 0, 0, 0⟩ := by
            obtain ⟨Ld, ed, _⟩ := hx.sim.live A.next _ hd
            rcases hx.near.at_ A.next (by show A.next < A.next + 1 + 1; omega) (.inl (.inr rfl)) with q | q
            · rw [q]; simp
            · rw [q] at ed; cases ed
          have hd4 : (A3.upd (A.next + 1) none).objs A.next = some .dfr := by
            show (if A.next = A.next + 1 then none else A3.objs A.next) = some .dfr
            rw [if_neg (by omega)]; exact hd
          obtain ⟨L5, f5, r5⟩ := hs4.live A.next _ hd4
          have eL5 : L5 = ⟨w.heap.size, 0, 0, 0⟩ := by simp [hLd] at f5; exact f5.symm
          subst eL5
          refine ⟨by simp, .inl ⟨w.heap.size, _, rfl, run_takeDeferred r5, ?_⟩⟩
          have hs6 := hs4.gone (b := A.next) (by show A3.ro ≤ A.next; omega) f5 (.deferred none)
          have hn6 : ∀ k, Near k (fun j => if j = A.next + 1 then none else β3 j) S3 (fun j => if j = A.next then none else (fun j => if j = A.next + 1 then none else β3 j) j) S3 := fun k => ⟨fun i _ _ => by by_cases q : i = A.next <;> simp [q], fun _ _ h => h, fun _ _ h => h⟩
          obtain ⟨v6, e6, rv⟩ := ares_sound hs6 (he4.near (hn6 A3.next) hs4.sub) e5
          refine ⟨v6, e6, hz v5 v6 _ _ _ _ hR ⟨hs6, ?_, ?_, hro3, hx.gl⟩ rv⟩
          · exact ((Near.refl m β S).trans hn4 hm).trans (hn6 m) (Nat.le_refl _)
          · show m ≤ A3.next
            omega
theorem AF.rangeTail1 {id id2 : Nat} {g : Operand} {ps : Array Tmp} {assign body : Code} {l : List Oper} (hok : RangeOk P n m fn g ps assign body l R a A) : AF P n m fn (.seq (.block id (.rangeFunc g ps assign body)) (.seq (.region id2 l.toArray false) .ret)) a A R :=
  fun w0 N w β S ae hm hs he Z hz => wpIn_seq (AF.rangeCore hok hm hs he hz)
theorem AF.rangeTail2 {x : Code} {id id2 : Nat} {g : Operand} {ps : Array Tmp} {assign body : Code} {l : List Oper} (h : AT P n m x a A (AThen (fun a A => RangeOk P n m fn g ps assign body l R a A) (AEnd P fn.results.toList R))) :
    AF P n m fn (.seq (.seq x (.block id (.rangeFunc g ps assign body))) (.seq (.region id2 l.toArray false) .ret)) a A R :=
  fun w0 N w β S ae hm hs he Z hz => wpIn_seq (wpIn_seq (wpIn_mono (h none w0 N w β S ae hm hs he) (fun e ae1 w1 ⟨β1, S1, a1, A1, hx, hy, hq⟩ => by
    cases e with
    | normal => exact AF.rangeCore hq hx.next hx.sim hy (fun v v' w2 β2 S2 A2 hr gx rv => hz v v' w2 β2 S2 A2 hr (hx.trans gx (Nat.le_refl _)) rv)
    | ret => exact AF.leaves hz hx hy hq
    | exit id => exact hq.elim
    | goto l => exact hq.elim
    | panic ch => exact hq.elim
    | outgrown => exact hq.elim)))
/-- The range, at a literal memory. -/
structure GRange (P : Program) (n m : Nat) (fn : Func) (g : Operand) (ps : Array Tmp) (assign body : Code) (l : List Oper) (R : Value → AW → Prop) (a : AEnv) (L : LM) (nx ro gl : Nat) : Prop where
  run : RangeOk P n m fn g ps assign body l R a (AW.of L nx ro gl)
theorem GRange.of {aa : AEnv} {g : Operand} {ps : Array Tmp} {assign body gbody : Code} {l : List Oper} {gf : FuncId} {gfn : Func} {caps : Array Value}
    (hsub : asub a aa) (hg : aev gl a g = some (.func (.func gf) #[] caps)) (hgf : P.funcs[gf]? = some gfn) (hgb : gfn.body = some gbody) (hgn : (gfn.name == "runtime.NumGoroutine") = false)
    (hit : ∀ f, AC P gf (.func (.yield (nx + 1)) #[] #[] :: caps.toList) (AW.of ((nx + 1, .loop true n a f ps assign body) :: (nx, .dfr) :: L) (nx + 2) ro gl) (fun _ A3 => ∃ L3 nx3, A3 = AW.of L3 nx3 ro gl ∧ alook L3 (nx + 1) = some (.loop true n a f ps assign body) ∧ alook L3 nx = some .dfr ∧
      GL P n (nx + 1) l.toArray l a (aerase L3 (nx + 1)) nx3 ro gl (FEnd P nx ro gl fn.results.toList R))) : GRange P n m fn g ps assign body l R aa L nx ro gl :=
  ⟨a, gf, gfn, gbody, caps, hsub, hg, hgf, hgb, hgn, fun f => by
    have e : ((AW.of L nx ro gl).push .dfr).push (.loop true n a f ps assign body) = AW.of ((nx + 1, .loop true n a f ps assign body) :: (nx, .dfr) :: L) (nx + 2) ro gl := by
      rw [AW.of_push, AW.of_push]
    rw [e]
    refine AC.mono (hit f) fun v A3 ⟨L3, nx3, hA, h1, h2, hl⟩ => ?_
    subst hA
    refine .inl ⟨h1, h2, ?_⟩
    show AL _ _ _ _ _ _ ((AW.of L3 nx3 ro gl).upd (nx + 1) none) _
    rw [AW.of_kill]
    have := hl.run
    refine fun r w0 N w β S ae hm hs he => wpListIn_mono (fun e ae1 w1 ⟨β1, S1, a1, A1, hx, hy, he1, L4, nx4, hA4, hd, v, hv, hr⟩ => ⟨β1, S1, a1, A1, hx, hy, he1, ?_⟩) _ _ _ (this r w0 N w β S ae hm hs he)
    subst hA4
    refine ⟨hd, v, ?_⟩
    show ares _ ((AW.of L4 nx4 ro gl).upd nx none) _ _ = _ ∧ R v ((AW.of L4 nx4 ro gl).upd nx none)
    rw [AW.of_kill]
    exact ⟨hv, hr⟩⟩
/-- The same, for a range that its body may leave by a return. -/
theorem GRange.ofR {aa : AEnv} {g : Operand} {ps : Array Tmp} {assign body gbody : Code} {l : List Oper} {gf : FuncId} {gfn : Func} {caps : Array Value}
    (hsub : asub a aa) (hg : aev gl a g = some (.func (.func gf) #[] caps)) (hgf : P.funcs[gf]? = some gfn) (hgb : gfn.body = some gbody) (hgn : (gfn.name == "runtime.NumGoroutine") = false)
    (hit : ∀ f, AC P gf (.func (.yield (nx + 1)) #[] #[] :: caps.toList) (AW.of ((nx + 1, .loop true n a f ps assign body) :: (nx, .dfr) :: L) (nx + 2) ro gl) (fun _ A3 => (∃ L3 nx3, A3 = AW.of L3 nx3 ro gl ∧ alook L3 (nx + 1) = some (.loop true n a f ps assign body) ∧ alook L3 nx = some .dfr ∧
      GL P n (nx + 1) l.toArray l a (aerase L3 (nx + 1)) nx3 ro gl (FEnd P nx ro gl fn.results.toList R)) ∨
      (∃ L3 nx3, A3 = AW.of L3 nx3 ro gl ∧ alook L3 (nx + 1) = some (.over .ret) ∧ alook L3 nx = some .dfr ∧ ∃ v, ares P (AW.of (aerase (aerase L3 (nx + 1)) nx) nx3 ro gl) a fn.results.toList = some v ∧ R v (AW.of (aerase (aerase L3 (nx + 1)) nx) nx3 ro gl)))) : GRange P n m fn g ps assign body l R aa L nx ro gl :=
  ⟨a, gf, gfn, gbody, caps, hsub, hg, hgf, hgb, hgn, fun f => by
    have e : ((AW.of L nx ro gl).push .dfr).push (.loop true n a f ps assign body) = AW.of ((nx + 1, .loop true n a f ps assign body) :: (nx, .dfr) :: L) (nx + 2) ro gl := by
      rw [AW.of_push, AW.of_push]
    rw [e]
    refine AC.mono (hit f) fun v A3 q => ?_
    rcases q with ⟨L3, nx3, hA, h1, h2, hl⟩ | ⟨L3, nx3, hA, h1, h2, v, hv, hr⟩
    · subst hA
      refine .inl ⟨h1, h2, ?_⟩
      show AL _ _ _ _ _ _ ((AW.of L3 nx3 ro gl).upd (nx + 1) none) _
      rw [AW.of_kill]
      have := hl.run
      refine fun r w0 N w β S ae hm hs he => wpListIn_mono (fun e ae1 w1 ⟨β1, S1, a1, A1, hx, hy, he1, L4, nx4, hA4, hd, v, hv, hr⟩ => ⟨β1, S1, a1, A1, hx, hy, he1, ?_⟩) _ _ _ (this r w0 N w β S ae hm hs he)
      subst hA4
      refine ⟨hd, v, ?_⟩
      show ares _ ((AW.of L4 nx4 ro gl).upd nx none) _ _ = _ ∧ R v ((AW.of L4 nx4 ro gl).upd nx none)
      rw [AW.of_kill]
      exact ⟨hv, hr⟩
    · subst hA
      refine .inr ⟨h1, h2, v, ?_⟩
      show ares _ (((AW.of L3 nx3 ro gl).upd (nx + 1) none).upd nx none) _ _ = _ ∧ R v (((AW.of L3 nx3 ro gl).upd (nx + 1) none).upd nx none)
      rw [AW.of_kill, AW.of_kill]
      exact ⟨hv, hr⟩⟩
def GRThen (P : Program) (n m ro gl : Nat) (fn : Func) (g : Operand) (ps : Array Tmp) (assign body : Code) (l : List Oper) (R : Value → AW → Prop) : AQ := AThen (fun a A => ∃ L nx, A = AW.of L nx ro gl ∧ GRange P n m fn g ps assign body l R a L nx ro gl) (AEnd P fn.results.toList R)
theorem GF.range2 {x : Code} {id id2 : Nat} {g : Operand} {ps : Array Tmp} {assign body : Code} {l : List Oper} (h : GT P n m x a L nx ro gl (GRThen P n m ro gl fn g ps assign body l R)) :
    GF P n m fn (.seq (.seq x (.block id (.rangeFunc g ps assign body))) (.seq (.region id2 l.toArray false) .ret)) a L nx ro gl R :=
  ⟨AF.rangeTail2 (AT.mono h.run fun e a A q => by
    cases e with
    | normal => obtain ⟨L, nx, rfl, hg⟩ := q; exact hg.run
    | exit id => exact q
    | goto l => exact q
    | ret => exact q
    | panic ch => exact q
    | outgrown => exact q)⟩
theorem GP.range {g : Operand} {ps : Array Tmp} {assign body : Code} {l : List Oper} (h : GRange P n m fn g ps assign body l R a L nx ro gl) : GP (GRThen P n m ro gl fn g ps assign body l R) .normal a L nx ro gl := ⟨⟨L, nx, rfl, h⟩⟩

end Go.M
namespace Go.M
open Go.RowKit
variable {P : Program} {n m : Nat} {a : AEnv} {Q : AQ} {ops : Array Oper} {rest : List Oper} {o : Oper} {L : LM} {nx ro gl : Nat} {p : Prop}
theorem GL.unguardG {j : Nat} {b : Bool} {d : Tmp} (hg : o.guard = some (j, b)) (hj : (ops[j]?).bind (·.dst) = some d) (ha : aget a d = some (.bool b))
    (h : GL P n m ops (⟨o.dst, o.op, o.type, o.pos, o.after, none⟩ :: rest) a L nx ro gl Q) : GL P n m ops (o :: rest) a L nx ro gl Q := by
  cases o
  cases hg
  exact GL.unguard hj ha h
theorem GL.skipG {j e : Nat} {b : Bool} {d : Tmp} (hg : o.guard = some (j, b)) (hj : (ops[j]?).bind (·.dst) = some d) (ha : aget a d = some (.bool (!b))) (he : o.dst = some e) (hn : Nat.ble (e + 1) n = true)
    (h : GL P n m ops rest ((e, undef) :: a) L nx ro gl Q) : GL P n m ops (o :: rest) a L nx ro gl Q := by
  cases o
  cases hg
  exact GL.skip hj ha he hn h
theorem GL.skipUG {j e : Nat} {b : Bool} {d : Tmp} (hg : o.guard = some (j, b)) (hj : (ops[j]?).bind (·.dst) = some d) (ha : aget a d = some undef) (he : o.dst = some e) (hn : Nat.ble (e + 1) n = true)
    (h : GL P n m ops rest ((e, undef) :: a) L nx ro gl Q) : GL P n m ops (o :: rest) a L nx ro gl Q := by
  cases o
  cases hg
  exact GL.skipU hj ha he hn h
theorem GL.forkDG [Decidable p] {j : Nat} {b : Bool} {d : Tmp} (hg : o.guard = some (j, b)) (hj : (ops[j]?).bind (·.dst) = some d) (ha : aget a d = some (.bool (decide p)))
    (h1 : p → GL P n m ops (o :: rest) ((d, .bool true) :: a) L nx ro gl Q) (h2 : ¬p → GL P n m ops (o :: rest) ((d, .bool false) :: a) L nx ro gl Q) : GL P n m ops (o :: rest) a L nx ro gl Q := by
  cases o
  cases hg
  exact GL.forkD hj ha h1 h2
theorem GL.forkNG [Decidable p] {j : Nat} {b : Bool} {d : Tmp} (hg : o.guard = some (j, b)) (hj : (ops[j]?).bind (·.dst) = some d) (ha : aget a d = some (.bool (!decide p)))
    (h1 : p → GL P n m ops (o :: rest) ((d, .bool false) :: a) L nx ro gl Q) (h2 : ¬p → GL P n m ops (o :: rest) ((d, .bool true) :: a) L nx ro gl Q) : GL P n m ops (o :: rest) a L nx ro gl Q := by
  cases o
  cases hg
  exact GL.forkN hj ha h1 h2
theorem GL.forkBG {j : Nat} {b u : Bool} {d : Tmp} (hg : o.guard = some (j, b)) (hj : (ops[j]?).bind (·.dst) = some d) (ha : aget a d = some (.bool u))
    (h1 : u = true → GL P n m ops (o :: rest) ((d, .bool true) :: a) L nx ro gl Q) (h2 : u = false → GL P n m ops (o :: rest) ((d, .bool false) :: a) L nx ro gl Q) : GL P n m ops (o :: rest) a L nx ro gl Q := by
  cases o
  cases hg
  exact GL.forkB hj ha h1 h2
end Go.M
namespace Go.M
open Go.RowKit
variable {P : Program} {w0 w w' w1 w2 : World} {N n m : Nat} {β β' β1 β2 : Bet} {S S' S1 S2 : Nat → Prop} {A A' A1 A2 : AW} {a a1 : AEnv} {ae : Act} {Q : AQ} {o : Oper} {L L' L1 : LM} {nx nx' nx1 ro gl : Nat} {ρ : Nat → Option Nat}
/-- Values alike, but for the names: 'ρ' tells which old name a new one is. -/
def Rn (ρ : Nat → Option Nat) (vs us : List Value) : Prop := ∀ (β : Bet) (S : Nat → Prop) (β' : Bet) (S' : Nat → Prop) (vs' : List Value), (∀ j i, ρ j = some i → β' j = β i ∧ (S i → S' j)) → VRs β S us vs' → VRs β' S' vs vs'
theorem Rn.nil : Rn ρ [] [] := fun _ _ _ _ vs' _ h => by cases h; exact .nil
theorem Rn.cons {v u : Value} {vs us : List Value} (h1 : Rn ρ [v] [u]) (h2 : Rn ρ vs us) : Rn ρ (v :: vs) (u :: us) := fun β S β' S' vs' hρ hv => by
  cases vs' with
  | nil => have := hv.length; simp at this
  | cons v' vs' => exact VRs.cons (h1 β S β' S' [v'] hρ hv.cons_inv.1) (h2 β S β' S' vs' hρ hv.cons_inv.2)
theorem Rn.append {vs us vs2 us2 : List Value} (h1 : Rn ρ vs us) (h2 : Rn ρ vs2 us2) : Rn ρ (vs ++ vs2) (us ++ us2) := fun β S β' S' vs' hρ hv => by
  have hl := hv.length
  rw [List.length_append] at hl
  have e : vs' = vs'.take us.length ++ vs'.drop us.length := (List.take_append_drop _ _).symm
  have a1 := hv.take us.length
  have a2 := hv.drop us.length
  rw [List.take_append_of_le_length (Nat.le_refl _), List.take_length] at a1
  rw [List.drop_append_of_le_length (Nat.le_refl _), List.drop_length, List.nil_append] at a2
  rw [e]
  exact (h1 β S β' S' _ hρ a1).append (h2 β S β' S' _ hρ a2)
theorem Rn.flat {k : Nat} {vs : List Value} (h : noAddrs k vs = true) : Rn ρ vs vs := fun _ _ _ _ vs' _ hv => by
  rw [VRs.eq_of_noAddrs hv k h]; exact VRs.refl_of_noAddrs k _ h
theorem Rn.sl {i j f l c : Nat} (h : ρ j = some i) : Rn ρ [.slice (some ⟨j, f, none⟩) l c] [.slice (some ⟨i, f, none⟩) l c] := fun β S β' S' vs' hρ hv => by
  obtain ⟨e1, e2⟩ := hρ j i h
  cases vs' with
  | nil => have := hv.length; simp at this
  | cons v' vs' =>
    obtain rfl : vs' = [] := by have := hv.length; simp at this; exact this
    cases hv with
    | sl hs hb hc ho hv => exact .sl (e2 hs) (e1.trans hb) hc ho .nil
    | slD hs hb hc hv => exact .slD (e2 hs) (e1.trans hb) hc .nil
theorem Rn.ptr {i j f : Nat} (h : ρ j = some i) : Rn ρ [.pointer (some ⟨j, f, none⟩)] [.pointer (some ⟨i, f, none⟩)] := fun β S β' S' vs' hρ hv => by
  obtain ⟨e1, e2⟩ := hρ j i h
  cases vs' with
  | nil => have := hv.length; simp at this
  | cons v' vs' =>
    obtain rfl : vs' = [] := by have := hv.length; simp at this; exact this
    cases hv with
    | ptr hs hb hv => exact .ptr (e2 hs) (e1.trans hb) .nil
    | ptrD hs hb hv => exact .ptrD (e2 hs) (e1.trans hb) .nil
theorem Rn.yield {i j : Nat} (h : ρ j = some i) : Rn ρ [.func (.yield j) #[] #[]] [.func (.yield i) #[] #[]] := fun β S β' S' vs' hρ hv => by
  obtain ⟨e1, e2⟩ := hρ j i h
  cases vs' with
  | nil => have := hv.length; simp at this
  | cons v' vs' =>
    obtain rfl : vs' = [] := by have := hv.length; simp at this; exact this
    cases hv with
    | func hy _ _ _ => exact absurd rfl (hy _)
    | yield hs hb hv => exact .yield (e2 hs) (e1.trans hb) .nil
    | yieldD hs hb hv => exact .yieldD (e2 hs) (e1.trans hb) .nil
theorem Rn.agg {c c' : Array Value} (h : Rn ρ c.toList c'.toList) : Rn ρ [.agg c] [.agg c'] := fun β S β' S' vs' hρ hv => by
  cases vs' with
  | nil => have := hv.length; simp at this
  | cons v' vs' =>
    obtain rfl : vs' = [] := by have := hv.length; simp at this; exact this
    cases hv with
    | agg g _ => exact .agg (h β S β' S' _ hρ g) .nil
theorem Rn.func {fn : Fn} {f f' c c' : Array Value} (hf : ∀ l, fn ≠ .yield l) (h1 : Rn ρ f.toList f'.toList) (h2 : Rn ρ c.toList c'.toList) : Rn ρ [.func fn f c] [.func fn f' c'] := fun β S β' S' vs' hρ hv => by
  cases vs' with
  | nil => have := hv.length; simp at this
  | cons v' vs' =>
    obtain rfl : vs' = [] := by have := hv.length; simp at this; exact this
    cases hv with
    | func hy g1 g2 _ => exact .func hy (h1 β S β' S' _ hρ g1) (h2 β S β' S' _ hρ g2) .nil
    | yield _ _ _ => exact absurd rfl (hf _)
    | yieldD _ _ _ => exact absurd rfl (hf _)
/-- Values whose names stay. -/
theorem Rn.same {k : Nat} {vs : List Value} (h : Lt k vs) (hρ : ∀ j, j < k → ρ j = some j) : Rn ρ vs vs := fun β S β' S' vs' hb hv => by
  have h1 := h β S vs' hv
  exact h1.mono (fun i hi => .inl (hb i i (hρ i hi.2)).1) (fun i hi => (hb i i (hρ i hi.2)).2 hi.1)
def ORn (ρ : Nat → Option Nat) : AObj → AObj → Prop
  | .cells c e, .cells c' e' => e = e' ∧ Rn ρ c c'
  | .loop r n a f ps x y, .loop r' n' a' f' ps' x' y' => r = r' ∧ n = n' ∧ a = a' ∧ f = f' ∧ ps = ps' ∧ x = x' ∧ y = y' ∧ ∀ t v, aget a t = some v → Rn ρ [v] [v]
  | .map es k, .map es' k' => k = k' ∧ es.map (·.key) = es'.map (·.key) ∧ es.map (·.born) = es'.map (·.born) ∧ Rn ρ (es.map (·.val)) (es'.map (·.val))
  | .dfr, .dfr => True
  | .over c, .over c' => c = c'
  | .iter s p, .iter s' p' => s = s' ∧ p = p'
  | _, _ => False
theorem GT.rename {c : Code} (ρ : Nat → Option Nat) (L1 : LM) (nx1 : Nat) (a1 : AEnv) (henv : ∀ t v, aget a1 t = some v → ∃ u, aget a t = some u ∧ Rn ρ [v] [u])
    (hobj : ∀ j y, alook L1 j = some y → j < nx1 ∧ ∃ i x, ρ j = some i ∧ alook L i = some x ∧ ORn ρ y x) (hdead : ∀ j, alook L1 j = none → ρ j = none)
    (hinj : ∀ j j' i, ρ j = some i → ρ j' = some i → j = j') (hro : ∀ j i, ρ j = some i → (ro ≤ j ↔ ro ≤ i)) (hm : ∀ j i, ρ j = some i → j < m → i = j) (hmn : m ≤ nx1) (hron : ro ≤ nx1) (hglob : ∀ g, g < gl → ρ g = some g)
    (h : GT P n m c a1 L1 nx1 ro gl Q) : GT P n m c a L nx ro gl Q := by
  refine ⟨fun r w0 N w β S ae hmx hs her => ?_⟩
  have hlt : ∀ j i, ρ j = some i → j < nx1 := fun j i hj => by
    cases hl : alook L1 j with
    | none => rw [hdead j hl] at hj; cases hj
    | some y => exact (hobj j y hl).1
  have hb' : ∀ j L', (ρ j).bind β = some L' → ∃ i, ρ j = some i ∧ β i = some L' := fun j L' hj => by
    cases hr : ρ j with
    | none => simp [hr] at hj
    | some i => exact ⟨i, rfl, by simpa [hr] using hj⟩
  have hρ : ∀ j i, ρ j = some i → (fun j => (ρ j).bind β) j = β i ∧ (S i → (fun j => if j < m then S j else (j < nx1 ∧ ∃ i, ρ j = some i ∧ S i)) j) := fun j i hj => by
    refine ⟨by simp [hj], fun hsi => ?_⟩
    simp only
    split
    · rename_i q; rw [← hm j i hj q]; exact hsi
    · exact ⟨hlt j i hj, i, hj, hsi⟩
  have hs' : Sim P w0 N (fun j => (ρ j).bind β) (fun j => if j < m then S j else (j < nx1 ∧ ∃ i, ρ j = some i ∧ S i)) (AW.of L1 nx1 ro gl) w := by
    refine ⟨hs.below, hs.Nle, fun j y hy => ?_, fun j hj => by simp [hdead j hj], fun j y hy => (hobj j y hy).1, fun j j' L1 L2 hj hne h1 h2 => ?_, fun j L' hj h1 => ?_, fun j hj => ?_, hron, fun g hg => ?_, hs.gle, fun j L' hj h1 => ?_⟩
    · obtain ⟨_, i, x, h1, h2, h3⟩ := hobj j y hy
      obtain ⟨Lc, e, r⟩ := hs.live i x h2
      refine ⟨Lc, by simp [h1, e], ?_⟩
      have hd : decide ((AW.of L1 nx1 ro gl).ro ≤ j) = decide ((AW.of L nx ro gl).ro ≤ i) := by
        have := hro j i h1
        show decide (ro ≤ j) = decide (ro ≤ i)
        by_cases q : ro ≤ j
        · simp [q, this.1 q]
        · have q2 : ¬ ro ≤ i := fun q2 => q (this.2 q2)
          simp [q, q2]
      rw [hd]
      cases y with
      | cells c e1 =>
        cases x with
        | cells c' e2 =>
          obtain ⟨rfl, hrn⟩ := h3
          obtain ⟨cs, e', fz, g1, g2, g3, g4, g5⟩ := r
          have g4' := hrn β S _ _ _ hρ g4
          have hl : c.length = c'.length := by rw [g4'.length, ← g4.length]
          exact ⟨cs, e', fz, g1, g2, by rw [hl]; exact g3, by rw [hl]; exact g4', g5⟩
        | map es k => exact h3.elim
        | iter s p => exact h3.elim
        | loop => exact h3.elim
        | dfr => exact h3.elim
        | over => exact h3.elim
      | map es k =>
        cases x with
        | map es2 k2 =>
          obtain ⟨rfl, k1, k2, k3⟩ := h3
          obtain ⟨es', g1, g2, g3, g4, g5⟩ := r
          exact ⟨es', g1, by rw [k1]; exact g2, by rw [k2]; exact g3, by rw [k1]; exact g4, k3 β S _ _ _ hρ g5⟩
        | cells c' e2 => exact h3.elim
        | iter s p => exact h3.elim
        | loop => exact h3.elim
        | dfr => exact h3.elim
        | over => exact h3.elim
      | iter s p =>
        cases x with
        | iter s2 p2 => obtain ⟨rfl, rfl⟩ := h3; exact r
        | cells c' e2 => exact h3.elim
        | map es k => exact h3.elim
        | loop => exact h3.elim
        | dfr => exact h3.elim
        | over => exact h3.elim
      | loop r1 n1 a1 f1 p1 x1 y1 =>
        cases x with
        | loop r2 n2 a2 f2 p2 x2 y2 =>
          obtain ⟨rfl, rfl, rfl, rfl, rfl, rfl, rfl, hen⟩ := h3
          obtain ⟨tmps, D, q1, q2, q3⟩ := r
          exact ⟨tmps, D, q1, q2, fun t v hv => let ⟨v', e1, q⟩ := q3 t v hv; ⟨v', e1, hen t v hv β S _ _ _ hρ q⟩⟩
        | cells c' e2 => exact h3.elim
        | map es k => exact h3.elim
        | iter s p => exact h3.elim
        | dfr => exact h3.elim
        | over => exact h3.elim
      | dfr =>
        cases x with
        | dfr => exact r
        | cells c' e2 => exact h3.elim
        | map es k => exact h3.elim
        | iter s p => exact h3.elim
        | loop => exact h3.elim
        | over => exact h3.elim
      | over c =>
        cases x with
        | over c' => obtain rfl := h3; exact r
        | cells c' e2 => exact h3.elim
        | map es k => exact h3.elim
        | iter s p => exact h3.elim
        | loop => exact h3.elim
        | dfr => exact h3.elim
    · obtain ⟨i, e1, b1⟩ := hb' j L1 h1
      obtain ⟨i', e2, b2⟩ := hb' j' L2 h2
      exact hs.inj i i' L1 L2 ((hro j i e1).1 hj) (fun q => hne (hinj j j' i e1 (q ▸ e2))) b1 b2
    · obtain ⟨i, e1, b1⟩ := hb' j L' h1
      exact hs.hi i L' ((hro j i e1).1 hj) b1
    · split at hj
      · show j < nx1; omega
      · exact hj.1
    · have hg : g < gl := hg
      obtain ⟨h1, Lg, h2, h3⟩ := hs.glob g hg
      have e := hglob g hg
      exact ⟨(hρ g g e).2 h1, Lg, by simp [e, h2], h3⟩
    · obtain ⟨i, e1, b1⟩ := hb' j L' h1
      have hj : j < ro := hj
      refine hs.roz i L' ?_ b1
      show i < ro
      have := hro j i e1
      omega
  have hen : ER n (fun j => (ρ j).bind β) (fun j => if j < m then S j else (j < nx1 ∧ ∃ i, ρ j = some i ∧ S i)) a1 ae := by
    refine ⟨her.size, her.defers, fun t v hv => ?_⟩
    obtain ⟨u, hu, hr⟩ := henv t v hv
    obtain ⟨v', e1, q⟩ := her.get t u hu
    exact ⟨v', e1, hr β S _ _ _ hρ q⟩
  refine wpIn_mono (h.run r w0 N w _ _ ae hmn hs' hen) (fun e ae1 w1 g => ?_)
  obtain ⟨β1, S1, a2, A2, hx, hy, hz⟩ := g
  refine ⟨β1, S1, a2, A2, ⟨hx.sim, ?_, hx.next, hx.ro, hx.gl⟩, hy, hz⟩
  have near1 : Near m β S (fun j => (ρ j).bind β) (fun j => if j < m then S j else (j < nx1 ∧ ∃ i, ρ j = some i ∧ S i)) :=
    ⟨fun i hi _ => by
      cases hr : ρ i with
      | none => exact .inr (by simp)
      | some i' => obtain rfl := hm i i' hr hi; exact .inl (by simp), fun i hi hsi => by simp only [hi, if_true]; exact hsi, fun i hi hsi => by simpa only [hi, if_true] using hsi⟩
  exact near1.trans hx.near (Nat.le_refl _)
/-- So many elements of a slice appended to another, which grows. -/
theorem GO.appendN {c : Call} {t e e0 : TypeId} {X Y : Operand} {inf : TypeInfo} {z : Value} {b i k ycap : Nat} {yb : Option Addr} {olds ys : List Value} (ho : o.op = .call c) (hc : c.callee = .builtin .append) (ha : c.args.toList = [X, Y]) (ht : c.argTypes.toList = [t, t])
    (hx : aev gl a X = some (.slice (some ⟨b, 0, none⟩) i i)) (hy : aev gl a Y = some (.slice yb k ycap)) (hu : P.underlying t = some (.slice e)) (hi : P.info? e = some inf) (hz : inf.zero = some z) (hzc : z.cells.size = inf.size) (hpos : Nat.blt 0 inf.size = true)
    (hys : asrc (AW.of L nx ro gl) inf.size (.slice yb k ycap) = some (k, ys)) (hone : ys.all (·.oneCell') = true) (hlo : alook L b = some (.cells olds e0)) (hlen : olds.length = i * inf.size) (hro : ro ≤ b) (hsz : szOf P e0 = some inf.size) (hbytes : inf.bytes ≤ 1000) (hk : 0 < k) (hbig : i + k ≤ 1000001) :
    GO P n o a L nx ro gl (isR (.slice (some ⟨nx, 0, none⟩) (i + k) (i + k)) (AW.of ((nx, .cells (olds ++ ys) e) :: aerase L b) (nx + 1) ro gl)) :=
  ⟨AOp.append ho hc ha ht hx hy (by
    have hob : (AW.of L nx ro gl).objs b = some (.cells olds e0) := hlo
    have hrd : (AW.of L nx ro gl).rd b 0 (i * inf.size) = some olds := by
      unfold AW.rd
      rw [hob]
      simp only
      rw [if_pos (by omega), List.drop_zero, List.take_of_length_le (by omega)]
    have hpos := Nat.lt_of_lt_of_le (Nat.lt_succ_self 0) (Nat.le_of_ble_eq_true hpos)
    have hb : (i + k) * inf.bytes ≤ 140737488355328 := Nat.le_trans (Nat.mul_le_mul hbig hbytes) (by decide)
    unfold aappend
    rw [hu]; simp only; rw [hi]; simp only; rw [hz]; simp only; rw [hys]; simp only
    rw [if_pos ⟨hzc, hpos, hone⟩, if_neg (by omega), if_pos ⟨hk, by omega, hb⟩, hrd, hob]
    simp only
    rw [if_pos ⟨hro, hsz⟩, AW.of_kill, AW.of_push]
    rfl)⟩
/-- Nothing appended. -/
theorem GO.append0 {c : Call} {t e : TypeId} {X Y : Operand} {inf : TypeInfo} {z : Value} {i k ycap : Nat} {xb yb : Option Addr} (ho : o.op = .call c) (hc : c.callee = .builtin .append) (ha : c.args.toList = [X, Y]) (ht : c.argTypes.toList = [t, t])
    (hx : aev gl a X = some (.slice xb i k)) (hy : aev gl a Y = some (.slice yb 0 ycap)) (hu : P.underlying t = some (.slice e)) (hi : P.info? e = some inf) (hz : inf.zero = some z) (hzc : z.cells.size = inf.size) (hpos : Nat.blt 0 inf.size = true) (hys : asrc (AW.of L nx ro gl) inf.size (.slice yb 0 ycap) = some (0, [])) (hik : i ≤ k) :
    GO P n o a L nx ro gl (isR (.slice xb i k) (AW.of L nx ro gl)) :=
  ⟨AOp.append ho hc ha ht hx hy (by
    have hpos := Nat.lt_of_lt_of_le (Nat.lt_succ_self 0) (Nat.le_of_ble_eq_true hpos)
    unfold aappend
    rw [hu]; simp only; rw [hi]; simp only; rw [hz]; simp only; rw [hys]; simp only
    rw [if_pos ⟨hzc, hpos, rfl⟩, if_pos (by omega)]
    simp)⟩
/-- A slice's elements appended to the nil slice. -/
theorem GO.appendNil {c : Call} {t e : TypeId} {X Y : Operand} {inf : TypeInfo} {z : Value} {k ycap : Nat} {yb : Option Addr} {ys : List Value} (ho : o.op = .call c) (hc : c.callee = .builtin .append) (ha : c.args.toList = [X, Y]) (ht : c.argTypes.toList = [t, t])
    (hx : aev gl a X = some (.slice none 0 0)) (hy : aev gl a Y = some (.slice yb k ycap)) (hu : P.underlying t = some (.slice e)) (hi : P.info? e = some inf) (hz : inf.zero = some z) (hzc : z.cells.size = inf.size) (hpos : Nat.blt 0 inf.size = true)
    (hys : asrc (AW.of L nx ro gl) inf.size (.slice yb k ycap) = some (k, ys)) (hone : ys.all (·.oneCell') = true) (hbytes : inf.bytes ≤ 1000) (hk : 0 < k) (hbig : k ≤ 1000001) :
    GO P n o a L nx ro gl (isR (.slice (some ⟨nx, 0, none⟩) k k) (AW.of ((nx, .cells ys e) :: L) (nx + 1) ro gl)) :=
  ⟨AOp.append ho hc ha ht hx hy (by
    have hpos := Nat.lt_of_lt_of_le (Nat.lt_succ_self 0) (Nat.le_of_ble_eq_true hpos)
    have hb : (0 + k) * inf.bytes ≤ 140737488355328 := Nat.le_trans (Nat.mul_le_mul (show 0 + k ≤ 1000001 by omega) hbytes) (by decide)
    unfold aappend
    rw [hu]; simp only; rw [hi]; simp only; rw [hz]; simp only; rw [hys]; simp only
    rw [if_pos ⟨hzc, hpos, hone⟩, if_neg (by omega), if_pos ⟨hk, by omega, hb⟩, if_pos (by simp), AW.of_push, Nat.zero_add]
    rfl)⟩
theorem asrc_of {b k cap size : Nat} {ys : List Value} (hk : 0 < k) (h : (AW.of L nx ro gl).rd b 0 (k * size) = some ys) : asrc (AW.of L nx ro gl) size (.slice (some ⟨b, 0, none⟩) k cap) = some (k, ys) := by
  unfold asrc
  simp only
  rw [if_neg (by omega), h]; rfl
/-- A slice's elements appended to a slice without any. -/
theorem GO.appendE {c : Call} {t e e0 : TypeId} {X Y : Operand} {inf : TypeInfo} {z : Value} {b k ycap : Nat} {yb : Option Addr} {ys : List Value} (ho : o.op = .call c) (hc : c.callee = .builtin .append) (ha : c.args.toList = [X, Y]) (ht : c.argTypes.toList = [t, t])
    (hx : aev gl a X = some (.slice (some ⟨b, 0, none⟩) 0 0)) (hy : aev gl a Y = some (.slice yb k ycap)) (hu : P.underlying t = some (.slice e)) (hi : P.info? e = some inf) (hz : inf.zero = some z) (hzc : z.cells.size = inf.size) (hpos : Nat.blt 0 inf.size = true)
    (hys : asrc (AW.of L nx ro gl) inf.size (.slice yb k ycap) = some (k, ys)) (hone : ys.all (·.oneCell') = true) (hlo : alook L b = some (.cells [] e0)) (hro : ro ≤ b) (hsz : szOf P e0 = some inf.size) (hbytes : inf.bytes ≤ 1000) (hk : 0 < k) (hbig : k ≤ 1000001) :
    GO P n o a L nx ro gl (isR (.slice (some ⟨nx, 0, none⟩) k k) (AW.of ((nx, .cells ys e) :: aerase L b) (nx + 1) ro gl)) := by
  have h := GO.appendN (n := n) (i := 0) (olds := []) ho hc ha ht hx hy hu hi hz hzc hpos hys hone hlo (by simp) hro hsz hbytes hk (by omega)
  rw [Nat.zero_add] at h
  exact h
theorem rd_self {b : Nat} {c : List Value} {e : TypeId} (hb : alook L b = some (.cells c e)) : (AW.of L nx ro gl).rd b 0 c.length = some c := by
  have ho : (AW.of L nx ro gl).objs b = some (.cells c e) := hb
  unfold AW.rd
  rw [ho]; simp
/-- The whole of an object as a source. -/
theorem asrc_all {b k cap size : Nat} {ys : List Value} {e : TypeId} (hk : 0 < k) (hl : ys.length = k * size) (hb : alook L b = some (.cells ys e)) : asrc (AW.of L nx ro gl) size (.slice (some ⟨b, 0, none⟩) k cap) = some (k, ys) :=
  asrc_of hk (by rw [← hl]; exact rd_self hb)
end Go.M
namespace Go.M
open Go.RowKit
variable {P : Program} {w0 w w' w1 w2 : World} {N n m : Nat} {β β' β1 β2 : Bet} {S S' S1 S2 : Nat → Prop} {A A' A1 A2 : AW} {L : LM} {nx ro gl : Nat}
theorem ORel.rn {ρ : Nat → Option Nat} {y x : AObj} (h3 : ORn ρ y x) (hρ : ∀ j i, ρ j = some i → β' j = β i ∧ (S i → S' j)) {wr : Bool} {Lc : Loc} (r : ORel P β S w wr Lc x) : ORel P β' S' w wr Lc y := by
  cases y with
  | cells c e1 =>
    cases x with
    | cells c' e2 =>
      obtain ⟨rfl, hrn⟩ := h3
      obtain ⟨cs, e', fz, g1, g2, g3, g4, g5⟩ := r
      have g4' := hrn β S _ _ _ hρ g4
      have hl : c.length = c'.length := by rw [g4'.length, ← g4.length]
      exact ⟨cs, e', fz, g1, g2, by rw [hl]; exact g3, by rw [hl]; exact g4', g5⟩
    | map es k => exact h3.elim
    | iter s p => exact h3.elim
    | loop => exact h3.elim
    | dfr => exact h3.elim
    | over => exact h3.elim
  | map es k =>
    cases x with
    | map es2 k2 =>
      obtain ⟨rfl, k1, k2, k3⟩ := h3
      obtain ⟨es', g1, g2, g3, g4, g5⟩ := r
      exact ⟨es', g1, by rw [k1]; exact g2, by rw [k2]; exact g3, by rw [k1]; exact g4, k3 β S _ _ _ hρ g5⟩
    | cells c' e2 => exact h3.elim
    | iter s p => exact h3.elim
    | loop => exact h3.elim
    | dfr => exact h3.elim
    | over => exact h3.elim
  | iter s p =>
    cases x with
    | iter s2 p2 => obtain ⟨rfl, rfl⟩ := h3; exact r
    | cells c' e2 => exact h3.elim
    | map es k => exact h3.elim
    | loop => exact h3.elim
    | dfr => exact h3.elim
    | over => exact h3.elim
  | loop r1 n1 a1 f1 p1 x1 y1 =>
    cases x with
    | loop r2 n2 a2 f2 p2 x2 y2 =>
      obtain ⟨rfl, rfl, rfl, rfl, rfl, rfl, rfl, hen⟩ := h3
      obtain ⟨tmps, D, q1, q2, q3⟩ := r
      exact ⟨tmps, D, q1, q2, fun t v hv => let ⟨v', e1, q⟩ := q3 t v hv; ⟨v', e1, hen t v hv β S _ _ _ hρ q⟩⟩
    | cells c' e2 => exact h3.elim
    | map es k => exact h3.elim
    | iter s p => exact h3.elim
    | dfr => exact h3.elim
    | over => exact h3.elim
  | dfr =>
    cases x with
    | dfr => exact r
    | cells c' e2 => exact h3.elim
    | map es k => exact h3.elim
    | iter s p => exact h3.elim
    | loop => exact h3.elim
    | over => exact h3.elim
  | over c =>
    cases x with
    | over c' => obtain rfl := h3; exact r
    | cells c' e2 => exact h3.elim
    | map es k => exact h3.elim
    | iter s p => exact h3.elim
    | loop => exact h3.elim
    | dfr => exact h3.elim
/-- So many objects at once. -/
def AW.pushF (A : AW) (n : Nat) (F : Nat → AObj) : AW := { A with objs := fun j => if A.next ≤ j ∧ j < A.next + n then some (F (j - A.next)) else A.objs j, next := A.next + n }
/-- The new names, and what they are called in the small memory. -/
def rhoF (N n : Nat) (ν : Nat → Nat) : Nat → Option Nat := fun j => if N ≤ j ∧ j < N + n then some (ν (j - N)) else none
theorem rhoF_at {N n i : Nat} {ν : Nat → Nat} (h : i < n) : rhoF N n ν (N + i) = some (ν i) := by unfold rhoF; rw [if_pos (by omega), show N + i - N = i by omega]
theorem AC.givesF {f : FuncId} {args args2 : List Value} {k G : Nat} {Φ : Value → Nat → (Nat → AObj) → Prop} {ρ : Nat → Option (Nat × Nat)} (s : SmallX A L k G ρ)
    (h : AC P f args (AW.of L k k G) (fun v A1 => ∃ n F ν v2, Φ v2 n F ∧ (∀ i, i < n → k ≤ ν i) ∧ (∀ i j, i < n → j < n → ν i = ν j → i = j) ∧ (∀ i, i < n → ∃ x, A1.objs (ν i) = some x ∧ ORn (rhoF A.next n ν) (F i) x) ∧ Rn (rhoF A.next n ν) [v2] [v])) (ha : AR ρ args args2) :
    AC P f args2 A (fun v A1 => ∃ n F, Φ v n F ∧ A1 = A.pushF n F) := by
  intro w0 N w β S args' hs hv
  refine Calls.mono (h w w.heap.size w _ _ args' (hs.smallX s) (ha.vrs s.hk hv)) fun en w1 he => ?_
  cases en with
  | panicked => exact he
  | outgrown => exact he
  | returned v' =>
    obtain ⟨β1, S1, v, A1, h1, h2, n, F, ν, v2, hΦ, hν, hinj, hF, hv2⟩ := he
    have hagain := hs.again h1.sim.below
    have hro : ∀ i, i < n → A1.ro ≤ ν i := fun i hi => by rw [h1.ro]; exact hν i hi
    have hρ : ∀ j i, rhoF A.next n ν j = some i → (fun j => if A.next ≤ j ∧ j < A.next + n then β1 (ν (j - A.next)) else β j) j = β1 i ∧ (S1 i → (fun j => S j ∨ (A.next ≤ j ∧ j < A.next + n)) j) := fun j i hj => by
      unfold rhoF at hj
      split at hj
      · rename_i q; cases hj
        exact ⟨by simp [q], fun _ => .inr q⟩
      · cases hj
    have hnew : ∀ j L', A.next ≤ j ∧ j < A.next + n → β1 (ν (j - A.next)) = some L' → w.heap.size ≤ L'.blk := fun j L' hj hb => h1.sim.hi _ L' (hro _ (by omega)) hb
    have hsim : Sim P w0 N (fun j => if A.next ≤ j ∧ j < A.next + n then β1 (ν (j - A.next)) else β j) (fun j => S j ∨ (A.next ≤ j ∧ j < A.next + n)) (A.pushF n F) w1 := by
      refine ⟨hagain.below, hs.Nle, fun j y hy => ?_, fun j hj => ?_, fun j y hy => ?_, fun j j' L1 L2 hj hne hb1 hb2 => ?_, fun j L' hj hb => ?_, fun j hj => ?_, ?_, fun g hg => ?_, hs.gle, fun j L' hj hb => ?_⟩
      · simp only [AW.pushF] at hy
        split at hy
        · rename_i q
          cases hy
          obtain ⟨x, hx, ho⟩ := hF (j - A.next) (by omega)
          obtain ⟨Lc, hb, r⟩ := h1.sim.live _ x hx
          have hd : decide (A1.ro ≤ ν (j - A.next)) = true := by simp [hro (j - A.next) (by omega)]
          have hd2 : decide ((A.pushF n F).ro ≤ j) = true := by
            have := hs.role
            have q := q.1
            exact decide_eq_true (show A.ro ≤ j by omega)
          rw [hd] at r
          rw [hd2]
          exact ⟨Lc, by simp [q, hb], ORel.rn ho hρ r⟩
        · rename_i q
          obtain ⟨Lc, hb, r⟩ := hagain.live j y hy
          refine ⟨Lc, by simp [q, hb], r.mono (fun i hi => .inl ?_) (fun i hi => .inl hi) rfl⟩
          have := hs.sub i hi
          rw [if_neg (by omega)]
      · simp only [AW.pushF] at hj
        split at hj
        · cases hj
        · rename_i q
          simp only [q, if_false]
          exact hs.dead j hj
      · simp only [AW.pushF] at hy
        show j < A.next + n
        split at hy
        · omega
        · have := hs.lt j y hy; omega
      · by_cases q1 : A.next ≤ j ∧ j < A.next + n
        · rw [if_pos q1] at hb1
          have b1 := hnew j L1 q1 hb1
          by_cases q2 : A.next ≤ j' ∧ j' < A.next + n
          · rw [if_pos q2] at hb2
            exact h1.sim.inj _ _ L1 L2 (hro _ (by omega)) (fun e => hne (by have := hinj _ _ (by omega) (by omega) e; omega)) hb1 hb2
          · rw [if_neg q2] at hb2
            have := hs.blk_lt hb2
            omega
        · rw [if_neg q1] at hb1
          have b1 := hs.blk_lt hb1
          by_cases q2 : A.next ≤ j' ∧ j' < A.next + n
          · rw [if_pos q2] at hb2
            have := hnew j' L2 q2 hb2
            omega
          · rw [if_neg q2] at hb2
            exact hs.inj j j' L1 L2 hj hne hb1 hb2
      · split at hb
        · rename_i q
          have := hnew j L' q hb
          have := hs.size_le
          omega
        · exact hs.hi j L' hj hb
      · show j < A.next + n
        rcases hj with hj | hj
        · have := hs.sub j hj; omega
        · omega
      · have := hs.role
        show A.ro ≤ A.next + n; omega
      · obtain ⟨g1, Lg, g2, g3⟩ := hs.glob g hg
        have := hs.sub g g1
        refine ⟨.inl g1, Lg, ?_, g3⟩
        rw [if_neg (by omega)]; exact g2
      · have hj' : j < A.ro := hj
        have := hs.role
        rw [if_neg (by omega)] at hb
        exact hs.roz j L' hj hb
    refine ⟨_, _, v2, _, ⟨hsim, ⟨fun i hi hsi => .inl (if_neg (by omega)), fun i hi hsi => .inl hsi, fun i hi hsi => by rcases hsi with q | q; exact q; omega⟩, by show A.next ≤ A.next + n; omega, rfl, rfl⟩, hv2 β1 S1 _ _ _ hρ h2, n, F, hΦ, rfl⟩
end Go.M
namespace Go.M
open Go.RowKit
variable {P : Program} {n m : Nat} {a a0 : AEnv} {Q : AQ} {p : Prop} {L L' L0 : LM} {nx nx' nx0 ro gl : Nat} {D : Plan} {id i : Nat} {o : Oper} {v : Value} {ops : Array Oper} {rest : List Oper}
inductive AllG (P : Program) (n : Nat) (o : Oper) (a : AEnv) (ro gl : Nat) (v : Value) : MS → Prop
  | nil {ms : MS} : ms = [] → AllG P n o a ro gl v ms
  | cons {ms r : MS} {L : LM} {nx : Nat} : ms = (L, nx) :: r → GO P n o a L nx ro gl (isR v (AW.of L nx ro gl)) → AllG P n o a ro gl v r → AllG P n o a ro gl v ms
theorem AllG.ms {ms : MS} (h : AllG P n o a ro gl v ms) : AllMs (fun L nx => AOp P n o a (AW.of L nx ro gl) (isR v (AW.of L nx ro gl))) ms := by
  induction h with
  | nil e => exact .nil e
  | cons e h _ ih => exact .cons e h.run ih
theorem GD.li {Ms : MS} {d : Nat} (ho : D.l[i]? = some o) (hH : D.H.contains i = false) (hon : D.onAt a o) (hd : o.dst = some d) (h : AllG P n o (D.env a0 a i o) ro gl v (okMs' D i Ms))
    (k : GD P n m D id a0 L0 nx0 ro gl Q (i + 1) ((d, v) :: a) Ms) : GD P n m D id a0 L0 nx0 ro gl Q i a Ms := GD.light ho hH hon hd h.ms k
theorem GD.he {Ms : MS} {d : Nat} (ho : D.l[i]? = some o) (hr : D.H[Ms.length - 1]? = some i) (hM : Ms[Ms.length - 1]? = some (L, nx)) (hon : D.onAt a o) (hd : o.dst = some d) (h : GO P n o (D.env a0 a i o) L nx ro gl (isR v (AW.of L' nx' ro gl)))
    (hf : AllJs (D.again P n a0 a (AW.of L' nx' ro gl)) (D.floats i (Ms.length - 1))) (k : GD P n m D id a0 L0 nx0 ro gl Q (i + 1) ((d, v) :: a) (Ms ++ [(L', nx')])) : GD P n m D id a0 L0 nx0 ro gl Q i a Ms :=
  GD.heavy ho hr hM hon hd h.run hf k
theorem GD.hF {Ms : MS} (ho : D.l[i]? = some o) (hr : D.H[Ms.length - 1]? = some i) (hM : Ms[Ms.length - 1]? = some (L, nx)) (hon : D.onAt a o) (hd : o.dst = none) (h : nstepF P o (D.env a0 a i o) L nx ro gl = some L')
    (hf : AllJs (D.again P n a0 a (AW.of L' nx ro gl)) (D.floats i (Ms.length - 1))) (k : GD P n m D id a0 L0 nx0 ro gl Q (i + 1) a (Ms ++ [(L', nx)])) : GD P n m D id a0 L0 nx0 ro gl Q i a Ms := GD.heavyF ho hr hM hon hd h hf k
theorem GD.hN {Ms : MS} (ho : D.l[i]? = some o) (hr : D.H[Ms.length - 1]? = some i) (hM : Ms[Ms.length - 1]? = some (L, nx)) (hon : D.onAt a o) (hd : o.dst = none) (h : nstep P o (D.env a0 a i o) L nx ro gl = some L')
    (hf : AllJs (D.again P n a0 a (AW.of L' nx ro gl)) (D.floats i (Ms.length - 1))) (k : GD P n m D id a0 L0 nx0 ro gl Q (i + 1) a (Ms ++ [(L', nx)])) : GD P n m D id a0 L0 nx0 ro gl Q i a Ms := GD.heavyN ho hr hM hon hd h hf k
theorem again.go {j d : Nat} {oj : Oper} {u : Value} (h1 : D.l[j]? = some oj) (hd : oj.dst = some d) (h2 : aget a d = some u) (h4 : GO P n oj (D.env a0 a j oj) L' nx' ro gl (isR u (AW.of L' nx' ro gl))) : D.again P n a0 a (AW.of L' nx' ro gl) j := again.one h1 hd h2 h4.run
theorem GO.sf {R : Value → AW → Prop} (h : astepF P o a L nx ro gl = some (v, L', nx')) (hR : R = isR v (AW.of L' nx' ro gl)) : GO P n o a L nx ro gl R := hR ▸ ⟨astepF_sound h⟩
theorem GO.sv {R : Value → AW → Prop} (h : astep P o a L nx ro gl = some (v, L', nx')) (hR : R = isR v (AW.of L' nx' ro gl)) : GO P n o a L nx ro gl R := hR ▸ ⟨astep_sound h⟩
theorem GL.storeG {t : TypeId} {X Y : Operand} {b f : Nat} {c vs c' : List Value} {e : TypeId} (hg : o.guard = none) (hd : o.dst = none) (ho : o.op = .store t X Y) (hx : aev gl a X = some (.pointer (some ⟨b, f, none⟩))) (hy : aev gl a Y = some (.agg vs.toArray))
    (hsz : szOf P t = some vs.length) (hone : vs.all (·.oneCell') = true) (hL : alook L b = some (.cells c e)) (hro : ro ≤ b) (hfit : f + vs.length ≤ c.length) (hc : splice c f vs = c') (k : GL P n m ops rest a (aset L b (.cells c' e)) nx ro gl Q) : GL P n m ops (o :: rest) a L nx ro gl Q :=
  GL.sn hg hd (by
    unfold nstep
    rw [ho]
    simp only [hx, hy, Option.bind_some]
    have e : (Value.agg vs.toArray).cells.toList = vs := rfl
    have e2 : (Value.agg vs.toArray).cells.size = vs.length := by rw [← Array.length_toList, e]
    unfold lstore
    simp only [e, e2]
    rw [if_pos ⟨hsz, hone⟩]
    unfold lput
    rw [hL]
    simp only
    rw [if_pos (by simp [Nat.ble_eq_true_of_le hro, Nat.ble_eq_true_of_le hfit]), hc]) k
end Go.M
