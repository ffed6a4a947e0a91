/- Part of the abstract machine of this claim (no condition). -/
import Derived.Laws.MakeOwn
import Derived.Laws.CopyRow
import Derived.Scope
import Derived.Test.YtfhodefiknfccaaDoorA5
import Derived.Test.YtfhodefiknfccaaDoorA4
set_option linter.unusedVariables false
set_option linter.unusedSimpArgs false
namespace Go.M
open Go.RowKit
variable {P : Program} {n m : Nat} {a a0 : AEnv} {Q : AQ} {p : Prop} {L L' L0 : LM} {nx nx' nx0 ro gl : Nat} {D : Plan} {id i : Nat} {o : Oper} {v : Value} {ops : Array Oper} {rest : List Oper}
theorem GO.storeC {t : TypeId} {X Y : Operand} {b f : Nat} {c vs c' : List Value} {e : TypeId} {u : Value} (ho : o.op = .store t X Y) (hx : aev gl a X = some (.pointer (some ⟨b, f, none⟩))) (hy : aev gl a Y = some u) (hu : u.cells.toList = vs)
    (hsz : szOf P t = some vs.length) (hone : vs.all (·.oneCell') = true) (hL : alook L b = some (.cells c e)) (hro : ro ≤ b) (hfit : f + vs.length ≤ c.length) (hc : splice c f vs = c') : GO P n o a L nx ro gl (isR undef (AW.of (aset L b (.cells c' e)) nx ro gl)) :=
  ⟨nstep_sound (by
    unfold nstep
    rw [ho]
    simp only [hx, hy, Option.bind_some]
    have e2 : u.cells.size = vs.length := by rw [← Array.length_toList, hu]
    unfold lstore
    simp only [hu, e2]
    rw [if_pos ⟨hsz, hone⟩]
    unfold lput
    rw [hL]
    simp only
    rw [if_pos (by simp [Nat.ble_eq_true_of_le hro, Nat.ble_eq_true_of_le hfit]), hc])⟩
theorem GL.vN (hg : o.guard = none) (hd : o.dst = none) (h : GO P n o a L nx ro gl (isR undef (AW.of L' nx ro gl))) (k : GL P n m ops rest a L' nx ro gl Q) : GL P n m ops (o :: rest) a L nx ro gl Q :=
  ⟨AL.op1 hg (by rw [hd]; rfl) h.run (by rw [hd]; exact k.run)⟩
theorem GD.hO {Ms : MS} (ho : D.l[i]? = some o) (hr : D.H[Ms.length - 1]? = some i) (hM : Ms[Ms.length - 1]? = some (L, nx)) (hon : D.onAt a o) (hd : o.dst = none) (h : GO P n o (D.env a0 a i o) L nx ro gl (isR undef (AW.of L' nx ro gl)))
    (hf : AllJs (D.again P n a0 a (AW.of L' nx ro gl)) (D.floats i (Ms.length - 1))) (k : GD P n m D id a0 L0 nx0 ro gl Q (i + 1) a (Ms ++ [(L', nx)])) : GD P n m D id a0 L0 nx0 ro gl Q i a Ms :=
  ⟨DG.heavy (r := Ms.length - 1) (M := AW.of L nx ro gl) (M' := AW.of L' nx ro gl) ho hr (by unfold msOf; rw [List.getElem?_map, hM]; rfl) hon rfl h.run rfl hf.all (by rw [hd]; have := k.run; rw [msOf, List.map_append] at this; exact this)⟩
end Go.M
namespace Go.M
variable {P : Program} {n m : Nat} {a a1 : AEnv} {L L' : LM} {nx ro gl : Nat} {Q : AQ}
theorem ORn.same {k : Nat} {ρ : Nat → Option Nat} {y : AObj} (h : ObjLt k y) (hρ : ∀ j, j < k → ρ j = some j) : ORn ρ y y := by
  cases y with
  | cells c e => exact ⟨rfl, Rn.same h hρ⟩
  | map es e => exact ⟨rfl, rfl, rfl, Rn.same h hρ⟩
  | iter s p => exact ⟨rfl, rfl⟩
  | dfr => trivial
  | over c => exact rfl
  | loop r n a f ps x z => exact ⟨rfl, rfl, rfl, rfl, rfl, rfl, rfl, fun t v hv => Rn.same (h t v hv) hρ⟩
abbrev rhoO (K o : Nat) (j : Nat) : Option Nat := if j < K then some j else if j = K then some o else none
theorem rhoO_lt {K o j : Nat} (h : j < K) : rhoO K o j = some j := if_pos h
theorem rhoO_self {K o : Nat} : rhoO K o K = some o := by unfold rhoO; rw [if_neg (by omega), if_pos rfl]
theorem alook_hd {j : Nat} {y : AObj} {L : LM} : alook ((j, y) :: L) j = some y := by simp [alook]
theorem alook_tl {i j : Nat} {y : AObj} {L : LM} (h : j ≠ i) : alook ((i, y) :: L) j = alook L j := by
  rw [alook]; exact if_neg (Ne.symm h)
/-- The fresh object 'o' takes the name K; the object 'j0' refers to it. -/
theorem GT.resetO {c : Code} (K o j0 : Nat) {cs c0 c0' : List Value} {e e0 : TypeId} (ha : asub a1 a) (hL : subm L' L) (hm : Nat.ble m K = true) (hro : Nat.ble ro K = true) (hgl : Nat.ble gl K = true) (hu : ∀ j y, alook L' j = some y → j < K ∧ ObjLt K y) (he : EnvLt K a1)
    (hKo : K ≤ o) (hnx : True) (ho : alook L o = some (.cells cs e)) (hf : ∃ k, noAddrs k cs = true) (hj : alook L j0 = some (.cells c0 e0)) (hj0 : Nat.blt j0 K = true) (hc : ∀ ρ : Nat → Option Nat, (∀ j, j < K → ρ j = some j) → ρ K = some o → Rn ρ c0' c0)
    (hdense : (List.range K).all (fun j => (alook ((j0, .cells c0' e0) :: L') j).isSome) = true)
    (h : GT P n m c a1 ((K, .cells cs e) :: (j0, .cells c0' e0) :: L') (K + 1) ro gl Q) : GT P n m c a L nx ro gl Q := by
  have hm := Nat.le_of_ble_eq_true hm
  have hro := Nat.le_of_ble_eq_true hro
  have hgl := Nat.le_of_ble_eq_true hgl
  have hj0 : j0 < K := Nat.le_of_ble_eq_true hj0
  have hd : ∀ j, j < K → (alook ((j0, .cells c0' e0) :: L') j).isSome = true := fun j hj' => by
    have := List.all_eq_true.1 hdense j (List.mem_range.2 hj')
    exact this
  refine GT.rename (rhoO K o) _ (K + 1) a1 ?_ ?_ ?_ ?_ ?_ ?_ (by omega) (by omega) ?_ h
  · intro t v hv
    exact ⟨v, ha t v hv, Rn.same (he.get hv) fun j => rhoO_lt⟩
  · intro j y hy
    by_cases q : j = K
    · subst q
      rw [alook_hd] at hy; cases hy
      exact ⟨by omega, o, _, rhoO_self, ho, rfl, Rn.flat hf.choose_spec⟩
    · rw [alook_tl q] at hy
      by_cases q2 : j = j0
      · subst q2
        rw [alook_hd] at hy; cases hy
        exact ⟨by omega, j, _, rhoO_lt hj0, hj, rfl, hc _ (fun j => rhoO_lt) rhoO_self⟩
      · rw [alook_tl q2] at hy
        obtain ⟨h1, h2⟩ := hu j y hy
        exact ⟨by omega, j, y, rhoO_lt h1, hL j y hy, ORn.same h2 fun j => rhoO_lt⟩
  · intro j hn
    by_cases q : j = K
    · subst q; rw [alook_hd] at hn; cases hn
    · rw [alook_tl q] at hn
      rcases Nat.lt_or_ge j K with q2 | q2
      · have := hd j q2; rw [hn] at this; cases this
      · unfold rhoO; rw [if_neg (by omega), if_neg q]
  · intro j j' i h1 h2
    unfold rhoO at h1 h2
    split at h1
    · split at h2
      · cases h1; cases h2; rfl
      · split at h2
        · cases h1; cases h2; omega
        · cases h2
    · split at h1
      · split at h2
        · cases h1; cases h2; omega
        · split at h2
          · omega
          · cases h2
      · cases h1
  · intro j i h1
    unfold rhoO at h1
    split at h1
    · cases h1; exact Iff.rfl
    · split at h1
      · cases h1; omega
      · cases h1
  · intro j i h1 h2
    unfold rhoO at h1
    rw [if_pos (by omega)] at h1
    cases h1; rfl
  · intro g hg
    exact rhoO_lt (by omega)
end Go.M
namespace Go.M
variable {P : Program} {n m : Nat} {a : AEnv} {o : Oper} {ops : Array Oper} {rest : List Oper} {L L' : LM} {nx ro gl : Nat} {Q : AQ}
theorem GO.sliceLo {t e e0 : TypeId} {X Y : Operand} {k : IntKind} {b f l c s : Nat} {w : Int} {cs : List Value} (ho : o.op = .slice t X (some Y) none none) (hx : aev gl a X = some (.slice (some ⟨b, f, none⟩) l c)) (hy : aev gl a Y = some (.int k w))
    (hu : P.underlying t = some (.slice e)) (hs : szOf P e = some s) (h : 0 ≤ w ∧ w < l) (hc : l ≤ c) (hb : alook L b = some (.cells cs e0)) (hs0 : szOf P e0 = some s) :
    GO P n o a L nx ro gl (isR (.slice (some ⟨b, f + w.toNat * s, none⟩) (l - w.toNat) (c - w.toNat)) (AW.of L nx ro gl)) :=
  ⟨AOp.slice (vl := some (.int k w)) (vh := none) (vm := none) ho hx (by show (aev gl a Y).map some = _; rw [hy]; rfl) rfl rfl (by
    have hob : (AW.of L nx ro gl).objs b = some (.cells cs e0) := hb
    have h1 : abounds l c (some (.int k w)) none none = some (w.toNat, l, c) := by
      unfold abounds amx ahi alo abound
      simp only [Option.bind_some]
      rw [if_pos (by omega)]
      rfl
    have h2 : okEsz P (AW.of L nx ro gl) b s = true := by unfold okEsz; rw [hob]; simp [hs0]
    unfold aslice
    rw [hu]
    simp only [h1, hs, decide_eq_true hc]
    rw [if_neg (by omega), if_pos h2])⟩
theorem GO.sliceHi {t e e0 : TypeId} {X Y : Operand} {k : IntKind} {b f l c s : Nat} {w : Int} {cs : List Value} (ho : o.op = .slice t X none (some Y) none) (hx : aev gl a X = some (.slice (some ⟨b, f, none⟩) l c)) (hy : aev gl a Y = some (.int k w))
    (hu : P.underlying t = some (.slice e)) (hs : szOf P e = some s) (h : 0 ≤ w ∧ w ≤ c) (hc : l ≤ c) (h0 : 0 < c) (hb : alook L b = some (.cells cs e0)) (hs0 : szOf P e0 = some s) :
    GO P n o a L nx ro gl (isR (.slice (some ⟨b, f, none⟩) w.toNat c) (AW.of L nx ro gl)) :=
  ⟨AOp.slice (vl := none) (vh := some (.int k w)) (vm := none) ho hx rfl (by show (aev gl a Y).map some = _; rw [hy]; rfl) rfl (by
    have hob : (AW.of L nx ro gl).objs b = some (.cells cs e0) := hb
    have h1 : abounds l c none (some (.int k w)) none = some (0, w.toNat, c) := by
      unfold abounds amx ahi alo abound
      simp only [Option.bind_some]
      rw [if_pos (by omega)]
      rfl
    have h2 : okEsz P (AW.of L nx ro gl) b s = true := by unfold okEsz; rw [hob]; simp [hs0]
    unfold aslice
    rw [hu]
    simp only [h1, hs, decide_eq_true hc]
    rw [if_neg (by omega), if_pos h2]
    simp)⟩
/-- The elements of a slice of the builtin type's zero are set to zero. -/
theorem GL.clearI {c : Call} {t e e0 : TypeId} {x : Operand} {b f l k : Nat} {cs : List Value} (hg : o.guard = none) (hd : o.dst = none) (ho : o.op = .call c) (hc : c.callee = .builtin .clear) (ha : c.args.toList = [x]) (ht : c.argTypes.toList = [t]) (hx : aev gl a x = some (.slice (some ⟨b, f, none⟩) l k)) (hl : 0 < l)
    (hu : P.underlying t = some (.slice e)) (hz : zcells P e = some [.int .i64 0]) (hb : alook L b = some (.cells cs e0)) (hro : ro ≤ b) (hf : f + l ≤ cs.length)
    (q : GL P n m ops rest a (aset L b (.cells (splice cs f (List.replicate l (.int .i64 0))) e0)) nx ro gl Q) : GL P n m ops (o :: rest) a L nx ro gl Q := by
  obtain ⟨l', rfl⟩ : ∃ l', l = l' + 1 := ⟨l - 1, by omega⟩
  have hzc : zclear P e (l' + 1) = some (List.replicate (l' + 1) (.int .i64 0)) := by
    unfold zclear
    rw [hz]
    simp only [Option.map_some, Option.some.injEq, List.length_cons, List.length_nil, Nat.zero_add, Nat.mul_one, Nat.mod_one]
    refine List.ext_getElem (by simp) fun i h1 h2 => ?_
    simp
  refine ⟨AL.op1 hg (by rw [hd]; rfl) (AOp.clear ho hc ha ht hx hu hzc (by simp [Value.oneCell']) (lput_eq (L' := aset L b (.cells (splice cs f (List.replicate (l' + 1) (.int .i64 0))) e0)) ?_)) (by rw [hd]; exact q.run)⟩
  unfold lput
  rw [hb]
  simp only [List.length_replicate]
  rw [if_pos (by rw [Nat.ble_eq_true_of_le hro, Nat.ble_eq_true_of_le hf]; rfl)]
end Go.M
namespace Go.M
variable {P : Program} {n m : Nat} {a a1 : AEnv} {L L' : LM} {nx ro gl : Nat} {Q : AQ}
/-- The fresh object 'o' takes the name K; a variable refers to it. -/
theorem GT.resetE {c : Code} (K o : Nat) {d : Tmp} {u u' : Value} {cs : List Value} {e : TypeId} (ha : asub a1 a) (hL : subm L' L) (hm : Nat.ble m K = true) (hro : Nat.ble ro K = true) (hgl : Nat.ble gl K = true) (hu : ∀ j y, alook L' j = some y → j < K ∧ ObjLt K y) (he : EnvLt K a1)
    (hKo : K ≤ o) (hnx : True) (ho : alook L o = some (.cells cs e)) (hf : ∃ k, noAddrs k cs = true) (hv : aget a d = some u) (hc : ∀ ρ : Nat → Option Nat, (∀ j, j < K → ρ j = some j) → ρ K = some o → Rn ρ [u'] [u])
    (hdense : (List.range K).all (fun j => (alook L' j).isSome) = true)
    (h : GT P n m c ((d, u') :: a1) ((K, .cells cs e) :: L') (K + 1) ro gl Q) : GT P n m c a L nx ro gl Q := by
  have hm := Nat.le_of_ble_eq_true hm
  have hro := Nat.le_of_ble_eq_true hro
  have hgl := Nat.le_of_ble_eq_true hgl
  have hd : ∀ j, j < K → (alook L' j).isSome = true := fun j hj' => by
    have := List.all_eq_true.1 hdense j (List.mem_range.2 hj')
    exact this
  refine GT.rename (rhoO K o) _ (K + 1) ((d, u') :: a1) ?_ ?_ ?_ ?_ ?_ ?_ (by omega) (by omega) ?_ h
  · intro t v hv'
    simp only [aget] at hv'
    split at hv'
    · rename_i q; subst q; cases hv'
      exact ⟨u, hv, hc _ (fun j => rhoO_lt) rhoO_self⟩
    · exact ⟨v, ha t v hv', Rn.same (he.get hv') fun j => rhoO_lt⟩
  · intro j y hy
    by_cases q : j = K
    · subst q
      rw [alook_hd] at hy; cases hy
      exact ⟨by omega, o, _, rhoO_self, ho, rfl, Rn.flat hf.choose_spec⟩
    · rw [alook_tl q] at hy
      obtain ⟨h1, h2⟩ := hu j y hy
      exact ⟨by omega, j, y, rhoO_lt h1, hL j y hy, ORn.same h2 fun j => rhoO_lt⟩
  · intro j hn
    by_cases q : j = K
    · subst q; rw [alook_hd] at hn; cases hn
    · rw [alook_tl q] at hn
      rcases Nat.lt_or_ge j K with q2 | q2
      · have := hd j q2; rw [hn] at this; cases this
      · unfold rhoO; rw [if_neg (by omega), if_neg q]
  · intro j j' i h1 h2
    unfold rhoO at h1 h2
    split at h1
    · split at h2
      · cases h1; cases h2; rfl
      · split at h2
        · cases h1; cases h2; omega
        · cases h2
    · split at h1
      · split at h2
        · cases h1; cases h2; omega
        · split at h2
          · omega
          · cases h2
      · cases h1
  · intro j i h1
    unfold rhoO at h1
    split at h1
    · cases h1; exact Iff.rfl
    · split at h1
      · cases h1; omega
      · cases h1
  · intro j i h1 h2
    unfold rhoO at h1
    rw [if_pos (by omega)] at h1
    cases h1; rfl
  · intro g hg
    exact rhoO_lt (by omega)
end Go.M
namespace Go.M
variable {P : Program} {n m : Nat} {a a1 : AEnv} {o : Oper} {ops : Array Oper} {rest : List Oper} {L L' : LM} {nx ro gl : Nat} {Q : AQ} {A A1 : AW}
theorem madeI (k : Nat) : (madeCells #[Value.int .i64 0] k).toList = List.replicate k (.int .i64 0) := by
  refine List.ext_getElem (by simp [madeCells]) fun i h1 h2 => ?_
  simp [madeCells, Nat.mod_one]
theorem noAddrs_ints (k : Nat) : noAddrs (k + 1) (List.replicate k (Value.int .i64 0)) = true := by
  induction k with
  | zero => rfl
  | succ k ih => rw [List.replicate_succ]; simpa [noAddrs] using ih
theorem AOp.makeSliceI {t e : TypeId} {X Y : Operand} {k k2 : IntKind} {l : Nat} {inf : TypeInfo} (ho : o.op = .makeSlice t X Y) (hx : aev A.gl a X = some (.int k l)) (hy : aev A.gl a Y = some (.int k2 l)) (hu : P.underlying t = some (.slice e)) (hi : P.info? e = some inf) (hz : inf.zero = some (.int .i64 0)) (hs1 : inf.size = 1) (hsz : szOf P e = some 1) (hb : inf.bytes ≤ 1000) (hl : l ≤ 1000000) :
    AOp P n o a A (isR (.slice (some ⟨A.next, 0, none⟩) l l) (A.push (.cells (List.replicate l (.int .i64 0)) e))) :=
  .of fun w0 N w β S ae hs he => by
    have h1 := aev_sound hs he hx
    have h2 := aev_sound hs he hy
    generalize hw1 : ae.eval X = v1 at h1
    generalize hw2 : ae.eval Y = v2 at h2
    cases h1 with
    | int q1 =>
      cases q1
      cases h2 with
      | int q2 =>
        cases q2
        have hbl : (inf.bytes : Int) * (l : Int) ≤ 281474976710656 := by
          have : inf.bytes * l ≤ 1000 * 1000000 := Nat.mul_le_mul hb hl
          have h3 : ((inf.bytes * l : Nat) : Int) ≤ 281474976710656 := by omega
          rwa [Int.natCast_mul] at h3
        have hr := run_make (P := P) w t e inf (.int .i64 0) hu hi hz k k2 l l (by omega) (Int.le_refl _) hbl (by omega)
        simp only [Int.toNat_natCast] at hr
        refine ⟨_, _, ?_, Done.newSlice hs (c' := madeCells (Value.int .i64 0).cells (l * inf.size)) ?_ e 1 hsz l⟩
        · simp only [execOp, ho, hw1, hw2]
          simp [hr]
        · rw [hs1, Nat.mul_one, show (Value.int .i64 0).cells = #[Value.int .i64 0] from rfl, madeI]
          exact VRs.refl_of_noAddrs _ _ (noAddrs_ints l)
theorem AOp.copyI {c : Call} {t t2 e : TypeId} {X Y : Operand} {b b2 l k c2 : Nat} {ys : List Value} (ho : o.op = .call c) (hc : c.callee = .builtin .copy) (ha : c.args.toList = [X, Y]) (ht : c.argTypes.toList = [t, t2]) (hx : aev A.gl a X = some (.slice (some ⟨b, 0, none⟩) l k)) (hy : aev A.gl a Y = some (.slice (some ⟨b2, 0, none⟩) l c2))
    (hu : P.underlying t = some (.slice e)) (hsz : (P.info? e).map (·.size) = some 1) (hl : ys.length = l) (hr : A.rd b2 0 l = some ys) (hf : ∃ j, noAddrs j ys = true) (hone : ys.all (·.oneCell') = true) (hp : A.put b 0 ys = some A1) : AOp P n o a A (isR (.int .i64 l) A1) :=
  .of fun w0 N w β S ae hs he => by
    obtain ⟨j, hf⟩ := hf
    have h1 := aev_sound hs he hx
    have h2 := aev_sound hs he hy
    obtain ⟨L2, cs', hb2, hl2, hv2, hc2⟩ := hs.rd hr
    have e2 := VRs.eq_of_noAddrs hv2 j hf
    subst e2
    obtain ⟨L1, cur, ty, hb1, hg, hlen, hsim, hkeep, q1, q2, q3⟩ := hs.put hp (VRs.refl_of_noAddrs (β := β) (S := S) j _ hf)
    have e4 : c.args = #[X, Y] := by rw [← Array.toArray_toList (xs := c.args), ha]
    have e5 : c.argTypes = #[t, t2] := by rw [← Array.toArray_toList (xs := c.argTypes), ht]
    generalize hw1 : ae.eval X = v1 at h1
    generalize hw2 : ae.eval Y = v2 at h2
    cases h1 with
    | slD _ hbb _ _ => rw [hb1] at hbb; cases hbb
    | @sl _ _ _ _ _ c1' _ _ _ hbb _ _ r1 =>
      rw [hb1] at hbb; cases hbb
      cases r1
      cases h2 with
      | slD _ hbb _ _ => rw [hb2] at hbb; cases hbb
      | @sl _ _ _ _ _ c2' _ _ _ hbb _ _ r2 =>
        rw [hb2] at hbb; cases hbb
        cases r2
        have hrun := run_copy_row (P := P) w t t2 o.type e L1.blk (L1.off + 0) l c1' ⟨L2.blk, L2.off + 0, none⟩ l c2' cur ty cs' hu hsz hg (by rw [hl2]; simp) (fun j v hv => by rw [Addr.add_mid]; exact hc2 j v hv) hlen (VRs.one (VRs.refl_of_noAddrs (β := β) (S := S) j _ hf) hone)
        refine ⟨.int .i64 l, _, ?_, ⟨⟨β, S, hsim, .refl _, hkeep, .int .nil, by omega, q2, q3⟩⟩⟩
        rw [run_builtin_value ho hc]
        simp only [builtin, e4, e5, List.map_toArray, List.map_cons, List.map_nil, hw1, hw2]
        rw [Sem.run_bind, hrun, hl2]
        rfl
theorem GO.makeSliceI {t e : TypeId} {X Y : Operand} {k k2 : IntKind} {l : Nat} {inf : TypeInfo} (ho : o.op = .makeSlice t X Y) (hx : aev gl a X = some (.int k l)) (hy : aev gl a Y = some (.int k2 l)) (hu : P.underlying t = some (.slice e)) (hi : P.info? e = some inf) (hz : inf.zero = some (.int .i64 0)) (hs1 : inf.size = 1) (hsz : szOf P e = some 1) (hb : Nat.ble inf.bytes 1000 = true) (hl : l ≤ 1000000) :
    GO P n o a L nx ro gl (isR (.slice (some ⟨nx, 0, none⟩) l l) (AW.of ((nx, .cells (List.replicate l (.int .i64 0)) e) :: L) (nx + 1) ro gl)) :=
  ⟨by have := AOp.makeSliceI (A := AW.of L nx ro gl) (n := n) ho hx hy hu hi hz hs1 hsz (Nat.le_of_ble_eq_true hb) hl; rw [AW.of_push] at this; exact this⟩
theorem GO.copyI {c : Call} {t t2 e e0 e1 : TypeId} {X Y : Operand} {b b2 l k c2 : Nat} {ys zs : List Value} (ho : o.op = .call c) (hc : c.callee = .builtin .copy) (ha : c.args.toList = [X, Y]) (ht : c.argTypes.toList = [t, t2]) (hx : aev gl a X = some (.slice (some ⟨b, 0, none⟩) l k)) (hy : aev gl a Y = some (.slice (some ⟨b2, 0, none⟩) l c2))
    (hu : P.underlying t = some (.slice e)) (hsz : (P.info? e).map (·.size) = some 1) (hl : ys.length = l) (hb2 : alook L b2 = some (.cells ys e1)) (hf : ∃ j, noAddrs j ys = true) (hone : ys.all (·.oneCell') = true) (hb : alook L b = some (.cells zs e0)) (hlz : zs.length = l) (hro : ro ≤ b) :
    GO P n o a L nx ro gl (isR (.int .i64 l) (AW.of (aset L b (.cells ys e0)) nx ro gl)) :=
  ⟨AOp.copyI ho hc ha ht hx hy hu hsz hl (by rw [← hl]; exact rd_self hb2) hf hone (lput_eq (by
    unfold lput
    rw [hb]
    simp only
    rw [if_pos (by rw [Nat.ble_eq_true_of_le hro, Nat.ble_eq_true_of_le (by omega)]; rfl)]
    have : splice zs 0 ys = ys := by
      unfold splice
      rw [List.take_zero, List.nil_append, List.drop_of_length_le (by omega), List.append_nil]
    rw [this]))⟩
end Go.M
namespace Go.M
section
variable {F : Fence} {n : Nat} {P : Program} {Q : Exit → Act → World → Prop} {a : Act} {w : World} {b : Frame} {k : List Item} {cs : List Frame}
theorem stepR_scope {c : Code} : step P (lone (b.atR a (.code (.scope c) :: k)) cs w) = .next (lone (b.atR a (.code c :: .inScope c :: k)) cs w) :=
  step_lone_go (by simp [stepG, stepG.exec, Frame.atR])
theorem stepR_inScope {c : Code} : step P (lone (b.atR a (.inScope c :: k)) cs w) = .next (lone (b.atR a k) cs w) :=
  step_lone_go (by simp [stepG, stepG.exec, Frame.atR])
theorem wpIn_scope {c : Code} (h : c.wpIn F n P (Exit.noGoto Q) a w) : (Code.scope c).wpIn F n P Q a w := by
  intro b k cs hro hb hr
  have h0 : (lone (b.atR a (.code (.scope c) :: k)) cs w).fenced P F := fenced_calm hb hr rfl
  obtain ⟨e, a₁, w₁, hq, harr⟩ := h b (.inScope c :: k) cs hro hb hr
  cases e with
  | normal => exact ⟨.normal, a₁, w₁, hq, .head h0 stepR_scope (StepsIn.trans harr (.one (fenced_calm hb hr rfl) stepR_inScope))⟩
  | exit id' =>
    have hx : exitTo id' (.inScope c :: k) = exitTo id' k := by simp [exitTo]
    exact ⟨.exit id', a₁, w₁, hq, fun k' hk => .head h0 stepR_scope (harr.1 k' (by rw [hx]; exact hk)),
      fun hr' hk => let ⟨k₁, h1, h2⟩ := harr.2 hr' (by rw [hx]; exact hk); ⟨k₁, h1, .head h0 stepR_scope h2⟩⟩
  | goto l => exact hq.elim
  | ret => exact ⟨_, a₁, w₁, hq, .of_steps (.one h0 stepR_scope) harr⟩
  | panic ch => exact ⟨_, a₁, w₁, hq, .of_steps (.one h0 stepR_scope) harr⟩
  | outgrown => exact ⟨_, a₁, w₁, hq, .of_steps (.one h0 stepR_scope) harr⟩
end
variable {P : Program} {n m : Nat} {a : AEnv} {A : AW} {L : LM} {nx ro gl : Nat} {Q : AQ}
def AScope (Q : AQ) : AQ
  | .goto _, _, _ => False
  | e, a, A => Q e a A
theorem AT.scope {c : Code} (h : AT P n m c a A (AScope Q)) : AT P n m (.scope c) a A Q :=
  fun r w0 N w β S ae hm hs he => wpIn_scope (wpIn_mono (h r w0 N w β S ae hm hs he) (fun e ae' w' ⟨β1, S1, a1, A1, hx, hy, hz⟩ => by
    cases e with
    | goto l => exact hz.elim
    | exit id => exact ⟨β1, S1, a1, A1, hx, hy, hz⟩
    | normal => exact ⟨β1, S1, a1, A1, hx, hy, hz⟩
    | ret => exact ⟨β1, S1, a1, A1, hx, hy, hz⟩
    | panic c => exact ⟨β1, S1, a1, A1, hx, hy, hz⟩
    | outgrown => exact ⟨β1, S1, a1, A1, hx, hy, hz⟩))
theorem GT.scope {c : Code} (h : GT P n m c a L nx ro gl (AScope Q)) : GT P n m (.scope c) a L nx ro gl Q := ⟨AT.scope h.run⟩
theorem GP.scopeN (h : GP Q .normal a L nx ro gl) : GP (AScope Q) .normal a L nx ro gl := ⟨h.run⟩
theorem GP.scopeR (h : GP Q .ret a L nx ro gl) : GP (AScope Q) .ret a L nx ro gl := ⟨h.run⟩
theorem GP.scopeE {id : Nat} (h : GP Q (.exit id) a L nx ro gl) : GP (AScope Q) (.exit id) a L nx ro gl := ⟨h.run⟩
end Go.M
namespace Go.M
open Go.RowKit
variable {P : Program} {n : Nat} {a : AEnv} {o : Oper} {nx ro gl k : Nat} {B X : LM}
theorem alook_app : ∀ (B X : LM) (j : Nat), alook (B ++ X) j = (alook B j).or (alook X j)
  | [], X, j => by simp [alook]
  | (i, y) :: B, X, j => by
    simp only [List.cons_append, alook]
    by_cases q : i = j
    · rw [if_pos q, if_pos q]; rfl
    · rw [if_neg q, if_neg q, alook_app B X j]
def below (k : Nat) (B : LM) : Bool := B.all fun p => Nat.blt p.1 k
theorem alook_below : ∀ {B : LM} {j : Nat}, below k B = true → k ≤ j → alook B j = none
  | [], _, _, _ => rfl
  | (i, y) :: B, j, h, hj => by
    simp only [below, List.all_cons, Bool.and_eq_true] at h
    have hi : i < k := Nat.le_of_ble_eq_true h.1
    simp only [alook]
    rw [if_neg (by omega)]
    exact alook_below (B := B) h.2 hj
theorem app_new {j : Nat} (hB : below k B = true) (hj : k ≤ j) : alook (B ++ X) j = alook X j := by
  rw [alook_app, alook_below hB hj]; rfl
theorem app_old {j : Nat} {y : AObj} (h : alook B j = some y) : alook (B ++ X) j = some y := by
  rw [alook_app, h]; rfl
/-- As many objects as are told, from a name on. -/
def famB (F : Nat → AObj) (nx : Nat) : Nat → LM
  | 0 => []
  | m + 1 => (nx + m, F m) :: famB F nx m
theorem famB_look (F : Nat → AObj) (nx : Nat) (L : LM) : ∀ (m j : Nat), alook (famB F nx m ++ L) j = if nx ≤ j ∧ j < nx + m then some (F (j - nx)) else alook L j
  | 0, j => by simp only [famB, List.nil_append]; rw [if_neg (by omega)]
  | m + 1, j => by
    simp only [famB, List.cons_append, alook]
    by_cases q : nx + m = j
    · rw [if_pos q, if_pos (by omega)]; subst q; rw [show nx + m - nx = m by omega]
    · rw [if_neg q, famB_look F nx L m j]
      by_cases q2 : nx ≤ j ∧ j < nx + m
      · rw [if_pos q2, if_pos (by omega)]
      · rw [if_neg q2, if_neg (by omega)]
theorem AW.of_ext {L L' : LM} (h : ∀ j, alook L j = alook L' j) : AW.of L nx ro gl = AW.of L' nx ro gl := by
  unfold AW.of
  simp only [AW.mk.injEq, and_true]
  funext j
  exact h j
theorem of_pushB {x : AObj} (hB : below k B = true) (hk : k ≤ nx) : (AW.of (B ++ X) nx ro gl).push x = AW.of (B ++ (nx, x) :: X) (nx + 1) ro gl := by
  rw [AW.of_push]
  refine AW.of_ext fun j => ?_
  rw [alook_app]
  simp only [alook]
  by_cases q : nx = j
  · rw [if_pos q, if_pos q, alook_below hB (by omega)]; rfl
  · rw [if_neg q, if_neg q, alook_app]
theorem of_pushFB {m : Nat} {F : Nat → AObj} (hB : below k B = true) (hk : k ≤ nx) : (AW.of (B ++ X) nx ro gl).pushF m F = AW.of (B ++ (famB F nx m ++ X)) (nx + m) ro gl := by
  have e : ∀ j, alook (B ++ (famB F nx m ++ X)) j = if nx ≤ j ∧ j < nx + m then some (F (j - nx)) else alook (B ++ X) j := fun j => by
    rw [alook_app B (famB F nx m ++ X) j, famB_look]
    by_cases q : nx ≤ j ∧ j < nx + m
    · rw [if_pos q, if_pos q, alook_below hB (by omega)]; rfl
    · rw [if_neg q, if_neg q, alook_app]
  unfold AW.pushF
  simp only [AW.of, AW.mk.injEq, and_true]
  funext j
  rw [e]
  rfl
theorem of_eraseB {b : Nat} (hB : below k B = true) (hk : k ≤ b) : AW.of (aerase (B ++ X) b) nx ro gl = AW.of (B ++ aerase X b) nx ro gl := by
  refine AW.of_ext fun j => ?_
  rw [alook_aerase, alook_app, alook_app, alook_aerase]
  by_cases q : j = b
  · subst q; rw [alook_below hB hk]; simp
  · simp [q]
theorem cons_eraseB {b : Nat} {x : AObj} (hB : below k B = true) (hk : k ≤ b) (hn : k ≤ nx) : AW.of ((nx, x) :: aerase (B ++ X) b) (nx + 1) ro gl = AW.of (B ++ (nx, x) :: aerase X b) (nx + 1) ro gl := by
  rw [← of_pushB hB hn, AW.of_push]
  refine AW.of_ext fun j => ?_
  simp only [alook]
  split
  · rfl
  · have h := of_eraseB (X := X) (nx := nx) (ro := ro) (gl := gl) hB hk
    have h := congrArg AW.objs h
    exact congrFun h j
theorem cons_B {x : AObj} (hB : below k B = true) (hn : k ≤ nx) : AW.of ((nx, x) :: (B ++ X)) (nx + 1) ro gl = AW.of (B ++ (nx, x) :: X) (nx + 1) ro gl := by
  rw [← of_pushB hB hn, AW.of_push]
theorem GO.pushB {v : Value} {x : AObj} (hB : below k B = true) (hk : k ≤ nx) (h : GO P n o a (B ++ X) nx ro gl (isR v ((AW.of (B ++ X) nx ro gl).push x))) : GO P n o a (B ++ X) nx ro gl (isR v (AW.of (B ++ (nx, x) :: X) (nx + 1) ro gl)) := by
  rw [of_pushB hB hk] at h
  exact h
end Go.M
