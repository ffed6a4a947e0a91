/- Part 21: clear. -/
import Derived.Test.YtfhodefiknfccaaM20
set_option linter.unusedVariables false
set_option linter.unusedSimpArgs false
namespace Go.M
open Go.RowKit
variable {P : Program} {n m : Nat} {A A' A1 : AW} {a : AEnv} {Q : AQ} {L L' : LM} {nx ro gl : Nat} {ops : Array Oper} {rest : List Oper} {o : Oper}

def zclear (P : Program) (e : TypeId) (l : Nat) : Option (List Value) := (zcells P e).map fun z => (List.range (l * z.length)).map fun i => z.getD (i % z.length) default
theorem zclear_run {e : TypeId} {l : Nat} {zs : List Value} (h : zclear P e l = some zs) : ∃ zv : Value, (∀ w, (zeroValue e).run P w = .ok zv w) ∧ (Builtin.zeroCells zv.cells l).toList = zs ∧ ∀ β S, VRs β S zs zs := by
  unfold zclear at h
  cases h1 : zcells P e with
  | none => simp [h1] at h
  | some z =>
    simp only [h1, Option.map_some, Option.some.injEq] at h
    obtain ⟨zv, hz0, hz, hr⟩ := zcells_run h1
    have hd : ∀ β S, VR β S (default : Value) default := fun β S => VRs.refl_of_noAddrs 8 _ rfl
    refine ⟨zv, hz, ?_, ?_⟩
    · subst h
      unfold Builtin.zeroCells
      simp only [Array.toList_map, Array.toList_range]
      have hl : z.length = zv.cells.size := by rw [← hz0]; simp
      rw [hl]
      apply List.map_congr_left
      intro i _
      simp only [← hz0]
      rw [getElem!_def, List.getD_eq_getElem?_getD, Array.getElem?_toList]
      cases zv.cells[i % zv.cells.size]? <;> rfl
    · intro β S
      subst h
      refine VRs.of_get (by simp) fun i v v' h1 h2 => ?_
      simp only [List.getElem?_map, Option.map_eq_some_iff] at h1 h2
      obtain ⟨j, hj, rfl⟩ := h1
      obtain ⟨j', hj', rfl⟩ := h2
      rw [hj] at hj'; cases hj'
      exact (hr β S).getD (hd β S) _

theorem AOp.clear {c : Call} {t e : TypeId} {x : Operand} {b f l k : Nat} {zs : List Value} (ho : o.op = .call c) (hc : c.callee = .builtin .clear) (ha : c.args.toList = [x]) (ht : c.argTypes.toList = [t]) (hx : aev A.gl a x = some (.slice (some ⟨b, f, none⟩) (l + 1) k))
    (hu : P.underlying t = some (.slice e)) (hz : zclear P e (l + 1) = some zs) (hone : zs.all (·.oneCell') = true) (hp : A.put b f zs = some A1) : AOp P n o a A (isR undef A1) := by
  intro w0 N w β S ae hs he K Z hk
  have hv := aev_sound hs he hx
  obtain ⟨zv, z1, z2, z3⟩ := zclear_run hz
  obtain ⟨L, cur, ty, hb, hg, hl, hsim, _, e1, e2, e3⟩ := hs.put hp (z3 β S)
  have hst := run_storeCells_at P L.blk (L.off + f) ty zs 0 cur w hg (by simpa using hl) (VRs.one (z3 β S) hone)
  simp only [Nat.add_zero] at hst
  have e4 : c.args = #[x] := by rw [← Array.toArray_toList (xs := c.args), ha]
  have e5 : c.argTypes = #[t] := by rw [← Array.toArray_toList (xs := c.argTypes), ht]
  generalize hw : ae.eval x = v' at hv
  have hr : ∃ w1, (execOp ae.eval o).run P w = .ok (.value (.tuple #[])) w1 ∧ Sim P w0 N β S A1 w1 := by
    cases hv with
    | @sl _ _ _ _ _ c' _ _ _ hb2 _ _ _ =>
      rw [hb] at hb2; cases hb2
      have : ∀ w1, (storeCells ⟨L.blk, L.off + f, none⟩ zs).run P w = .ok () w1 → (Builtin.clear_ #[t] o.type #[.slice (some ⟨L.blk, L.off + f, none⟩) (l + 1) c']).run P w = .ok (.tuple #[]) w1 := by
        intro w1 h1
        simp only [Builtin.clear_]
        simp [run_underlying hu, z1, z2, h1]
      refine ⟨_, ?_, hsim⟩
      rw [run_builtin_value ho hc]
      simp only [builtin, e4, e5, List.map_toArray, List.map_cons, List.map_nil, hw]
      rw [Sem.run_bind, this _ hst]
      rfl
    | slD _ hb2 _ _ => rw [hb] at hb2; cases hb2
  obtain ⟨w1, h1, h2⟩ := hr
  unfold Oper.wp
  rw [h1]
  exact hk undef undef w1 β S A1 ⟨rfl, rfl⟩ ⟨h2, .refl _ _ _, by omega, e2, e3⟩ (.tuple .nil .nil)
theorem GL.clear {c : Call} {t e : TypeId} {x : Operand} {b f l k : Nat} {zs : List Value} (hg : o.guard = none) (hd : o.dst = none) (ho : o.op = .call c) (hc : c.callee = .builtin .clear) (ha : c.args.toList = [x]) (ht : c.argTypes.toList = [t]) (hx : aev gl a x = some (.slice (some ⟨b, f, none⟩) (l + 1) k))
    (hu : P.underlying t = some (.slice e)) (hz : zclear P e (l + 1) = some zs) (hone : zs.all (·.oneCell') = true) (hp : ((lput L ro b f zs).bind fun L => fL L some) = some L') (k : GL P n m ops rest a L' nx ro gl Q) : GL P n m ops (o :: rest) a L nx ro gl Q := by
  obtain ⟨L1, h1, h2⟩ := bind_some hp
  rw [fL_eq] at h2
  cases h2
  exact ⟨AL.op1 hg (by rw [hd]; rfl) (AOp.clear ho hc ha ht hx hu hz hone (lput_eq h1)) (by rw [hd]; exact k.run)⟩
end Go.M
