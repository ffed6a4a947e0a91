/- Part of the abstract machine of this claim (no condition). -/
import Derived.Test.YtfhodefiknfccaaDoorA6
set_option linter.unusedVariables false
set_option linter.unusedSimpArgs false
namespace Go.M
open Go.RowKit
def DX (P : Program) (n : Nat) (D : Plan) (a0 : AEnv) (A0 : AW) (C : Prop) (i : Nat) (a : AEnv) (Ms : List AW) : Prop := D.chk n = true → Good P n D a0 A0 i a Ms → C
section
variable {P : Program} {n : Nat} {A A' A1 A2 A0 : AW} {a a1 a0 : AEnv} {C : Prop} {D : Plan} {Ms : List AW} {i : Nat} {o : Oper} {v : Value}
theorem DX.light {ms : List AW} (ho : D.l[i]? = some o) (hH : D.H.contains i = false) (hon : D.onAt a o) (hms : D.okMs i Ms = ms) {e : AEnv} (he : D.env a0 a i o = e) (h : AllM (fun M => AOp P n o e M (isR v M)) ms)
    (k : DX P n D a0 A0 C (i + 1) (aput a o.dst v) Ms) : DX P n D a0 A0 C i a Ms := fun hc hg => by
  subst hms; subst he
  have hok := Plan.ok_of_chk hc
  have hH : i ∉ D.H := by simpa using hH
  refine k hc ⟨fun r h hr => ?_, hg.head, keep_put hok ho hg.keep, fun j oj hj hoj => ?_⟩
  · have : h ≠ i := fun e => hH (e ▸ List.mem_of_getElem? hr)
    rw [← hg.len r h hr]; omega
  · by_cases q : j = i
    · subst q
      rw [ho] at hoj; cases hoj
      refine .inr ⟨onAt_put hok ho ho (.inr rfl) hon, fun r hr => absurd (List.mem_of_getElem? hr) hH, fun _ k M hM hokk => ⟨v, fun d hd => aget_put hd, ?_⟩⟩
      rw [env_put hok ho ho (.inr rfl)]
      refine h.mem M ?_
      unfold Plan.okMs
      rw [List.mem_map]
      exact ⟨(M, k), by rw [List.mem_filter, List.mk_mem_zipIdx_iff_getElem?]; exact ⟨hM, hokk⟩, rfl⟩
    · have hji : j < i := by omega
      rcases hg.obs j oj hji hoj with ⟨h1, h2⟩ | ⟨h1, h2, h3⟩
      · exact .inl ⟨offAt_put hok ho hoj hji h1, h2⟩
      · refine .inr ⟨onAt_put hok ho hoj (.inl hji) h1, fun r hr => ?_, fun hn k M hM hokk => opAt_put hok ho hoj hji (h3 hn k M hM hokk)⟩
        obtain ⟨M, M', e1, e2, e3⟩ := h2 r hr
        exact ⟨M, M', e1, e2, opAt_put hok ho hoj hji e3⟩
theorem DX.off (ho : D.l[i]? = some o) (hH : D.H.contains i = false) {g : Nat} {b : Bool} {d : Nat} {u : Value} (h1 : o.guard = some (g, b)) (h2 : (D.l[g]?).bind (·.dst) = some d) (h3 : aget a d = some u) (h5 : u = .bool (!b) ∨ u = undef)
    (k : DX P n D a0 A0 C (i + 1) (aput a o.dst undef) Ms) : DX P n D a0 A0 C i a Ms := fun hc hg => by
  have hok := Plan.ok_of_chk hc
  have hH : i ∉ D.H := by simpa using hH
  refine k hc ⟨fun r h hr => ?_, hg.head, keep_put hok ho hg.keep, fun j oj hj hoj => ?_⟩
  · have : h ≠ i := fun e => hH (e ▸ List.mem_of_getElem? hr)
    rw [← hg.len r h hr]; omega
  · by_cases q : j = i
    · subst q
      rw [ho] at hoj; cases hoj
      refine .inl ⟨⟨⟨g, b, d, u, h1, h2, ?_, h5⟩, fun d hd => aget_put hd⟩, hH⟩
      have hgl := hok.anlt j o ho g (hok.guard j o ho g b h1)
      cases hl : D.l[g]? with
      | none => simp [hl] at h2
      | some og =>
        simp only [hl, Option.bind_some] at h2
        rw [put_other hok ho hl (by omega) h2]
        exact h3
    · have hji : j < i := by omega
      rcases hg.obs j oj hji hoj with ⟨h1, h2⟩ | ⟨h1, h2, h3⟩
      · exact .inl ⟨offAt_put hok ho hoj hji h1, h2⟩
      · refine .inr ⟨onAt_put hok ho hoj (.inl hji) h1, fun r hr => ?_, fun hn k M hM hokk => opAt_put hok ho hoj hji (h3 hn k M hM hokk)⟩
        obtain ⟨M, M', e1, e2, e3⟩ := h2 r hr
        exact ⟨M, M', e1, e2, opAt_put hok ho hoj hji e3⟩
theorem DX.heavy {r : Nat} {M M' : AW} {js : List Nat} (ho : D.l[i]? = some o) (hr : D.H[r]? = some i) (hM : Ms[r]? = some M) (hon : D.onAt a o) {e : AEnv} (he : D.env a0 a i o = e) (h : AOp P n o e M (isR v M'))
    (hjs : D.floats i r = js) (hf : AllJ (D.again P n a0 a M') js) (k : DX P n D a0 A0 C (i + 1) (aput a o.dst v) (Ms ++ [M'])) : DX P n D a0 A0 C i a Ms := fun hc hg => by
  subst hjs; subst he
  have hok := Plan.ok_of_chk hc
  have hlen : Ms.length = r + 1 := by
    have h1 := hg.len r i hr
    have h2 := (List.getElem?_eq_some_iff.1 hM).1
    omega
  have hlt : ∀ k M, Ms[k]? = some M → (Ms ++ [M'])[k]? = some M := fun k M h => by rw [List.getElem?_append_left (List.getElem?_eq_some_iff.1 h).1]; exact h
  have hnew : (Ms ++ [M'])[r + 1]? = some M' := by rw [List.getElem?_append_right (by omega)]; simp [hlen]
  have hinj : ∀ r' h, D.H[r']? = some h → r < r' → i < h := by
    intro r' h hr' hlt'
    induction r' generalizing h with
    | zero => omega
    | succ r' ih =>
      have hl' : r' < D.H.length := by have := (List.getElem?_eq_some_iff.1 hr').1; omega
      have hx := List.getElem?_eq_getElem hl'
      have hm := hok.chain r' _ h hx hr'
      have hhl : h < D.l.length := hok.hlt h (List.mem_of_getElem? hr')
      have := hok.anlt h _ (List.getElem?_eq_getElem hhl) _ hm
      rcases Nat.lt_or_ge r r' with q | q
      · have := ih _ hx q; omega
      · have : r' = r := by omega
        subst this
        rw [hr] at hx; have := Option.some.inj hx; omega
  refine k hc ⟨fun r' h hr' => ?_, hlt _ _ hg.head, keep_put hok ho hg.keep, fun j oj hj hoj => ?_⟩
  · simp only [List.length_append, List.length_singleton]
    rcases Nat.lt_trichotomy r' r with q | q | q
    · have := (hg.len r' h hr').2 (by omega)
      omega
    · subst q; rw [hr] at hr'; cases hr'; omega
    · have := hinj r' h hr' q
      omega
  · by_cases q : j = i
    · subst q
      rw [ho] at hoj; cases hoj
      refine .inr ⟨onAt_put hok ho ho (.inr rfl) hon, fun r' hr' => ?_, fun hn => absurd (List.mem_of_getElem? hr) hn⟩
      have e : r' = r := by
        rcases Nat.lt_trichotomy r' r with q | q | q
        · have := (hg.len r' j hr').2 (by omega); omega
        · exact q
        · have := hinj r' j hr' q; omega
      subst e
      exact ⟨M, M', hlt _ _ hM, hnew, v, fun d hd => aget_put hd, by rw [env_put hok ho ho (.inr rfl)]; exact h⟩
    · have hji : j < i := by omega
      rcases hg.obs j oj hji hoj with ⟨h1, h2⟩ | ⟨h1, h2, h3⟩
      · exact .inl ⟨offAt_put hok ho hoj hji h1, h2⟩
      · by_cases hjH : j ∈ D.H
        · refine .inr ⟨onAt_put hok ho hoj (.inl hji) h1, fun r hr => ?_, fun hn => absurd hjH hn⟩
          obtain ⟨M, M', e1, e2, e3⟩ := h2 r hr
          exact ⟨M, M', hlt _ _ e1, hlt _ _ e2, opAt_put hok ho hoj hji e3⟩
        · by_cases hfl : D.okk j (r + 1) = true
          · have hmem : j ∈ D.floats i r := by
              unfold Plan.floats
              rw [List.mem_filter]
              exact ⟨List.mem_range.2 hji, by simp [hjH, hfl]⟩
            obtain ⟨oj', e1, e2⟩ := hf.mem j hmem
            rw [hoj] at e1; cases e1
            rcases e2 with e2 | e2
            · exact .inl ⟨offAt_put hok ho hoj hji e2, hjH⟩
            · refine .inr ⟨onAt_put hok ho hoj (.inl hji) h1, fun r hr => absurd (List.mem_of_getElem? hr) hjH, fun hn k M hM hokk => opAt_put hok ho hoj hji ?_⟩
              rcases Nat.lt_or_ge k Ms.length with hk | hk
              · rw [List.getElem?_append_left hk] at hM; exact h3 hn k M hM hokk
              · have : k = r + 1 := by
                  have := (List.getElem?_eq_some_iff.1 hM).1
                  simp at this
                  omega
                subst this
                rw [hnew] at hM; cases hM
                exact e2
          · refine .inr ⟨onAt_put hok ho hoj (.inl hji) h1, fun r hr => absurd (List.mem_of_getElem? hr) hjH, fun hn k M hM hokk => opAt_put hok ho hoj hji ?_⟩
            rcases Nat.lt_or_ge k Ms.length with hk | hk
            · rw [List.getElem?_append_left hk] at hM; exact h3 hn k M hM hokk
            · have : k = r + 1 := by
                have := (List.getElem?_eq_some_iff.1 hM).1
                simp at this
                omega
              subst this
              exact absurd hokk hfl
end
structure GX (P : Program) (n : Nat) (D : Plan) (a0 : AEnv) (L0 : LM) (nx0 ro gl : Nat) (C : Prop) (i : Nat) (a : AEnv) (Ms : MS) : Prop where
  run : DX P n D a0 (AW.of L0 nx0 ro gl) C i a (msOf ro gl Ms)
section
variable {P : Program} {n m : Nat} {a a0 : AEnv} {Q : AQ} {C p : Prop} {L L' L0 : LM} {nx nx' nx0 ro gl : Nat} {D : Plan} {id i : Nat} {o : Oper} {v : Value}
theorem GX.start {l : List Oper} (An : List (List Nat)) (H : List Nat) (hc : (Plan.mk l An H).chk n = true) (h : GX P n ⟨l, An, H⟩ a L nx ro gl C 0 a [(L, nx)]) : C :=
  h.run hc ⟨fun r h _ => by simp [msOf], rfl, fun _ _ => rfl, fun j _ hj => by omega⟩
theorem GX.done {Ms : MS} (hi : Nat.beq D.l.length i = true) (h : D.chk n = true → Good P n D a0 (AW.of L0 nx0 ro gl) D.l.length a (msOf ro gl Ms) → C) : GX P n D a0 L0 nx0 ro gl C i a Ms :=
  ⟨fun hc hg => h hc (by rw [Nat.eq_of_beq_eq_true hi]; exact hg)⟩
theorem GX.light {Ms : MS} {d : Nat} (ho : D.l[i]? = some o) (hH : D.H.contains i = false) (hon : D.onAt a o) (hd : o.dst = some d) (h : AllMs (fun L nx => AOp P n o (D.env a0 a i o) (AW.of L nx ro gl) (isR v (AW.of L nx ro gl))) (okMs' D i Ms))
    (k : GX P n D a0 L0 nx0 ro gl C (i + 1) ((d, v) :: a) Ms) : GX P n D a0 L0 nx0 ro gl C i a Ms :=
  ⟨DX.light ho hH hon (okMs_map D i Ms ro gl) rfl (AllMs.all h) (by rw [hd]; exact k.run)⟩
theorem GX.off {Ms : MS} {e g d : Nat} {b : Bool} {u : Value} (ho : D.l[i]? = some o) (hH : D.H.contains i = false) (h1 : o.guard = some (g, b)) (h2 : (D.l[g]?).bind (·.dst) = some d) (h3 : aget a d = some u) (h5 : u = .bool (!b) ∨ u = undef) (hd : o.dst = some e)
    (k : GX P n D a0 L0 nx0 ro gl C (i + 1) ((e, undef) :: a) Ms) : GX P n D a0 L0 nx0 ro gl C i a Ms :=
  ⟨DX.off ho hH h1 h2 h3 h5 (by rw [hd]; exact k.run)⟩
theorem GX.heavy {Ms : MS} {d : Nat} (ho : D.l[i]? = some o) (hr : D.H[Ms.length - 1]? = some i) (hM : Ms[Ms.length - 1]? = some (L, nx)) (hon : D.onAt a o) (hd : o.dst = some d) (h : AOp P n o (D.env a0 a i o) (AW.of L nx ro gl) (isR v (AW.of L' nx' ro gl)))
    (hf : AllJs (D.again P n a0 a (AW.of L' nx' ro gl)) (D.floats i (Ms.length - 1))) (k : GX P n D a0 L0 nx0 ro gl C (i + 1) ((d, v) :: a) (Ms ++ [(L', nx')])) : GX P n D a0 L0 nx0 ro gl C i a Ms :=
  ⟨DX.heavy (r := Ms.length - 1) (M := AW.of L nx ro gl) (M' := AW.of L' nx' ro gl) ho hr (by unfold msOf; rw [List.getElem?_map, hM]; rfl) hon rfl h rfl hf.all (by rw [hd]; have := k.run; rw [msOf, List.map_append] at this; exact this)⟩
theorem GX.heavyN {Ms : MS} (ho : D.l[i]? = some o) (hr : D.H[Ms.length - 1]? = some i) (hM : Ms[Ms.length - 1]? = some (L, nx)) (hon : D.onAt a o) (hd : o.dst = none) (h : nstep P o (D.env a0 a i o) L nx ro gl = some L')
    (hf : AllJs (D.again P n a0 a (AW.of L' nx ro gl)) (D.floats i (Ms.length - 1))) (k : GX P n D a0 L0 nx0 ro gl C (i + 1) a (Ms ++ [(L', nx)])) : GX P n D a0 L0 nx0 ro gl C i a Ms :=
  ⟨DX.heavy (r := Ms.length - 1) (M := AW.of L nx ro gl) (M' := AW.of L' nx ro gl) ho hr (by unfold msOf; rw [List.getElem?_map, hM]; rfl) hon rfl (nstep_sound h) rfl hf.all (by rw [hd]; have := k.run; rw [msOf, List.map_append] at this; exact this)⟩
theorem GX.heavyF {Ms : MS} (ho : D.l[i]? = some o) (hr : D.H[Ms.length - 1]? = some i) (hM : Ms[Ms.length - 1]? = some (L, nx)) (hon : D.onAt a o) (hd : o.dst = none) (h : nstepF P o (D.env a0 a i o) L nx ro gl = some L')
    (hf : AllJs (D.again P n a0 a (AW.of L' nx ro gl)) (D.floats i (Ms.length - 1))) (k : GX P n D a0 L0 nx0 ro gl C (i + 1) a (Ms ++ [(L', nx)])) : GX P n D a0 L0 nx0 ro gl C i a Ms := GX.heavyN ho hr hM hon hd (nstepF_eq h) hf k
theorem GX.li {Ms : MS} {d : Nat} (ho : D.l[i]? = some o) (hH : D.H.contains i = false) (hon : D.onAt a o) (hd : o.dst = some d) (h : AllG P n o (D.env a0 a i o) ro gl v (okMs' D i Ms))
    (k : GX P n D a0 L0 nx0 ro gl C (i + 1) ((d, v) :: a) Ms) : GX P n D a0 L0 nx0 ro gl C i a Ms := GX.light ho hH hon hd h.ms k
theorem GX.he {Ms : MS} {d : Nat} (ho : D.l[i]? = some o) (hr : D.H[Ms.length - 1]? = some i) (hM : Ms[Ms.length - 1]? = some (L, nx)) (hon : D.onAt a o) (hd : o.dst = some d) (h : GO P n o (D.env a0 a i o) L nx ro gl (isR v (AW.of L' nx' ro gl)))
    (hf : AllJs (D.again P n a0 a (AW.of L' nx' ro gl)) (D.floats i (Ms.length - 1))) (k : GX P n D a0 L0 nx0 ro gl C (i + 1) ((d, v) :: a) (Ms ++ [(L', nx')])) : GX P n D a0 L0 nx0 ro gl C i a Ms :=
  GX.heavy ho hr hM hon hd h.run hf k
theorem GX.hF {Ms : MS} (ho : D.l[i]? = some o) (hr : D.H[Ms.length - 1]? = some i) (hM : Ms[Ms.length - 1]? = some (L, nx)) (hon : D.onAt a o) (hd : o.dst = none) (h : nstepF P o (D.env a0 a i o) L nx ro gl = some L')
    (hf : AllJs (D.again P n a0 a (AW.of L' nx ro gl)) (D.floats i (Ms.length - 1))) (k : GX P n D a0 L0 nx0 ro gl C (i + 1) a (Ms ++ [(L', nx)])) : GX P n D a0 L0 nx0 ro gl C i a Ms := GX.heavyF ho hr hM hon hd h hf k
theorem GX.hN {Ms : MS} (ho : D.l[i]? = some o) (hr : D.H[Ms.length - 1]? = some i) (hM : Ms[Ms.length - 1]? = some (L, nx)) (hon : D.onAt a o) (hd : o.dst = none) (h : nstep P o (D.env a0 a i o) L nx ro gl = some L')
    (hf : AllJs (D.again P n a0 a (AW.of L' nx ro gl)) (D.floats i (Ms.length - 1))) (k : GX P n D a0 L0 nx0 ro gl C (i + 1) a (Ms ++ [(L', nx)])) : GX P n D a0 L0 nx0 ro gl C i a Ms := GX.heavyN ho hr hM hon hd h hf k
theorem GX.hO {Ms : MS} (ho : D.l[i]? = some o) (hr : D.H[Ms.length - 1]? = some i) (hM : Ms[Ms.length - 1]? = some (L, nx)) (hon : D.onAt a o) (hd : o.dst = none) (h : GO P n o (D.env a0 a i o) L nx ro gl (isR undef (AW.of L' nx ro gl)))
    (hf : AllJs (D.again P n a0 a (AW.of L' nx ro gl)) (D.floats i (Ms.length - 1))) (k : GX P n D a0 L0 nx0 ro gl C (i + 1) a (Ms ++ [(L', nx)])) : GX P n D a0 L0 nx0 ro gl C i a Ms :=
  ⟨DX.heavy (r := Ms.length - 1) (M := AW.of L nx ro gl) (M' := AW.of L' nx ro gl) ho hr (by unfold msOf; rw [List.getElem?_map, hM]; rfl) hon rfl h.run rfl hf.all (by rw [hd]; have := k.run; rw [msOf, List.map_append] at this; exact this)⟩
end
/-- All orders of a region, from an environment and a memory. -/
def AnyT (P : Program) (n m : Nat) (l : List Oper) (a : AEnv) (A : AW) (Q : AQ) : Prop :=
  ∀ (r : Option Nat) (w0 : World) (N : Nat) (w : World) (β : Bet) (S : Nat → Prop) (ae : Act), m ≤ A.next → Sim P w0 N β S A w → ER n β S a ae →
    wpAnyIn (FR r) 0 P .any l.toArray (Lift P w0 N n m β S A Q) l.toArray.size (Array.replicate l.toArray.size false) ae { w with drawn := w.drawn + 1 }
theorem AT.any {P : Program} {n m id : Nat} {l : List Oper} {a : AEnv} {A : AW} {Q : AQ} (hm : P.follows .mixedOrders = true) (h : AnyT P n m l a A Q) : AT P n m (.region id l.toArray true) a A Q :=
  fun r w0 N w β S ae hmn hs he => wpIn_region_any hm (h r w0 N w β S ae hmn hs he)
theorem AnyT.drawn {P : Program} {n m : Nat} {a a0 : AEnv} {A0 M : AW} {Q : AQ} {D : Plan} {Ms : List AW} (hc : D.chk n = true) (hob : ∀ j o, D.l[j]? = some o → D.ob P n a0 a Ms j o) (h0 : Ms[0]? = some A0) (hl : Ms[D.H.length]? = some M)
    (hkeep : ∀ t, wrOf D.l t = none → aget a t = aget a0 t) (hq : Q .normal a M) : AnyT P n m D.l a0 A0 Q := by
  have hok := Plan.ok_of_chk hc
  intro ro w0 N w β S ae hmn hs he
  refine At.run (m := m) (β := β) (S := S) (w0 := w0) (N := N) (A0 := A0) hok hob ?_ _ _ _ _ ?_ ?_
  · intro listed ae1 w1 h hall
    obtain ⟨k, M', β1, S1, hM', hk, hpre, haft, hsl⟩ := h.pre
    have hkH : k = D.H.length := by
      rcases Nat.lt_or_ge k D.H.length with hlt | hge
      · exfalso
        have hx := List.getElem?_eq_getElem hlt
        have := (hpre k _ hx).1 (hall _ (hok.hlt _ (List.getElem_mem hlt)))
        omega
      · omega
    subst hkH
    rw [hl] at hM'; cases hM'
    refine ⟨β1, S1, a, M, haft, ⟨h.tsize, h.defers, fun t v hv => hsl t v ?_⟩, hq⟩
    cases hw : wrOf D.l t with
    | none => simp only; rw [← hkeep t hw]; exact hv
    | some j =>
      simp only
      obtain ⟨o, ho, _⟩ := wrOf_spec hw
      rw [if_pos (hall j (List.getElem?_eq_some_iff.1 ho).1)]
      exact hv
  · unfold unl
    simp
  · refine ⟨by simp, fun i hi => ?_, ⟨0, A0, β, S, h0, Nat.zero_le _, fun r x hx => ?_, Aft.refl hs.drew hmn, fun t v hv => ?_⟩, he.size, he.defers⟩
    · exfalso
      rw [Array.getD_eq_getD_getElem?] at hi
      rcases Nat.lt_or_ge i D.l.length with hlt | hge
      · simp [hlt] at hi
      · simp [hge] at hi
    · constructor
      · intro hi
        exfalso
        rcases Nat.lt_or_ge x D.l.length with hlt | hge
        · simp [hlt] at hi
        · simp [hge] at hi
      · intro h; omega
    · refine he.get t v ?_
      cases hw : wrOf D.l t with
      | none => rw [hw] at hv; exact hv
      | some j =>
        rw [hw] at hv
        simp only at hv
        split at hv
        · rename_i hi
          exfalso
          rcases Nat.lt_or_ge j D.l.length with hlt | hge
          · simp [hlt] at hi
          · simp [hge] at hi
        · exact hv

theorem GX.any {P : Program} {n m : Nat} {a a0 : AEnv} {Q : AQ} {L L0 : LM} {nx nx0 ro gl : Nat} {D : Plan} {i : Nat} {Ms : MS} (hi : Nat.beq D.l.length i = true) (hl : Ms[D.H.length]? = some (L, nx)) (hq : GP Q .normal a L nx ro gl) : GX P n D a0 L0 nx0 ro gl (AnyT P n m D.l a0 (AW.of L0 nx0 ro gl) Q) i a Ms :=
  GX.done hi fun hc hg => AnyT.drawn (a := a) (Ms := msOf ro gl Ms) hc (fun j o ho => hg.obs j o (List.getElem?_eq_some_iff.1 ho).1 ho) hg.head (by unfold msOf; rw [List.getElem?_map, hl]; rfl) (fun t ht => hg.keep t fun j hj => by rw [ht] at hj; cases hj) hq.run
/-! ### Three objects in no order -/
abbrev P3 : List (List Nat) := [[0, 1, 2], [0, 2, 1], [1, 0, 2], [1, 2, 0], [2, 0, 1], [2, 1, 0]]
/-- The list 'm' has the operations b, b + 1, b + 2 of the list 'l' in the order 'p', one after the other. -/
structure PermOf (l m : List Oper) (b : Nat) (p : List Nat) : Prop where
  len : m.length = l.length
  same : ∀ i, (i < b ∨ b + 3 ≤ i) → m[i]? = l[i]?
  at_ : ∀ r j, p[r]? = some j → ∃ o af, l[b + j]? = some o ∧ m[b + r]? = some { o with after := af } ∧ ∀ e ∈ af, b ≤ e.on ∧ e.on < b + r
theorem ext3 : ∀ q : List Nat, (∀ x ∈ q, x < 3) → q.Nodup → ∃ p ∈ P3, q <+: p
  | [], _, _ => ⟨_, List.mem_cons_self, List.nil_prefix⟩
  | [a], h, _ => by
    have ha := h a (by simp)
    match a, ha with
    | 0, _ => exact ⟨[0, 1, 2], by decide, by decide⟩
    | 1, _ => exact ⟨[1, 0, 2], by decide, by decide⟩
    | 2, _ => exact ⟨[2, 0, 1], by decide, by decide⟩
  | [a, b], h, hn => by
    have ha := h a (by simp)
    have hb := h b (by simp)
    match a, b, ha, hb, hn with
    | 0, 1, _, _, _ => exact ⟨[0, 1, 2], by decide, by decide⟩
    | 0, 2, _, _, _ => exact ⟨[0, 2, 1], by decide, by decide⟩
    | 1, 0, _, _, _ => exact ⟨[1, 0, 2], by decide, by decide⟩
    | 1, 2, _, _, _ => exact ⟨[1, 2, 0], by decide, by decide⟩
    | 2, 0, _, _, _ => exact ⟨[2, 0, 1], by decide, by decide⟩
    | 2, 1, _, _, _ => exact ⟨[2, 1, 0], by decide, by decide⟩
    | 0, 0, _, _, hn => simp at hn
    | 1, 1, _, _, hn => simp at hn
    | 2, 2, _, _, hn => simp at hn
  | [a, b, c], h, hn => by
    have ha := h a (by simp)
    have hb := h b (by simp)
    have hc := h c (by simp)
    simp only [List.nodup_cons, List.mem_cons, List.not_mem_nil, or_false, not_or, not_false_eq_true, List.nodup_nil, and_true] at hn
    have : (a = 0 ∧ b = 1 ∧ c = 2) ∨ (a = 0 ∧ b = 2 ∧ c = 1) ∨ (a = 1 ∧ b = 0 ∧ c = 2) ∨ (a = 1 ∧ b = 2 ∧ c = 0) ∨ (a = 2 ∧ b = 0 ∧ c = 1) ∨ (a = 2 ∧ b = 1 ∧ c = 0) := by omega
    rcases this with ⟨rfl, rfl, rfl⟩ | ⟨rfl, rfl, rfl⟩ | ⟨rfl, rfl, rfl⟩ | ⟨rfl, rfl, rfl⟩ | ⟨rfl, rfl, rfl⟩ | ⟨rfl, rfl, rfl⟩ <;> exact ⟨_, by decide, List.prefix_rfl⟩
  | a :: b :: c :: d :: q, h, hn => by
    have ha := h a (by simp)
    have hb := h b (by simp)
    have hc := h c (by simp)
    have hd := h d (by simp)
    simp only [List.nodup_cons, List.mem_cons, not_or] at hn
    omega
theorem wpOp_plain {F : Fence} {P : Program} {ops : Array Oper} {Z : Exit → Act → World → Prop} {i : Nat} {o : Oper} {K : Act → World → Prop} {ae : Act} {w : World} (hi : ops[i]? = some o) (hg : o.guard = none) : wpOpIn F 0 P ops Z i K ae w ↔ o.wpIn F 0 P ae w K Z := by
  unfold wpOpIn
  rw [hi]
  simp only
  rw [if_pos (by simp [Region.wanted, hg])]
theorem wpIn_after {F : Fence} {P : Program} {Z : Exit → Act → World → Prop} {o : Oper} {af : Array Edge} {K : Act → World → Prop} {ae : Act} {w : World} : ({ o with after := af } : Oper).wpIn F 0 P ae w K Z ↔ o.wpIn F 0 P ae w K Z := Iff.rfl
/-- What the list must fulfil: the three have no operation before them; what comes behind one comes behind all. -/
structure Free3 (l : List Oper) (b : Nat) : Prop where
  none_ : ∀ (j : Nat) (o : Oper), j < 3 → l[b + j]? = some o → predsOf o = []
  isome : ∀ j, j < 3 → ∃ o : Oper, l[b + j]? = some o
  full : ∀ (i : Nat) (o : Oper), (i < b ∨ b + 3 ≤ i) → l[i]? = some o → (∀ x ∈ predsOf o, x < b ∨ b + 3 ≤ x) ∨ (∀ j, j < 3 → b + j ∈ predsOf o) ∨ ∃ (p : Nat) (op : Oper), p ∈ predsOf o ∧ (p < b ∨ b + 3 ≤ p) ∧ l[p]? = some op ∧ ∀ j, j < 3 → b + j ∈ predsOf op
  guard : ∀ (i : Nat) (o : Oper), l[i]? = some o → o.guard = none
theorem preds_iff {o : Oper} {listed : Array Bool} : (∀ e ∈ o.after, Region.binds .any e = true → listed.getD e.on false = true) ↔ ∀ p ∈ predsOf o, listed.getD p false = true := by
  unfold predsOf
  constructor
  · intro h p hp
    rw [List.mem_filterMap] at hp
    obtain ⟨e, he, h2⟩ := hp
    split at h2
    · rename_i hb
      cases h2
      exact h e (by simpa using he) hb
    · cases h2
  · intro h e he hb
    exact h e.on (List.mem_filterMap.2 ⟨e, by simpa using he, by rw [if_pos hb]⟩)
/-- One of the six walks. -/
structure Side (P : Program) (n : Nat) (l : List Oper) (b : Nat) (An : List (List Nat)) (H : List Nat) (a0 : AEnv) (A0 : AW) (aL : AEnv) (es : List Nat) (v : Nat → Value) (Mk : Nat → AW) (p : List Nat) (m : List Oper) (a : AEnv) (Ms : List AW) : Prop where
  perm : PermOf l m b p
  chk : (Plan.mk m An H).chk n = true
  obs : ∀ j o, m[j]? = some o → (Plan.mk m An H).ob P n a0 a Ms j o
  head : Ms[0]? = some A0
  keep : ∀ t, wrOf m t = none → aget a t = aget a0 t
  early : ∀ t, t ∉ es → aget a t = aget aL t
  made : ∀ r o t, r < 3 → m[b + r]? = some o → o.dst = some t → aget a t = some (v r)
  mem : ∀ k, k < 3 → Ms[k]? = some (Mk k)
theorem P3_len : ∀ p ∈ P3, p.length = 3 := by decide
theorem P3_lt : ∀ p ∈ P3, ∀ x ∈ p, x < 3 := by decide
theorem P3_nodup : ∀ p ∈ P3, p.Nodup := by decide
theorem P3_mem : ∀ p ∈ P3, ∀ x, x < 3 → x ∈ p := by decide
section
variable {P : Program} {w0 w w1 : World} {N n m0 : Nat} {β : Bet} {S : Nat → Prop} {A0 : AW} {a0 aL : AEnv} {ae : Act} {l : List Oper} {b : Nat} {An : List (List Nat)} {R : List Nat} {es : List Nat} {v : Nat → Value} {Mk : Nat → AW}
theorem rank {p : List Nat} (hp : p ∈ P3) {j : Nat} (hj : j < 3) : ∃ r, r < 3 ∧ p[r]? = some j := by
  obtain ⟨r, hr⟩ := List.getElem?_of_mem (P3_mem p hp j hj)
  have := (List.getElem?_eq_some_iff.1 hr).1
  rw [P3_len p hp] at this
  exact ⟨r, this, hr⟩
theorem rank_one {p : List Nat} (hp : p ∈ P3) {r r' j : Nat} (h1 : p[r]? = some j) (h2 : p[r']? = some j) : r = r' := by
  obtain ⟨h3, h4⟩ := List.getElem?_eq_some_iff.1 h1
  obtain ⟨h5, h6⟩ := List.getElem?_eq_some_iff.1 h2
  exact (List.getElem_inj (P3_nodup p hp)).1 (h4.trans h6.symm)
theorem pre_at {q p : List Nat} (h : q <+: p) {r : Nat} (hr : r < q.length) : p[r]? = q[r]? := by
  obtain ⟨t, rfl⟩ := h
  rw [List.getElem?_append_left hr]
theorem wr_some {m : List Oper} {n : Nat} {H : List Nat} (hc : (Plan.mk m An H).chk n = true) {i : Nat} {o : Oper} {t : Nat} (h : m[i]? = some o) (hd : o.dst = some t) : wrOf m t = some i := ((Plan.ok_of_chk hc).dst i o h t hd).1
theorem At.switch {p p' q : List Nat} {m m' : List Oper} {a a' : AEnv} {Ms Ms' : List AW} {listed : Array Bool} (hp : p ∈ P3) (hp' : p' ∈ P3) (hq : q <+: p) (hq' : q <+: p') (hlt : q.length < 3)
    (hes : ∀ (i : Nat) (o : Oper) (t : Nat), (i < b ∨ b + 3 ≤ i) → l[i]? = some o → o.dst = some t → t ∉ es)
    (s : Side P n l b An (b :: (b + 1) :: (b + 2) :: R) a0 A0 aL es v Mk p m a Ms) (s' : Side P n l b An (b :: (b + 1) :: (b + 2) :: R) a0 A0 aL es v Mk p' m' a' Ms')
    (hE' : ∀ r, r < 3 → (listed.getD (b + r) false = true ↔ r < q.length)) (h : At P w0 N n m0 β S A0 ⟨m, An, b :: (b + 1) :: (b + 2) :: R⟩ a0 a Ms listed ae w) : At P w0 N n m0 β S A0 ⟨m', An, b :: (b + 1) :: (b + 2) :: R⟩ a0 a' Ms' listed ae w := by
  obtain ⟨k, M, β1, S1, hM, hk, hpre, haft, hsl⟩ := h.pre
  have hH : ∀ r, r < 3 → (b :: (b + 1) :: (b + 2) :: R)[r]? = some (b + r) := fun r hr => by
    match r, hr with
    | 0, _ => rfl
    | 1, _ => rfl
    | 2, _ => rfl
  have hkq : k = q.length := by
    have h1 : ∀ r, r < 3 → (r < q.length ↔ r < k) := fun r hr => (hE' r hr).symm.trans (hpre r _ (hH r hr))
    have h2 := h1 q.length hlt
    rcases Nat.lt_or_ge k q.length with h3 | h3
    · have := (h1 k (by omega)).1 h3; omega
    · omega
  have cl : ∀ i, (i < b ∨ b + 3 ≤ i) ∨ ∃ r, r < 3 ∧ i = b + r := fun i => by
    by_cases e : i < b ∨ b + 3 ≤ i
    · exact .inl e
    · exact .inr ⟨i - b, by omega, by omega⟩
  have slots : ∀ t u, (match wrOf m' t with | some j => if listed.getD j false = true then aget a' t else aget a0 t | none => aget a0 t) = some u → (match wrOf m t with | some j => if listed.getD j false = true then aget a t else aget a0 t | none => aget a0 t) = some u := by
    intro t u hu
    cases hw : wrOf m' t with
    | none =>
      rw [hw] at hu
      cases hw2 : wrOf m t with
      | none => exact hu
      | some i =>
        exfalso
        obtain ⟨o, h1, h2⟩ := wrOf_spec hw2
        rcases cl i with e | ⟨r, hr, rfl⟩
        · have : m'[i]? = some o := by rw [s'.perm.same i e, ← s.perm.same i e]; exact h1
          rw [wr_some s'.chk this h2] at hw; cases hw
        · obtain ⟨j, hj⟩ : ∃ j, p[r]? = some j := ⟨_, List.getElem?_eq_getElem (by rw [P3_len p hp]; exact hr)⟩
          obtain ⟨o1, af, g1, g2, _⟩ := s.perm.at_ r j hj
          rw [h1] at g2; cases g2
          obtain ⟨r', hr', hj'⟩ := rank hp' (P3_lt p hp j (List.mem_of_getElem? hj))
          obtain ⟨o2, af2, g3, g4, _⟩ := s'.perm.at_ r' j hj'
          rw [g1] at g3; cases g3
          rw [wr_some s'.chk g4 h2] at hw; cases hw
    | some i =>
      rw [hw] at hu
      simp only at hu
      obtain ⟨o, h1, h2⟩ := wrOf_spec hw
      rcases cl i with e | ⟨r', hr', rfl⟩
      · have h3 : m[i]? = some o := by rw [s.perm.same i e, ← s'.perm.same i e]; exact h1
        have h4 : l[i]? = some o := by rw [← s'.perm.same i e]; exact h1
        have ht := hes i o t e h4 h2
        rw [wr_some s.chk h3 h2]
        simp only
        rw [s.early t ht, ← s'.early t ht]
        exact hu
      · obtain ⟨j, hj⟩ : ∃ j, p'[r']? = some j := ⟨_, List.getElem?_eq_getElem (by rw [P3_len p' hp']; exact hr')⟩
        obtain ⟨o1, af, g1, g2, _⟩ := s'.perm.at_ r' j hj
        have h1' := h1
        rw [h1] at g2; cases g2
        obtain ⟨r, hr, hj'⟩ := rank hp (P3_lt p' hp' j (List.mem_of_getElem? hj))
        obtain ⟨o2, af2, g3, g4, _⟩ := s.perm.at_ r j hj'
        rw [g1] at g3; cases g3
        rw [wr_some s.chk g4 h2]
        simp only
        by_cases hrq : r' < q.length
        · have hpr : p[r']? = some j := by rw [pre_at hq hrq, ← pre_at hq' hrq]; exact hj
          obtain rfl := rank_one hp hj' hpr
          rw [if_pos ((hE' r hr).2 hrq)] at hu ⊢
          rw [s'.made r _ t hr h1' h2] at hu
          rw [s.made r _ t hr g4 h2]
          exact hu
        · have hrr : ¬ r < q.length := fun hlt2 => by
            have hpr : p'[r]? = some j := by rw [pre_at hq' hlt2, ← pre_at hq hlt2]; exact hj'
            have := rank_one hp' hj hpr
            omega
          rw [if_neg (fun x => hrq ((hE' r' hr').1 x))] at hu
          rw [if_neg (fun x => hrr ((hE' r hr).1 x))]
          exact hu
  refine ⟨?_, h.down, ⟨k, M, β1, S1, ?_, hk, hpre, haft, fun t u hu => hsl t u (slots t u hu)⟩, h.tsize, h.defers⟩
  · have := h.size
    show listed.size = m'.length
    rw [s'.perm.len, ← s.perm.len]; exact this
  · rw [hkq] at hM ⊢
    rw [s.mem _ hlt] at hM
    rw [s'.mem _ hlt]; exact hM
end
theorem getD_TF {x : Array Bool} {i : Nat} (hi : i < x.size) : x.getD i true = false ↔ x.getD i false = false := by simp [hi]
theorem cl3 (b i : Nat) : (i < b ∨ b + 3 ≤ i) ∨ ∃ r, r < 3 ∧ i = b + r := by
  by_cases e : i < b ∨ b + 3 ≤ i
  · exact .inl e
  · exact .inr ⟨i - b, by omega, by omega⟩
/-- How far the two lists stand. -/
structure Both (l : List Oper) (b : Nat) (q : List Nat) (x y : Array Bool) : Prop where
  lt : ∀ j ∈ q, j < 3
  nodup : q.Nodup
  sx : x.size = l.length
  sy : y.size = l.length
  same : ∀ i, (i < b ∨ b + 3 ≤ i) → y.getD i false = x.getD i false
  ex : ∀ j, j < 3 → (x.getD (b + j) false = true ↔ j ∈ q)
  ey : ∀ r, r < 3 → (y.getD (b + r) false = true ↔ r < q.length)
  down : ∀ (i : Nat) (o : Oper), x.getD i false = true → l[i]? = some o → ∀ p ∈ predsOf o, x.getD p false = true
theorem Both.le {l : List Oper} {b : Nat} {q : List Nat} {x y : Array Bool} (h : Both l b q x y) : q.length ≤ 3 := by
  obtain ⟨pp, hpp, t, ht⟩ := ext3 q h.lt h.nodup
  rw [← P3_len pp hpp, ← ht]; simp
theorem Both.full {l : List Oper} {b : Nat} {q : List Nat} {x y : Array Bool} (h : Both l b q x y) (hx : ∀ j, j < 3 → x.getD (b + j) false = true) : q.length = 3 := by
  have hle := h.le
  have h0 := (h.ex 0 (by decide)).1 (hx 0 (by decide))
  have h1 := (h.ex 1 (by decide)).1 (hx 1 (by decide))
  have h2 := (h.ex 2 (by decide)).1 (hx 2 (by decide))
  match q, h0, h1, h2, hle with
  | [a, b, c], _, _, _, _ => rfl
  | [a, b], h0, h1, h2, _ => simp at h0 h1 h2; omega
  | [a], h0, h1, h2, _ => simp at h0 h1 h2; omega
  | [], h0, _, _, _ => simp at h0
  | a :: b :: c :: d :: r, _, _, _, hle => simp at hle
theorem Both.all {l : List Oper} {b : Nat} {q : List Nat} {x y : Array Bool} (h : Both l b q x y) (h3 : q.length = 3) : (∀ j, j < 3 → x.getD (b + j) false = true) ∧ ∀ j, j < 3 → y.getD (b + j) false = true := by
  refine ⟨fun j hj => ?_, fun j hj => (h.ey j hj).2 (by omega)⟩
  rw [h.ex j hj]
  have hq := h.lt
  have hqn := h.nodup
  match q, h3, hq, hqn with
  | [x, y, z], _, hq, hqn =>
    have hx := hq x (by simp)
    have hy := hq y (by simp)
    have hz := hq z (by simp)
    simp only [List.nodup_cons, List.mem_cons, List.not_mem_nil, or_false, not_or, not_false_eq_true, List.nodup_nil, and_true] at hqn
    simp only [List.mem_cons, List.not_mem_nil, or_false]
    omega
theorem Both.ready {l m : List Oper} {b : Nat} {q p : List Nat} {x y : Array Bool} (hf : Free3 l b) (h : Both l b q x y) (hp : PermOf l m b p) {i : Nat} (hi : i < b ∨ b + 3 ≤ i) : i ∈ Region.ready .any m.toArray y ↔ i ∈ Region.ready .any l.toArray x := by
  have three' : (∀ j, j < 3 → y.getD (b + j) false = true) → q.length = 3 := fun k => by
    have := (h.ey 2 (by decide)).1 (k 2 (by decide))
    have := h.le
    omega
  rw [mem_ready, mem_ready]
  have eo : m.toArray[i]? = l.toArray[i]? := by simpa using hp.same i hi
  rw [eo]
  have hg : y.getD i true = false ↔ x.getD i true = false := by
    have h1 := h.sx
    have h2 := h.sy
    rcases Nat.lt_or_ge i l.length with hlt | hge
    · rw [getD_TF (by omega), getD_TF (by omega), h.same i hi]
    · simp [show ¬ i < x.size by omega, show ¬ i < y.size by omega]
  rw [hg]
  refine and_congr_right fun _ => exists_congr fun o => and_congr_right fun ho => ?_
  have ho : l[i]? = some o := by simpa using ho
  rw [preds_iff, preds_iff]
  rcases hf.full i o hi ho with k0 | k0 | ⟨pp, op, h1, h2, h3, h4⟩
  · constructor
    · intro k z hz
      rw [← h.same z (k0 z hz)]; exact k z hz
    · intro k z hz
      rw [h.same z (k0 z hz)]; exact k z hz
  · constructor
    · intro k z hz
      have h3 := (h.all (three' fun j hj => k _ (k0 j hj))).1
      rcases cl3 b z with e | ⟨j, hj, rfl⟩
      · rw [← h.same z e]; exact k z hz
      · exact h3 j hj
    · intro k z hz
      have h3 := (h.all (h.full fun j hj => k _ (k0 j hj))).2
      rcases cl3 b z with e | ⟨j, hj, rfl⟩
      · rw [h.same z e]; exact k z hz
      · exact h3 j hj
  · constructor
    · intro k z hz
      have hpl : x.getD pp false = true := by rw [← h.same pp h2]; exact k pp h1
      rcases cl3 b z with e | ⟨j, hj, rfl⟩
      · rw [← h.same z e]; exact k z hz
      · exact h.down pp op hpl h3 _ (h4 j hj)
    · intro k z hz
      have hpl := k pp h1
      have h3' := (h.all (h.full fun j hj => h.down pp op hpl h3 _ (h4 j hj))).2
      rcases cl3 b z with e | ⟨j, hj, rfl⟩
      · rw [h.same z e]; exact k z hz
      · exact h3' j hj
theorem Both.other {l : List Oper} {b : Nat} {q : List Nat} {x y : Array Bool} (h : Both l b q x y) {i : Nat} {o : Oper} (hi : i < b ∨ b + 3 ≤ i) (ho : l[i]? = some o) (hp : ∀ p ∈ predsOf o, x.getD p false = true) : Both l b q (x.setIfInBounds i true) (y.setIfInBounds i true) := by
  have hl := (List.getElem?_eq_some_iff.1 ho).1
  have hx : i < x.size := by rw [h.sx]; exact hl
  have hy : i < y.size := by rw [h.sy]; exact hl
  refine ⟨h.lt, h.nodup, by simp [h.sx], by simp [h.sy], fun z hz => ?_, fun j hj => ?_, fun r hr => ?_, fun z oz h1 h2 u hu => ?_⟩
  · rw [getD_set hx, getD_set hy]
    split
    · rfl
    · exact h.same z hz
  · rw [getD_set hx, if_neg (by omega)]; exact h.ex j hj
  · rw [getD_set hy, if_neg (by omega)]; exact h.ey r hr
  · rw [getD_set hx] at h1 ⊢
    split
    · rfl
    · by_cases e : z = i
      · subst e; rw [ho] at h2; cases h2; exact hp u hu
      · rw [if_neg e] at h1; exact h.down z oz h1 h2 u hu
theorem Both.one {l : List Oper} {b : Nat} {q : List Nat} {x y : Array Bool} (hf : Free3 l b) (h : Both l b q x y) {j : Nat} {o : Oper} (hj : j < 3) (hjq : j ∉ q) (ho : l[b + j]? = some o) : Both l b (q ++ [j]) (x.setIfInBounds (b + j) true) (y.setIfInBounds (b + q.length) true) := by
  have hl := (List.getElem?_eq_some_iff.1 ho).1
  have hlt : q.length < 3 := by
    rcases Nat.lt_or_ge q.length 3 with h' | h'
    · exact h'
    · exact absurd ((h.ex j hj).1 ((h.all (by have := h.le; omega)).1 j hj)) hjq
  obtain ⟨o2, ho2⟩ := hf.isome q.length hlt
  have hl2 := (List.getElem?_eq_some_iff.1 ho2).1
  have hx : b + j < x.size := by rw [h.sx]; exact hl
  have hy : b + q.length < y.size := by rw [h.sy]; exact hl2
  refine ⟨fun z hz => ?_, ?_, by simp [h.sx], by simp [h.sy], fun z hz => ?_, fun z hz => ?_, fun r hr => ?_, fun z oz h1 h2 u hu => ?_⟩
  · rcases List.mem_append.1 hz with hz | hz
    · exact h.lt z hz
    · simp at hz; omega
  · rw [List.nodup_append]
    refine ⟨h.nodup, by simp, fun a ha c hc => ?_⟩
    simp at hc; subst hc
    intro e; subst e; exact hjq ha
  · rw [getD_set hx, getD_set hy, if_neg (by omega), if_neg (by omega)]; exact h.same z hz
  · rw [getD_set hx]
    by_cases e : z = j
    · subst e; simp
    · rw [if_neg (by omega), h.ex z hz]; simp [e]
  · rw [getD_set hy]
    by_cases e : r = q.length
    · subst e; simp
    · rw [if_neg (by omega), h.ey r hr]; simp; omega
  · rw [getD_set hx] at h1 ⊢
    split
    · rfl
    · by_cases e : z = b + j
      · subst e; rw [hf.none_ j oz hj h2] at hu; cases hu
      · rw [if_neg e] at h1; exact h.down z oz h1 h2 u hu
theorem Both.free {l : List Oper} {b : Nat} {q : List Nat} {x y : Array Bool} (hf : Free3 l b) (h : Both l b q x y) (hlt : q.length < 3) : ∃ j, j < 3 ∧ j ∉ q ∧ b + j ∈ Region.ready .any l.toArray x := by
  have : ∃ j, j < 3 ∧ j ∉ q := by
    have hq := h.lt
    match q, hq, hlt with
    | [], _, _ => exact ⟨0, by decide, by simp⟩
    | [z], hq, _ =>
      by_cases e : z = 0
      · exact ⟨1, by decide, by simp; omega⟩
      · exact ⟨0, by decide, by simp; omega⟩
    | [z, u], hq, _ =>
      by_cases e : z ≠ 0 ∧ u ≠ 0
      · exact ⟨0, by decide, by simp; omega⟩
      · by_cases e2 : z ≠ 1 ∧ u ≠ 1
        · exact ⟨1, by decide, by simp; omega⟩
        · exact ⟨2, by decide, by simp; omega⟩
  obtain ⟨j, hj, hjq⟩ := this
  obtain ⟨o, ho⟩ := hf.isome j hj
  have hl := (List.getElem?_eq_some_iff.1 ho).1
  refine ⟨j, hj, hjq, ?_⟩
  rw [mem_ready]
  refine ⟨?_, o, by simpa using ho, ?_⟩
  · rw [getD_TF (by rw [h.sx]; exact hl)]
    cases hq' : x.getD (b + j) false with
    | false => rfl
    | true => exact absurd ((h.ex j hj).1 hq') hjq
  · rw [preds_iff, hf.none_ j o hj ho]
    intro p hp; cases hp
theorem AT.perm {P : Program} {n m0 id : Nat} {l : List Oper} {b : Nat} {An : List (List Nat)} {R : List Nat} {a0 aL : AEnv} {A0 : AW} {es : List Nat} {v : Nat → Value} {Mk : Nat → AW} {Q : AQ} (hm : P.follows .mixedOrders = true) (hf : Free3 l b)
    (hes : ∀ (i : Nat) (o : Oper) (t : Nat), (i < b ∨ b + 3 ≤ i) → l[i]? = some o → o.dst = some t → t ∉ es)
    (six : ∀ p ∈ P3, ∃ m a Ms, Side P n l b An (b :: (b + 1) :: (b + 2) :: R) a0 A0 aL es v Mk p m a Ms ∧ ∃ M, Ms[R.length + 3]? = some M ∧ Q .normal a M) : AT P n m0 (.region id l.toArray true) a0 A0 Q := by
  refine AT.any hm ?_
  intro r w0 N w β S ae hmn hs he
  -- what is known of each walk
  have fin : ∀ p ∈ P3, ∀ m a Ms, Side P n l b An (b :: (b + 1) :: (b + 2) :: R) a0 A0 aL es v Mk p m a Ms → (∃ M, Ms[R.length + 3]? = some M ∧ Q .normal a M) → ∀ listed ae1 w1, At P w0 N n m0 β S A0 ⟨m, An, b :: (b + 1) :: (b + 2) :: R⟩ a0 a Ms listed ae1 w1 →
      (∀ i, i < m.length → listed.getD i false = true) → Lift P w0 N n m0 β S A0 Q .normal ae1 w1 := by
    intro p hp m a Ms s ⟨M, hl, hq⟩ listed ae1 w1 h hall
    have hok := Plan.ok_of_chk s.chk
    obtain ⟨k, M', β1, S1, hM', hk, hpre, haft, hsl⟩ := h.pre
    have hkH : k = R.length + 3 := by
      rcases Nat.lt_or_ge k (b :: (b + 1) :: (b + 2) :: R).length with hlt | hge
      · exfalso
        have hx := List.getElem?_eq_getElem hlt
        have := (hpre k _ hx).1 (hall _ (hok.hlt _ (List.getElem_mem hlt)))
        omega
      · have hk : k ≤ (b :: (b + 1) :: (b + 2) :: R).length := hk
        simp only [List.length_cons] at hge hk
        omega
    rw [hkH, hl] at hM'; cases hM'
    refine ⟨β1, S1, a, M, haft, ⟨h.tsize, h.defers, fun t u hv => hsl t u ?_⟩, hq⟩
    cases hw : wrOf m t with
    | none => simp only; rw [← s.keep t hw]; exact hv
    | some j =>
      simp only
      obtain ⟨o, ho, _⟩ := wrOf_spec hw
      rw [if_pos (hall j (List.getElem?_eq_some_iff.1 ho).1)]
      exact hv
  -- the run
  have run : ∀ (fuel : Nat) (q : List Nat) (x y : Array Bool) (ae : Act) (w : World), unl x ≤ fuel → Both l b q x y → (∃ p ∈ P3, q <+: p ∧ ∃ m a Ms, Side P n l b An (b :: (b + 1) :: (b + 2) :: R) a0 A0 aL es v Mk p m a Ms ∧ (∃ M, Ms[R.length + 3]? = some M ∧ Q .normal a M) ∧ At P w0 N n m0 β S A0 ⟨m, An, b :: (b + 1) :: (b + 2) :: R⟩ a0 a Ms y ae w) →
      wpAnyIn (FR r) 0 P .any l.toArray (Lift P w0 N n m0 β S A0 Q) fuel x ae w := by
    have allxy : ∀ (q : List Nat) (x y : Array Bool), Both l b q x y → (∀ i, i < l.length → x.getD i false = true) → ∀ i, i < l.length → y.getD i false = true := fun q x y h hall i hi => by
      have h3 : q.length = 3 := h.full fun j hj => by
        obtain ⟨o, ho⟩ := hf.isome j hj
        exact hall _ (List.getElem?_eq_some_iff.1 ho).1
      rcases cl3 b i with e | ⟨j, hj, rfl⟩
      · rw [h.same i e]; exact hall i hi
      · exact (h.all h3).2 j hj
    have none_ready : ∀ (q : List Nat) (x y : Array Bool) (ae : Act) (w : World), Both l b q x y → (∃ p ∈ P3, q <+: p ∧ ∃ m a Ms, Side P n l b An (b :: (b + 1) :: (b + 2) :: R) a0 A0 aL es v Mk p m a Ms ∧ (∃ M, Ms[R.length + 3]? = some M ∧ Q .normal a M) ∧ At P w0 N n m0 β S A0 ⟨m, An, b :: (b + 1) :: (b + 2) :: R⟩ a0 a Ms y ae w) →
        Region.ready .any l.toArray x = [] → Lift P w0 N n m0 β S A0 Q .normal ae w := by
      intro q x y ae w hb ⟨p, hp, hqp, m, a, Ms, s, hfin, hat⟩ hnil
      refine fin p hp m a Ms s hfin y ae w hat (At.all (Plan.ok_of_chk s.chk) hat ?_)
      rw [List.eq_nil_iff_forall_not_mem]
      intro i hi
      rcases cl3 b i with e | ⟨j, hj, rfl⟩
      · have := (hb.ready hf s.perm e).1 hi
        rw [hnil] at this; cases this
      · rcases Nat.lt_or_ge q.length 3 with h' | h'
        · obtain ⟨j', _, _, hr⟩ := hb.free hf h'
          rw [hnil] at hr; cases hr
        · obtain ⟨h1, o, ho, _⟩ := mem_ready.1 hi
          have hil : b + j < m.length := by have := (Array.getElem?_eq_some_iff.1 ho).1; simpa using this
          have := (hb.all (by have := hb.le; omega)).2 j hj
          rw [getD_TF (by rw [hb.sy, ← s.perm.len]; exact hil), this] at h1
          cases h1
    intro fuel
    induction fuel with
    | zero =>
      intro q x y ae w hu hb hex
      have hnil : Region.ready .any l.toArray x = [] := by
        rw [List.eq_nil_iff_forall_not_mem]
        intro i hi
        obtain ⟨h1, o, ho, _⟩ := mem_ready.1 hi
        have hil : i < l.length := by have := (Array.getElem?_eq_some_iff.1 ho).1; simpa using this
        have := listed_all (by omega) i (show i < x.size by rw [hb.sx]; exact hil)
        rw [getD_TF (by rw [hb.sx]; exact hil), this] at h1
        cases h1
      exact ⟨hnil, none_ready q x y ae w hb hex hnil⟩
    | succ fuel ih =>
      intro q x y ae w hu hb hex
      refine ⟨none_ready q x y ae w hb hex, fun i hi => ?_⟩
      obtain ⟨p, hp, hqp, m, a, Ms, s, hfin, hat⟩ := hex
      obtain ⟨h1, o, ho', hpl⟩ := mem_ready.1 hi
      have ho : l[i]? = some o := by simpa using ho'
      have hil := (List.getElem?_eq_some_iff.1 ho).1
      have hpl' := preds_iff.1 hpl
      have hgo := hf.guard i o ho
      have hux := unl_set (show i < x.size by rw [hb.sx]; exact hil) h1
      rw [wpOp_plain ho' hgo]
      rcases cl3 b i with e | ⟨j, hj, rfl⟩
      · have hst := At.step (ro := r) (Z := Lift P w0 N n m0 β S A0 Q) (Plan.ok_of_chk s.chk) s.obs hat ((hb.ready hf s.perm e).2 hi)
        have hmo : m.toArray[i]? = some o := by rw [← ho']; simpa using s.perm.same i e
        have hst : o.wpIn (FR r) 0 P ae w _ _ := (wpOp_plain hmo hgo).1 hst
        refine Oper.wpIn_mono (fun ae1 w1 hat1 => ?_) hst
        exact ih q _ _ ae1 w1 (by omega) (hb.other e ho hpl') ⟨p, hp, hqp, m, a, Ms, s, hfin, hat1⟩
      · have hjq : j ∉ q := fun hq => by
          have := (hb.ex j hj).2 hq
          rw [getD_TF (by rw [hb.sx]; exact hil), this] at h1
          cases h1
        have hb2 := hb.one hf hj hjq ho
        have hlt : q.length < 3 := by have := hb2.le; simp at this; omega
        obtain ⟨p', hp', hqp'⟩ := ext3 (q ++ [j]) hb2.lt hb2.nodup
        have hq2 : q <+: p' := (List.prefix_append q [j]).trans hqp'
        obtain ⟨m', a', Ms', s', hfin'⟩ := six p' hp'
        have hat' := At.switch hp hp' hqp hq2 hlt hes s s' hb.ey hat
        have hpj : p'[q.length]? = some j := by
          rw [pre_at hqp' (by simp)]; simp
        obtain ⟨o2, af, g1, g2, g3⟩ := s'.perm.at_ q.length j hpj
        rw [ho] at g1; cases g1
        have hml := (List.getElem?_eq_some_iff.1 g2).1
        have hr : b + q.length ∈ Region.ready .any m'.toArray y := by
          rw [mem_ready]
          refine ⟨?_, _, by simpa using g2, fun e he _ => ?_⟩
          · rw [getD_TF (by rw [hb.sy, ← s'.perm.len]; exact hml)]
            cases hq' : y.getD (b + q.length) false with
            | false => rfl
            | true => have := (hb.ey q.length hlt).1 hq'; omega
          · have h4 := g3 e (by simpa using he)
            have := (hb.ey (e.on - b) (by omega)).2 (by omega)
            rwa [show b + (e.on - b) = e.on by omega] at this
        have hst := At.step (ro := r) (Z := Lift P w0 N n m0 β S A0 Q) (Plan.ok_of_chk s'.chk) s'.obs hat' hr
        have hst := wpIn_after.1 ((wpOp_plain (o := { o with after := af }) (by simpa using g2) hgo).1 hst)
        refine Oper.wpIn_mono (fun ae1 w1 hat1 => ?_) hst
        exact ih (q ++ [j]) _ _ ae1 w1 (by omega) hb2 ⟨p', hp', hqp', m', a', Ms', s', hfin', hat1⟩
  -- the start
  have gr : ∀ i, (Array.replicate l.toArray.size false).getD i false = false := fun i => by
    rw [Array.getD_eq_getD_getElem?]
    rw [Array.getElem?_replicate]
    split <;> rfl
  obtain ⟨m, a, Ms, s, hfin⟩ := six [0, 1, 2] (by decide)
  have hml := s.perm.len
  refine run _ [] _ (Array.replicate l.toArray.size false) _ _ (by unfold unl; simp) ⟨by simp, by simp, by simp, by simp, fun i _ => rfl, fun j hj => by rw [gr]; simp, fun r hr => by rw [gr]; simp, fun i o h => by rw [gr] at h; cases h⟩
    ⟨[0, 1, 2], by decide, List.nil_prefix, m, a, Ms, s, hfin, ?_⟩
  refine ⟨by simp [hml], fun i hi => (by rw [gr] at hi; cases hi), ⟨0, A0, β, S, s.head, Nat.zero_le _, fun r x hx => ?_, Aft.refl hs.drew hmn, fun t u hv => ?_⟩, he.size, he.defers⟩
  · rw [gr]; simp
  · refine he.get t u ?_
    cases hw : wrOf m t with
    | none => rw [hw] at hv; exact hv
    | some j => rw [hw] at hv; simp only at hv; rw [gr, if_neg (by decide)] at hv; exact hv
end Go.M
namespace Go.M
open Go.RowKit
def lperm (l : List Oper) (b p0 p1 p2 : Nat) : List Oper := l.mapIdx fun i o =>
  if i = b then { l.getD (b + p0) o with after := #[] } else if i = b + 1 then { l.getD (b + p1) o with after := #[⟨b, .data⟩] } else if i = b + 2 then { l.getD (b + p2) o with after := #[⟨b + 1, .data⟩] } else o
theorem lperm_at {l : List Oper} {b p0 p1 p2 i : Nat} {o : Oper} (h : l[i]? = some o) : (lperm l b p0 p1 p2)[i]? = some (if i = b then { l.getD (b + p0) o with after := #[] } else if i = b + 1 then { l.getD (b + p1) o with after := #[⟨b, .data⟩] } else if i = b + 2 then { l.getD (b + p2) o with after := #[⟨b + 1, .data⟩] } else o) := by
  unfold lperm
  rw [List.getElem?_mapIdx, h]; rfl
def predsOut (b : Nat) (o : Oper) : Bool := (predsOf o).all fun x => decide (x < b) || decide (b + 3 ≤ x)
def predsAll (b : Nat) (o : Oper) : Bool := (predsOf o).contains b && (predsOf o).contains (b + 1) && (predsOf o).contains (b + 2)
def freeB (l : List Oper) (b : Nat) (es : List Nat) : Bool :=
  decide (b + 3 ≤ l.length) && l.zipIdx.all fun x => x.1.guard.isNone && (if x.2 < b || b + 3 ≤ x.2 then
    (predsOut b x.1 || (predsAll b x.1 || (predsOf x.1).any fun p => (decide (p < b) || decide (b + 3 ≤ p)) && (match l[p]? with | some op => predsAll b op | none => false))) && (match x.1.dst with | some t => !es.contains t | none => true)
    else (predsOf x.1).isEmpty)
theorem predsAll_of {b : Nat} {o : Oper} (h : predsAll b o = true) : ∀ j, j < 3 → b + j ∈ predsOf o := by
  unfold predsAll at h
  simp only [Bool.and_eq_true, List.contains_eq_mem, decide_eq_true_eq] at h
  intro j hj
  match j, hj with
  | 0, _ => exact h.1.1
  | 1, _ => exact h.1.2
  | 2, _ => exact h.2
theorem freeB_of {l : List Oper} {b : Nat} {es : List Nat} (h : freeB l b es = true) : Free3 l b ∧ ∀ (i : Nat) (o : Oper) (t : Nat), (i < b ∨ b + 3 ≤ i) → l[i]? = some o → o.dst = some t → t ∉ es := by
  unfold freeB at h
  rw [Bool.and_eq_true, List.all_eq_true] at h
  obtain ⟨hl, h⟩ := h
  have hl := of_decide_eq_true hl
  have k : ∀ i o, l[i]? = some o → o.guard = none ∧ ((i < b ∨ b + 3 ≤ i) → (predsOut b o = true ∨ predsAll b o = true ∨ ∃ p op, p ∈ predsOf o ∧ (p < b ∨ b + 3 ≤ p) ∧ l[p]? = some op ∧ predsAll b op = true) ∧ ∀ t, o.dst = some t → t ∉ es) ∧ (¬(i < b ∨ b + 3 ≤ i) → predsOf o = []) := by
    intro i o ho
    have := h (o, i) (by rw [List.mk_mem_zipIdx_iff_getElem?]; exact ho)
    rw [Bool.and_eq_true] at this
    obtain ⟨h1, h2⟩ := this
    refine ⟨by simpa using h1, fun hi => ?_, fun hi => ?_⟩
    · have hc : (decide (i < b) || decide (b + 3 ≤ i)) = true := by simpa using hi
      simp only at h2
      rw [if_pos hc, Bool.and_eq_true] at h2
      obtain ⟨h3, h4⟩ := h2
      refine ⟨?_, fun t ht => ?_⟩
      · rw [Bool.or_eq_true, Bool.or_eq_true] at h3
        rcases h3 with h3 | h3 | h3
        · exact .inl h3
        · exact .inr (.inl h3)
        · refine .inr (.inr ?_)
          rw [List.any_eq_true] at h3
          obtain ⟨p, hp, h5⟩ := h3
          rw [Bool.and_eq_true] at h5
          cases hq : l[p]? with
          | none => rw [hq] at h5; simp at h5
          | some op => rw [hq] at h5; exact ⟨p, op, hp, by simpa using h5.1, hq, h5.2⟩
      · rw [ht] at h4
        simpa using h4
    · have hc : (decide (i < b) || decide (b + 3 ≤ i)) = false := by simpa using hi
      simp only at h2
      rw [if_neg (by rw [hc]; decide)] at h2
      simpa using h2
  refine ⟨⟨fun j o hj ho => (k _ _ ho).2.2 (by omega), fun j hj => ⟨_, List.getElem?_eq_getElem (show b + j < l.length by omega)⟩, fun i o hi ho => ?_, fun i o ho => (k i o ho).1⟩, fun i o t hi ho => ((k i o ho).2.1 hi).2 t⟩
  rcases ((k i o ho).2.1 hi).1 with h1 | h1 | ⟨p, op, h1, h2, h3, h4⟩
  · exact .inl fun x hx => by
      unfold predsOut at h1
      rw [List.all_eq_true] at h1
      simpa using h1 x hx
  · exact .inr (.inl (predsAll_of h1))
  · exact .inr (.inr ⟨p, op, h1, h2, h3, predsAll_of h4⟩)
theorem lperm_of {l : List Oper} {b p0 p1 p2 : Nat} (hl : b + 3 ≤ l.length) (h0 : p0 < 3) (h1 : p1 < 3) (h2 : p2 < 3) : PermOf l (lperm l b p0 p1 p2) b [p0, p1, p2] := by
  refine ⟨by simp [lperm], fun i hi => ?_, fun r j hj => ?_⟩
  · cases h : l[i]? with
    | none =>
      rw [List.getElem?_eq_none_iff] at h ⊢
      simpa [lperm] using h
    | some o =>
      rw [lperm_at h, if_neg (by omega), if_neg (by omega), if_neg (by omega)]
  · have hr : r < 3 := by have := (List.getElem?_eq_some_iff.1 hj).1; simpa using this
    have hjl : j < 3 := by
      match r, hr, hj with
      | 0, _, hj => simp at hj; omega
      | 1, _, hj => simp at hj; omega
      | 2, _, hj => simp at hj; omega
    have hg : ∀ (i : Nat) (d : Oper), i < l.length → l[i]? = some (l.getD i d) := fun i d hi => by
      rw [List.getD_eq_getElem?_getD, List.getElem?_eq_getElem hi]; rfl
    obtain ⟨d, hd⟩ : ∃ d, l[b + r]? = some d := ⟨_, List.getElem?_eq_getElem (by omega)⟩
    have hjd := hg (b + j) d (by omega)
    match r, hr, hj, hd with
    | 0, _, hj, hd =>
      simp at hj; subst hj
      exact ⟨_, #[], hjd, (lperm_at hd).trans (by simp), fun e he => by simp at he⟩
    | 1, _, hj, hd =>
      simp at hj; subst hj
      exact ⟨_, #[⟨b, .data⟩], hjd, (lperm_at hd).trans (by simp), fun e he => by simp at he; subst he; simp⟩
    | 2, _, hj, hd =>
      simp at hj; subst hj
      exact ⟨_, #[⟨b + 1, .data⟩], hjd, (lperm_at hd).trans (by simp), fun e he => by simp at he; subst he; simp⟩
abbrev Done6 (P : Program) (n : Nat) (l : List Oper) (b : Nat) (An : List (List Nat)) (R : List Nat) (a0 : AEnv) (A0 : AW) (aL : AEnv) (es : List Nat) (v : Nat → Value) (Mk : Nat → AW) (Q : AQ) (p : List Nat) : Prop :=
  ∃ m a Ms, Side P n l b An (b :: (b + 1) :: (b + 2) :: R) a0 A0 aL es v Mk p m a Ms ∧ ∃ M, Ms[R.length + 3]? = some M ∧ Q .normal a M
abbrev M3 (ro gl : Nat) (L0 L1 L2 : LM) (nx : Nat) (k : Nat) : AW := AW.of (if k = 0 then L0 else if k = 1 then L1 else L2) (nx + k) ro gl
theorem GT.perm {P : Program} {n m0 id : Nat} {l : List Oper} {L L1 L2 : LM} {nx ro gl : Nat} {a aL : AEnv} {Q : AQ} (b : Nat) (An : List (List Nat)) (R es : List Nat) (hm : P.follows .mixedOrders = true) (hf : freeB l b es = true)
    (hc0 : (Plan.mk (lperm l b 0 1 2) An (b :: (b + 1) :: (b + 2) :: R)).chk n = true) (hc1 : (Plan.mk (lperm l b 0 2 1) An (b :: (b + 1) :: (b + 2) :: R)).chk n = true) (hc2 : (Plan.mk (lperm l b 1 0 2) An (b :: (b + 1) :: (b + 2) :: R)).chk n = true)
    (hc3 : (Plan.mk (lperm l b 1 2 0) An (b :: (b + 1) :: (b + 2) :: R)).chk n = true) (hc4 : (Plan.mk (lperm l b 2 0 1) An (b :: (b + 1) :: (b + 2) :: R)).chk n = true) (hc5 : (Plan.mk (lperm l b 2 1 0) An (b :: (b + 1) :: (b + 2) :: R)).chk n = true)
    (k0 : GX P n ⟨lperm l b 0 1 2, An, b :: (b + 1) :: (b + 2) :: R⟩ a L nx ro gl (Done6 P n l b An R a (AW.of L nx ro gl) aL es (fun r => .pointer (some ⟨nx + r, 0, none⟩)) (M3 ro gl L L1 L2 nx) Q [0, 1, 2]) 0 a [(L, nx)])
    (k1 : GX P n ⟨lperm l b 0 2 1, An, b :: (b + 1) :: (b + 2) :: R⟩ a L nx ro gl (Done6 P n l b An R a (AW.of L nx ro gl) aL es (fun r => .pointer (some ⟨nx + r, 0, none⟩)) (M3 ro gl L L1 L2 nx) Q [0, 2, 1]) 0 a [(L, nx)])
    (k2 : GX P n ⟨lperm l b 1 0 2, An, b :: (b + 1) :: (b + 2) :: R⟩ a L nx ro gl (Done6 P n l b An R a (AW.of L nx ro gl) aL es (fun r => .pointer (some ⟨nx + r, 0, none⟩)) (M3 ro gl L L1 L2 nx) Q [1, 0, 2]) 0 a [(L, nx)])
    (k3 : GX P n ⟨lperm l b 1 2 0, An, b :: (b + 1) :: (b + 2) :: R⟩ a L nx ro gl (Done6 P n l b An R a (AW.of L nx ro gl) aL es (fun r => .pointer (some ⟨nx + r, 0, none⟩)) (M3 ro gl L L1 L2 nx) Q [1, 2, 0]) 0 a [(L, nx)])
    (k4 : GX P n ⟨lperm l b 2 0 1, An, b :: (b + 1) :: (b + 2) :: R⟩ a L nx ro gl (Done6 P n l b An R a (AW.of L nx ro gl) aL es (fun r => .pointer (some ⟨nx + r, 0, none⟩)) (M3 ro gl L L1 L2 nx) Q [2, 0, 1]) 0 a [(L, nx)])
    (k5 : GX P n ⟨lperm l b 2 1 0, An, b :: (b + 1) :: (b + 2) :: R⟩ a L nx ro gl (Done6 P n l b An R a (AW.of L nx ro gl) aL es (fun r => .pointer (some ⟨nx + r, 0, none⟩)) (M3 ro gl L L1 L2 nx) Q [2, 1, 0]) 0 a [(L, nx)]) :
    GT P n m0 (.region id l.toArray true) a L nx ro gl Q := by
  obtain ⟨h1, h2⟩ := freeB_of hf
  refine ⟨AT.perm (An := An) (R := R) (aL := aL) (es := es) (v := fun r => .pointer (some ⟨nx + r, 0, none⟩)) (Mk := M3 ro gl L L1 L2 nx) hm h1 h2 fun p hp => ?_⟩
  simp only [List.mem_cons, List.not_mem_nil, or_false] at hp
  rcases hp with rfl | rfl | rfl | rfl | rfl | rfl
  · exact GX.start An _ hc0 k0
  · exact GX.start An _ hc1 k1
  · exact GX.start An _ hc2 k2
  · exact GX.start An _ hc3 k3
  · exact GX.start An _ hc4 k4
  · exact GX.start An _ hc5 k5
/-- The end of one of the six walks. -/
theorem GX.fin {P : Program} {n i : Nat} {l : List Oper} {L0 L1 L2 L' : LM} {nx nx' ro gl b p0 p1 p2 t0 t1 t2 : Nat} {a a0 aL : AEnv} {v0 v1 v2 : Value} {Q : AQ} {An : List (List Nat)} {R es : List Nat} {Ms : MS} {o0 o1 o2 : Oper}
    (hi : Nat.beq (lperm l b p0 p1 p2).length i = true) (hl : Nat.ble (b + 3) l.length = true) (hp : (Nat.blt p0 3 && Nat.blt p1 3 && Nat.blt p2 3) = true)
    (ha : a = (t2, v2) :: (t1, v1) :: (t0, v0) :: aL) (he : (es.contains t0 && es.contains t1 && es.contains t2) = true)
    (g0 : (lperm l b p0 p1 p2)[b + 0]? = some o0) (g1 : (lperm l b p0 p1 p2)[b + 1]? = some o1) (g2 : (lperm l b p0 p1 p2)[b + 2]? = some o2) (d0 : o0.dst = some t0) (d1 : o1.dst = some t1) (d2 : o2.dst = some t2)
    (e0 : aget a t0 = some (.pointer (some ⟨nx + 0, 0, none⟩))) (e1 : aget a t1 = some (.pointer (some ⟨nx + 1, 0, none⟩))) (e2 : aget a t2 = some (.pointer (some ⟨nx + 2, 0, none⟩)))
    (q0 : Ms[0]? = some (L0, nx)) (q1 : Ms[1]? = some (L1, nx + 1)) (q2 : Ms[2]? = some (L2, nx + 2)) (hM : Ms[R.length + 3]? = some (L', nx')) (hq : GP Q .normal a L' nx' ro gl) :
    GX P n ⟨lperm l b p0 p1 p2, An, b :: (b + 1) :: (b + 2) :: R⟩ a0 L0 nx ro gl (Done6 P n l b An R a0 (AW.of L0 nx ro gl) aL es (fun r => .pointer (some ⟨nx + r, 0, none⟩)) (M3 ro gl L0 L1 L2 nx) Q [p0, p1, p2]) i a Ms := by
  refine GX.done hi fun hc hg => ?_
  simp only [Bool.and_eq_true] at hp he
  have hp0 : p0 < 3 := Nat.le_of_ble_eq_true hp.1.1
  have hp1 : p1 < 3 := Nat.le_of_ble_eq_true hp.1.2
  have hp2 : p2 < 3 := Nat.le_of_ble_eq_true hp.2
  have hms : ∀ {k : Nat} {X : LM} {y : Nat}, Ms[k]? = some (X, y) → (msOf ro gl Ms)[k]? = some (AW.of X y ro gl) := fun h => by unfold msOf; rw [List.getElem?_map, h]; rfl
  refine ⟨_, a, msOf ro gl Ms, ⟨lperm_of (Nat.le_of_ble_eq_true hl) hp0 hp1 hp2, hc, fun j o ho => hg.obs j o (List.getElem?_eq_some_iff.1 ho).1 ho, hg.head, fun t ht => hg.keep t fun j hj => (by rw [ht] at hj; cases hj), fun t ht => ?_, fun r o t hr ho hd => ?_, fun k hk => ?_⟩, _, hms hM, hq.run⟩
  · have n0 : t0 ≠ t := fun e => ht (by rw [← e]; simpa using he.1.1)
    have n1 : t1 ≠ t := fun e => ht (by rw [← e]; simpa using he.1.2)
    have n2 : t2 ≠ t := fun e => ht (by rw [← e]; simpa using he.2)
    rw [ha]
    simp only [aget]
    rw [if_neg n2, if_neg n1, if_neg n0]
  · match r, hr with
    | 0, _ => rw [g0] at ho; cases ho; rw [d0] at hd; cases hd; exact e0
    | 1, _ => rw [g1] at ho; cases ho; rw [d1] at hd; cases hd; exact e1
    | 2, _ => rw [g2] at ho; cases ho; rw [d2] at hd; cases hd; exact e2
  · match k, hk with
    | 0, _ => exact hms q0
    | 1, _ => exact hms q1
    | 2, _ => exact hms q2
end Go.M
