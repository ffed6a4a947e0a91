/- Part 14: regions whose order is drawn, operation by operation. -/
import Derived.Test.YtfhodefiknfccaaM13
set_option linter.unusedVariables false
set_option linter.unusedSimpArgs false
namespace Go.M
open Go.RowKit
variable {P : Program} {N n m : Nat} {A A' A1 A2 A0 : AW} {a a1 a0 : AEnv} {Q Q' : AQ} {D : Plan} {Ms : List AW} {id : Nat}

structure Good (P : Program) (n : Nat) (D : Plan) (a0 : AEnv) (A0 : AW) (i : Nat) (a : AEnv) (Ms : List AW) : Prop where
  len : ∀ r h, D.H[r]? = some h → (h < i ↔ r + 1 < Ms.length)
  head : Ms[0]? = some A0
  keep : ∀ t, (∀ j, wrOf D.l t = some j → i ≤ j) → aget a t = aget a0 t
  obs : ∀ j o, j < i → D.l[j]? = some o → D.ob P n a0 a Ms j o

def DG (P : Program) (n m : Nat) (D : Plan) (id : Nat) (a0 : AEnv) (A0 : AW) (Q : AQ) (i : Nat) (a : AEnv) (Ms : List AW) : Prop :=
  D.chk n = true → Good P n D a0 A0 i a Ms → AT P n m (.region id D.l.toArray true) a0 A0 Q

theorem AT.draws {l : List Oper} (An : List (List Nat)) (H : List Nat) (hc : (Plan.mk l An H).chk n = true) (h : DG P n m ⟨l, An, H⟩ id a A Q 0 a [A]) : AT P n m (.region id l.toArray true) a A Q :=
  h hc ⟨fun r h _ => by simp, rfl, fun _ _ => rfl, fun j _ hj => by omega⟩

theorem DG.done {i : Nat} {M : AW} (hm : P.follows .mixedOrders = true) (hi : D.l.length = i) (hl : Ms[D.H.length]? = some M) (hq : Q .normal a M) : DG P n m D id a0 A0 Q i a Ms := fun hc hg =>
  AT.drawn (a := a) (Ms := Ms) hm hc (fun j o ho => hg.obs j o (by rw [← hi]; exact (List.getElem?_eq_some_iff.1 ho).1) ho) hg.head hl (fun t ht => hg.keep t fun j hj => by rw [ht] at hj; cases hj) hq

theorem aget_put_ne {d : Option Tmp} {v : Value} {t : Nat} (h : d ≠ some t) : aget (aput a d v) t = aget a t := by
  cases d with
  | none => rfl
  | some d => simp only [aput, aget]; rw [if_neg (fun e => h (by rw [e]))]
theorem aget_put {d : Option Tmp} {v : Value} {t : Nat} (h : d = some t) : aget (aput a d v) t = some v := by
  subst h; simp [aput, aget]

section
variable {i : Nat} {o : Oper} {v : Value}
theorem put_other (hok : D.Ok n) (ho : D.l[i]? = some o) {j d : Nat} {oj : Oper} (hj : D.l[j]? = some oj) (hji : j ≠ i) (hd : oj.dst = some d) : aget (aput a o.dst v) d = aget a d :=
  aget_put_ne fun e => hji (by
    have h1 := (hok.dst i o ho d e).1
    have h2 := (hok.dst j oj hj d hd).1
    rw [h2] at h1; exact Option.some.inj h1)

theorem env_put (hok : D.Ok n) (ho : D.l[i]? = some o) {j : Nat} {oj : Oper} (hj : D.l[j]? = some oj) (hji : j < i ∨ j = i) : D.env a0 (aput a o.dst v) j oj = D.env a0 a j oj := by
  unfold Plan.env
  congr 1
  funext t
  have : D.src a0 (aput a o.dst v) j t = D.src a0 a j t := by
    unfold Plan.src
    cases hw : wrOf D.l t with
    | none => rfl
    | some x =>
      simp only
      by_cases q : x ∈ D.an j
      · rw [if_pos (by simpa using q), if_pos (by simpa using q)]
        obtain ⟨ox, h1, h2⟩ := wrOf_spec hw
        have := hok.anlt j oj hj x q
        exact put_other hok ho h1 (by omega) h2
      · rw [if_neg (by simpa using q), if_neg (by simpa using q)]
  rw [this]

theorem onAt_put (hok : D.Ok n) (ho : D.l[i]? = some o) {j : Nat} {oj : Oper} (hj : D.l[j]? = some oj) (hji : j < i ∨ j = i) (h : D.onAt a oj) : D.onAt (aput a o.dst v) oj := by
  rcases h with h | ⟨g, b, d, h1, h2, h3⟩
  · exact .inl h
  · refine .inr ⟨g, b, d, h1, h2, ?_⟩
    have hg := hok.anlt j oj hj g (hok.guard j oj hj g b h1)
    cases hl : D.l[g]? with
    | none => simp [hl] at h2
    | some og =>
      simp only [hl, Option.bind_some] at h2
      rw [put_other hok ho hl (by omega) h2]
      exact h3

theorem offAt_put (hok : D.Ok n) (ho : D.l[i]? = some o) {j : Nat} {oj : Oper} (hj : D.l[j]? = some oj) (hji : j < i) (h : D.offAt a oj) : D.offAt (aput a o.dst v) oj := by
  obtain ⟨⟨g, b, d, u, h1, h2, h3, h5⟩, h4⟩ := h
  refine ⟨⟨g, b, d, u, h1, h2, ?_, h5⟩, fun d' hd' => by rw [put_other hok ho hj (by omega) hd']; exact h4 d' hd'⟩
  have hg := hok.anlt j oj hj g (hok.guard j oj hj g b h1)
  cases hl : D.l[g]? with
  | none => simp [hl] at h2
  | some og =>
    simp only [hl, Option.bind_some] at h2
    rw [put_other hok ho hl (by omega) h2]
    exact h3

theorem opAt_put (hok : D.Ok n) (ho : D.l[i]? = some o) {j : Nat} {oj : Oper} (hj : D.l[j]? = some oj) (hji : j < i) {M M' : AW} (h : D.opAt P n a0 a j oj M M') : D.opAt P n a0 (aput a o.dst v) j oj M M' := by
  obtain ⟨u, h1, h2⟩ := h
  exact ⟨u, fun d hd => by rw [put_other hok ho hj (by omega) hd]; exact h1 d hd, by rw [env_put hok ho hj (.inl hji)]; exact h2⟩

theorem keep_put (hok : D.Ok n) (ho : D.l[i]? = some o) (h : ∀ t, (∀ j, wrOf D.l t = some j → i ≤ j) → aget a t = aget a0 t) : ∀ t, (∀ j, wrOf D.l t = some j → i + 1 ≤ j) → aget (aput a o.dst v) t = aget a0 t := by
  intro t ht
  rw [aget_put_ne (fun e => ?_)]
  · exact h t fun j hj => by have := ht j hj; omega
  · have := ht i (hok.dst i o ho t e).1
    omega

/-- The memories that an operation may meet. -/
def Plan.okMs (D : Plan) (i : Nat) (Ms : List AW) : List AW := (Ms.zipIdx.filter fun x => D.okk i x.2).map (·.1)
def AllM (p : AW → Prop) : List AW → Prop
  | [] => True
  | M :: Ms => p M ∧ AllM p Ms
theorem AllM.mem {p : AW → Prop} : ∀ {Ms : List AW}, AllM p Ms → ∀ M ∈ Ms, p M
  | [], _, _, h => by cases h
  | M :: Ms, h, M', hm => by
    rcases List.mem_cons.1 hm with rfl | hm
    · exact h.1
    · exact AllM.mem h.2 M' hm

theorem DG.light {ms : List AW} (ho : D.l[i]? = some o) (hH : D.H.contains i = false) (hon : D.onAt a o) (hms : D.okMs i Ms = ms) {e : AEnv} (he : D.env a0 a i o = e) (h : AllM (fun M => AOp P n o e M (isR v M)) ms)
    (k : DG P n m D id a0 A0 Q (i + 1) (aput a o.dst v) Ms) : DG P n m D id a0 A0 Q i a Ms := fun hc hg => by
  subst hms; subst he
  have hok := Plan.ok_of_chk hc
  have hH : i ∉ D.H := by simpa using hH
  refine k hc ⟨fun r h hr => ?_, hg.head, keep_put hok ho hg.keep, fun j oj hj hoj => ?_⟩
  · have : h ≠ i := fun e => hH (e ▸ List.mem_of_getElem? hr)
    rw [← hg.len r h hr]; omega
  · by_cases q : j = i
    · subst q
      rw [ho] at hoj; cases hoj
      refine .inr ⟨onAt_put hok ho ho (.inr rfl) hon, fun r hr => absurd (List.mem_of_getElem? hr) hH, fun _ k M hM hokk => ⟨v, fun d hd => aget_put hd, ?_⟩⟩
      rw [env_put hok ho ho (.inr rfl)]
      refine h.mem M ?_
      unfold Plan.okMs
      rw [List.mem_map]
      exact ⟨(M, k), by rw [List.mem_filter, List.mk_mem_zipIdx_iff_getElem?]; exact ⟨hM, hokk⟩, rfl⟩
    · have hji : j < i := by omega
      rcases hg.obs j oj hji hoj with ⟨h1, h2⟩ | ⟨h1, h2, h3⟩
      · exact .inl ⟨offAt_put hok ho hoj hji h1, h2⟩
      · refine .inr ⟨onAt_put hok ho hoj (.inl hji) h1, fun r hr => ?_, fun hn k M hM hokk => opAt_put hok ho hoj hji (h3 hn k M hM hokk)⟩
        obtain ⟨M, M', e1, e2, e3⟩ := h2 r hr
        exact ⟨M, M', e1, e2, opAt_put hok ho hoj hji e3⟩

theorem DG.off (ho : D.l[i]? = some o) (hH : D.H.contains i = false) {g : Nat} {b : Bool} {d : Nat} {u : Value} (h1 : o.guard = some (g, b)) (h2 : (D.l[g]?).bind (·.dst) = some d) (h3 : aget a d = some u) (h5 : u = .bool (!b) ∨ u = undef)
    (k : DG P n m D id a0 A0 Q (i + 1) (aput a o.dst undef) Ms) : DG P n m D id a0 A0 Q i a Ms := fun hc hg => by
  have hok := Plan.ok_of_chk hc
  have hH : i ∉ D.H := by simpa using hH
  refine k hc ⟨fun r h hr => ?_, hg.head, keep_put hok ho hg.keep, fun j oj hj hoj => ?_⟩
  · have : h ≠ i := fun e => hH (e ▸ List.mem_of_getElem? hr)
    rw [← hg.len r h hr]; omega
  · by_cases q : j = i
    · subst q
      rw [ho] at hoj; cases hoj
      refine .inl ⟨⟨⟨g, b, d, u, h1, h2, ?_, h5⟩, fun d hd => aget_put hd⟩, hH⟩
      have hgl := hok.anlt j o ho g (hok.guard j o ho g b h1)
      cases hl : D.l[g]? with
      | none => simp [hl] at h2
      | some og =>
        simp only [hl, Option.bind_some] at h2
        rw [put_other hok ho hl (by omega) h2]
        exact h3
    · have hji : j < i := by omega
      rcases hg.obs j oj hji hoj with ⟨h1, h2⟩ | ⟨h1, h2, h3⟩
      · exact .inl ⟨offAt_put hok ho hoj hji h1, h2⟩
      · refine .inr ⟨onAt_put hok ho hoj (.inl hji) h1, fun r hr => ?_, fun hn k M hM hokk => opAt_put hok ho hoj hji (h3 hn k M hM hokk)⟩
        obtain ⟨M, M', e1, e2, e3⟩ := h2 r hr
        exact ⟨M, M', e1, e2, opAt_put hok ho hoj hji e3⟩

/-- The light operations that may come behind the r-th heavy one. -/
def Plan.floats (D : Plan) (i r : Nat) : List Nat := (List.range i).filter fun j => !D.H.contains j && D.okk j (r + 1)
def AllJ (p : Nat → Prop) : List Nat → Prop
  | [] => True
  | j :: js => p j ∧ AllJ p js
theorem AllJ.mem {p : Nat → Prop} : ∀ {js : List Nat}, AllJ p js → ∀ j ∈ js, p j
  | [], _, _, h => by cases h
  | j :: js, h, j', hm => by
    rcases List.mem_cons.1 hm with rfl | hm
    · exact h.1
    · exact AllJ.mem h.2 j' hm
def Plan.again (P : Program) (n : Nat) (D : Plan) (a0 a : AEnv) (M' : AW) (j : Nat) : Prop :=
  ∃ oj, D.l[j]? = some oj ∧ (D.offAt a oj ∨ D.opAt P n a0 a j oj M' M')
theorem Plan.again.intro {j : Nat} {oj : Oper} {u : Value} {e : AEnv} {M' : AW} (h1 : D.l[j]? = some oj) (h2 : oj.dst.isNone = true ∨ oj.dst.bind (aget a) = some u) (h3 : D.env a0 a j oj = e) (h4 : AOp P n oj e M' (isR u M')) : D.again P n a0 a M' j :=
  ⟨oj, h1, .inr ⟨u, fun d hd => by rcases h2 with h2 | h2; (rw [hd] at h2; cases h2); (rw [hd] at h2; exact h2), by rw [h3]; exact h4⟩⟩

theorem DG.heavy {r : Nat} {M M' : AW} {js : List Nat} (ho : D.l[i]? = some o) (hr : D.H[r]? = some i) (hM : Ms[r]? = some M) (hon : D.onAt a o) {e : AEnv} (he : D.env a0 a i o = e) (h : AOp P n o e M (isR v M'))
    (hjs : D.floats i r = js) (hf : AllJ (D.again P n a0 a M') js) (k : DG P n m D id a0 A0 Q (i + 1) (aput a o.dst v) (Ms ++ [M'])) : DG P n m D id a0 A0 Q i a Ms := fun hc hg => by
  subst hjs; subst he
  have hok := Plan.ok_of_chk hc
  have hlen : Ms.length = r + 1 := by
    have h1 := hg.len r i hr
    have h2 := (List.getElem?_eq_some_iff.1 hM).1
    omega
  have hlt : ∀ k M, Ms[k]? = some M → (Ms ++ [M'])[k]? = some M := fun k M h => by rw [List.getElem?_append_left (List.getElem?_eq_some_iff.1 h).1]; exact h
  have hnew : (Ms ++ [M'])[r + 1]? = some M' := by rw [List.getElem?_append_right (by omega)]; simp [hlen]
  have hinj : ∀ r' h, D.H[r']? = some h → r < r' → i < h := by
    intro r' h hr' hlt'
    induction r' generalizing h with
    | zero => omega
    | succ r' ih =>
      have hl' : r' < D.H.length := by have := (List.getElem?_eq_some_iff.1 hr').1; omega
      have hx := List.getElem?_eq_getElem hl'
      have hm := hok.chain r' _ h hx hr'
      have hhl : h < D.l.length := hok.hlt h (List.mem_of_getElem? hr')
      have := hok.anlt h _ (List.getElem?_eq_getElem hhl) _ hm
      rcases Nat.lt_or_ge r r' with q | q
      · have := ih _ hx q; omega
      · have : r' = r := by omega
        subst this
        rw [hr] at hx; have := Option.some.inj hx; omega
  refine k hc ⟨fun r' h hr' => ?_, hlt _ _ hg.head, keep_put hok ho hg.keep, fun j oj hj hoj => ?_⟩
  · simp only [List.length_append, List.length_singleton]
    rcases Nat.lt_trichotomy r' r with q | q | q
    · have := (hg.len r' h hr').2 (by omega)
      omega
    · subst q; rw [hr] at hr'; cases hr'; omega
    · have := hinj r' h hr' q
      omega
  · by_cases q : j = i
    · subst q
      rw [ho] at hoj; cases hoj
      refine .inr ⟨onAt_put hok ho ho (.inr rfl) hon, fun r' hr' => ?_, fun hn => absurd (List.mem_of_getElem? hr) hn⟩
      have e : r' = r := by
        rcases Nat.lt_trichotomy r' r with q | q | q
        · have := (hg.len r' j hr').2 (by omega); omega
        · exact q
        · have := hinj r' j hr' q; omega
      subst e
      exact ⟨M, M', hlt _ _ hM, hnew, v, fun d hd => aget_put hd, by rw [env_put hok ho ho (.inr rfl)]; exact h⟩
    · have hji : j < i := by omega
      rcases hg.obs j oj hji hoj with ⟨h1, h2⟩ | ⟨h1, h2, h3⟩
      · exact .inl ⟨offAt_put hok ho hoj hji h1, h2⟩
      · by_cases hjH : j ∈ D.H
        · refine .inr ⟨onAt_put hok ho hoj (.inl hji) h1, fun r hr => ?_, fun hn => absurd hjH hn⟩
          obtain ⟨M, M', e1, e2, e3⟩ := h2 r hr
          exact ⟨M, M', hlt _ _ e1, hlt _ _ e2, opAt_put hok ho hoj hji e3⟩
        · by_cases hfl : D.okk j (r + 1) = true
          · have hmem : j ∈ D.floats i r := by
              unfold Plan.floats
              rw [List.mem_filter]
              exact ⟨List.mem_range.2 hji, by simp [hjH, hfl]⟩
            obtain ⟨oj', e1, e2⟩ := hf.mem j hmem
            rw [hoj] at e1; cases e1
            rcases e2 with e2 | e2
            · exact .inl ⟨offAt_put hok ho hoj hji e2, hjH⟩
            · refine .inr ⟨onAt_put hok ho hoj (.inl hji) h1, fun r hr => absurd (List.mem_of_getElem? hr) hjH, fun hn k M hM hokk => opAt_put hok ho hoj hji ?_⟩
              rcases Nat.lt_or_ge k Ms.length with hk | hk
              · rw [List.getElem?_append_left hk] at hM; exact h3 hn k M hM hokk
              · have : k = r + 1 := by
                  have := (List.getElem?_eq_some_iff.1 hM).1
                  simp at this
                  omega
                subst this
                rw [hnew] at hM; cases hM
                exact e2
          · refine .inr ⟨onAt_put hok ho hoj (.inl hji) h1, fun r hr => absurd (List.mem_of_getElem? hr) hjH, fun hn k M hM hokk => opAt_put hok ho hoj hji ?_⟩
            rcases Nat.lt_or_ge k Ms.length with hk | hk
            · rw [List.getElem?_append_left hk] at hM; exact h3 hn k M hM hokk
            · have : k = r + 1 := by
                have := (List.getElem?_eq_some_iff.1 hM).1
                simp at this
                omega
              subst this
              exact absurd hokk hfl
end

end Go.M
