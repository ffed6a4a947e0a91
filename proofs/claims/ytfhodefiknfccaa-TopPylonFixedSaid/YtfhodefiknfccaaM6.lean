/- Part 6: slicing, building, reckoning, maps, ranges over strings. -/
import Derived.Test.YtfhodefiknfccaaM5
set_option linter.unusedVariables false
set_option linter.unusedSimpArgs false
namespace Go.M
open Go.RowKit
variable {P : Program} {w0 w w' w1 : World} {N : Nat} {β β' β1 : Bet} {S S' S1 : Nat → Prop} {A A' A1 : AW}

/-! ### A dead name -/
def AW.burn (A : AW) : AW := { A with next := A.next + 1 }
theorem Sim.burn (h : Sim P w0 N β S A w) : Sim P w0 N β (fun i => S i ∨ i = A.next) A.burn w ∧ Ext A.next β S β (fun i => S i ∨ i = A.next) ∧ β A.next = none := by
  have hn : A.objs A.next = none := by
    cases e : A.objs A.next with
    | none => rfl
    | some o => have := h.lt _ _ e; omega
  refine ⟨⟨h.below, h.Nle, fun i o hi => ?_, h.dead, fun i o hi => ?_, h.inj, h.hi, fun i hi => ?_, ?_, fun g hg => ⟨.inl (h.glob g hg).1, (h.glob g hg).2⟩, h.gle, h.roz⟩, ⟨fun _ _ => .inl rfl, fun _ h => .inl h, fun i hi => by rcases hi with hi | hi; exact .inl hi; exact .inr (by omega)⟩, h.dead _ hn⟩
  · obtain ⟨L, e, r⟩ := h.live i o hi
    exact ⟨L, e, r.mono (fun _ _ => .inl rfl) (fun _ h => .inl h) rfl⟩
  · have := h.lt i o hi; simp [AW.burn]; omega
  · rcases hi with hi | hi
    · have := h.sub i hi; simp [AW.burn]; omega
    · simp [AW.burn]; omega
  · have := h.role; simp [AW.burn]; omega

/-! ### Slicing -/
def abound (x : Value) (y : Nat) : Option Nat :=
  match x with
  | .int _ i => if 0 ≤ i ∧ i ≤ y then some i.toNat else none
  | _ => none
theorem abound_eq {x x' : Value} {y n : Nat} (hx : VR β S x x') (h : abound x y = some n) : x' = x := by
  unfold abound at h
  split at h
  · cases hx; rfl
  · cases h
theorem run_abound {x : Value} {y y' n : Nat} (h : abound x y = some n) (hy : y ≤ y') (c : BoundsCode) (w : World) : (Instr.sliceBound x y' c).run P w = .ok n w := by
  unfold abound at h
  split at h
  · split at h
    · rename_i hc
      cases h
      have : 0 ≤ ‹Int› ∧ ‹Int› ≤ (y' : Int) := ⟨hc.1, by omega⟩
      simp [Instr.sliceBound, asIntOf, this]
    · cases h
  · cases h

def amx (cap : Nat) : Option Value → Option Nat
  | some v => abound v cap
  | none => some cap
def ahi (len m : Nat) : Option Value → Option Value → Option Nat
  | some v, _ => abound v m
  | none, none => some len
  | none, some _ => none
def alo (h : Nat) : Option Value → Option Nat
  | some v => abound v h
  | none => some 0
def abounds (len cap : Nat) (lo hi mx : Option Value) : Option (Nat × Nat × Nat) :=
  (amx cap mx).bind fun m => (ahi len m hi mx).bind fun h => (alo h lo).bind fun l => some (l, h, m)

/-- Bounds that are alike. -/
inductive OptVR (β : Bet) (S : Nat → Prop) : Option Value → Option Value → Prop
  | none : OptVR β S none none
  | some {v v'} : VR β S v v' → OptVR β S (some v) (some v')

theorem abounds_run {len cap cap' l h m : Nat} {lo hi mx lo' hi' mx' : Option Value} (h1 : OptVR β S lo lo') (h2 : OptVR β S hi hi') (h3 : OptVR β S mx mx') (ha : abounds len cap lo hi mx = some (l, h, m)) (hc : cap ≤ cap') (b : Bool) (w : World) :
    (Instr.sliceBounds b len cap' lo' hi' mx').run P w = .ok (l, h, if mx.isSome then m else cap') w ∧ (mx = none → m = cap) ∧ m ≤ cap ∧ (hi.isSome → h ≤ m) ∧ (lo.isSome → l ≤ h) ∧ (lo = none → l = 0) := by
  unfold abounds at ha
  cases hm : amx cap mx with
  | none => simp [hm] at ha
  | some m0 =>
    simp only [hm, Option.bind_some] at ha
    cases hh : ahi len m0 hi mx with
    | none => simp [hh] at ha
    | some h0 =>
      simp only [hh, Option.bind_some] at ha
      cases hl : alo h0 lo with
      | none => simp [hl] at ha
      | some l0 =>
        simp only [hl, Option.bind_some, Option.some.injEq, Prod.mk.injEq] at ha
        obtain ⟨rfl, rfl, rfl⟩ := ha
        have bl : ∀ {x : Value} {y n : Nat}, abound x y = some n → n ≤ y := by
          intro x y n hx
          unfold abound at hx
          split at hx
          · split at hx
            · cases hx; omega
            · cases hx
          · cases hx
        cases h3 with
        | none =>
          simp only [amx, Option.some.injEq] at hm
          subst hm
          cases h2 with
          | none =>
            simp only [ahi, Option.some.injEq] at hh
            subst hh
            cases h1 with
            | none => simp only [alo, Option.some.injEq] at hl; subst hl; exact ⟨by simp [Instr.sliceBounds], fun _ => rfl, Nat.le_refl _, by simp, by simp, fun _ => rfl⟩
            | some hv => have e := abound_eq hv hl; subst e; exact ⟨by simp [Instr.sliceBounds, run_abound hl (Nat.le_refl _)], fun _ => rfl, Nat.le_refl _, by simp, fun _ => bl hl, by simp⟩
          | some hv2 =>
            have e2 := abound_eq hv2 hh
            subst e2
            have hb := bl hh
            cases h1 with
            | none => simp only [alo, Option.some.injEq] at hl; subst hl; exact ⟨by simp [Instr.sliceBounds, run_abound hh hc], fun _ => rfl, Nat.le_refl _, fun _ => hb, by simp, fun _ => rfl⟩
            | some hv => have e := abound_eq hv hl; subst e; exact ⟨by simp [Instr.sliceBounds, run_abound hh hc, run_abound hl (Nat.le_refl _)], fun _ => rfl, Nat.le_refl _, fun _ => hb, fun _ => bl hl, by simp⟩
        | some hv3 =>
          have e3 := abound_eq hv3 hm
          subst e3
          have hb3 := bl hm
          cases h2 with
          | none => simp [ahi] at hh
          | some hv2 =>
            have e2 := abound_eq hv2 hh
            subst e2
            have hb := bl hh
            cases h1 with
            | none => simp only [alo, Option.some.injEq] at hl; subst hl; exact ⟨by simp [Instr.sliceBounds, run_abound hm hc, run_abound hh (Nat.le_refl _)], by simp, hb3, fun _ => hb, by simp, fun _ => rfl⟩
            | some hv => have e := abound_eq hv hl; subst e; exact ⟨by simp [Instr.sliceBounds, run_abound hm hc, run_abound hh (Nat.le_refl _), run_abound hl (Nat.le_refl _)], by simp, hb3, fun _ => hb, fun _ => bl hl, by simp⟩

theorem abound_le {x : Value} {y n : Nat} (hx : abound x y = some n) : n ≤ y := by
  unfold abound at hx
  split at hx
  · split at hx
    · cases hx; omega
    · cases hx
  · cases hx
theorem abounds_lo {len cap l h m : Nat} {lo hi : Option Value} (ha : abounds len cap lo hi none = some (l, h, m)) (hlc : len ≤ cap) : l ≤ cap := by
  unfold abounds at ha
  simp only [amx, Option.bind_some] at ha
  cases hh : ahi len cap hi none with
  | none => simp [hh] at ha
  | some h0 =>
    simp only [hh, Option.bind_some] at ha
    cases hl : alo h0 lo with
    | none => simp [hl] at ha
    | some l0 =>
      simp only [hl, Option.bind_some, Option.some.injEq, Prod.mk.injEq] at ha
      obtain ⟨rfl, rfl, rfl⟩ := ha
      have b1 : h0 ≤ cap := by
        cases hi with
        | none => simp [ahi] at hh; omega
        | some v => exact abound_le hh
      cases lo with
      | none => simp [alo] at hl; omega
      | some v => have := abound_le hl; omega

/-- Does a slice of the block bear elements of this size? -/
def okEsz (P : Program) (A : AW) (b size : Nat) : Bool :=
  match A.objs b with
  | some (.cells _ e0) => decide (b < A.ro) || decide (szOf P e0 = some size)
  | none => true
  | _ => false

def aslice (P : Program) (A : AW) (t : TypeId) (x : Value) (lo hi mx : Option Value) : Option (Value × AW) :=
  match P.underlying t, x with
  | some .string, .string s => match abounds s.size s.size lo hi none, mx with
    | some (l, h, _), none => some (.string (s.extract l h), A)
    | _, _ => none
  | some (.slice e), .slice base n c => match abounds n c lo hi mx, szOf P e, decide (n ≤ c) with
    | some (l, h, m), some size, true => match base with
      | none => some (.slice none (h - l) (m - l), A)
      | some ⟨b, o, none⟩ =>
        if m = l then some (.slice (some ⟨A.next, 0, none⟩) (h - l) (m - l), A.burn) else
        if okEsz P A b size then some (.slice (some ⟨b, o + l * size, none⟩) (h - l) (m - l), A) else none
      | _ => none
    | _, _, _ => none
  | some (.array n e), .pointer (some ⟨b, o, none⟩) => match abounds n n lo hi mx, szOf P e with
    | some (l, h, m), some size => some (.slice (some (if m = l then ⟨b, o, none⟩ else ⟨b, o + l * size, none⟩)) (h - l) (m - l), A)
    | _, _ => none
  | _, _ => none

theorem aslice_sound (h : Sim P w0 N β S A w) {t : TypeId} {v x x' : Value} {lo hi mx lo' hi' mx' : Option Value} (hx : VR β S x x') (h1 : OptVR β S lo lo') (h2 : OptVR β S hi hi') (h3 : OptVR β S mx mx') (ha : aslice P A t x lo hi mx = some (v, A1)) :
    ∃ v', (Instr.sliceAt t x' lo' hi' mx').run P w = .ok v' w ∧ Done P w0 N β S A w v A1 v' w := by
  unfold aslice at ha
  split at ha
  · rename_i s hu
    split at ha
    · rename_i l hh m hb
      cases ha
      cases hx
      cases h3
      obtain ⟨hr, _⟩ := abounds_run (P := P) h1 h2 .none hb (Nat.le_refl _) false w
      refine ⟨_, ?_, Done.same h (.string .nil)⟩
      simp [Instr.sliceAt, Instr.slice, run_underlying hu, hr]
    · cases ha
  · rename_i e base n c hu
    split at ha
    case h_2 => cases ha
    rename_i l hh m size hb hs hnc
    have hnc := of_decide_eq_true hnc
    split at ha
    · cases ha
      cases hx
      obtain ⟨hr, hm, _⟩ := abounds_run (P := P) h1 h2 h3 hb (Nat.le_refl _) true w
      refine ⟨_, ?_, Done.same h (.sl0 .nil)⟩
      have em : (if mx.isSome = true then m else c) = m := by
        cases mx with
        | none => simp [hm rfl]
        | some _ => simp
      rw [em] at hr
      simp [Instr.sliceAt, Instr.slice, run_underlying hu, hr, run_szOf hs]
    · rename_i b o
      have key : ∀ a' c', c ≤ c' → x' = .slice (some a') n c' →
          (Instr.sliceAt t x' lo' hi' mx').run P w = .ok (.slice (if (if mx.isSome = true then m else c') = l then some a' else some (a'.add (l * size))) (hh - l) ((if mx.isSome = true then m else c') - l)) w := by
        intro a' c' hc e
        obtain ⟨hr, _⟩ := abounds_run (P := P) h1 h2 h3 hb hc true w
        subst e
        simp [Instr.sliceAt, Instr.slice, run_underlying hu, hr, run_szOf hs]
      have hshape : ∃ a' c', c ≤ c' ∧ x' = .slice (some a') n c' := by
        cases hx with
        | sl _ _ d _ _ => exact ⟨_, _, d, rfl⟩
        | slD _ _ d _ => exact ⟨_, _, d, rfl⟩
      obtain ⟨_, hm, hmc, hhm, hlh, hl0⟩ := abounds_run (P := P) (cap' := c) h1 h2 h3 hb (Nat.le_refl _) true w
      split at ha
      · rename_i hml
        cases ha
        obtain ⟨a', c', hc, e⟩ := hshape
        obtain ⟨s1, s2, s3⟩ := h.burn
        have hk := key a' c' hc e
        have hle : m ≤ (if mx.isSome = true then m else c') := by
          cases mx with
          | none => simp [hm rfl]; exact hc
          | some _ => simp
        by_cases q : (if mx.isSome = true then m else c') = l
        · rw [if_pos q] at hk
          exact ⟨_, hk, ⟨⟨β, _, s1, s2, .refl _ _ _, .slD (.inr rfl) s3 (by omega) .nil, by simp [AW.burn], rfl, rfl⟩⟩⟩
        · rw [if_neg q] at hk
          exact ⟨_, hk, ⟨⟨β, _, s1, s2, .refl _ _ _, .slD (.inr rfl) s3 (by omega) .nil, by simp [AW.burn], rfl, rfl⟩⟩⟩
      · rename_i hml
        split at ha
        case isFalse => cases ha
        rename_i hok
        cases ha
        cases hx with
        | @sl _ _ L _ _ c' _ _ sa sb d f =>
          have hk := key _ c' d rfl
          have hle : m ≤ (if mx.isSome = true then m else c') := by
            cases mx with
            | none => simp [hm rfl]; exact d
            | some _ => simp
          have q : ¬ (if mx.isSome = true then m else c') = l := by
            cases mx with
            | none =>
              simp only [Option.isSome_none, Bool.false_eq_true, if_false] at hle ⊢
              intro e
              have := hm rfl
              have : l ≤ c := abounds_lo hb hnc
              omega
            | some _ => simpa using hml
          rw [if_neg q] at hk
          refine ⟨_, hk, Done.same h ?_⟩
          rw [Addr.add_mid, Nat.add_assoc]
          refine .sl sa sb (by omega) ?_ .nil
          cases mx with
          | some _ => left; simp
          | none =>
            have := hm rfl
            simp only [Option.isSome_none, Bool.false_eq_true, if_false]
            rcases f with f | f | f
            · left; omega
            · right; left; exact f
            · obtain ⟨ob, hob, hor⟩ := h.of_live sb
              by_cases hro : b < A.ro
              · right; left; exact h.roz b L hro sb
              · cases ob with
                | cells c0 e0 =>
                  obtain ⟨_, _, _, _, _, _, _, hwr⟩ := hor
                  have hz := (hwr (by simp; omega)).2
                  simp only [okEsz, hob, hro, decide_false, Bool.false_or, decide_eq_true_eq] at hok
                  rw [hz] at hok
                  have hes : L.esz = size := Option.some.inj hok
                  right; right
                  rw [hes] at f ⊢
                  have hlc : l ≤ c' := Nat.le_trans (abounds_lo hb hnc) d
                  have : l * size + (c' - l) * size = c' * size := by rw [← Nat.add_mul]; congr 1; omega
                  omega
                | map es k => simp [okEsz, hob] at hok
                | iter s p => simp [okEsz, hob] at hok
        | @slD _ _ _ a1 _ _ c1 _ _ sa sb d =>
          have hk := key _ _ d rfl
          have hle : m ≤ (if mx.isSome = true then m else c1) := by
            cases mx with
            | none => simp [hm rfl]; exact d
            | some _ => simp
          by_cases q : (if mx.isSome = true then m else c1) = l
          · rw [if_pos q] at hk; exact ⟨_, hk, Done.same h (.slD sa sb (by omega) .nil)⟩
          · rw [if_neg q] at hk; exact ⟨_, hk, Done.same h (.slD sa sb (by omega) .nil)⟩
    · cases ha
  · rename_i n e b o hu
    split at ha
    case h_2 => cases ha
    rename_i l hh m size hb hs
    cases ha
    obtain ⟨hr, hm, _⟩ := abounds_run (P := P) h1 h2 h3 hb (Nat.le_refl _) false w
    have em : (if mx.isSome = true then m else n) = m := by
      cases mx with
      | none => simp [hm rfl]
      | some _ => simp
    rw [em] at hr
    obtain ⟨a, rfl, hv⟩ := VR.add (n := l * size) hx
    refine ⟨.slice (some (if m = l then a else a.add (l * size))) (hh - l) (m - l), by simp [Instr.sliceAt, run_underlying hu, Instr.sureAddr, hr, run_szOf hs], Done.same h ?_⟩
    by_cases q : m = l
    · simp only [if_pos q]
      cases hx with
      | ptr sa sb _ => exact .sl sa sb (Nat.le_refl _) (.inl rfl) .nil
      | ptrD sa sb _ => exact .slD sa sb (Nat.le_refl _) .nil
    · simp only [if_neg q]
      cases hx with
      | ptr sa sb _ => rw [Addr.add_mid, Nat.add_assoc]; exact .sl sa sb (Nat.le_refl _) (.inl rfl) .nil
      | ptrD sa sb _ => exact .slD sa sb (Nat.le_refl _) .nil
  · cases ha

end Go.M
