/- Part 4: operations on memory and on values, one by one. -/
import Derived.Test.YtfhodefiknfccaaM3
set_option linter.unusedVariables false
set_option linter.unusedSimpArgs false
namespace Go.M
open Go.RowKit
variable {P : Program} {w0 w w' w1 : World} {N : Nat} {β β' β1 : Bet} {S S' S1 : Nat → Prop} {A A' A1 : AW}

theorem VRs.cells {v v' : Value} (h : VR β S v v') : VRs β S v.cells.toList v'.cells.toList := by
  cases h <;> first
    | exact .bool .nil | exact .int .nil | exact .float .nil | exact .complex .nil | exact .string .nil | exact .ptr0 .nil | exact .sl0 .nil | exact .map0 .nil | exact .chan0 .nil | exact .nilFunc .nil | exact .nilIface .nil
    | exact .ptr ‹_› ‹_› .nil | exact .ptrD ‹_› ‹_› .nil | exact .sl ‹_› ‹_› ‹_› ‹_› .nil | exact .slD ‹_› ‹_› ‹_› .nil | exact .map ‹_› ‹_› .nil | exact .mapD ‹_› ‹_› .nil
    | exact .func ‹_› (by assumption) (by assumption) .nil | exact .yield ‹_› ‹_› .nil | exact .yieldD ‹_› ‹_› .nil | exact .iface (by assumption) .nil | (show VRs β S _ _; assumption) | exact .tuple (by assumption) .nil

theorem VR.one {v v' : Value} (h : VR β S v v') : v'.oneCell' = v.oneCell' := by cases h <;> rfl
theorem VRs.one {vs vs' : List Value} (h : VRs β S vs vs') (k : vs.all (·.oneCell') = true) : ∀ v ∈ vs', v.oneCell' = true := by
  intro v hv
  obtain ⟨i, hi⟩ := List.getElem?_of_mem hv
  have hl : i < vs.length := by rw [h.length]; exact (List.getElem?_eq_some_iff.1 hi).1
  obtain ⟨v', e, r⟩ := h.get (List.getElem?_eq_getElem hl)
  rw [hi] at e; cases e
  rw [VR.one r]
  exact (List.all_eq_true.1 k) _ (List.getElem_mem hl)
theorem VRs.size {v v' : Value} (h : VR β S v v') : v'.cells.size = v.cells.size := by simpa using (VRs.cells h).length.symm

theorem run_szOf {t : TypeId} {n : Nat} (h : szOf P t = some n) (w : World) : (sizeOf t).run P w = .ok n w := by
  unfold szOf at h
  cases e : P.info? t with
  | none => simp [e] at h
  | some i => simp [e] at h; simp [sizeOf, typeInfo, e, h]

/-! ### The first kinds -/
def zeroOf (P : Program) (t : TypeId) : Option Value := (P.info? t).bind fun i => i.zero
theorem run_zeroOf {t : TypeId} {z : Value} (h : zeroOf P t = some z) (w : World) : (zeroValue t).run P w = .ok z w := by
  unfold zeroOf at h
  cases e : P.info? t with
  | none => simp [e] at h
  | some i => simp [e] at h; simp [zeroValue, typeInfo, e, h]
theorem szOf_some {t : TypeId} (h : (szOf P t).isSome = true) : ∃ n, szOf P t = some n := Option.isSome_iff_exists.1 h

def aalloc (P : Program) (A : AW) (e : TypeId) : Option (Value × AW) :=
  match zeroOf P e with
  | some z => if noAddrs 64 z.cells.toList && (szOf P e).isSome then some (.pointer (some ⟨A.next, 0, none⟩), A.push (.cells z.cells.toList e)) else none
  | none => none

theorem aalloc_sound (h : Sim P w0 N β S A w) {e : TypeId} {v : Value} (ha : aalloc P A e = some (v, A1)) (old : Value) :
    ∃ v' w1, (Instr.alloc e true old).run P w = .ok v' w1 ∧ Done P w0 N β S A w v A1 v' w1 := by
  unfold aalloc at ha
  split at ha
  · rename_i z hz
    split at ha
    · rename_i hc
      simp only [Bool.and_eq_true] at hc
      cases ha
      obtain ⟨n, hn⟩ := szOf_some hc.2
      refine ⟨_, _, ?_, Done.newPtr h (VRs.refl_of_noAddrs _ _ hc.1) e n hn⟩
      simp [Instr.alloc, run_zeroOf hz, newVar, newRow]
    · cases ha
  · cases ha

def abox (P : Program) (A : AW) (e : TypeId) (x : Value) : Option (Value × AW) :=
  if (szOf P e).isSome then some (.pointer (some ⟨A.next, 0, none⟩), A.push (.cells x.cells.toList e)) else none

theorem abox_sound (h : Sim P w0 N β S A w) {e : TypeId} {v x x' : Value} (hx : VR β S x x') (ha : abox P A e x = some (v, A1)) :
    ∃ v' w1, (Instr.box e x').run P w = .ok v' w1 ∧ Done P w0 N β S A w v A1 v' w1 := by
  unfold abox at ha
  split at ha
  · rename_i hc
    cases ha
    obtain ⟨n, hn⟩ := szOf_some hc
    refine ⟨_, _, ?_, Done.newPtr h (VRs.cells hx) e n hn⟩
    simp [Instr.box, newVar, newRow]
  · cases ha

/-! ### Load, store -/
def isAggT : TypeDesc → Bool
  | .struct _ | .array _ _ => true
  | _ => false
theorem run_isAgg {t : TypeId} {d : TypeDesc} (h : P.underlying t = some d) (w : World) : (isAgg t).run P w = .ok (isAggT d) w := by
  unfold isAgg
  rw [Sem.run_bind, run_underlying h w]
  cases d <;> rfl

def aloadAt (P : Program) (A : AW) (t : TypeId) (b o : Nat) : Option Value :=
  match P.underlying t with
  | none => none
  | some d => if isAggT d then (szOf P t).bind fun n => (A.rd b o n).map fun l => .agg l.toArray else (A.rd b o 1).bind fun l => l.head?
def aload (P : Program) (A : AW) (t : TypeId) : Value → Option Value
  | .pointer (some ⟨b, o, none⟩) => aloadAt P A t b o
  | _ => none

theorem aloadAt_sound (h : Sim P w0 N β S A w) {t : TypeId} {b o : Nat} {v : Value} (ha : aloadAt P A t b o = some v) :
    ∃ L v', β b = some L ∧ (loadVar t ⟨L.blk, L.off + o, none⟩).run P w = .ok v' w ∧ VR β S v v' := by
  unfold aloadAt at ha
  split at ha
  · cases ha
  · rename_i d hd
    split at ha
    · rename_i hag
      cases hs : szOf P t with
      | none => simp [hs] at ha
      | some n =>
        simp only [hs, Option.bind_some] at ha
        cases hr : A.rd b o n with
        | none => simp [hr] at ha
        | some cs =>
          simp only [hr, Option.map_some, Option.some.injEq] at ha
          subst ha
          obtain ⟨L, cs', hb, hl, hv, hc⟩ := h.rd hr
          refine ⟨L, .agg cs'.toArray, hb, ?_, .agg (by simpa using hv) .nil⟩
          have := run_loadCells_list (P := P) w ⟨L.blk, L.off + o, none⟩ cs' (fun j v hv => by rw [Addr.add_mid]; exact hc j v hv)
          rw [hl] at this
          simp [loadVar, run_isAgg hd, hag, run_szOf hs, this]
    · rename_i hag
      cases hr : A.rd b o 1 with
      | none => simp [hr] at ha
      | some cs =>
        simp only [hr, Option.bind_some] at ha
        obtain ⟨L, cs', hb, hl, hv, hc⟩ := h.rd hr
        match cs, ha with
        | u :: us, ha =>
          simp at ha
          subst ha
          match cs', hl with
          | [u'], _ =>
            have h0 := hc 0 u' rfl
            refine ⟨L, u', hb, ?_, hv.cons_inv.1⟩
            simp only [Bool.not_eq_true] at hag
            simp only [Nat.add_zero] at h0
            simp [loadVar, run_isAgg hd, hag, run_load, h0]

theorem aload_sound (h : Sim P w0 N β S A w) {t : TypeId} {v x x' : Value} (hx : VR β S x x') (ha : aload P A t x = some v) :
    ∃ v', (Instr.loadAt t x').run P w = .ok v' w ∧ VR β S v v' := by
  unfold aload at ha
  split at ha
  · rename_i b o
    obtain ⟨L, v', hb, hr, hv⟩ := aloadAt_sound h ha
    cases hx with
    | ptr _ hb2 _ =>
      rw [hb] at hb2; cases hb2
      exact ⟨v', by simp [Instr.loadAt, Instr.sureAddr, hr], hv⟩
    | ptrD _ hb2 _ => rw [hb] at hb2; cases hb2
  · cases ha

def astore (P : Program) (A : AW) (t : TypeId) (v : Value) : Value → Option AW
  | .pointer (some ⟨b, o, none⟩) => if szOf P t = some v.cells.size ∧ v.cells.toList.all (·.oneCell') = true then A.put b o v.cells.toList else none
  | _ => none

theorem astore_sound (h : Sim P w0 N β S A w) {t : TypeId} {v v' x x' : Value} (hx : VR β S x x') (hv : VR β S v v') (ha : astore P A t v x = some A1) :
    ∃ w1, (Instr.storeAt t x' v').run P w = .ok () w1 ∧ Sim P w0 N β S A1 w1 ∧ Keeps A β w w1 ∧ A1.next = A.next ∧ A1.ro = A.ro ∧ A1.gl = A.gl := by
  unfold astore at ha
  split at ha
  · rename_i b o
    split at ha
    · rename_i hc
      obtain ⟨L, cur, ty, hb, hg, hl, hs, hk, e1, e2, e3⟩ := h.put ha (VRs.cells hv)
      have hst := run_storeCells_at P L.blk (L.off + o) ty v'.cells.toList 0 cur w hg (by simpa using hl) (VRs.one (VRs.cells hv) hc.2)
      have hz := hc.1
      rw [← VRs.size hv] at hz
      cases hx with
      | ptr _ hb2 _ =>
        rw [hb] at hb2; cases hb2
        refine ⟨_, ?_, hs, hk, e1, e2, e3⟩
        simp only [Nat.add_zero] at hst
        simp [Instr.storeAt, Instr.sureAddr, storeVar, run_szOf hz, hst]
      | ptrD _ hb2 _ => rw [hb] at hb2; cases hb2
    · cases ha
  · cases ha

/-! ### Parts -/
def apart (P : Program) (t : TypeId) (cs : List Value) (off : Nat) : Option Value :=
  match P.underlying t with
  | none => none
  | some d => if isAggT d then (szOf P t).map fun n => .agg ((cs.drop off).take n).toArray else cs[off]?

theorem apart_sound {t : TypeId} {cs : List Value} {cs' : Array Value} {off : Nat} {v : Value} (hc : VRs β S cs cs'.toList) (ha : apart P t cs off = some v) (w : World) :
    ∃ v', (part t cs' off).run P w = .ok v' w ∧ VR β S v v' := by
  unfold apart at ha
  split at ha
  · cases ha
  · rename_i d hd
    split at ha
    · rename_i hag
      cases hs : szOf P t with
      | none => simp [hs] at ha
      | some n =>
        simp only [hs, Option.map_some, Option.some.injEq] at ha
        subst ha
        refine ⟨.agg (cs'.extract off (off + n)), by simp [part, run_isAgg hd, hag, run_szOf hs], .agg ?_ .nil⟩
        rw [Array.toList_extract, List.extract_eq_take_drop]
        simp only [List.toList_toArray, show off + n - off = n by omega]
        exact (hc.drop off).take n
    · rename_i hag
      obtain ⟨v', e, r⟩ := hc.get ha
      refine ⟨v', ?_, r⟩
      simp only [Bool.not_eq_true] at hag
      simp only [Array.getElem?_toList] at e
      simp [part, run_isAgg hd, hag, e]

def afield (P : Program) (t : TypeId) (x : Value) (f : Nat) : Option Value :=
  match P.underlying t, x with
  | some (.struct fs), .agg cs => match fs[f]? with
    | some fd => apart P fd.type cs.toList fd.offset
    | none => none
  | _, _ => none

theorem afield_sound {t : TypeId} {v x x' : Value} {f : Nat} (hx : VR β S x x') (ha : afield P t x f = some v) (w : World) :
    ∃ v', (Instr.field t x' f).run P w = .ok v' w ∧ VR β S v v' := by
  unfold afield at ha
  split at ha
  · rename_i fs cs hu
    split at ha
    · rename_i fd hf
      cases hx with
      | agg hc _ =>
        obtain ⟨v', hr, hv⟩ := apart_sound hc ha w
        exact ⟨v', by simp [Instr.field, run_underlying hu, hf, asAgg, hr], hv⟩
    · cases ha
  · cases ha

def aextract (x : Value) (i : Nat) : Option Value :=
  match x with
  | .tuple vs => vs.toList[i]?
  | _ => none
theorem aextract_sound {v x x' : Value} {i : Nat} (hx : VR β S x x') (ha : aextract x i = some v) (w : World) :
    ∃ v', (Instr.extract x' i).run P w = .ok v' w ∧ VR β S v v' := by
  unfold aextract at ha
  split at ha
  · cases hx with
    | tuple hc _ =>
      obtain ⟨v', e, r⟩ := hc.get ha
      simp only [Array.getElem?_toList] at e
      exact ⟨v', by simp [Instr.extract, e], r⟩
  · cases ha

/-! ### Addresses -/
def afieldAddr (P : Program) (s : TypeId) (x : Value) (f : Nat) : Option Value :=
  match P.underlying s, x with
  | some (.struct fs), .pointer (some ⟨b, o, none⟩) => match fs[f]? with
    | some fd => match szOf P fd.type with
      | some (_ + 1) => some (.pointer (some ⟨b, o + fd.offset, none⟩))
      | _ => none
    | none => none
  | _, _ => none

theorem VR.add {b o n : Nat} {x' : Value} (hx : VR β S (.pointer (some ⟨b, o, none⟩)) x') :
    ∃ a, x' = .pointer (some a) ∧ VR β S (.pointer (some ⟨b, o + n, none⟩)) (.pointer (some (a.add n))) := by
  cases hx with
  | ptr hs hb _ => exact ⟨_, rfl, by rw [Addr.add_mid, Nat.add_assoc]; exact .ptr hs hb .nil⟩
  | ptrD hs hb _ => exact ⟨_, rfl, .ptrD hs hb .nil⟩

theorem afieldAddr_sound {s : TypeId} {v x x' : Value} {f : Nat} (hx : VR β S x x') (ha : afieldAddr P s x f = some v) (w : World) :
    ∃ v', (Instr.fieldAt s x' f).run P w = .ok v' w ∧ VR β S v v' := by
  unfold afieldAddr at ha
  split at ha
  · rename_i fs b o hu
    split at ha
    · rename_i fd hf
      split at ha
      · rename_i n hn
        cases ha
        obtain ⟨a, rfl, hv⟩ := VR.add (n := fd.offset) hx
        exact ⟨_, by simp [Instr.fieldAt, run_underlying hu, hf, Instr.sureAddr, fieldPlace, run_szOf hn], hv⟩
      · cases ha
    · cases ha
  · cases ha

def aindexAddr (P : Program) (t : TypeId) (x i : Value) : Option Value :=
  match P.underlying t, x, i with
  | some (.array len e), .pointer (some ⟨b, o, none⟩), .int _ i => match szOf P e with
    | some n => if 0 ≤ i ∧ i < len then some (.pointer (some ⟨b, o + i.toNat * n, none⟩)) else none
    | none => none
  | some (.slice e), .slice (some ⟨b, o, none⟩) len _, .int _ i => match szOf P e with
    | some n => if 0 ≤ i ∧ i < len then some (.pointer (some ⟨b, o + i.toNat * n, none⟩)) else none
    | none => none
  | _, _, _ => none

theorem aindexAddr_sound {t : TypeId} {v x x' i i' : Value} (hx : VR β S x x') (hi : VR β S i i') (ha : aindexAddr P t x i = some v) (w : World) :
    ∃ v', (Instr.indexAt t x' i').run P w = .ok v' w ∧ VR β S v v' := by
  unfold aindexAddr at ha
  split at ha
  · rename_i len e b o k i hu
    split at ha
    · rename_i n hn
      split at ha
      · rename_i hc
        cases ha
        cases hi
        obtain ⟨a, rfl, hv⟩ := VR.add (n := i.toNat * n) hx
        exact ⟨_, by simp [Instr.indexAt, asIntOf, run_underlying hu, Instr.sureAddr, hc.1, hc.2, run_szOf hn], hv⟩
      · cases ha
    · cases ha
  · rename_i e b o len c k i hu
    split at ha
    · rename_i n hn
      split at ha
      · rename_i hc
        cases ha
        cases hi
        cases hx with
        | sl hs hb _ _ _ => exact ⟨_, by simp [Instr.indexAt, asIntOf, run_underlying hu, hc.1, hc.2, run_szOf hn, Addr.add_mid]; rfl, by rw [Nat.add_assoc]; exact .ptr hs hb .nil⟩
        | slD hs hb _ _ => exact ⟨_, by simp [Instr.indexAt, asIntOf, run_underlying hu, hc.1, hc.2, run_szOf hn]; rfl, .ptrD hs hb .nil⟩
      · cases ha
    · cases ha
  · cases ha

def aindex (P : Program) (t : TypeId) (x i : Value) : Option Value :=
  match P.underlying t, x, i with
  | some (.array len e), .agg cs, .int _ i => match szOf P e with
    | some n => if 0 ≤ i ∧ i < len then apart P e cs.toList (i.toNat * n) else none
    | none => none
  | some .string, .string s, .int _ i => if 0 ≤ i then match s.data.toList[i.toNat]? with
    | some b => some (.int .u8 b.toNat)
    | none => none else none
  | _, _, _ => none

theorem aindex_sound {t : TypeId} {v x x' i i' : Value} (hx : VR β S x x') (hi : VR β S i i') (ha : aindex P t x i = some v) (w : World) :
    ∃ v', (Instr.index t x' i').run P w = .ok v' w ∧ VR β S v v' := by
  unfold aindex at ha
  split at ha
  · rename_i len e cs k i hu
    split at ha
    · rename_i n hn
      split at ha
      · rename_i hc
        cases hi
        cases hx with
        | agg hcs _ =>
          obtain ⟨v', hr, hv⟩ := apart_sound hcs ha w
          exact ⟨v', by simp [Instr.index, asIntOf, run_underlying hu, hc.1, hc.2, run_szOf hn, hr], hv⟩
      · cases ha
    · cases ha
  · rename_i s k i hu
    split at ha
    · rename_i h0
      split at ha
      · rename_i b hb
        cases ha
        cases hi
        cases hx
        refine ⟨.int .u8 b.toNat, ?_, .int .nil⟩
        have e : s[i.toNat]? = some b := by
          obtain ⟨hl, hg⟩ := List.getElem?_eq_some_iff.1 hb
          have hl' : i.toNat < s.size := by simpa using hl
          rw [getElem?_pos s i.toNat hl', ← hg]
          rfl
        simp [Instr.index, asIntOf, run_underlying hu, h0, e]
      · cases ha
    · cases ha
  · cases ha

end Go.M
