/- Part 11: equality; strings. -/
import Derived.Test.YtfhodefiknfccaaM10
set_option linter.unusedVariables false
set_option linter.unusedSimpArgs false
namespace Go.M
open Go.RowKit
variable {P : Program} {w0 w w' w1 w2 : World} {N n m : Nat} {β β' β1 β2 : Bet} {S S' S1 S2 : Nat → Prop} {A A' A1 A2 : AW} {a a1 : AEnv} {ae : Act} {Q Q' : AQ}
variable {ops : Array Oper} {rest : List Oper} {o : Oper} {R : Value → AW → Prop}

theorem apart_exact {t : TypeId} {cs : Array Value} {off : Nat} {v : Value} (ha : apart P t cs.toList off = some v) (w : World) : (part t cs off).run P w = .ok v w := by
  unfold apart at ha
  split at ha
  · cases ha
  · rename_i d hd
    split at ha
    · rename_i hag
      cases hs : szOf P t with
      | none => simp [hs] at ha
      | some n =>
        simp only [hs, Option.map_some, Option.some.injEq] at ha
        subst ha
        have : cs.extract off (off + n) = (List.take n (List.drop off cs.toList)).toArray := by
          apply Array.ext'
          rw [Array.toList_extract, List.extract_eq_take_drop]
          simp only [List.toList_toArray, show off + n - off = n by omega]
        simp [part, run_isAgg hd, hag, run_szOf hs, this]
    · rename_i hag
      simp only [Bool.not_eq_true] at hag
      simp only [Array.getElem?_toList] at ha
      simp [part, run_isAgg hd, hag, ha]

mutual
/-- Are two values without addresses equal? (fuel: how deep) -/
def aeq (P : Program) : Nat → TypeId → Value → Value → Option Bool
  | 0, _, _, _ => none
  | d + 1, t, x, y => match P.underlying t, x, y with
    | some (.int _), .int k a, .int k' b => if k = k' then some (a == b) else none
    | some .bool, .bool a, .bool b => some (a == b)
    | some .string, .string a, .string b => some (a == b)
    | some (.struct fs), .agg xs, .agg ys => if P.stoodInHeld t then none else aeqF P d xs.toList ys.toList fs.toList
    | some (.array len e), .agg xs, .agg ys => (szOf P e).bind fun s => aeqA P d e s xs.toList ys.toList (List.range' 0 len)
    | _, _, _ => none
def aeqF (P : Program) : Nat → List Value → List Value → List Field → Option Bool
  | _, _, _, [] => some true
  | 0, _, _, _ => none
  | d + 1, xs, ys, f :: fs => if f.name ≠ "_" then match apart P f.type xs f.offset, apart P f.type ys f.offset with
    | some u, some v => (aeq P d f.type u v).bind fun r => (aeqF P d xs ys fs).map fun rs => r && rs
    | _, _ => none
    else aeqF P d xs ys fs
def aeqA (P : Program) : Nat → TypeId → Nat → List Value → List Value → List Nat → Option Bool
  | _, _, _, _, _, [] => some true
  | 0, _, _, _, _, _ => none
  | d + 1, e, s, xs, ys, i :: is => match apart P e xs (i * s), apart P e ys (i * s) with
    | some u, some v => (aeq P d e u v).bind fun r => (aeqA P d e s xs ys is).map fun rs => r && rs
    | _, _ => none
end

/-- The loop of an array's comparison. -/
def eqElems (D : Nat) (e : TypeId) (s : Nat) (xs ys : Array Value) : List Nat → Sem Bool
  | [] => pure true
  | i :: is => do
    let a ← part e xs (i * s)
    let b ← part e ys (i * s)
    let r ← Op.equalIn D e a b
    if (!r) = true then pure false else eqElems D e s xs ys is
theorem run_equalIn_array (D len s : Nat) (t e : TypeId) (xs ys : Array Value) (w : World) (ht : P.underlying t = some (.array len e)) (hs : szOf P e = some s) :
    (Op.equalIn (D + 1) t (.agg xs) (.agg ys)).run P w = (eqElems D e s xs ys (List.range' 0 len)).run P w := by
  simp only [Op.equalIn, Sem.run_bind, run_underlying ht, Result.andThen_ok, run_szOf hs]
  rw [Std.Legacy.Range.forIn_eq_forIn_range']
  simp only [Std.Legacy.Range.size, Nat.sub_zero, Nat.add_sub_cancel, Nat.div_one]
  generalize List.range' 0 len = is
  induction is generalizing w with
  | nil => simp [eqElems]
  | cons i is ih =>
    simp only [List.forIn_cons, eqElems, Sem.run_bind, Sem.run_ite]
    generalize (part e xs (i * s)).run P w = r1
    cases r1 with
    | ok a w1 =>
      simp only [Result.andThen_ok]
      generalize (part e ys (i * s)).run P w1 = r2
      cases r2 with
      | ok b w2 =>
        simp only [Result.andThen_ok]
        generalize (Op.equalIn D e a b).run P w2 = r3
        cases r3 with
        | ok r w3 =>
          cases r
          · simp only [Result.andThen_ok, Bool.not_false, if_true, Sem.run_pure]
          · simp only [Result.andThen_ok, Bool.not_true, Bool.false_eq_true, if_false, Sem.run_pure]
            exact ih w3
        | halt x w3 => simp [Result.andThen]
      | halt x w2 => simp [Result.andThen]
    | halt x w1 => simp [Result.andThen]

mutual
theorem aeq_run : ∀ (d : Nat) (t : TypeId) (x y : Value) (b : Bool), aeq P d t x y = some b → ∀ D, d ≤ D → ∀ w, (Op.equalIn D t x y).run P w = .ok b w
  | 0, _, _, _, _, h, _, _, _ => by cases h
  | d + 1, t, x, y, b, h, D, hD, w => by
    obtain ⟨D, rfl⟩ : ∃ k, D = k + 1 := ⟨D - 1, by omega⟩
    unfold aeq at h
    split at h
    · rename_i hu
      split at h
      · rename_i hk; subst hk; cases h; simp [Op.equalIn, run_underlying hu]
      · cases h
    · rename_i hu; cases h; simp [Op.equalIn, run_underlying hu]
    · rename_i hu; cases h; simp [Op.equalIn, run_underlying hu]
    · rename_i fs xs ys hu
      split at h
      · cases h
      · rename_i hst
        have hf : P.fieldsOf t = fs := by simp [Program.fieldsOf, hu]
        rw [run_equalIn_struct w D t xs ys (by rw [hf]; exact hu) (by simpa using hst), hf]
        exact aeqF_run d xs ys fs.toList b h D (by omega) w
    · rename_i len e xs ys hu
      cases hs : szOf P e with
      | none => simp [hs] at h
      | some s =>
        simp only [hs, Option.bind_some] at h
        rw [run_equalIn_array D len s t e xs ys w hu hs]
        exact aeqA_run d e s xs ys _ b h D (by omega) w
    · cases h
theorem aeqF_run : ∀ (d : Nat) (xs ys : Array Value) (fs : List Field) (b : Bool), aeqF P d xs.toList ys.toList fs = some b → ∀ D, d ≤ D → ∀ w, (Op.eqFields D xs ys fs).run P w = .ok b w
  | d, xs, ys, [], b, h, D, hD, w => by
    unfold aeqF at h
    cases h
    simp [Op.eqFields]
  | 0, _, _, f :: fs, _, h, _, _, _ => by simp [aeqF] at h
  | d + 1, xs, ys, f :: fs, b, h, D, hD, w => by
    unfold aeqF at h
    unfold Op.eqFields
    split at h
    · rename_i hn
      rw [if_pos hn]
      split at h
      · rename_i u v hu hv
        cases h1 : aeq P d f.type u v with
        | none => simp [h1] at h
        | some r =>
          simp only [h1, Option.bind_some] at h
          cases h2 : aeqF P d xs.toList ys.toList fs with
          | none => simp [h2] at h
          | some rs =>
            simp only [h2, Option.map_some, Option.some.injEq] at h
            subst h
            have e1 := aeq_run d f.type u v r h1 D (by omega) w
            have e2 := aeqF_run d xs ys fs rs h2 D (by omega) w
            simp only [Sem.run_bind, apart_exact hu w, apart_exact hv w, Result.andThen_ok, e1]
            cases r
            · simp
            · simpa using e2
      · cases h
    · rename_i hn
      rw [if_neg hn]
      exact aeqF_run d xs ys fs b h D (by omega) w
theorem aeqA_run : ∀ (d : Nat) (e : TypeId) (s : Nat) (xs ys : Array Value) (is : List Nat) (b : Bool), aeqA P d e s xs.toList ys.toList is = some b → ∀ D, d ≤ D → ∀ w, (eqElems D e s xs ys is).run P w = .ok b w
  | d, e, s, xs, ys, [], b, h, D, hD, w => by
    unfold aeqA at h
    cases h
    simp [eqElems]
  | 0, _, _, _, _, i :: is, _, h, _, _, _ => by simp [aeqA] at h
  | d + 1, e, s, xs, ys, i :: is, b, h, D, hD, w => by
    unfold aeqA at h
    unfold eqElems
    split at h
    · rename_i u v hu hv
      cases h1 : aeq P d e u v with
      | none => simp [h1] at h
      | some r =>
        simp only [h1, Option.bind_some] at h
        cases h2 : aeqA P d e s xs.toList ys.toList is with
        | none => simp [h2] at h
        | some rs =>
          simp only [h2, Option.map_some, Option.some.injEq] at h
          subst h
          have e1 := aeq_run d e u v r h1 D (by omega) w
          have e2 := aeqA_run d e s xs ys is rs h2 D (by omega) w
          simp only [Sem.run_bind, apart_exact hu w, apart_exact hv w, Result.andThen_ok, e1]
          cases r
          · simp
          · simpa using e2
    · cases h
end

theorem AOp.eqAgg {op : BinOp} {t t2 : TypeId} {x y : Operand} {xs ys : Array Value} {b : Bool} {d kx ky : Nat} (ho : o.op = .binOp op t x y t2) (hop : op = .eql ∨ op = .neq) (hx : aev A.gl a x = some (.agg xs)) (hy : aev A.gl a y = some (.agg ys))
    (nx : noAddrs kx [.agg xs] = true) (ny : noAddrs ky [.agg ys] = true) (hg : P.eqGuardType P.depth t = false) (hb : aeq P d t (.agg xs) (.agg ys) = some b) (hd : d ≤ 10000) : AOp P n o a A (isR (.bool (if op = .eql then b else !b)) A) :=
  .bin ho hx hy nx ny (fun w => by
    rcases hop with rfl | rfl
    · rw [Sem.run_bind, run_eqGuard_agg w .eql t x y xs ys hg, Result.andThen_ok, run_eql_struct, aeq_run d t _ _ b hb 10000 hd w]; simp
    · rw [Sem.run_bind, run_eqGuard_agg w .neq t x y xs ys hg, Result.andThen_ok, run_neq_struct, aeq_run d t _ _ b hb 10000 hd w]; simp) (fun _ _ => .bool .nil)

theorem AOp.eqBool {op : BinOp} {t t2 : TypeId} {x y : Operand} {b c : Bool} (ho : o.op = .binOp op t x y t2) (hop : op = .eql ∨ op = .neq) (hx : aev A.gl a x = some (.bool b)) (hy : aev A.gl a y = some (.bool c)) (hu : P.underlying t = some .bool) : AOp P n o a A (isR (.bool (if op = .eql then b == c else !(b == c))) A) :=
  .bin (kx := 64) (ky := 64) ho hx hy rfl rfl (fun w => by
    rcases hop with rfl | rfl
    · simp [eqGuard, run_eql_bool w t b c hu]
    · simp [eqGuard, run_neq_bool w t b c hu]) (fun _ _ => .bool .nil)

theorem run_equalIn_nil (D : Nat) (t e : TypeId) (p : Option Addr) (l c l' c' : Nat) (w : World) (hu : P.underlying t = some (.slice e)) : (Op.equalIn (D + 1) t (.slice p l c) (.slice none l' c')).run P w = .ok p.isNone w := by
  cases p <;> simp [Op.equalIn, run_underlying hu]
theorem run_eql_nil (t e : TypeId) (p : Option Addr) (l c l' c' : Nat) (w : World) (hu : P.underlying t = some (.slice e)) (x y : Operand) (op : BinOp) (hop : op = .eql ∨ op = .neq) :
    (do eqGuard op t x y (.slice p l c) (.slice none l' c'); binOp op t (.slice p l c) (.slice none l' c') : Sem Value).run P w = .ok (.bool (if op = .eql then p.isNone else !p.isNone)) w := by
  have h : (Op.equal t (.slice p l c) (.slice none l' c')).run P w = .ok p.isNone w := run_equalIn_nil 9999 t e p l c l' c' w hu
  have hg : (eqGuard op t x y (.slice p l c) (.slice none l' c')).run P w = .ok () w := by
    unfold eqGuard
    split <;> rfl
  rw [Sem.run_bind, hg, Result.andThen_ok]
  rcases hop with rfl | rfl
  · simp only [binOp, Sem.run_bind, h, Result.andThen_ok]; rfl
  · simp only [binOp, Sem.run_bind, h, Result.andThen_ok]; rfl

/-- A slice against nil. -/
theorem AOp.eqNil {op : BinOp} {t t2 e : TypeId} {x y : Operand} {p : Option Addr} {l c l' c' : Nat} (ho : o.op = .binOp op t x y t2) (hop : op = .eql ∨ op = .neq) (hx : aev A.gl a x = some (.slice p l c)) (hy : aev A.gl a y = some (.slice none l' c')) (hu : P.underlying t = some (.slice e)) :
    AOp P n o a A (isR (.bool (if op = .eql then p.isNone else !p.isNone)) A) :=
  .val fun w0 N w β S ae hs he => by
    have hv := aev_sound hs he hx
    have hw := aev_sound hs he hy
    refine ⟨_, ?_, .bool .nil⟩
    simp only [execOp, ho]
    generalize ae.eval x = v at hv
    generalize ae.eval y = u at hw
    cases hw
    have : (do eqGuard op t x y v (.slice none l' c'); binOp op t v (.slice none l' c') : Sem Value).run P w = .ok (.bool (if op = .eql then p.isNone else !p.isNone)) w := by
      cases hv with
      | sl0 => exact run_eql_nil t e _ _ _ _ _ w hu x y op hop
      | sl _ _ _ _ => exact run_eql_nil t e _ _ _ _ _ w hu x y op hop
      | slD _ _ _ => exact run_eql_nil t e _ _ _ _ _ w hu x y op hop
    rw [Sem.run_bind, this]
    rfl

/-! ### Strings -/
def sbin (op : BinOp) (x y : ByteArray) : Option Value :=
  match op with
  | .add => if (x.size + y.size : Nat) ≤ 9223372036854775807 then some (.string (x ++ y)) else none
  | .eql => some (.bool (x.data.toList == y.data.toList))
  | .neq => some (.bool (!(x.data.toList == y.data.toList)))
  | .lss => some (.bool (Op.bytesLess x.data.toList y.data.toList))
  | .leq => some (.bool (Op.bytesLess x.data.toList y.data.toList || x.data.toList == y.data.toList))
  | .gtr => some (.bool (!(Op.bytesLess x.data.toList y.data.toList || x.data.toList == y.data.toList)))
  | .geq => some (.bool (!(Op.bytesLess x.data.toList y.data.toList)))
  | _ => none
theorem sbin_run {op : BinOp} {x y : ByteArray} {v : Value} (t : TypeId) (X Y : Operand) (h : sbin op x y = some v) (w : World) :
    (do eqGuard op t X Y (.string x) (.string y); binOp op t (.string x) (.string y) : Sem Value).run P w = .ok v w := by
  unfold sbin at h
  cases op
  case add =>
    by_cases q : (x.size + y.size : Nat) ≤ 9223372036854775807
    · simp only [if_pos q, Option.some.injEq] at h
      subst h
      have : ¬ ((x.size + y.size : Nat) : Int) > IntKind.i64.max := by
        have e : IntKind.i64.max = 9223372036854775807 := by decide
        rw [e]; omega
      simp only [eqGuard, binOp, Op.stringOp, Sem.run_bind, Sem.run_ite]
      simp only [Bool.not_false, if_true, Sem.run_pure, Result.andThen_ok]
      rw [if_neg this]
    · simp [q] at h
  all_goals first
    | (simp only [Option.some.injEq] at h; subst h; simp [eqGuard, binOp, Op.stringOp, ByteArray.toList_eq]; done)
    | cases h
theorem sbin_plain {op : BinOp} {x y : ByteArray} {v : Value} (h : sbin op x y = some v) : ∀ β S, VR β S v v := by
  unfold sbin at h
  intro β S
  cases op
  case add =>
    by_cases q : (x.size + y.size : Nat) ≤ 9223372036854775807
    · simp only [if_pos q, Option.some.injEq] at h; subst h; exact .string .nil
    · simp [q] at h
  all_goals first
    | (simp only [Option.some.injEq] at h; subst h; exact .bool .nil)
    | cases h
theorem AOp.sbin {op : BinOp} {t t2 : TypeId} {X Y : Operand} {x y : ByteArray} {v : Value} (ho : o.op = .binOp op t X Y t2) (hx : aev A.gl a X = some (.string x)) (hy : aev A.gl a Y = some (.string y)) (h : M.sbin op x y = some v) : AOp P n o a A (isR v A) :=
  .bin (kx := 64) (ky := 64) ho hx hy rfl rfl (sbin_run t X Y h) (sbin_plain h)

/-- Bytes to a string. -/
def bytesOf (ns : List Int) : ByteArray := ns.foldl (fun r n => r.push (UInt8.ofNat n.toNat)) ByteArray.empty
theorem VRs.ints {k : IntKind} : ∀ {ns : List Int} {vs' : List Value}, VRs β S (ns.map (Value.int k)) vs' → vs' = ns.map (Value.int k)
  | [], vs', h => by cases h; rfl
  | n :: ns, [], h => by have := h.length; simp at this
  | n :: ns, v :: vs, h => by
    have h1 := VR.isInt h.cons_inv.1
    have h2 := VRs.ints h.cons_inv.2
    simp [h1, h2]
theorem AOp.bytesString {s d e : TypeId} {x : Operand} {b f l c : Nat} {ns : List Int} (ho : o.op = .convert s d x) (hx : aev A.gl a x = some (.slice (some ⟨b, f, none⟩) l c)) (hs : P.underlying s = some (.slice e)) (he : P.underlying e = some (.int .u8)) (hd : P.underlying d = some .string)
    (hr : A.rd b f l = some (ns.map (Value.int .u8))) : AOp P n o a A (isR (.string (bytesOf ns)) A) :=
  .val fun w0 N w β S ae hsim hER => by
    have hv := aev_sound hsim hER hx
    obtain ⟨L, cs', hb, hl, hvs, hc⟩ := hsim.rd hr
    refine ⟨.string (bytesOf ns), ?_, .string .nil⟩
    simp only [execOp, ho]
    generalize ae.eval x = v at hv
    have hns := VRs.ints hvs
    subst hns
    cases hv with
    | sl _ hb2 _ _ _ =>
      rw [hb] at hb2; cases hb2
      have hload := run_loadCells_list (P := P) w ⟨L.blk, L.off + f, none⟩ (ns.map (Value.int .u8)) (fun j v hv => by rw [Addr.add_mid]; exact hc j v hv)
      rw [hl] at hload
      rw [Sem.run_bind, run_convert_bytes_string w s d e _ l _ hs he hd, run_bytesToString w _ l _ ns hload]
      rfl
    | slD _ hb2 _ _ => rw [hb] at hb2; cases hb2

end Go.M
