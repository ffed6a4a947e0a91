/- Part 17: one operation as a reckoning, with the memory as a list. -/
import Derived.Test.YtfhodefiknfccaaM16
set_option linter.unusedVariables false
set_option linter.unusedSimpArgs false
namespace Go.M
open Go.RowKit
variable {P : Program} {N n m : Nat} {A A' A1 A2 A0 : AW} {a a1 a0 : AEnv} {Q Q' : AQ} {K : AEnv → AW → Prop} {R : Value → AW → Prop} {rs : List ResultVar}
variable {ops : Array Oper} {rest : List Oper} {o : Oper} {c : Operand} {x y : Code} {p : Prop}

theorem AC.start {f : FuncId} {fn : Func} {body : Code} {args : List Value} (hf : P.funcs[f]? = some fn) (hb : fn.body = some body) (hl : Nat.ble args.length fn.ntmps = true)
    (h : AT P fn.ntmps A.next body (argEnv 0 args) A (AEnd P fn.results.toList R)) : AC P f args A R := AC.enter hf hb rfl (Nat.le_of_ble_eq_true hl) h

def aerase : List (Nat × AObj) → Nat → List (Nat × AObj)
  | [], _ => []
  | (s, x) :: r, j => if s = j then aerase r j else (s, x) :: aerase r j
theorem alook_aerase : ∀ (L : List (Nat × AObj)) (j i : Nat), alook (aerase L j) i = if i = j then none else alook L i
  | [], j, i => by simp [aerase, alook]
  | (s, x) :: r, j, i => by
    simp only [aerase]
    split
    · rename_i e; subst e
      rw [alook_aerase r s i]
      simp only [alook]
      by_cases q : i = s
      · simp [q]
      · simp [q, Ne.symm q]
    · rename_i e
      simp only [alook, alook_aerase r j i]
      by_cases q : s = i
      · subst q; simp [e]
      · simp [q]
abbrev LM := List (Nat × AObj)
theorem AW.of_kill {L : LM} {nx ro gl : Nat} (j : Nat) : (AW.of L nx ro gl).upd j none = AW.of (aerase L j) nx ro gl := by
  simp only [AW.upd, AW.of, AW.mk.injEq, and_true]
  funext i
  rw [alook_aerase]
theorem AW.of_burn {L : LM} {nx ro gl : Nat} : (AW.of L nx ro gl).burn = AW.of L (nx + 1) ro gl := rfl

/-- What comes out: a value, the memory, the next name. -/
abbrev Out := Option (Value × LM × Nat)
def Out.is (L : LM) (nx : Nat) (x : Option Value) : Out := x.map fun v => (v, L, nx)

def lput (L : LM) (ro b f : Nat) (vs : List Value) : Option LM :=
  match alook L b with
  | some (.cells c e) => if Nat.ble ro b && Nat.ble (f + vs.length) c.length then some (aset L b (.cells (splice c f vs) e)) else none
  | _ => none
theorem lput_eq {L L' : LM} {nx ro gl b f : Nat} {vs : List Value} (h : lput L ro b f vs = some L') : (AW.of L nx ro gl).put b f vs = some (AW.of L' nx ro gl) := by
  unfold lput at h
  split at h
  · rename_i cs e he
    split at h
    · rename_i hc
      simp only [Bool.and_eq_true] at hc
      cases h
      unfold AW.put
      have : (AW.of L nx ro gl).objs b = some (.cells cs e) := he
      rw [this]
      simp only
      rw [if_pos ⟨Nat.le_of_ble_eq_true hc.1, Nat.le_of_ble_eq_true hc.2⟩, AW.of_upd]
    · cases h
  · cases h

def lstore (P : Program) (L : LM) (ro : Nat) (t : TypeId) (v : Value) : Value → Option LM
  | .pointer (some ⟨b, f, none⟩) => if szOf P t = some v.cells.size ∧ v.cells.toList.all (·.oneCell') = true then lput L ro b f v.cells.toList else none
  | _ => none
theorem lstore_eq {L L' : LM} {nx ro gl : Nat} {t : TypeId} {v x : Value} (h : lstore P L ro t v x = some L') : astore P (AW.of L nx ro gl) t v x = some (AW.of L' nx ro gl) := by
  unfold lstore at h
  split at h
  · split at h
    · rename_i hc
      unfold astore
      simp only
      rw [if_pos hc]
      exact lput_eq h
    · cases h
  · cases h

def lappend (P : Program) (L : LM) (nx ro : Nat) (gl : Nat) (t : TypeId) (s x : Value) : Out :=
  match P.underlying t with
  | some (.slice e) => match P.info? e with
    | some i => match i.zero with
      | some z => match s with
        | .slice base k c => match asrc (AW.of L nx ro gl) i.size x with
          | some (mm, ys) =>
            if z.cells.size = i.size ∧ 0 < i.size ∧ ys.all (·.oneCell') = true then
              if k + mm ≤ c then
                if mm = 0 then some (.slice base k c, L, nx) else
                match base with
                | some ⟨b, f, none⟩ => (lput L ro b (f + k * i.size) ys).map fun L1 => (.slice base (k + mm) c, L1, nx)
                | _ => none
              else if 0 < mm ∧ k + mm ≤ 140737488355328 ∧ (k + mm) * i.bytes ≤ 140737488355328 then
                match base with
                | none => if k = 0 ∧ c = 0 then some (.slice (some ⟨nx, 0, none⟩) (k + mm) (k + mm), (nx, .cells ys e) :: L, nx + 1) else none
                | some ⟨b, f, none⟩ => match (AW.of L nx ro gl).rd b f (k * i.size), alook L b with
                  | some olds, some (.cells _ e0) => if ro ≤ b ∧ szOf P e0 = some i.size then some (.slice (some ⟨nx, 0, none⟩) (k + mm) (k + mm), (nx, .cells (olds ++ ys) e) :: aerase L b, nx + 1) else none
                  | _, _ => none
                | _ => none
              else none
            else none
          | none => none
        | _ => none
      | none => none
    | none => none
  | _ => none
theorem lappend_eq {L L' : LM} {nx nx' ro gl : Nat} {t : TypeId} {s x v : Value} (h : lappend P L nx ro gl t s x = some (v, L', nx')) : aappend P (AW.of L nx ro gl) t s x = some (v, AW.of L' nx' ro gl) := by
  unfold lappend at h
  unfold aappend
  split at h
  case h_2 => cases h
  rename_i e hu
  rw [hu]
  simp only
  split at h
  case h_2 => cases h
  rename_i i hi
  rw [hi]
  simp only
  split at h
  case h_2 => cases h
  rename_i z hz
  rw [hz]
  simp only
  split at h
  case h_2 => cases h
  rename_i base k cc
  simp only
  split at h
  case h_2 => cases h
  rename_i mm ys hs
  rw [hs]
  simp only
  split at h
  case isFalse => cases h
  rename_i h1
  rw [if_pos h1]
  split at h
  · rename_i h2
    rw [if_pos h2]
    split at h
    · rename_i h3
      rw [if_pos h3]
      cases h
      rfl
    · rename_i h3
      rw [if_neg h3]
      split at h
      · rename_i b f
        cases hp : lput L ro b (f + k * i.size) ys with
        | none => simp [hp] at h
        | some L1 =>
          simp only [hp, Option.map_some, Option.some.injEq, Prod.mk.injEq] at h
          obtain ⟨rfl, rfl, rfl⟩ := h
          simp only [lput_eq (nx := nx) (gl := gl) hp, Option.map_some]
      · cases h
  · rename_i h2
    rw [if_neg h2]
    split at h
    case isFalse => cases h
    rename_i h3
    rw [if_pos h3]
    split at h
    · split at h
      · rename_i h4
        cases h
        simp only
        rw [if_pos h4, AW.of_push]
        rfl
      · cases h
    · rename_i b f
      split at h
      · rename_i olds c0 e0 ho hb
        split at h
        · rename_i h4
          cases h
          simp only
          have hb' : (AW.of L nx ro gl).objs b = some (.cells c0 e0) := hb
          rw [ho, hb']
          simp only
          have h4' : (AW.of L nx ro gl).ro ≤ b ∧ szOf P e0 = some i.size := h4
          rw [if_pos h4', AW.of_kill, AW.of_push]
          rfl
        · cases h
      · cases h
    · cases h

/-- Operations on values. -/
def bstep (P : Program) (op : BinOp) (t : TypeId) (x y : Value) : Option Value :=
  match x, y with
  | .int k i, .int k' j => if k = k' then (icmp op i j).map .bool else none
  | .string i, .string j => sbin op i j
  | .bool i, .bool j => match P.underlying t, op with
    | some .bool, .eql => some (.bool (i == j))
    | some .bool, .neq => some (.bool (!(i == j)))
    | _, _ => none
  | .slice q _ _, .slice none _ _ => match P.underlying t, op with
    | some (.slice _), .eql => some (.bool q.isNone)
    | some (.slice _), .neq => some (.bool (!q.isNone))
    | _, _ => none
  | _, _ => none

theorem AOp.bstep {op : BinOp} {t t2 : TypeId} {X Y : Operand} {vx vy v : Value} (ho : o.op = .binOp op t X Y t2) (hx : aev A.gl a X = some vx) (hy : aev A.gl a Y = some vy) (h : M.bstep P op t vx vy = some v) : AOp P n o a A (isR v A) := by
  unfold M.bstep at h
  split at h
  · split at h
    · rename_i hk
      subst hk
      rename_i k i j
      cases hc : M.icmp op i j with
      | none => simp [hc] at h
      | some b =>
        simp only [hc, Option.map_some, Option.some.injEq] at h
        subst h
        exact AOp.icmp ho hx hy hc
    · cases h
  · exact AOp.sbin ho hx hy h
  · split at h
    · rename_i hu; cases h
      have := AOp.eqBool (P := P) (n := n) ho (.inl rfl) hx hy hu
      simpa using this
    · rename_i hu; cases h
      have := AOp.eqBool (P := P) (n := n) ho (.inr rfl) hx hy hu
      simpa using this
    · cases h
  · split at h
    · rename_i hu; cases h
      have := AOp.eqNil (P := P) (n := n) ho (.inl rfl) hx hy hu
      simpa using this
    · rename_i hu; cases h
      have := AOp.eqNil (P := P) (n := n) ho (.inr rfl) hx hy hu
      simpa using this
    · cases h
  · cases h

def u8s : List Value → Option (List Int)
  | [] => some []
  | .int .u8 n :: r => (u8s r).map (n :: ·)
  | _ => none
theorem u8s_eq : ∀ {vs : List Value} {ns : List Int}, u8s vs = some ns → vs = ns.map (Value.int .u8)
  | [], ns, h => by cases h; rfl
  | v :: r, ns, h => by
    unfold u8s at h
    split at h
    · rename_i e; cases e
    · rename_i n' r' e
      simp only [List.cons.injEq] at e
      obtain ⟨rfl, rfl⟩ := e
      cases hr : u8s r with
      | none => simp [hr] at h
      | some ms =>
        simp only [hr, Option.map_some, Option.some.injEq] at h
        subst h
        rw [u8s_eq hr]; rfl
    · cases h
/-- One operation. -/
def astep (P : Program) (o : Oper) (a : AEnv) (L : LM) (nx ro gl : Nat) : Out :=
  match o.op with
  | .move x | .assign x => (aev gl a x).map fun v => (v, L, nx)
  | .pick c x y => match aev gl a c with
    | some (.bool true) => (aev gl a x).map fun v => (v, L, nx)
    | some (.bool false) => (aev gl a y).map fun v => (v, L, nx)
    | _ => none
  | .alloc e => if (szOf P e).isSome then (zcells P e).map fun z => (.pointer (some ⟨nx, 0, none⟩), (nx, .cells z e) :: L, nx + 1) else none
  | .box e x => if (szOf P e).isSome then (aev gl a x).map fun v => (.pointer (some ⟨nx, 0, none⟩), (nx, .cells v.cells.toList e) :: L, nx + 1) else none
  | .build t parts => (aparts gl a parts.toList).bind fun ps => (abuild P t ps).map fun v => (v, L, nx)
  | .buildSlice t len parts => (aparts gl a parts.toList).bind fun ps => match P.underlying t with
    | some (.slice e) => (szOf P e).bind fun s => (zrow P e len s).bind fun z => if len * s ≤ 16777216 then (afill (fun i => some (i * s, s)) z ps).map fun c => (.slice (some ⟨nx, 0, none⟩) len len, (nx, .cells c e) :: L, nx + 1) else none
    | _ => none
  | .load t x => (aev gl a x).bind fun v => (aload P (AW.of L nx ro gl) t v).map fun v => (v, L, nx)
  | .fieldAddr t x f => (aev gl a x).bind fun v => (afieldAddr P t v f).map fun v => (v, L, nx)
  | .field t x f => (aev gl a x).bind fun v => (afield P t v f).map fun v => (v, L, nx)
  | .extract x i => (aev gl a x).bind fun v => (aextract v i).map fun v => (v, L, nx)
  | .indexAddr t x i => (aev gl a x).bind fun v => (aev gl a i).bind fun u => (aindexAddr P t v u).map fun v => (v, L, nx)
  | .index t x i => (aev gl a x).bind fun v => (aev gl a i).bind fun u => (aindex P t v u).map fun v => (v, L, nx)
  | .lookup t x i ok => (aev gl a x).bind fun v => (aev gl a i).bind fun u => (alookup P (AW.of L nx ro gl) t v u ok).map fun v => (v, L, nx)
  | .slice t x lo hi mx => (aev gl a x).bind fun v => (aevO gl a lo).bind fun l => (aevO gl a hi).bind fun h => (aevO gl a mx).bind fun m => (aslice P (AW.of L nx ro gl) t v l h m).map fun r => (r.1, L, r.2.next)
  | .makeMap _ none => some (.map (some nx), (nx, .map [] 0) :: L, nx + 1)
  | .range t x => match aev gl a x, P.underlying t with
    | some (.string s), some .string => some (.pointer (some ⟨nx, 0, none⟩), (nx, .iter s 0) :: L, nx + 1)
    | _, _ => none
  | .next x true => match aev gl a x with
    | some (.pointer (some ⟨b, 0, none⟩)) => match alook L b with
      | some (.iter s pos) => if ro ≤ b then if pos < s.size then some (.tuple #[.bool true, .int .i64 pos, .int .i32 (Utf8.decode s pos).1], aset L b (.iter s (pos + (Utf8.decode s pos).2)), nx) else some (.tuple #[.bool false], L, nx) else none
      | _ => none
    | _ => none
  | .convert s d x => match P.underlying s, P.underlying d, aev gl a x with
    | some (.slice e), some .string, some (.slice (some ⟨b, f, none⟩) l _) => match P.underlying e with
      | some (.int .u8) => ((AW.of L nx ro gl).rd b f l).bind fun vs => (u8s vs).map fun ns => (.string (bytesOf ns), L, nx)
      | _ => none
    | _, _, _ => none
  | .unOp .not _ x => match aev gl a x with
    | some (.bool b) => some (.bool (!b), L, nx)
    | _ => none
  | .binOp op t x y _ => (aev gl a x).bind fun v => (aev gl a y).bind fun u => (bstep P op t v u).map fun v => (v, L, nx)
  | .call c => match c.callee, c.args.toList, c.argTypes.toList with
    | .builtin .len, [x], [t] => (aev gl a x).bind fun v => (alen P t v).map fun l => (.int .i64 l, L, nx)
    | .builtin .append, [x, y], [t, t'] => if t = t' then (aev gl a x).bind fun v => (aev gl a y).bind fun u => lappend P L nx ro gl t v u else none
    | .builtin .max, [x, y], _ => match aev gl a x, aev gl a y with
      | some (.int k i), some (.int k' j) => if k = k' then some (.int k (max i j), L, nx) else none
      | _, _ => none
    | .builtin .min, [x, y], _ => match aev gl a x, aev gl a y with
      | some (.int k i), some (.int k' j) => if k = k' then some (.int k (min i j), L, nx) else none
      | _, _ => none
    | _, _, _ => none
  | _ => none

theorem Option.map_out {x : Option Value} {L L' : LM} {nx nx' : Nat} {v : Value} (h : (x.map fun v => (v, L, nx)) = some (v, L', nx')) : x = some v ∧ L' = L ∧ nx' = nx := by
  cases x with
  | none => cases h
  | some u => simp only [Option.map_some, Option.some.injEq, Prod.mk.injEq] at h; obtain ⟨rfl, rfl, rfl⟩ := h; exact ⟨rfl, rfl, rfl⟩
theorem bind_some {α β : Type} {x : Option α} {f : α → Option β} {b : β} (h : x.bind f = some b) : ∃ a, x = some a ∧ f a = some b := by
  cases x with
  | none => cases h
  | some a => exact ⟨a, rfl, h⟩

theorem astep_sound {L L' : LM} {nx nx' ro gl : Nat} {v : Value} (h : astep P o a L nx ro gl = some (v, L', nx')) : AOp P n o a (AW.of L nx ro gl) (isR v (AW.of L' nx' ro gl)) := by
  unfold astep at h
  split at h
  · rename_i x ho; obtain ⟨h1, rfl, rfl⟩ := Option.map_out h; exact AOp.move ho h1
  · rename_i x ho; obtain ⟨h1, rfl, rfl⟩ := Option.map_out h; exact AOp.assign ho h1
  · rename_i c x y ho
    split at h
    · rename_i hc; obtain ⟨h1, rfl, rfl⟩ := Option.map_out h; exact AOp.pick ho hc (fun _ => h1) (fun h => by cases h)
    · rename_i hc; obtain ⟨h1, rfl, rfl⟩ := Option.map_out h; exact AOp.pick ho hc (fun h => by cases h) (fun _ => h1)
    · cases h
  · rename_i e ho
    split at h
    · rename_i hs
      cases hz : zcells P e with
      | none => simp [hz] at h
      | some z =>
        simp only [hz, Option.map_some, Option.some.injEq, Prod.mk.injEq] at h
        obtain ⟨rfl, rfl, rfl⟩ := h
        refine AOp.alloc ho ?_
        unfold zcells at hz
        unfold aalloc
        cases h0 : zeroOf P e with
        | none => simp [h0] at hz
        | some zv =>
          simp only [h0, Option.bind_some] at hz
          split at hz
          · rename_i q
            cases hz
            simp only [q, hs, Bool.and_self, if_true]
            rw [AW.of_push]; rfl
          · cases hz
    · cases h
  · rename_i e x ho
    split at h
    · rename_i hs
      cases hx : aev gl a x with
      | none => simp [hx] at h
      | some vx =>
        simp only [hx, Option.map_some, Option.some.injEq, Prod.mk.injEq] at h
        obtain ⟨rfl, rfl, rfl⟩ := h
        refine AOp.box ho hx ?_
        unfold abox
        rw [if_pos hs, AW.of_push]; rfl
    · cases h
  · rename_i t parts ho
    obtain ⟨ps, h1, h⟩ := bind_some h
    obtain ⟨h2, rfl, rfl⟩ := Option.map_out h
    exact AOp.build ho h1 h2
  · rename_i t len parts ho
    obtain ⟨ps, h1, h⟩ := bind_some h
    split at h
    · rename_i e hu
      obtain ⟨s, h2, h⟩ := bind_some h
      obtain ⟨z, h3, h⟩ := bind_some h
      split at h
      · rename_i hb
        cases hf : afill (fun i => some (i * s, s)) z ps with
        | none => simp [hf] at h
        | some cs =>
          simp only [hf, Option.map_some, Option.some.injEq, Prod.mk.injEq] at h
          obtain ⟨rfl, rfl, rfl⟩ := h
          refine AOp.buildSlice ho h1 ?_
          unfold abuildSlice
          rw [hu]
          simp only [h2, h3, Option.bind_some, hf, Option.map_some]
          rw [if_pos hb, AW.of_push]; rfl
      · cases h
    · cases h
  · rename_i t x ho
    obtain ⟨vx, h1, h⟩ := bind_some h
    obtain ⟨h2, rfl, rfl⟩ := Option.map_out h
    exact AOp.load ho h1 h2
  · rename_i t x f ho
    obtain ⟨vx, h1, h⟩ := bind_some h
    obtain ⟨h2, rfl, rfl⟩ := Option.map_out h
    exact AOp.fieldAddr ho h1 h2
  · rename_i t x f ho
    obtain ⟨vx, h1, h⟩ := bind_some h
    obtain ⟨h2, rfl, rfl⟩ := Option.map_out h
    exact AOp.field ho h1 h2
  · rename_i x i ho
    obtain ⟨vx, h1, h⟩ := bind_some h
    obtain ⟨h2, rfl, rfl⟩ := Option.map_out h
    exact AOp.extract ho h1 h2
  · rename_i t x i ho
    obtain ⟨vx, h1, h⟩ := bind_some h
    obtain ⟨vy, h2, h⟩ := bind_some h
    obtain ⟨h3, rfl, rfl⟩ := Option.map_out h
    exact AOp.indexAddr ho h1 h2 h3
  · rename_i t x i ho
    obtain ⟨vx, h1, h⟩ := bind_some h
    obtain ⟨vy, h2, h⟩ := bind_some h
    obtain ⟨h3, rfl, rfl⟩ := Option.map_out h
    exact AOp.index ho h1 h2 h3
  · rename_i t x i ok ho
    obtain ⟨vx, h1, h⟩ := bind_some h
    obtain ⟨vy, h2, h⟩ := bind_some h
    obtain ⟨h3, rfl, rfl⟩ := Option.map_out h
    exact AOp.lookup ho h1 h2 h3
  · rename_i t x lo hi mx ho
    obtain ⟨vx, h1, h⟩ := bind_some h
    obtain ⟨vl, h2, h⟩ := bind_some h
    obtain ⟨vh, h3, h⟩ := bind_some h
    obtain ⟨vm, h4, h⟩ := bind_some h
    cases h5 : aslice P (AW.of L nx ro gl) t vx vl vh vm with
    | none => simp [h5] at h
    | some r =>
      simp only [h5, Option.map_some, Option.some.injEq, Prod.mk.injEq] at h
      obtain ⟨rfl, rfl, rfl⟩ := h
      have e : r.2 = AW.of L r.2.next ro gl := by
        have key : ∀ B : AW, (B = AW.of L nx ro gl ∨ B = (AW.of L nx ro gl).burn) → B = AW.of L B.next ro gl := by
          rintro B (rfl | rfl) <;> rfl
        apply key
        unfold aslice at h5
        split at h5
        · split at h5
          · cases h5; exact .inl rfl
          · cases h5
        · split at h5
          · split at h5
            · cases h5; exact .inl rfl
            · split at h5
              · cases h5; exact .inr rfl
              · split at h5
                · cases h5; exact .inl rfl
                · cases h5
            · cases h5
          · cases h5
        · split at h5
          · cases h5; exact .inl rfl
          · cases h5
        · cases h5
      have h5' : aslice P (AW.of L nx ro gl) t vx vl vh vm = some (r.1, AW.of L r.2.next ro gl) := by rw [h5, ← e]
      exact AOp.slice ho h1 h2 h3 h4 h5'
  · rename_i t ho
    cases h
    have := AOp.makeMap (P := P) (n := n) (A := AW.of L nx ro gl) (a := a) ho
    simp only [amakeMap, AW.of_push] at this
    exact this
  · rename_i t x ho
    split at h
    · rename_i s h1 h2
      cases h
      have := AOp.range (P := P) (n := n) (A := AW.of L nx ro gl) ho h1 h2
      rw [AW.of_push] at this
      exact this
    · cases h
  · rename_i x ho
    split at h
    · rename_i b h1
      split at h
      · rename_i s pos hb
        split at h
        · rename_i hro
          have hb' : (AW.of L nx ro gl).objs b = some (.iter s pos) := hb
          have hro' : (AW.of L nx ro gl).ro ≤ b := hro
          split at h
          · rename_i hp
            cases h
            have : anext (AW.of L nx ro gl) (.pointer (some ⟨b, 0, none⟩)) = some (.tuple #[.bool true, .int .i64 pos, .int .i32 (Utf8.decode s pos).1], AW.of (aset L b (.iter s (pos + (Utf8.decode s pos).2))) nx ro gl) := by
              unfold anext
              simp only [hb']
              rw [if_pos hro', if_pos hp, AW.of_upd]
            exact AOp.next ho h1 this
          · rename_i hp
            cases h
            have : anext (AW.of L nx ro gl) (.pointer (some ⟨b, 0, none⟩)) = some (.tuple #[.bool false], AW.of L nx ro gl) := by
              unfold anext
              simp only [hb']
              rw [if_pos hro', if_neg hp]
            exact AOp.next ho h1 this
        · cases h
      · cases h
    · cases h
  · rename_i s d x ho
    split at h
    · rename_i e b f l cc h1 h2 h3
      split at h
      · rename_i h4
        obtain ⟨vs, h5, h⟩ := bind_some h
        cases h6 : u8s vs with
        | none => simp [h6] at h
        | some ns =>
          simp only [h6, Option.map_some, Option.some.injEq, Prod.mk.injEq] at h
          obtain ⟨rfl, rfl, rfl⟩ := h
          exact AOp.bytesString ho h3 h1 h4 h2 (by rw [h5, u8s_eq h6])
      · cases h
    · cases h
  · rename_i t x ho
    split at h
    · rename_i b h1; cases h; exact AOp.not ho h1
    · cases h
  · rename_i op t x y t2 ho
    obtain ⟨vx, h1, h⟩ := bind_some h
    obtain ⟨vy, h2, h⟩ := bind_some h
    obtain ⟨h3, rfl, rfl⟩ := Option.map_out h
    exact AOp.bstep ho h1 h2 h3
  · rename_i c ho
    split at h
    · rename_i x t hc ha ht
      obtain ⟨vx, h1, h⟩ := bind_some h
      cases h2 : alen P t vx with
      | none => simp [h2] at h
      | some l =>
        simp only [h2, Option.map_some, Option.some.injEq, Prod.mk.injEq] at h
        obtain ⟨rfl, rfl, rfl⟩ := h
        exact AOp.len ho hc ha ht h1 h2
    · rename_i x y t t' hc ha ht
      split at h
      · rename_i e; subst e
        obtain ⟨vx, h1, h⟩ := bind_some h
        obtain ⟨vy, h2, h⟩ := bind_some h
        exact AOp.append ho hc ha ht h1 h2 (lappend_eq h)
      · cases h
    · rename_i x y hc ha
      split at h
      · rename_i k i k' j h1 h2
        split at h
        · rename_i e; subst e; cases h; exact AOp.imax ho hc ha h1 h2
        · cases h
      · cases h
    · rename_i x y hc ha
      split at h
      · rename_i k i k' j h1 h2
        split at h
        · rename_i e; subst e; cases h; exact AOp.imin ho hc ha h1 h2
        · cases h
      · cases h
    · cases h
  · cases h

/-- An operation without a value. -/
def nstep (P : Program) (o : Oper) (a : AEnv) (L : LM) (nx ro gl : Nat) : Option LM :=
  match o.op with
  | .store t x y => (aev gl a x).bind fun v => (aev gl a y).bind fun u => lstore P L ro t u v
  | .mapUpdate t x y z => (aev gl a x).bind fun v => (aev gl a y).bind fun u => (aev gl a z).bind fun q => match P.underlying t, v with
    | some (.map key _), .map (some b) => match P.underlying key, alook L b with
      | some d, some (.map es clock) => if simpleKey d && noAddrs 8 [u] && decide (ro ≤ b) then (Instr.findNow d u es 0).map fun r => aset L b (amapSet es clock u q r) else none
      | _, _ => none
    | _, _ => none
  | _ => none
theorem nstep_sound {L L' : LM} {nx ro gl : Nat} (h : nstep P o a L nx ro gl = some L') : AOp P n o a (AW.of L nx ro gl) (isR undef (AW.of L' nx ro gl)) := by
  unfold nstep at h
  split at h
  · rename_i t x y ho
    obtain ⟨vx, h1, h⟩ := bind_some h
    obtain ⟨vy, h2, h⟩ := bind_some h
    exact AOp.store ho h1 h2 (lstore_eq h)
  · rename_i t x y z ho
    obtain ⟨vx, h1, g⟩ := bind_some h
    clear h
    obtain ⟨vy, h2, h⟩ := bind_some g
    clear g
    obtain ⟨vz, h3, g⟩ := bind_some h
    clear h
    have h := g
    clear g
    refine AOp.mapUpdate ho h1 h2 h3 ?_
    split at h
    · rename_i key el b hu
      split at h
      · rename_i d es clock hd hb
        split at h
        · rename_i hc
          cases hn : Instr.findNow d vy es 0 with
          | none => simp [hn] at h
          | some r =>
            simp only [hn, Option.map_some, Option.some.injEq] at h
            subst h
            unfold amapUpdate
            rw [hu]
            simp only
            have hb' : (AW.of L nx ro gl).objs b = some (.map es clock) := hb
            rw [hd, hb']
            simp only
            have hc' : (simpleKey d && noAddrs 8 [vy] && decide ((AW.of L nx ro gl).ro ≤ b)) = true := hc
            rw [if_pos hc', hn]
            simp only [Option.map_some, AW.of_upd]
        · cases h
      · cases h
    · cases h
  · cases h

/-! ### The same, with what comes out written out -/
section
variable {β : Type}
def fBin : Nat → Nat → Nat → (Nat → Option β) → Option β
  | 0, lo, _, k => k lo
  | f + 1, lo, x, k => match Nat.ble (lo + 2 ^ f) x with
    | true => fBin f (lo + 2 ^ f) x k
    | false => fBin f lo x k
theorem fBin_eq : ∀ (f lo x : Nat) (k : Nat → Option β), lo ≤ x → x < lo + 2 ^ f → fBin f lo x k = k x
  | 0, lo, x, k, h1, h2 => by
    have : lo = x := by simp at h2; omega
    rw [this]; rfl
  | f + 1, lo, x, k, h1, h2 => by
    unfold fBin
    have e : (2 : Nat) ^ (f + 1) = 2 ^ f + 2 ^ f := by rw [Nat.pow_succ]; omega
    cases q : Nat.ble (lo + 2 ^ f) x with
    | true =>
      have := Nat.le_of_ble_eq_true q
      exact fBin_eq f (lo + 2 ^ f) x k this (by omega)
    | false =>
      have : ¬ lo + 2 ^ f ≤ x := fun h => by rw [Nat.ble_eq_true_of_le h] at q; cases q
      exact fBin_eq f lo x k h1 (by omega)
def fNat (x : Nat) (k : Nat → Option β) : Option β := match Nat.blt x 128 with
  | true => fBin 7 0 x k
  | false => k x
theorem fNat_eq (x : Nat) (k : Nat → Option β) : fNat x k = k x := by
  unfold fNat
  cases q : Nat.blt x 128 with
  | true => exact fBin_eq 7 0 x k (Nat.zero_le _) (by have := Nat.le_of_ble_eq_true q; simp at this ⊢; omega)
  | false => rfl
def fS (v : Value) (k : Value → Option β) : Option β := match v with
  | .int a b => k (.int a b)
  | .bool b => k (.bool b)
  | .string s => k (.string s)
  | v => k v
theorem fS_eq (v : Value) (k : Value → Option β) : fS v k = k v := by cases v <;> rfl
def fVs : List Value → (List Value → Option β) → Option β
  | [], k => k []
  | v :: vs, k => fS v fun v => fVs vs fun vs => k (v :: vs)
theorem fVs_eq : ∀ (vs : List Value) (k : List Value → Option β), fVs vs k = k vs
  | [], _ => rfl
  | v :: vs, k => by simp only [fVs, fS_eq, fVs_eq vs]
def fV (v : Value) (k : Value → Option β) : Option β := match v with
  | .agg c => fVs c.toList fun l => k (.agg l.toArray)
  | .tuple c => fVs c.toList fun l => k (.tuple l.toArray)
  | .pointer (some ⟨b, o, none⟩) => fNat b fun b => fNat o fun o => k (.pointer (some ⟨b, o, none⟩))
  | .slice (some ⟨b, o, none⟩) l c => fNat b fun b => fNat o fun o => fNat l fun l => fNat c fun c => k (.slice (some ⟨b, o, none⟩) l c)
  | .int a b => k (.int a b)
  | .bool b => k (.bool b)
  | .string s => k (.string s)
  | v => k v
theorem fV_eq (v : Value) (k : Value → Option β) : fV v k = k v := by
  unfold fV
  split <;> simp only [fVs_eq, fNat_eq, Array.toArray_toList]
def fO (o : AObj) (k : AObj → Option β) : Option β := match o with
  | .cells c e => fVs c fun c => k (.cells c e)
  | o => k o
theorem fO_eq (o : AObj) (k : AObj → Option β) : fO o k = k o := by cases o <;> simp only [fO, fVs_eq]
def fL : LM → (LM → Option β) → Option β
  | [], k => k []
  | (j, o) :: r, k => fNat j fun j => fO o fun o => fL r fun r => k ((j, o) :: r)
theorem fL_eq : ∀ (L : LM) (k : LM → Option β), fL L k = k L
  | [], _ => rfl
  | (j, o) :: r, k => by simp only [fL, fNat_eq, fO_eq, fL_eq r]
def fHead (L : LM) (k : LM → Option β) : Option β := match L with
  | (j, o) :: r => fNat j fun j => fO o fun o => k ((j, o) :: r)
  | [] => k []
theorem fHead_eq (L : LM) (k : LM → Option β) : fHead L k = k L := by
  unfold fHead
  split
  · simp only [fNat_eq, fO_eq]
  · rfl
end
def polish (o : Oper) (v : Value) (L : LM) (nx : Nat) : Out := match o.op with
  | .alloc _ | .box .. | .buildSlice .. | .makeMap .. | .range .. => fV v fun v => fHead L fun L => fNat nx fun nx => some (v, L, nx)
  | .load .. | .build .. | .fieldAddr .. | .indexAddr .. | .index .. | .field .. => fV v fun v => some (v, L, nx)
  | .slice .. => fV v fun v => fNat nx fun nx => some (v, L, nx)
  | .call _ | .next .. => fV v fun v => fL L fun L => fNat nx fun nx => some (v, L, nx)
  | _ => fS v fun v => some (v, L, nx)
theorem polish_eq (o : Oper) (v : Value) (L : LM) (nx : Nat) : polish o v L nx = some (v, L, nx) := by
  unfold polish
  split <;> simp only [fV_eq, fHead_eq, fNat_eq, fL_eq, fS_eq]
def astepF (P : Program) (o : Oper) (a : AEnv) (L : LM) (nx ro gl : Nat) : Out := match astep P o a L nx ro gl with
  | some (v, L, nx) => polish o v L nx
  | none => none
theorem astepF_sound {L L' : LM} {nx nx' ro gl : Nat} {v : Value} (h : astepF P o a L nx ro gl = some (v, L', nx')) : AOp P n o a (AW.of L nx ro gl) (isR v (AW.of L' nx' ro gl)) := by
  unfold astepF at h
  split at h
  · rename_i h1
    rw [polish_eq] at h
    cases h
    exact astep_sound h1
  · cases h
def nstepF (P : Program) (o : Oper) (a : AEnv) (L : LM) (nx ro gl : Nat) : Option LM := (nstep P o a L nx ro gl).bind fun L => fL L some
theorem nstepF_eq {L L' : LM} {nx ro gl : Nat} (h : nstepF P o a L nx ro gl = some L') : nstep P o a L nx ro gl = some L' := by
  unfold nstepF at h
  obtain ⟨x, h1, h2⟩ := bind_some h
  rw [fL_eq] at h2
  rw [h1, h2]
end Go.M
