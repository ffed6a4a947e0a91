/- Functions of the given program, walked (no condition beyond what each theorem says). -/
import Derived.KernelRfl
import Derived.Test.YtfhodefiknfccaaDoorProg
import Derived.Test.YtfhodefiknfccaaDoorA5
import Derived.Test.YtfhodefiknfccaaDoorA4
set_option linter.unusedVariables false
set_option linter.unusedSimpArgs false
namespace Go.M

def whenI (b : Bool) (e : Int) : Int := bif b then e else 0
def withinB (n lo hi : Int) : Bool := decide (n < lo) || decide (hi < n)
def firstNZ (ns : List Int) : Int := (ns.find? (fun x => !decide (x = 0))).getD 0
theorem firstNZ_take {ns : List Int} {i : Nat} {x : Int} (hx : ns[i]? = some x) (h : ∀ y ∈ ns.take i, y = 0) (h0 : ¬x = 0) : firstNZ ns = x := by
  unfold firstNZ
  have e : ns = ns.take i ++ x :: ns.drop (i + 1) := by
    have h1 := List.drop_eq_getElem_cons (List.getElem?_eq_some_iff.1 hx).1
    rw [(List.getElem?_eq_some_iff.1 hx).2] at h1
    rw [← h1, List.take_append_drop]
  have h2 : (ns.take i).find? (fun x => !decide (x = 0)) = none := by rw [List.find?_eq_none]; intro y hy; simp [h y hy]
  rw [e, List.find?_append, h2]
  simp [h0]
theorem firstNZ_all {ns : List Int} (h : ∀ y ∈ ns, y = 0) : firstNZ ns = 0 := by
  unfold firstNZ
  rw [List.find?_eq_none.2 (fun y hy => by simp [h y hy])]; rfl
theorem take_zero {ns : List Int} {i : Nat} {x : Int} (hx : ns[i]? = some x) (h : ∀ y ∈ ns.take i, y = 0) (h0 : x = 0) : ∀ y ∈ ns.take (i + 1), y = 0 := by
  intro y hy
  rw [List.take_add_one, List.mem_append, hx] at hy
  rcases hy with hy | hy
  · exact h y hy
  · simp at hy; omega
theorem plain_ints {ns : List Int} : ∃ k, noAddrs k (ns.map (Value.int .i64)) = true := by
  induction ns with
  | nil => exact ⟨1, rfl⟩
  | cons n ns ih => obtain ⟨k, h⟩ := ih; exact ⟨k + 1, by simpa [noAddrs] using h⟩
theorem whenI_zero {b : Bool} {e : Int} (h : b = false) : whenI b e = 0 := by subst h; rfl
theorem withinB_no {n lo hi : Int} (h : lo ≤ n ∧ n ≤ hi) : withinB n lo hi = false := by simp [withinB]; omega
theorem of_whenI {b : Bool} {e : Int} (h : whenI b e = 0) (he : e ≠ 0) : b = false := by
  cases b
  · rfl
  · exact absurd h he
theorem of_withinB {n lo hi : Int} (h : withinB n lo hi = false) : lo ≤ n ∧ n ≤ hi := by
  simp [withinB] at h; omega
theorem of_firstNZ {ns : List Int} (h : firstNZ ns = 0) : ∀ y ∈ ns, y = 0 := by
  intro y hy
  unfold firstNZ at h
  cases hf : ns.find? (fun x => !decide (x = 0)) with
  | none => rw [List.find?_eq_none] at hf; have := hf y hy; simpa using this
  | some z => rw [hf] at h; have := List.find?_some hf; simp at h this; exact absurd h this
end Go.M
namespace Go.M
open Go.Proofs
set_option maxRecDepth 8000
set_option maxHeartbeats 4000000
theorem d_when55 {A : AW} (b : Bool) (e : Int) : AC Tryd.prog 55 [.bool b, .int .i64 e] A (isR (.int .i64 (whenI b e)) A) := by
  refine AC.is0 ?_ ⟨8, rfl⟩ (.flat (k := 8) rfl (.flat (k := 8) rfl .nil))
  refine AC.go Tryd.func55 rfl rfl ?_
  repeat' (first
  | refine GL.sf rfl rfl rfl rfl ?_
  | refine GL.done ?_
  | refine GP.thenN ?_
  | refine GT.seq ?_
  | refine GT.region ?_
  | refine GT.skip ?_
  | refine GT.ret ?_
  | refine GP.thenR ?_
  | (refine GT.condB rfl (fun h => ?_) (fun h => ?_))
  | refine GP.endR1 rfl ?_)
  all_goals (subst h; rfl)
theorem d_when49 {A : AW} (b : Bool) (e : Int) : AC Tryd.prog 49 [.bool b, .int .i64 e] A (isR (.int .i64 (whenI b e)) A) := by
  refine AC.is0 ?_ ⟨8, rfl⟩ (.flat (k := 8) rfl (.flat (k := 8) rfl .nil))
  refine AC.go Tryd.func49 rfl rfl ?_
  repeat' (first
  | refine GL.sf rfl rfl rfl rfl ?_
  | refine GL.done ?_
  | refine GP.thenN ?_
  | refine GT.seq ?_
  | refine GT.region ?_
  | refine GT.skip ?_
  | refine GT.ret ?_
  | refine GP.thenR ?_
  | (refine GT.condB rfl (fun h => ?_) (fun h => ?_))
  | refine GP.endR1 rfl ?_)
  all_goals (subst h; rfl)
theorem d_when72 {A : AW} (b : Bool) (e : Int) : AC Tryd.prog 72 [.bool b, .int .i64 e] A (isR (.int .i64 (whenI b e)) A) := by
  refine AC.is0 ?_ ⟨8, rfl⟩ (.flat (k := 8) rfl (.flat (k := 8) rfl .nil))
  refine AC.go Tryd.func72 rfl rfl ?_
  repeat' (first
  | refine GL.sf rfl rfl rfl rfl ?_
  | refine GL.done ?_
  | refine GP.thenN ?_
  | refine GT.seq ?_
  | refine GT.region ?_
  | refine GT.skip ?_
  | refine GT.ret ?_
  | refine GP.thenR ?_
  | (refine GT.condB rfl (fun h => ?_) (fun h => ?_))
  | refine GP.endR1 rfl ?_)
  all_goals (subst h; rfl)
theorem d_within59 {A : AW} (n lo hi : Int) : AC Tryd.prog 59 [.int .i64 n, .int .i64 lo, .int .i64 hi] A (isR (.int .i64 (whenI (withinB n lo hi) 3)) A) := by
  refine AC.is0 ?_ ⟨8, rfl⟩ (.flat (k := 8) rfl (.flat (k := 8) rfl (.flat (k := 8) rfl .nil)))
  refine AC.go Tryd.func59 rfl rfl ?_
  repeat' (first
  | refine GL.sf rfl rfl rfl rfl ?_
  | refine GL.done ?_
  | refine GP.thenN ?_
  | refine GT.seq ?_
  | refine GT.region ?_
  | refine GL.unguard rfl rfl ?_
  | refine GL.skip rfl rfl rfl rfl ?_
  | refine GL.v rfl rfl rfl (by exact GO.call rfl rfl Tryd.func55 rfl rfl rfl (d_when55 _ _)) ?_
  | refine GT.ret ?_
  | (refine GL.forkD rfl rfl (fun h => ?_) (fun h => ?_) <;> try (exfalso; omega))
  | refine GP.endR1 rfl ?_)
  · simp [withinB, h]
  · simp [withinB, h]
theorem d_within44 {A : AW} (n lo hi : Int) : AC Tryd.prog 44 [.int .i64 n, .int .i64 lo, .int .i64 hi] A (isR (.int .i64 (whenI (withinB n lo hi) 3)) A) := by
  refine AC.is0 ?_ ⟨8, rfl⟩ (.flat (k := 8) rfl (.flat (k := 8) rfl (.flat (k := 8) rfl .nil)))
  refine AC.go Tryd.func44 rfl rfl ?_
  repeat' (first
  | refine GL.sf rfl rfl rfl rfl ?_
  | refine GL.done ?_
  | refine GP.thenN ?_
  | refine GT.seq ?_
  | refine GT.region ?_
  | refine GL.unguard rfl rfl ?_
  | refine GL.skip rfl rfl rfl rfl ?_
  | refine GL.v rfl rfl rfl (by exact GO.call rfl rfl Tryd.func49 rfl rfl rfl (d_when49 _ _)) ?_
  | refine GT.ret ?_
  | (refine GL.forkD rfl rfl (fun h => ?_) (fun h => ?_) <;> try (exfalso; omega))
  | refine GP.endR1 rfl ?_)
  · simp [withinB, h]
  · simp [withinB, h]
theorem d_within115 {A : AW} (n lo hi : Int) : AC Tryd.prog 115 [.int .i64 n, .int .i64 lo, .int .i64 hi] A (isR (.int .i64 (whenI (withinB n lo hi) 3)) A) := by
  refine AC.is0 ?_ ⟨8, rfl⟩ (.flat (k := 8) rfl (.flat (k := 8) rfl (.flat (k := 8) rfl .nil)))
  refine AC.go Tryd.func115 rfl rfl ?_
  repeat' (first
  | refine GL.sf rfl rfl rfl rfl ?_
  | refine GL.done ?_
  | refine GP.thenN ?_
  | refine GT.seq ?_
  | refine GT.region ?_
  | refine GL.unguard rfl rfl ?_
  | refine GL.skip rfl rfl rfl rfl ?_
  | refine GL.v rfl rfl rfl (by exact GO.call rfl rfl Tryd.func72 rfl rfl rfl (d_when72 _ _)) ?_
  | refine GT.ret ?_
  | (refine GL.forkD rfl rfl (fun h => ?_) (fun h => ?_) <;> try (exfalso; omega))
  | refine GP.endR1 rfl ?_)
  · simp [withinB, h]
  · simp [withinB, h]
theorem d_first53s (ns : List Int) (c : Nat) (hlen : ns.length ≤ 1000000) : AC Tryd.prog 53 [.slice (some ⟨0, 0, none⟩) ns.length c] (AW.of [(0, .cells (ns.map (.int .i64)) 3)] 1 1 0) (fun u _ => u = .int .i64 (firstNZ ns)) := by
  refine AC.go Tryd.func53 rfl rfl ?_
  repeat' (first
  | refine GL.sf rfl rfl rfl rfl ?_
  | refine GL.done ?_
  | refine GP.thenN ?_
  | refine GT.seq ?_
  | refine GT.region ?_
  | refine GT.block ?_)
  refine GT.loop (fun k a L nx => ∃ i : Nat, i ≤ ns.length ∧ k = ns.length - i ∧ (∀ y ∈ ns.take i, y = 0) ∧ asub [(0, .slice (some ⟨0, 0, none⟩) ns.length c), (3, .int .i64 i)] a ∧ L = [(0, .cells (ns.map (.int .i64)) 3)] ∧ nx = 1) ns.length
    ⟨0, by omega, by omega, by simp, asub_cons rfl (asub_cons rfl asub_nil), rfl, rfl⟩ ?_
  rintro k a L nx ⟨i, hi, rfl, hz, hs, rfl, rfl⟩
  refine GT.keep hs ?_
  clear hs
  rcases Nat.lt_or_ge i ns.length with hlt | hge
  · obtain ⟨x, hx⟩ : ∃ x, ns[i]? = some x := ⟨_, List.getElem?_eq_getElem hlt⟩
    have hx' : (ns.map (Value.int .i64))[0 + (i : Int).toNat * 1]? = some (.int .i64 x) := by simp [hx]
    repeat' (first
    | refine GL.sf rfl rfl rfl rfl ?_
    | refine GL.sv rfl rfl rfl rfl ?_
    | refine GL.done ?_
    | refine GP.thenN ?_
    | refine GT.seq ?_
    | refine GT.region ?_
    | refine GL.v rfl rfl rfl (by first | exact GO.indexS rfl rfl rfl rfl rfl (by omega) | exact GO.loadC rfl rfl rfl rfl rfl hx' | exact GO.add rfl rfl rfl (by omega)) ?_
    | refine GT.skip ?_
    | refine GT.block ?_
    | refine GT.ret ?_
    | refine GP.thenR ?_
    | refine GP.inN ?_
    | refine GP.inR ?_
    | refine GP.invR ?_
    | (refine GT.condD rfl (fun h => ?_) (fun h => ?_) <;> try (exfalso; omega))
    | (refine GT.condN rfl (fun h => ?_) (fun h => ?_) <;> try (exfalso; omega))
    | refine GP.endR1 rfl ?_)
    · rw [firstNZ_take hx hz h]
    · exact GP.invN (ns.length - (i + 1)) (by omega) ⟨i + 1, by omega, rfl, take_zero hx hz h, asub_cons rfl (asub_cons rfl asub_nil), rfl, rfl⟩
  ·
    repeat' (first
    | refine GL.sf rfl rfl rfl rfl ?_
    | refine GL.sv rfl rfl rfl rfl ?_
    | refine GL.done ?_
    | refine GP.thenN ?_
    | refine GT.seq ?_
    | refine GT.region ?_
    | refine GT.ret ?_
    | refine GT.exit ?_
    | refine GP.thenE ?_
    | refine GP.hit ?_
    | refine GP.invE ?_
    | (refine GT.condD rfl (fun h => ?_) (fun h => ?_) <;> try (exfalso; omega))
    | refine GP.endR1 rfl ?_)
    rw [firstNZ_all (by rw [List.take_of_length_le hge] at hz; exact hz)]
theorem d_first53 {A : AW} {b f l c : Nat} (ns : List Int) (hl : ns.length = l) (hlen : Nat.ble l 1000000 = true) (h : A.rd b f l = some (ns.map (.int .i64))) : AC Tryd.prog 53 [.slice (some ⟨b, f, none⟩) l c] A (isR (.int .i64 (firstNZ ns)) A) := by
  subst hl
  exact AC.is1 (d_first53s ns c (Nat.le_of_ble_eq_true hlen)) ⟨8, rfl⟩ (b := b) (g := f) ⟨by simpa using h, plain_ints⟩ (.sl (g := 0) rfl rfl .nil)
theorem d_first42s (ns : List Int) (c : Nat) (hlen : ns.length ≤ 1000000) : AC Tryd.prog 42 [.slice (some ⟨0, 0, none⟩) ns.length c] (AW.of [(0, .cells (ns.map (.int .i64)) 48)] 1 1 0) (fun u _ => u = .int .i64 (firstNZ ns)) := by
  refine AC.go Tryd.func42 rfl rfl ?_
  repeat' (first
  | refine GL.sf rfl rfl rfl rfl ?_
  | refine GL.sv rfl rfl rfl rfl ?_
  | refine GL.done ?_
  | refine GP.thenN ?_
  | refine GT.seq ?_
  | refine GT.region ?_
  | refine GT.block ?_)
  refine GT.loop (fun k a L nx => ∃ i : Nat, i ≤ ns.length ∧ k = ns.length - i ∧ (∀ y ∈ ns.take i, y = 0) ∧ asub [(5, .slice (some ⟨0, 0, none⟩) ns.length c), (6, .int .i64 ns.length), (7, .int .i64 i)] a ∧ L = [(0, .cells (ns.map (.int .i64)) 48)] ∧ nx = 1) ns.length
    ⟨0, by omega, by omega, by simp, asub_cons rfl (asub_cons rfl (asub_cons rfl asub_nil)), rfl, rfl⟩ ?_
  rintro k a L nx ⟨i, hi, rfl, hz, hs, rfl, rfl⟩
  refine GT.keep hs ?_
  clear hs
  rcases Nat.lt_or_ge i ns.length with hlt | hge
  · obtain ⟨x, hx⟩ : ∃ x, ns[i]? = some x := ⟨_, List.getElem?_eq_getElem hlt⟩
    have hx' : (ns.map (Value.int .i64))[0 + (i : Int).toNat * 1]? = some (.int .i64 x) := by simp [hx]
    repeat' (first
    | refine GL.sf rfl rfl rfl rfl ?_
    | refine GL.done ?_
    | refine GP.thenN ?_
    | refine GT.seq ?_
    | refine GT.region ?_
    | refine GL.v rfl rfl rfl (by first | exact GO.indexS rfl rfl rfl rfl rfl (by omega) | exact GO.loadC rfl rfl rfl rfl rfl hx' | exact GO.add rfl rfl rfl (by omega)) ?_
    | refine GT.skip ?_
    | refine GT.block ?_
    | refine GT.ret ?_
    | refine GP.thenR ?_
    | refine GP.inN ?_
    | refine GP.inR ?_
    | refine GP.invR ?_
    | (refine GT.condD rfl (fun h => ?_) (fun h => ?_) <;> try (exfalso; omega))
    | (refine GT.condN rfl (fun h => ?_) (fun h => ?_) <;> try (exfalso; omega))
    | refine GP.endR1 rfl ?_)
    · rw [firstNZ_take hx hz h]
    · exact GP.invN (ns.length - (i + 1)) (by omega) ⟨i + 1, by omega, rfl, take_zero hx hz h, asub_cons rfl (asub_cons rfl (asub_cons rfl asub_nil)), rfl, rfl⟩
  ·
    repeat' (first
    | refine GL.sf rfl rfl rfl rfl ?_
    | refine GL.done ?_
    | refine GP.thenN ?_
    | refine GT.seq ?_
    | refine GT.region ?_
    | refine GT.ret ?_
    | refine GT.exit ?_
    | refine GP.thenE ?_
    | refine GP.hit ?_
    | refine GP.invE ?_
    | (refine GT.condD rfl (fun h => ?_) (fun h => ?_) <;> try (exfalso; omega))
    | refine GP.endR1 rfl ?_)
    rw [firstNZ_all (by rw [List.take_of_length_le hge] at hz; exact hz)]
theorem d_first42 {A : AW} {b f l c : Nat} (ns : List Int) (hl : ns.length = l) (hlen : Nat.ble l 1000000 = true) (h : A.rd b f l = some (ns.map (.int .i64))) : AC Tryd.prog 42 [.slice (some ⟨b, f, none⟩) l c] A (isR (.int .i64 (firstNZ ns)) A) := by
  subst hl
  exact AC.is1 (d_first42s ns c (Nat.le_of_ble_eq_true hlen)) ⟨8, rfl⟩ (b := b) (g := f) ⟨by simpa using h, plain_ints⟩ (.sl (g := 0) rfl rfl .nil)
theorem d_first71s (ns : List Int) (c : Nat) (hlen : ns.length ≤ 1000000) : AC Tryd.prog 71 [.slice (some ⟨0, 0, none⟩) ns.length c] (AW.of [(0, .cells (ns.map (.int .i64)) 48)] 1 1 0) (fun u _ => u = .int .i64 (firstNZ ns)) := by
  refine AC.go Tryd.func71 rfl rfl ?_
  repeat' (first
  | refine GL.sf rfl rfl rfl rfl ?_
  | refine GL.sv rfl rfl rfl rfl ?_
  | refine GL.done ?_
  | refine GP.thenN ?_
  | refine GT.seq ?_
  | refine GT.region ?_
  | refine GT.block ?_)
  refine GT.loop (fun k a L nx => ∃ i : Nat, i ≤ ns.length ∧ k = ns.length - i ∧ (∀ y ∈ ns.take i, y = 0) ∧ asub [(5, .slice (some ⟨0, 0, none⟩) ns.length c), (6, .int .i64 ns.length), (7, .int .i64 i)] a ∧ L = [(0, .cells (ns.map (.int .i64)) 48)] ∧ nx = 1) ns.length
    ⟨0, by omega, by omega, by simp, asub_cons rfl (asub_cons rfl (asub_cons rfl asub_nil)), rfl, rfl⟩ ?_
  rintro k a L nx ⟨i, hi, rfl, hz, hs, rfl, rfl⟩
  refine GT.keep hs ?_
  clear hs
  rcases Nat.lt_or_ge i ns.length with hlt | hge
  · obtain ⟨x, hx⟩ : ∃ x, ns[i]? = some x := ⟨_, List.getElem?_eq_getElem hlt⟩
    have hx' : (ns.map (Value.int .i64))[0 + (i : Int).toNat * 1]? = some (.int .i64 x) := by simp [hx]
    repeat' (first
    | refine GL.sf rfl rfl rfl rfl ?_
    | refine GL.done ?_
    | refine GP.thenN ?_
    | refine GT.seq ?_
    | refine GT.region ?_
    | refine GL.v rfl rfl rfl (by first | exact GO.indexS rfl rfl rfl rfl rfl (by omega) | exact GO.loadC rfl rfl rfl rfl rfl hx' | exact GO.add rfl rfl rfl (by omega)) ?_
    | refine GT.skip ?_
    | refine GT.block ?_
    | refine GT.ret ?_
    | refine GP.thenR ?_
    | refine GP.inN ?_
    | refine GP.inR ?_
    | refine GP.invR ?_
    | (refine GT.condD rfl (fun h => ?_) (fun h => ?_) <;> try (exfalso; omega))
    | (refine GT.condN rfl (fun h => ?_) (fun h => ?_) <;> try (exfalso; omega))
    | refine GP.endR1 rfl ?_)
    · rw [firstNZ_take hx hz h]
    · exact GP.invN (ns.length - (i + 1)) (by omega) ⟨i + 1, by omega, rfl, take_zero hx hz h, asub_cons rfl (asub_cons rfl (asub_cons rfl asub_nil)), rfl, rfl⟩
  ·
    repeat' (first
    | refine GL.sf rfl rfl rfl rfl ?_
    | refine GL.done ?_
    | refine GP.thenN ?_
    | refine GT.seq ?_
    | refine GT.region ?_
    | refine GT.ret ?_
    | refine GT.exit ?_
    | refine GP.thenE ?_
    | refine GP.hit ?_
    | refine GP.invE ?_
    | (refine GT.condD rfl (fun h => ?_) (fun h => ?_) <;> try (exfalso; omega))
    | refine GP.endR1 rfl ?_)
    rw [firstNZ_all (by rw [List.take_of_length_le hge] at hz; exact hz)]
theorem d_first71 {A : AW} {b f l c : Nat} (ns : List Int) (hl : ns.length = l) (hlen : Nat.ble l 1000000 = true) (h : A.rd b f l = some (ns.map (.int .i64))) : AC Tryd.prog 71 [.slice (some ⟨b, f, none⟩) l c] A (isR (.int .i64 (firstNZ ns)) A) := by
  subst hl
  exact AC.is1 (d_first71s ns c (Nat.le_of_ble_eq_true hlen)) ⟨8, rfl⟩ (b := b) (g := f) ⟨by simpa using h, plain_ints⟩ (.sl (g := 0) rfl rfl .nil)
end Go.M
namespace Go.M
open Go.Proofs
set_option maxRecDepth 8000
set_option maxHeartbeats 4000000
theorem d_zero80 {A : AW} (a b : Int) : AC Tryd.prog 80 [.agg #[.int .i64 a, .int .i64 b]] A (isR (.bool (decide (a = 0 ∧ b = 0))) A) := by
  refine AC.is0 ?_ ⟨8, rfl⟩ (.flat (k := 16) rfl .nil)
  refine AC.go Tryd.func80 rfl rfl ?_
  repeat' (first
  | refine GL.sf rfl rfl rfl rfl ?_
  | refine GL.done ?_
  | refine GP.thenN ?_
  | refine GT.seq ?_
  | refine GT.region ?_
  | refine GL.unguard rfl rfl ?_
  | refine GL.skip rfl rfl rfl rfl ?_
  | refine GT.ret ?_
  | (refine GL.forkD rfl rfl (fun h => ?_) (fun h => ?_) <;> try (exfalso; omega))
  | refine GP.endR1 rfl ?_)
  · simp [h]
  · simp [h]
def rpartNs (a b m : Int) : List Int := [whenI (withinB a (0 - m) m) 3, whenI (withinB b (0 - m) m) 3]
theorem d_part79 {A : AW} (a b m : Int) (hm : 0 ≤ m ∧ m ≤ 1000000) : AC Tryd.prog 79 [.agg #[.int .i64 a, .int .i64 b], .int .i64 m] A (isR (.int .i64 (firstNZ (rpartNs a b m))) A) := by
  refine AC.is0 ?_ ⟨8, rfl⟩ (.flat (k := 16) rfl (.flat (k := 8) rfl .nil))
  refine AC.go Tryd.func79 rfl rfl ?_
  repeat' (first
  | refine GT.draws (id := 1) [[], [0], [], [2], [], [0, 1, 2, 3, 4], [], [6], [], [8], [], [0, 1, 2, 3, 4, 5, 6, 7, 8, 9, 10], [0, 1, 2, 3, 4, 5, 6, 7, 8, 9, 10, 11], [0, 1, 2, 3, 4, 5, 6, 7, 8, 9, 10, 11, 12], [0, 1, 2, 3, 4, 5, 6, 7, 8, 9, 10, 11, 12, 13]] [12] (by kernel_rfl) ?_
  | refine GL.sf rfl rfl rfl rfl ?_
  | refine GL.done ?_
  | refine GP.thenN ?_
  | refine GT.seq ?_
  | refine GT.region ?_
  | refine GD.li rfl rfl (by exact onAt.none rfl) rfl (by repeat first | exact AllG.nil rfl | refine AllG.cons rfl (by first | exact GO.sf rfl rfl | exact GO.call rfl rfl Tryd.func59 rfl rfl rfl (d_within59 _ _ _) | exact GO.call rfl rfl Tryd.func53 rfl rfl rfl (d_first53 (rpartNs a b m) rfl rfl rfl) | exact GO.sub rfl rfl rfl (by omega)) ?_) ?_
  | refine GD.he rfl rfl rfl (by exact onAt.none rfl) rfl (by exact GO.sf rfl rfl) ?_ ?_
  | refine GD.done rfl rfl rfl ?_
  | exact AllJs.nil rfl
  | refine GT.ret ?_
  | refine GP.endR1 rfl ?_)
  rfl
def rsignalNs (a b c d e f : Int) : List Int := [firstNZ (rpartNs a b 10000), firstNZ (rpartNs c d 10000), firstNZ (rpartNs e f 10000), whenI (decide (a = 0 ∧ b = 0)) 6]
theorem d_signal36 {A : AW} (a b c d e f : Int) : AC Tryd.prog 36 [.agg #[.int .i64 a, .int .i64 b, .int .i64 c, .int .i64 d, .int .i64 e, .int .i64 f]] A (isR (.int .i64 (firstNZ (rsignalNs a b c d e f))) A) := by
  refine AC.is0 ?_ ⟨8, rfl⟩ (.flat (k := 32) rfl .nil)
  refine AC.go Tryd.func36 rfl rfl ?_
  repeat' (first
  | refine GT.draws (id := 1) [[], [0], [0, 1], [], [3], [0, 1, 2, 3, 4], [], [6], [0, 1, 2, 3, 4, 5, 6, 7], [], [9], [0, 1, 2, 3, 4, 5, 6, 7, 8, 9, 10], [0, 1, 2, 3, 4, 5, 6, 7, 8, 9, 10, 11], [0, 1, 2, 3, 4, 5, 6, 7, 8, 9, 10, 11, 12], [0, 1, 2, 3, 4, 5, 6, 7, 8, 9, 10, 11, 12, 13], [0, 1, 2, 3, 4, 5, 6, 7, 8, 9, 10, 11, 12, 13, 14]] [13] (by kernel_rfl) ?_
  | refine GL.sf rfl rfl rfl rfl ?_
  | refine GL.done ?_
  | refine GP.thenN ?_
  | refine GT.seq ?_
  | refine GT.region ?_
  | refine GD.li rfl rfl (by exact onAt.none rfl) rfl (by repeat first | exact AllG.nil rfl | refine AllG.cons rfl (by first | exact GO.sf rfl rfl | exact GO.call rfl rfl Tryd.func79 rfl rfl rfl (d_part79 _ _ _ (by decide)) | exact GO.call rfl rfl Tryd.func80 rfl rfl rfl (d_zero80 _ _) | exact GO.call rfl rfl Tryd.func55 rfl rfl rfl (d_when55 _ _) | exact GO.call rfl rfl Tryd.func53 rfl rfl rfl (d_first53 (rsignalNs a b c d e f) rfl rfl rfl)) ?_) ?_
  | refine GD.he rfl rfl rfl (by exact onAt.none rfl) rfl (by exact GO.sf rfl rfl) ?_ ?_
  | refine GD.done rfl rfl rfl ?_
  | exact AllJs.nil rfl
  | refine GT.ret ?_
  | refine GP.endR1 rfl ?_)
  rfl
def rintervalNs (a b lo hi : Int) : List Int := [whenI (withinB a lo hi) 3, whenI (withinB b lo hi) 3, whenI (decide (b < a)) 11]
theorem d_interval81 {A : AW} (a b lo hi : Int) : AC Tryd.prog 81 [.agg #[.int .i64 a, .int .i64 b], .int .i64 lo, .int .i64 hi] A (isR (.int .i64 (firstNZ (rintervalNs a b lo hi))) A) := by
  refine AC.is0 ?_ ⟨8, rfl⟩ (.flat (k := 16) rfl (.flat (k := 8) rfl (.flat (k := 8) rfl .nil)))
  refine AC.go Tryd.func81 rfl rfl ?_
  repeat' (first
  | refine GT.draws (id := 1) [[], [0], [], [], [0, 1, 2, 3], [], [5], [], [], [0, 1, 2, 3, 4, 5, 6, 7, 8], [], [10], [], [12], [10, 11, 12, 13], [0, 1, 2, 3, 4, 5, 6, 7, 8, 9, 10, 11, 12, 13, 14], [0, 1, 2, 3, 4, 5, 6, 7, 8, 9, 10, 11, 12, 13, 14, 15], [0, 1, 2, 3, 4, 5, 6, 7, 8, 9, 10, 11, 12, 13, 14, 15, 16], [0, 1, 2, 3, 4, 5, 6, 7, 8, 9, 10, 11, 12, 13, 14, 15, 16, 17]] [16] (by kernel_rfl) ?_
  | refine GL.sf rfl rfl rfl rfl ?_
  | refine GL.done ?_
  | refine GP.thenN ?_
  | refine GT.seq ?_
  | refine GT.region ?_
  | refine GD.li rfl rfl (by exact onAt.none rfl) rfl (by repeat first | exact AllG.nil rfl | refine AllG.cons rfl (by first | exact GO.sf rfl rfl | exact GO.call rfl rfl Tryd.func59 rfl rfl rfl (d_within59 _ _ _) | exact GO.call rfl rfl Tryd.func55 rfl rfl rfl (d_when55 _ _) | exact GO.call rfl rfl Tryd.func53 rfl rfl rfl (d_first53 (rintervalNs a b lo hi) rfl rfl rfl)) ?_) ?_
  | refine GD.he rfl rfl rfl (by exact onAt.none rfl) rfl (by exact GO.sf rfl rfl) ?_ ?_
  | refine GD.done rfl rfl rfl ?_
  | exact AllJs.nil rfl
  | refine GT.ret ?_
  | refine GP.endR1 rfl ?_)
  rfl
theorem d_limits78 {A : AW} (a b : Int) : AC Tryd.prog 78 [.agg #[.int .i64 a, .int .i64 b]] A (isR (.int .i64 (firstNZ (rintervalNs a b (-10000) 10000))) A) := by
  refine AC.is0 ?_ ⟨8, rfl⟩ (.flat (k := 16) rfl .nil)
  refine AC.go Tryd.func78 rfl rfl ?_
  repeat' (first
  | refine GL.sf rfl rfl rfl rfl ?_
  | refine GL.done ?_
  | refine GP.thenN ?_
  | refine GT.seq ?_
  | refine GT.region ?_
  | refine GL.v rfl rfl rfl (by exact GO.call rfl rfl Tryd.func81 rfl rfl rfl (d_interval81 _ _ _ _)) ?_
  | refine GT.ret ?_
  | refine GP.endR1 rfl ?_)
  rfl
def rreceiverNs (s f l a b : Int) : List Int := [whenI (withinB s 1 1000) 3, whenI (withinB f 1 1000) 3, whenI (withinB l 0 200000000) 3, firstNZ (rintervalNs a b (-10000) 10000)]
theorem d_receiver37 {A : AW} (s f l a b : Int) : AC Tryd.prog 37 [.agg #[.int .i64 s, .int .i64 f, .int .i64 l, .int .i64 a, .int .i64 b]] A (isR (.int .i64 (firstNZ (rreceiverNs s f l a b))) A) := by
  refine AC.is0 ?_ ⟨8, rfl⟩ (.flat (k := 32) rfl .nil)
  refine AC.go Tryd.func37 rfl rfl ?_
  repeat' (first
  | refine GT.draws (id := 1) [[], [0], [0, 1], [], [3], [0, 1, 2, 3, 4], [], [6], [0, 1, 2, 3, 4, 5, 6, 7], [], [9], [0, 1, 2, 3, 4, 5, 6, 7, 8, 9, 10], [0, 1, 2, 3, 4, 5, 6, 7, 8, 9, 10, 11], [0, 1, 2, 3, 4, 5, 6, 7, 8, 9, 10, 11, 12], [0, 1, 2, 3, 4, 5, 6, 7, 8, 9, 10, 11, 12, 13]] [12] (by kernel_rfl) ?_
  | refine GL.sf rfl rfl rfl rfl ?_
  | refine GL.done ?_
  | refine GP.thenN ?_
  | refine GT.seq ?_
  | refine GT.region ?_
  | refine GD.li rfl rfl (by exact onAt.none rfl) rfl (by repeat first | exact AllG.nil rfl | refine AllG.cons rfl (by first | exact GO.sf rfl rfl | exact GO.call rfl rfl Tryd.func59 rfl rfl rfl (d_within59 _ _ _) | exact GO.call rfl rfl Tryd.func81 rfl rfl rfl (d_interval81 _ _ _ _) | exact GO.call rfl rfl Tryd.func53 rfl rfl rfl (d_first53 (rreceiverNs s f l a b) rfl rfl rfl)) ?_) ?_
  | refine GD.he rfl rfl rfl (by exact onAt.none rfl) rfl (by exact GO.sf rfl rfl) ?_ ?_
  | refine GD.done rfl rfl rfl ?_
  | exact AllJs.nil rfl
  | refine GT.ret ?_
  | refine GP.endR1 rfl ?_)
  rfl
/-! What the checks say. -/
def SignalOk (a b c d e f : Int) : Prop := ((-10000 ≤ a ∧ a ≤ 10000) ∧ (-10000 ≤ b ∧ b ≤ 10000)) ∧ ((-10000 ≤ c ∧ c ≤ 10000) ∧ (-10000 ≤ d ∧ d ≤ 10000)) ∧ ((-10000 ≤ e ∧ e ≤ 10000) ∧ (-10000 ≤ f ∧ f ≤ 10000)) ∧ ¬(a = 0 ∧ b = 0)
def ReceiverOk (s f l a b : Int) : Prop := (1 ≤ s ∧ s ≤ 1000) ∧ (1 ≤ f ∧ f ≤ 1000) ∧ (0 ≤ l ∧ l ≤ 200000000) ∧ (-10000 ≤ a ∧ a ≤ 10000) ∧ (-10000 ≤ b ∧ b ≤ 10000) ∧ a ≤ b
theorem signal_ok {a b c d e f : Int} (h : firstNZ (rsignalNs a b c d e f) = 0) : SignalOk a b c d e f := by
  have k := of_firstNZ h
  simp only [rsignalNs, List.mem_cons, List.not_mem_nil, or_false, forall_eq_or_imp, forall_eq] at k
  obtain ⟨k1, k2, k3, k4⟩ := k
  have p : ∀ {a b : Int}, firstNZ (rpartNs a b 10000) = 0 → (-10000 ≤ a ∧ a ≤ 10000) ∧ (-10000 ≤ b ∧ b ≤ 10000) := fun h => by
    have k := of_firstNZ h
    simp only [rpartNs, List.mem_cons, List.not_mem_nil, or_false, forall_eq_or_imp, forall_eq] at k
    have h1 := of_withinB (of_whenI k.1 (by decide))
    have h2 := of_withinB (of_whenI k.2 (by decide))
    omega
  exact ⟨p k1, p k2, p k3, by have := of_whenI k4 (by decide); simpa using this⟩
theorem interval_ok {a b lo hi : Int} (h : firstNZ (rintervalNs a b lo hi) = 0) : (lo ≤ a ∧ a ≤ hi) ∧ (lo ≤ b ∧ b ≤ hi) ∧ a ≤ b := by
  have k := of_firstNZ h
  simp only [rintervalNs, List.mem_cons, List.not_mem_nil, or_false, forall_eq_or_imp, forall_eq] at k
  exact ⟨of_withinB (of_whenI k.1 (by decide)), of_withinB (of_whenI k.2.1 (by decide)), by have := of_whenI k.2.2 (by decide); simpa using this⟩
theorem receiver_ok {s f l a b : Int} (h : firstNZ (rreceiverNs s f l a b) = 0) : ReceiverOk s f l a b := by
  have k := of_firstNZ h
  simp only [rreceiverNs, List.mem_cons, List.not_mem_nil, or_false, forall_eq_or_imp, forall_eq] at k
  have h4 := interval_ok k.2.2.2
  exact ⟨of_withinB (of_whenI k.1 (by decide)), of_withinB (of_whenI k.2.1 (by decide)), of_withinB (of_whenI k.2.2.1 (by decide)), h4.1, h4.2.1, h4.2.2⟩
end Go.M
namespace Go.M
open Go.Proofs
set_option maxRecDepth 8000
set_option maxHeartbeats 4000000
def stepsV : List Value := [.func (.func 194) #[] #[], .func (.func 195) #[] #[], .func (.func 194) #[] #[], .func (.func 196) #[] #[], .func (.func 196) #[] #[]]
/-- The program's variables. -/
def GOk (A : AW) : Prop := A.gl = 3 ∧ A.objs 0 = some (.cells [.int .i64 0, .int .i64 0] 31) ∧ A.objs 1 = some (.cells stepsV 242) ∧ ∃ c e, A.objs 2 = some (.cells c e)
theorem AC.isG0 {f : FuncId} {args : List Value} {R : Value → Prop} {A : AW} (hG : GOk A) (h : AC Tryd.prog f args (AW.of [(2, .cells [] 0), (1, .cells stepsV 242), (0, .cells [.int .i64 0, .int .i64 0] 31)] 3 3 3) (fun u _ => R u ∧ ∃ j, noAddrs j [u] = true)) (ha : AR (fun j => if j < 3 then some (j, 0) else none) args args) : AC Tryd.prog f args A (fun v A1 => R v ∧ A1 = A) := by
  obtain ⟨hgl, h0, h1, c2, e2, h2⟩ := hG
  refine AC.pureOfG (fun j => if j < 3 then some (j, 0) else none) h (fun j x hx => by split at hx <;> simp_all) (fun j hj => ?_) (fun j o hj => ?_) ha hgl (fun g hg => by simp [hg]) (Nat.le_refl _)
  · by_cases q : j < 3
    · exfalso
      match j, q with
      | 0, _ => simp [alook] at hj
      | 1, _ => simp [alook] at hj
      | 2, _ => simp [alook] at hj
    · simp [q]
  · match j with
    | 0 => simp only [alook] at hj; simp at hj; subst hj; exact ⟨by decide, (0, 0), by simp, by show A.rd 0 0 2 = _; unfold AW.rd; rw [h0]; rfl, 8, rfl⟩
    | 1 => simp only [alook] at hj; simp at hj; subst hj; exact ⟨by decide, (1, 0), by simp, by show A.rd 1 0 5 = _; unfold AW.rd; rw [h1]; rfl, 8, rfl⟩
    | 2 => simp only [alook] at hj; simp at hj; subst hj; exact ⟨by decide, (2, 0), by simp, by show A.rd 2 0 0 = _; unfold AW.rd; rw [h2]; simp, 8, rfl⟩
    | j + 3 => simp [alook] at hj
theorem AC.isG {f : FuncId} {args : List Value} {v : Value} {A : AW} (hG : GOk A) (h : AC Tryd.prog f args (AW.of [(2, .cells [] 0), (1, .cells stepsV 242), (0, .cells [.int .i64 0, .int .i64 0] 31)] 3 3 3) (fun u _ => u = v)) (hv : ∃ j, noAddrs j [v] = true) (ha : AR (fun j => if j < 3 then some (j, 0) else none) args args) : AC Tryd.prog f args A (isR v A) :=
  AC.isG0 (R := fun u => u = v) hG (h.mono fun u _ e => ⟨e, e ▸ hv⟩) ha
theorem d_ap3 {cs : List Value} {f : Nat} : apart Tryd.prog 3 cs f = cs[f]? := by simp [apart, Tryd.underlying3, isAggT]
theorem d_aeq31 (a b c d : Int) : aeq Tryd.prog 20 31 (.agg #[.int .i64 a, .int .i64 b]) (.agg #[.int .i64 c, .int .i64 d]) = some (decide (a = c ∧ b = d)) := by
  simp [aeq, aeqF, Tryd.underlying31, Tryd.stoodInHeld31, d_ap3, Tryd.underlying3, Bool.decide_and]
  rfl
def tpartNs (a b m : Int) : List Int := [whenI (withinB a (-m) m) 3, whenI (withinB b (-m) m) 3]
theorem d_part48 {A : AW} (a b m : Int) (hm : 0 ≤ m ∧ m ≤ 1000000) : AC Tryd.prog 48 [.agg #[.int .i64 a, .int .i64 b], .int .i64 m] A (isR (.int .i64 (firstNZ (tpartNs a b m))) A) := by
  refine AC.is0 ?_ ⟨8, rfl⟩ (.flat (k := 16) rfl (.flat (k := 8) rfl .nil))
  refine AC.go Tryd.func48 rfl rfl ?_
  repeat' (first
  | refine GT.draws (id := 1) [[], [0], [], [2], [], [0, 1, 2, 3, 4], [], [6], [], [8], [], [0, 1, 2, 3, 4, 5, 6, 7, 8, 9, 10], [0, 1, 2, 3, 4, 5, 6, 7, 8, 9, 10, 11], [0, 1, 2, 3, 4, 5, 6, 7, 8, 9, 10, 11, 12], [0, 1, 2, 3, 4, 5, 6, 7, 8, 9, 10, 11, 12, 13]] [12] (by kernel_rfl) ?_
  | refine GL.sf rfl rfl rfl rfl ?_
  | refine GL.done ?_
  | refine GP.thenN ?_
  | refine GT.seq ?_
  | refine GT.region ?_
  | refine GD.li rfl rfl (by exact onAt.none rfl) rfl (by repeat first | exact AllG.nil rfl | refine AllG.cons rfl (by first | exact GO.sf rfl rfl | exact GO.call rfl rfl Tryd.func44 rfl rfl rfl (d_within44 _ _ _) | exact GO.call rfl rfl Tryd.func42 rfl rfl rfl (d_first42 (tpartNs a b m) rfl rfl rfl) | exact GO.neg rfl rfl (by omega)) ?_) ?_
  | refine GD.he rfl rfl rfl (by exact onAt.none rfl) rfl (by exact GO.sf rfl rfl) ?_ ?_
  | refine GD.done rfl rfl rfl ?_
  | exact AllJs.nil rfl
  | refine GT.ret ?_
  | refine GP.endR1 rfl ?_)
  rfl
theorem d_inside131 {A : AW} {p : Nat} (a b bad : Int) (h : A.rd p 0 1 = some [.int .i64 bad]) : AC Tryd.prog 131 [.agg #[.int .i64 a, .int .i64 b], .pointer (some ⟨p, 0, none⟩)] A (isR (.int .i64 (whenI (!decide (firstNZ (tpartNs a b 10000) = 0)) bad)) A) := by
  refine AC.is1 (o := .cells [.int .i64 bad] 48) (b := p) (g := 0) (args := [.agg #[.int .i64 a, .int .i64 b], .pointer (some ⟨0, 0, none⟩)]) ?_ ⟨16, rfl⟩ ⟨h, 64, rfl⟩ (.flat (k := 16) rfl (.ptr (g := 0) rfl rfl .nil))
  refine AC.go Tryd.func131 rfl rfl ?_
  clear h
  repeat' (first
  | refine GT.draws (id := 1) [[], [0], [0, 1], [], [0, 1, 2, 3], [0, 1, 2, 3, 4]] [] (by kernel_rfl) ?_
  | refine GL.sf rfl rfl rfl rfl ?_
  | refine GL.done ?_
  | refine GP.thenN ?_
  | refine GT.seq ?_
  | refine GT.region ?_
  | refine GD.li rfl rfl (by exact onAt.none rfl) rfl (by repeat first | exact AllG.nil rfl | refine AllG.cons rfl (by first | exact GO.sf rfl rfl | exact GO.call rfl rfl Tryd.func48 rfl rfl rfl (d_part48 _ _ _ (by decide)) | exact GO.call rfl rfl Tryd.func49 rfl rfl rfl (d_when49 _ _)) ?_) ?_
  | refine GD.done rfl rfl rfl ?_
  | refine GT.ret ?_
  | refine GP.endR1 rfl ?_)
  rfl
def insideNs (a b c d e f bad : Int) : List Int := [whenI (!decide (firstNZ (tpartNs a b 10000) = 0)) bad, whenI (!decide (firstNZ (tpartNs c d 10000) = 0)) bad, whenI (!decide (firstNZ (tpartNs e f 10000) = 0)) bad]
theorem d_inside91 {A : AW} (a b c d e f bad : Int) : AC Tryd.prog 91 [.agg #[.int .i64 a, .int .i64 b, .int .i64 c, .int .i64 d, .int .i64 e, .int .i64 f], .int .i64 bad] A (isR (.int .i64 (firstNZ (insideNs a b c d e f bad))) A) := by
  refine AC.is0 ?_ ⟨8, rfl⟩ (.flat (k := 32) rfl (.flat (k := 8) rfl .nil))
  refine AC.go Tryd.func91 rfl rfl ?_
  repeat' (first
  | refine GL.v rfl rfl rfl (GO.call rfl rfl Tryd.func130 rfl rfl rfl (AC.go Tryd.func130 rfl rfl (by repeat' (first | exact ⟨rfl, rfl⟩ | refine GT.unroll 4 ?_ | refine GL.sf rfl rfl rfl rfl ?_ | refine GL.nf rfl rfl rfl ?_ | refine GL.done ?_ | refine GP.thenN ?_ | refine GT.seq ?_ | refine GT.region ?_ | refine GL.v rfl rfl rfl (by first | exact GO.callV rfl rfl rfl Tryd.func131 rfl rfl rfl (d_inside131 _ _ _ rfl) | exact GO.add rfl rfl rfl (by omega)) ?_ | refine GT.skip ?_ | refine GT.block ?_ | refine GT.ret ?_ | refine GT.exit ?_ | refine GP.thenE ?_ | refine GP.inN ?_ | refine GP.hit ?_ | refine GP.againN ?_ | refine GP.againE ?_ | refine GU.step ?_ | refine GT.condT rfl ?_ | refine GT.condF rfl ?_ | refine GP.endR1 rfl ?_)))) ?_
  | refine GL.v rfl rfl rfl (GO.call rfl rfl Tryd.func129 rfl rfl rfl (AC.go Tryd.func129 rfl rfl (by repeat' (first | exact ⟨rfl, rfl⟩ | refine GL.sf rfl rfl rfl rfl ?_ | refine GL.nf rfl rfl rfl ?_ | refine GL.done ?_ | refine GP.thenN ?_ | refine GT.seq ?_ | refine GT.region ?_ | refine GT.ret ?_ | refine GP.endR1 rfl ?_)))) ?_
  | refine GL.sf rfl rfl rfl rfl ?_
  | refine GL.nf rfl rfl rfl ?_
  | refine GL.done ?_
  | refine GP.thenN ?_
  | refine GT.seq ?_
  | refine GT.region ?_
  | refine GL.v rfl rfl rfl (by first | exact GO.call rfl rfl Tryd.func42 rfl rfl rfl (d_first42 (insideNs a b c d e f bad) rfl rfl rfl) | exact GO.mkfn rfl (fun _ h => by cases h) rfl rfl) ?_
  | refine GT.ret ?_
  | refine GP.endR1 rfl ?_)
  rfl
theorem d_signal43 {A : AW} (hG : GOk A) (a b c d e f : Int) : AC Tryd.prog 43 [.agg #[.int .i64 a, .int .i64 b, .int .i64 c, .int .i64 d, .int .i64 e, .int .i64 f]] A (isR (.int .i64 (firstNZ [firstNZ (insideNs a b c d e f 3), whenI (decide (a = 0 ∧ b = 0)) 6])) A) := by
  refine AC.isG hG ?_ ⟨8, rfl⟩ (.flat (k := 32) rfl .nil)
  refine AC.go Tryd.func43 rfl rfl ?_
  repeat' (first
  | refine GT.draws (id := 1) [[], [0], [], [2], [], [2, 3, 4], [0, 1, 2, 3, 4, 5], [0, 1, 2, 3, 4, 5, 6], [0, 1, 2, 3, 4, 5, 6, 7], [0, 1, 2, 3, 4, 5, 6, 7, 8]] [7] (by kernel_rfl) ?_
  | refine GL.sf rfl rfl rfl rfl ?_
  | refine GL.done ?_
  | refine GP.thenN ?_
  | refine GT.seq ?_
  | refine GT.region ?_
  | refine GD.li rfl rfl (by exact onAt.none rfl) rfl (by repeat first | exact AllG.nil rfl | refine AllG.cons rfl (by first | exact GO.sf rfl rfl | exact GO.call rfl rfl Tryd.func91 rfl rfl rfl (d_inside91 _ _ _ _ _ _ _) | exact GO.call rfl rfl Tryd.func49 rfl rfl rfl (d_when49 _ _) | exact GO.call rfl rfl Tryd.func42 rfl rfl rfl (d_first42 [firstNZ (insideNs a b c d e f 3), whenI (decide (a = 0 ∧ b = 0)) 6] rfl rfl rfl) | exact GO.eq rfl rfl rfl rfl rfl Tryd.eqGuardType31 (d_aeq31 _ _ _ _) rfl) ?_) ?_
  | refine GD.he rfl rfl rfl (by exact onAt.none rfl) rfl (by exact GO.sf rfl rfl) ?_ ?_
  | refine GD.done rfl rfl rfl ?_
  | exact AllJs.nil rfl
  | refine GT.ret ?_
  | refine GP.endR1 rfl ?_)
  rfl
end Go.M
