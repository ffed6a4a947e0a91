/- Functions of the given program, walked (no condition beyond what each theorem says). -/
import Derived.Test.YtfhodefiknfccaaT4
set_option linter.unusedVariables false
set_option linter.unusedSimpArgs false
namespace Go.M
open Go.Proofs
set_option maxRecDepth 8000
set_option maxHeartbeats 4000000
theorem when32 {A : AW} (b : Bool) (e : Int) : AC Try.prog 32 [.bool b, .int .i64 e] A (isR (.int .i64 (whenI b e)) A) := by
  refine AC.is0 ?_ ⟨8, rfl⟩ (.flat (k := 8) rfl (.flat (k := 8) rfl .nil))
  refine AC.go Try.func32 rfl rfl ?_
  repeat' (first
    | refine GL.sf rfl rfl rfl rfl ?_
    | refine GL.nf rfl rfl rfl ?_
    | refine GL.sv rfl rfl rfl rfl ?_
    | refine GL.sn rfl rfl rfl ?_
    | refine GL.done ?_
    | refine GP.thenN ?_
    | refine GT.seq ?_
    | refine GT.region ?_
    | refine GL.unguard rfl rfl ?_
    | refine GL.skip rfl rfl rfl rfl ?_
    | refine GL.skipU rfl rfl rfl rfl ?_
    | refine GL.v rfl rfl rfl (by first | exact GO.add rfl rfl rfl (by omega) | exact GO.sub rfl rfl rfl (by omega) | exact GO.mul rfl rfl rfl (by omega) | exact GO.rem rfl rfl rfl (by omega) (by omega) | exact GO.quo rfl rfl rfl (by omega) (by omega) | exact GO.neg rfl rfl (by omega) | exact GO.conv rfl rfl rfl rfl (i64_wrap (by omega) (by omega)) | exact GO.conv rfl rfl rfl rfl rfl) ?_
    | refine GT.skip ?_
    | refine GT.block ?_
    | refine GT.ret ?_
    | refine GT.exit ?_
    | refine GP.thenR ?_
    | refine GP.thenE ?_
    | refine GP.inN ?_
    | refine GP.inR ?_
    | refine GP.hit ?_
    | refine GP.miss rfl ?_
    | refine GP.againN ?_
    | refine GP.againR ?_
    | refine GP.againE ?_
    | refine GP.invR ?_
    | refine GP.invE ?_
    | refine GU.step ?_
    | refine GT.condT rfl ?_
    | refine GT.condF rfl ?_
    | (refine GT.condD rfl (fun h => ?_) (fun h => ?_) <;> try (exfalso; omega))
    | (refine GT.condN rfl (fun h => ?_) (fun h => ?_) <;> try (exfalso; omega))
    | (refine GT.condB rfl (fun h => ?_) (fun h => ?_))
    | (refine GL.forkD rfl rfl (fun h => ?_) (fun h => ?_) <;> try (exfalso; omega))
    | (refine GL.forkN rfl rfl (fun h => ?_) (fun h => ?_) <;> try (exfalso; omega))
    | (refine GL.forkB rfl rfl (fun h => ?_) (fun h => ?_))
    | refine GP.endR1 rfl ?_
    | refine GP.endR2 rfl ?_
    | refine GP.endN1 rfl ?_
    | refine GP.endR3 rfl ?_
    | refine GP.endN0 rfl ?_
    | refine GP.endR0 rfl ?_)
  all_goals (subst h; rfl)
theorem within33 {A : AW} (n lo hi : Int) : AC Try.prog 33 [.int .i64 n, .int .i64 lo, .int .i64 hi] A (isR (.int .i64 (whenI (withinB n lo hi) 3)) A) := by
  refine AC.is0 ?_ ⟨8, rfl⟩ (.flat (k := 8) rfl (.flat (k := 8) rfl (.flat (k := 8) rfl .nil)))
  refine AC.go Try.func33 rfl rfl ?_
  repeat' (first
    | refine GL.sf rfl rfl rfl rfl ?_
    | refine GL.nf rfl rfl rfl ?_
    | refine GL.sv rfl rfl rfl rfl ?_
    | refine GL.sn rfl rfl rfl ?_
    | refine GL.done ?_
    | refine GP.thenN ?_
    | refine GT.seq ?_
    | refine GT.region ?_
    | refine GL.unguard rfl rfl ?_
    | refine GL.skip rfl rfl rfl rfl ?_
    | refine GL.skipU rfl rfl rfl rfl ?_
    | refine GL.v rfl rfl rfl (by first | exact GO.call rfl rfl Try.func32 rfl rfl rfl (when32 _ _) | exact GO.add rfl rfl rfl (by omega) | exact GO.sub rfl rfl rfl (by omega) | exact GO.mul rfl rfl rfl (by omega) | exact GO.rem rfl rfl rfl (by omega) (by omega) | exact GO.quo rfl rfl rfl (by omega) (by omega) | exact GO.neg rfl rfl (by omega) | exact GO.conv rfl rfl rfl rfl (i64_wrap (by omega) (by omega)) | exact GO.conv rfl rfl rfl rfl rfl) ?_
    | refine GT.skip ?_
    | refine GT.block ?_
    | refine GT.ret ?_
    | refine GT.exit ?_
    | refine GP.thenR ?_
    | refine GP.thenE ?_
    | refine GP.inN ?_
    | refine GP.inR ?_
    | refine GP.hit ?_
    | refine GP.miss rfl ?_
    | refine GP.againN ?_
    | refine GP.againR ?_
    | refine GP.againE ?_
    | refine GP.invR ?_
    | refine GP.invE ?_
    | refine GU.step ?_
    | refine GT.condT rfl ?_
    | refine GT.condF rfl ?_
    | (refine GT.condD rfl (fun h => ?_) (fun h => ?_) <;> try (exfalso; omega))
    | (refine GT.condN rfl (fun h => ?_) (fun h => ?_) <;> try (exfalso; omega))
    | (refine GT.condB rfl (fun h => ?_) (fun h => ?_))
    | (refine GL.forkD rfl rfl (fun h => ?_) (fun h => ?_) <;> try (exfalso; omega))
    | (refine GL.forkN rfl rfl (fun h => ?_) (fun h => ?_) <;> try (exfalso; omega))
    | (refine GL.forkB rfl rfl (fun h => ?_) (fun h => ?_))
    | refine GP.endR1 rfl ?_
    | refine GP.endR2 rfl ?_
    | refine GP.endN1 rfl ?_
    | refine GP.endR3 rfl ?_
    | refine GP.endN0 rfl ?_
    | refine GP.endR0 rfl ?_)
  · simp [withinB, h]
  · simp [withinB, h]
theorem first28s (ns : List Int) (hlen : ns.length ≤ 1000000) : AC Try.prog 28 [.slice (some ⟨0, 0, none⟩) ns.length ns.length] (AW.of [(0, .cells (ns.map (.int .i64)) 34)] 1 1 0) (fun u _ => u = .int .i64 (firstNZ ns)) := by
  refine AC.go Try.func28 rfl rfl ?_
  repeat' (first
    | refine GL.sf rfl rfl rfl rfl ?_
    | refine GL.nf rfl rfl rfl ?_
    | refine GL.sv rfl rfl rfl rfl ?_
    | refine GL.sn rfl rfl rfl ?_
    | refine GL.done ?_
    | refine GP.thenN ?_
    | refine GT.seq ?_
    | refine GT.region ?_
    | refine GL.unguard rfl rfl ?_
    | refine GL.skip rfl rfl rfl rfl ?_
    | refine GL.skipU rfl rfl rfl rfl ?_
    | refine GL.v rfl rfl rfl (by first | exact GO.add rfl rfl rfl (by omega) | exact GO.sub rfl rfl rfl (by omega) | exact GO.mul rfl rfl rfl (by omega) | exact GO.rem rfl rfl rfl (by omega) (by omega) | exact GO.quo rfl rfl rfl (by omega) (by omega) | exact GO.neg rfl rfl (by omega) | exact GO.conv rfl rfl rfl rfl (i64_wrap (by omega) (by omega)) | exact GO.conv rfl rfl rfl rfl rfl) ?_
    | refine GT.skip ?_
    | refine GT.block ?_
    | refine GT.ret ?_
    | refine GT.exit ?_
    | refine GP.thenR ?_
    | refine GP.thenE ?_
    | refine GP.inN ?_
    | refine GP.inR ?_
    | refine GP.hit ?_
    | refine GP.miss rfl ?_
    | refine GP.againN ?_
    | refine GP.againR ?_
    | refine GP.againE ?_
    | refine GP.invR ?_
    | refine GP.invE ?_
    | refine GU.step ?_
    | refine GT.condT rfl ?_
    | refine GT.condF rfl ?_
    | (refine GT.condD rfl (fun h => ?_) (fun h => ?_) <;> try (exfalso; omega))
    | (refine GT.condN rfl (fun h => ?_) (fun h => ?_) <;> try (exfalso; omega))
    | (refine GT.condB rfl (fun h => ?_) (fun h => ?_))
    | (refine GL.forkD rfl rfl (fun h => ?_) (fun h => ?_) <;> try (exfalso; omega))
    | (refine GL.forkN rfl rfl (fun h => ?_) (fun h => ?_) <;> try (exfalso; omega))
    | (refine GL.forkB rfl rfl (fun h => ?_) (fun h => ?_))
    | refine GP.endR1 rfl ?_
    | refine GP.endR2 rfl ?_
    | refine GP.endN1 rfl ?_
    | refine GP.endR3 rfl ?_
    | refine GP.endN0 rfl ?_
    | refine GP.endR0 rfl ?_)
  refine GT.loop (fun k a L nx => ∃ i : Nat, i ≤ ns.length ∧ k = ns.length - i ∧ (∀ y ∈ ns.take i, y = 0) ∧ asub [(5, .slice (some ⟨0, 0, none⟩) ns.length ns.length), (6, .int .i64 ns.length), (7, .int .i64 i)] a ∧ L = [(0, .cells (ns.map (.int .i64)) 34)] ∧ nx = 1) ns.length
    ⟨0, by omega, by omega, by simp, asub_cons rfl (asub_cons rfl (asub_cons rfl asub_nil)), rfl, rfl⟩ ?_
  rintro k a L nx ⟨i, hi, rfl, hz, hs, rfl, rfl⟩
  refine GT.keep hs ?_
  clear hs
  rcases Nat.lt_or_ge i ns.length with hlt | hge
  · obtain ⟨x, hx⟩ : ∃ x, ns[i]? = some x := ⟨_, List.getElem?_eq_getElem hlt⟩
    have hx' : (ns.map (Value.int .i64))[0 + (i : Int).toNat * 1]? = some (.int .i64 x) := by simp [hx]
    repeat' (first
      | refine GL.sf rfl rfl rfl rfl ?_
      | refine GL.nf rfl rfl rfl ?_
      | refine GL.sv rfl rfl rfl rfl ?_
      | refine GL.sn rfl rfl rfl ?_
      | refine GL.done ?_
      | refine GP.thenN ?_
      | refine GT.seq ?_
      | refine GT.region ?_
      | refine GL.unguard rfl rfl ?_
      | refine GL.skip rfl rfl rfl rfl ?_
      | refine GL.skipU rfl rfl rfl rfl ?_
      | refine GL.v rfl rfl rfl (by first | exact GO.indexS rfl rfl rfl rfl rfl (by omega) | exact GO.loadC rfl rfl rfl rfl rfl hx' | exact GO.add rfl rfl rfl (by omega) | exact GO.sub rfl rfl rfl (by omega) | exact GO.mul rfl rfl rfl (by omega) | exact GO.rem rfl rfl rfl (by omega) (by omega) | exact GO.quo rfl rfl rfl (by omega) (by omega) | exact GO.neg rfl rfl (by omega) | exact GO.conv rfl rfl rfl rfl (i64_wrap (by omega) (by omega)) | exact GO.conv rfl rfl rfl rfl rfl) ?_
      | refine GT.skip ?_
      | refine GT.block ?_
      | refine GT.ret ?_
      | refine GT.exit ?_
      | refine GP.thenR ?_
      | refine GP.thenE ?_
      | refine GP.inN ?_
      | refine GP.inR ?_
      | refine GP.hit ?_
      | refine GP.miss rfl ?_
      | refine GP.againN ?_
      | refine GP.againR ?_
      | refine GP.againE ?_
      | refine GP.invR ?_
      | refine GP.invE ?_
      | refine GU.step ?_
      | refine GT.condT rfl ?_
      | refine GT.condF rfl ?_
      | (refine GT.condD rfl (fun h => ?_) (fun h => ?_) <;> try (exfalso; omega))
      | (refine GT.condN rfl (fun h => ?_) (fun h => ?_) <;> try (exfalso; omega))
      | (refine GT.condB rfl (fun h => ?_) (fun h => ?_))
      | (refine GL.forkD rfl rfl (fun h => ?_) (fun h => ?_) <;> try (exfalso; omega))
      | (refine GL.forkN rfl rfl (fun h => ?_) (fun h => ?_) <;> try (exfalso; omega))
      | (refine GL.forkB rfl rfl (fun h => ?_) (fun h => ?_))
      | refine GP.endR1 rfl ?_
      | refine GP.endR2 rfl ?_
      | refine GP.endN1 rfl ?_
      | refine GP.endR3 rfl ?_
      | refine GP.endN0 rfl ?_
      | refine GP.endR0 rfl ?_)
    · rw [firstNZ_take hx hz h]
    · exact GP.invN (ns.length - (i + 1)) (by omega) ⟨i + 1, by omega, rfl, take_zero hx hz h, asub_cons rfl (asub_cons rfl (asub_cons rfl asub_nil)), rfl, rfl⟩
  ·
    repeat' (first
      | refine GL.sf rfl rfl rfl rfl ?_
      | refine GL.nf rfl rfl rfl ?_
      | refine GL.sv rfl rfl rfl rfl ?_
      | refine GL.sn rfl rfl rfl ?_
      | refine GL.done ?_
      | refine GP.thenN ?_
      | refine GT.seq ?_
      | refine GT.region ?_
      | refine GL.unguard rfl rfl ?_
      | refine GL.skip rfl rfl rfl rfl ?_
      | refine GL.skipU rfl rfl rfl rfl ?_
      | refine GL.v rfl rfl rfl (by first | exact GO.add rfl rfl rfl (by omega) | exact GO.sub rfl rfl rfl (by omega) | exact GO.mul rfl rfl rfl (by omega) | exact GO.rem rfl rfl rfl (by omega) (by omega) | exact GO.quo rfl rfl rfl (by omega) (by omega) | exact GO.neg rfl rfl (by omega) | exact GO.conv rfl rfl rfl rfl (i64_wrap (by omega) (by omega)) | exact GO.conv rfl rfl rfl rfl rfl) ?_
      | refine GT.skip ?_
      | refine GT.block ?_
      | refine GT.ret ?_
      | refine GT.exit ?_
      | refine GP.thenR ?_
      | refine GP.thenE ?_
      | refine GP.inN ?_
      | refine GP.inR ?_
      | refine GP.hit ?_
      | refine GP.miss rfl ?_
      | refine GP.againN ?_
      | refine GP.againR ?_
      | refine GP.againE ?_
      | refine GP.invR ?_
      | refine GP.invE ?_
      | refine GU.step ?_
      | refine GT.condT rfl ?_
      | refine GT.condF rfl ?_
      | (refine GT.condD rfl (fun h => ?_) (fun h => ?_) <;> try (exfalso; omega))
      | (refine GT.condN rfl (fun h => ?_) (fun h => ?_) <;> try (exfalso; omega))
      | (refine GT.condB rfl (fun h => ?_) (fun h => ?_))
      | (refine GL.forkD rfl rfl (fun h => ?_) (fun h => ?_) <;> try (exfalso; omega))
      | (refine GL.forkN rfl rfl (fun h => ?_) (fun h => ?_) <;> try (exfalso; omega))
      | (refine GL.forkB rfl rfl (fun h => ?_) (fun h => ?_))
      | refine GP.endR1 rfl ?_
      | refine GP.endR2 rfl ?_
      | refine GP.endN1 rfl ?_
      | refine GP.endR3 rfl ?_
      | refine GP.endN0 rfl ?_
      | refine GP.endR0 rfl ?_)
    rw [firstNZ_all (by rw [List.take_of_length_le hge] at hz; exact hz)]
theorem first28 {A : AW} {b f l : Nat} (ns : List Int) (hl : ns.length = l) (hlen : Nat.ble l 1000000 = true) (h : A.rd b f l = some (ns.map (.int .i64))) : AC Try.prog 28 [.slice (some ⟨b, f, none⟩) l l] A (isR (.int .i64 (firstNZ ns)) A) := by
  subst hl
  exact AC.is1 (first28s ns (Nat.le_of_ble_eq_true hlen)) ⟨8, rfl⟩ (b := b) (g := f) ⟨by simpa using h, plain_ints⟩ (.sl (g := 0) rfl rfl .nil)
theorem when21 {A : AW} (b : Bool) (e : Int) : AC Try.prog 21 [.bool b, .int .i64 e] A (isR (.int .i64 (whenI b e)) A) := by
  refine AC.is0 ?_ ⟨8, rfl⟩ (.flat (k := 8) rfl (.flat (k := 8) rfl .nil))
  refine AC.go Try.func21 rfl rfl ?_
  repeat' (first
    | refine GL.sf rfl rfl rfl rfl ?_
    | refine GL.nf rfl rfl rfl ?_
    | refine GL.sv rfl rfl rfl rfl ?_
    | refine GL.sn rfl rfl rfl ?_
    | refine GL.done ?_
    | refine GP.thenN ?_
    | refine GT.seq ?_
    | refine GT.region ?_
    | refine GL.unguard rfl rfl ?_
    | refine GL.skip rfl rfl rfl rfl ?_
    | refine GL.skipU rfl rfl rfl rfl ?_
    | refine GL.v rfl rfl rfl (by first | exact GO.add rfl rfl rfl (by omega) | exact GO.sub rfl rfl rfl (by omega) | exact GO.mul rfl rfl rfl (by omega) | exact GO.rem rfl rfl rfl (by omega) (by omega) | exact GO.quo rfl rfl rfl (by omega) (by omega) | exact GO.neg rfl rfl (by omega) | exact GO.conv rfl rfl rfl rfl (i64_wrap (by omega) (by omega)) | exact GO.conv rfl rfl rfl rfl rfl) ?_
    | refine GT.skip ?_
    | refine GT.block ?_
    | refine GT.ret ?_
    | refine GT.exit ?_
    | refine GP.thenR ?_
    | refine GP.thenE ?_
    | refine GP.inN ?_
    | refine GP.inR ?_
    | refine GP.hit ?_
    | refine GP.miss rfl ?_
    | refine GP.againN ?_
    | refine GP.againR ?_
    | refine GP.againE ?_
    | refine GP.invR ?_
    | refine GP.invE ?_
    | refine GU.step ?_
    | refine GT.condT rfl ?_
    | refine GT.condF rfl ?_
    | (refine GT.condD rfl (fun h => ?_) (fun h => ?_) <;> try (exfalso; omega))
    | (refine GT.condN rfl (fun h => ?_) (fun h => ?_) <;> try (exfalso; omega))
    | (refine GT.condB rfl (fun h => ?_) (fun h => ?_))
    | (refine GL.forkD rfl rfl (fun h => ?_) (fun h => ?_) <;> try (exfalso; omega))
    | (refine GL.forkN rfl rfl (fun h => ?_) (fun h => ?_) <;> try (exfalso; omega))
    | (refine GL.forkB rfl rfl (fun h => ?_) (fun h => ?_))
    | refine GP.endR1 rfl ?_
    | refine GP.endR2 rfl ?_
    | refine GP.endN1 rfl ?_
    | refine GP.endR3 rfl ?_
    | refine GP.endN0 rfl ?_
    | refine GP.endR0 rfl ?_)
  all_goals (subst h; rfl)
theorem within12 {A : AW} (n lo hi : Int) : AC Try.prog 12 [.int .i64 n, .int .i64 lo, .int .i64 hi] A (isR (.int .i64 (whenI (withinB n lo hi) 3)) A) := by
  refine AC.is0 ?_ ⟨8, rfl⟩ (.flat (k := 8) rfl (.flat (k := 8) rfl (.flat (k := 8) rfl .nil)))
  refine AC.go Try.func12 rfl rfl ?_
  repeat' (first
    | refine GL.sf rfl rfl rfl rfl ?_
    | refine GL.nf rfl rfl rfl ?_
    | refine GL.sv rfl rfl rfl rfl ?_
    | refine GL.sn rfl rfl rfl ?_
    | refine GL.done ?_
    | refine GP.thenN ?_
    | refine GT.seq ?_
    | refine GT.region ?_
    | refine GL.unguard rfl rfl ?_
    | refine GL.skip rfl rfl rfl rfl ?_
    | refine GL.skipU rfl rfl rfl rfl ?_
    | refine GL.v rfl rfl rfl (by first | exact GO.call rfl rfl Try.func21 rfl rfl rfl (when21 _ _) | exact GO.add rfl rfl rfl (by omega) | exact GO.sub rfl rfl rfl (by omega) | exact GO.mul rfl rfl rfl (by omega) | exact GO.rem rfl rfl rfl (by omega) (by omega) | exact GO.quo rfl rfl rfl (by omega) (by omega) | exact GO.neg rfl rfl (by omega) | exact GO.conv rfl rfl rfl rfl (i64_wrap (by omega) (by omega)) | exact GO.conv rfl rfl rfl rfl rfl) ?_
    | refine GT.skip ?_
    | refine GT.block ?_
    | refine GT.ret ?_
    | refine GT.exit ?_
    | refine GP.thenR ?_
    | refine GP.thenE ?_
    | refine GP.inN ?_
    | refine GP.inR ?_
    | refine GP.hit ?_
    | refine GP.miss rfl ?_
    | refine GP.againN ?_
    | refine GP.againR ?_
    | refine GP.againE ?_
    | refine GP.invR ?_
    | refine GP.invE ?_
    | refine GU.step ?_
    | refine GT.condT rfl ?_
    | refine GT.condF rfl ?_
    | (refine GT.condD rfl (fun h => ?_) (fun h => ?_) <;> try (exfalso; omega))
    | (refine GT.condN rfl (fun h => ?_) (fun h => ?_) <;> try (exfalso; omega))
    | (refine GT.condB rfl (fun h => ?_) (fun h => ?_))
    | (refine GL.forkD rfl rfl (fun h => ?_) (fun h => ?_) <;> try (exfalso; omega))
    | (refine GL.forkN rfl rfl (fun h => ?_) (fun h => ?_) <;> try (exfalso; omega))
    | (refine GL.forkB rfl rfl (fun h => ?_) (fun h => ?_))
    | refine GP.endR1 rfl ?_
    | refine GP.endR2 rfl ?_
    | refine GP.endN1 rfl ?_
    | refine GP.endR3 rfl ?_
    | refine GP.endN0 rfl ?_
    | refine GP.endR0 rfl ?_)
  · simp [withinB, h]
  · simp [withinB, h]
theorem first11s (ns : List Int) (hlen : ns.length ≤ 1000000) : AC Try.prog 11 [.slice (some ⟨0, 0, none⟩) ns.length ns.length] (AW.of [(0, .cells (ns.map (.int .i64)) 3)] 1 1 0) (fun u _ => u = .int .i64 (firstNZ ns)) := by
  refine AC.go Try.func11 rfl rfl ?_
  repeat' (first
    | refine GL.sf rfl rfl rfl rfl ?_
    | refine GL.nf rfl rfl rfl ?_
    | refine GL.sv rfl rfl rfl rfl ?_
    | refine GL.sn rfl rfl rfl ?_
    | refine GL.done ?_
    | refine GP.thenN ?_
    | refine GT.seq ?_
    | refine GT.region ?_
    | refine GL.unguard rfl rfl ?_
    | refine GL.skip rfl rfl rfl rfl ?_
    | refine GL.skipU rfl rfl rfl rfl ?_
    | refine GL.v rfl rfl rfl (by first | exact GO.add rfl rfl rfl (by omega) | exact GO.sub rfl rfl rfl (by omega) | exact GO.mul rfl rfl rfl (by omega) | exact GO.rem rfl rfl rfl (by omega) (by omega) | exact GO.quo rfl rfl rfl (by omega) (by omega) | exact GO.neg rfl rfl (by omega) | exact GO.conv rfl rfl rfl rfl (i64_wrap (by omega) (by omega)) | exact GO.conv rfl rfl rfl rfl rfl) ?_
    | refine GT.skip ?_
    | refine GT.block ?_
    | refine GT.ret ?_
    | refine GT.exit ?_
    | refine GP.thenR ?_
    | refine GP.thenE ?_
    | refine GP.inN ?_
    | refine GP.inR ?_
    | refine GP.hit ?_
    | refine GP.miss rfl ?_
    | refine GP.againN ?_
    | refine GP.againR ?_
    | refine GP.againE ?_
    | refine GP.invR ?_
    | refine GP.invE ?_
    | refine GU.step ?_
    | refine GT.condT rfl ?_
    | refine GT.condF rfl ?_
    | (refine GT.condD rfl (fun h => ?_) (fun h => ?_) <;> try (exfalso; omega))
    | (refine GT.condN rfl (fun h => ?_) (fun h => ?_) <;> try (exfalso; omega))
    | (refine GT.condB rfl (fun h => ?_) (fun h => ?_))
    | (refine GL.forkD rfl rfl (fun h => ?_) (fun h => ?_) <;> try (exfalso; omega))
    | (refine GL.forkN rfl rfl (fun h => ?_) (fun h => ?_) <;> try (exfalso; omega))
    | (refine GL.forkB rfl rfl (fun h => ?_) (fun h => ?_))
    | refine GP.endR1 rfl ?_
    | refine GP.endR2 rfl ?_
    | refine GP.endN1 rfl ?_
    | refine GP.endR3 rfl ?_
    | refine GP.endN0 rfl ?_
    | refine GP.endR0 rfl ?_)
  refine GT.loop (fun k a L nx => ∃ i : Nat, i ≤ ns.length ∧ k = ns.length - i ∧ (∀ y ∈ ns.take i, y = 0) ∧ asub [(0, .slice (some ⟨0, 0, none⟩) ns.length ns.length), (3, .int .i64 i)] a ∧ L = [(0, .cells (ns.map (.int .i64)) 3)] ∧ nx = 1) ns.length
    ⟨0, by omega, by omega, by simp, asub_cons rfl (asub_cons rfl asub_nil), rfl, rfl⟩ ?_
  rintro k a L nx ⟨i, hi, rfl, hz, hs, rfl, rfl⟩
  refine GT.keep hs ?_
  clear hs
  rcases Nat.lt_or_ge i ns.length with hlt | hge
  · obtain ⟨x, hx⟩ : ∃ x, ns[i]? = some x := ⟨_, List.getElem?_eq_getElem hlt⟩
    have hx' : (ns.map (Value.int .i64))[0 + (i : Int).toNat * 1]? = some (.int .i64 x) := by simp [hx]
    repeat' (first
      | refine GL.sf rfl rfl rfl rfl ?_
      | refine GL.nf rfl rfl rfl ?_
      | refine GL.sv rfl rfl rfl rfl ?_
      | refine GL.sn rfl rfl rfl ?_
      | refine GL.done ?_
      | refine GP.thenN ?_
      | refine GT.seq ?_
      | refine GT.region ?_
      | refine GL.unguard rfl rfl ?_
      | refine GL.skip rfl rfl rfl rfl ?_
      | refine GL.skipU rfl rfl rfl rfl ?_
      | refine GL.v rfl rfl rfl (by first | exact GO.indexS rfl rfl rfl rfl rfl (by omega) | exact GO.loadC rfl rfl rfl rfl rfl hx' | exact GO.add rfl rfl rfl (by omega) | exact GO.sub rfl rfl rfl (by omega) | exact GO.mul rfl rfl rfl (by omega) | exact GO.rem rfl rfl rfl (by omega) (by omega) | exact GO.quo rfl rfl rfl (by omega) (by omega) | exact GO.neg rfl rfl (by omega) | exact GO.conv rfl rfl rfl rfl (i64_wrap (by omega) (by omega)) | exact GO.conv rfl rfl rfl rfl rfl) ?_
      | refine GT.skip ?_
      | refine GT.block ?_
      | refine GT.ret ?_
      | refine GT.exit ?_
      | refine GP.thenR ?_
      | refine GP.thenE ?_
      | refine GP.inN ?_
      | refine GP.inR ?_
      | refine GP.hit ?_
      | refine GP.miss rfl ?_
      | refine GP.againN ?_
      | refine GP.againR ?_
      | refine GP.againE ?_
      | refine GP.invR ?_
      | refine GP.invE ?_
      | refine GU.step ?_
      | refine GT.condT rfl ?_
      | refine GT.condF rfl ?_
      | (refine GT.condD rfl (fun h => ?_) (fun h => ?_) <;> try (exfalso; omega))
      | (refine GT.condN rfl (fun h => ?_) (fun h => ?_) <;> try (exfalso; omega))
      | (refine GT.condB rfl (fun h => ?_) (fun h => ?_))
      | (refine GL.forkD rfl rfl (fun h => ?_) (fun h => ?_) <;> try (exfalso; omega))
      | (refine GL.forkN rfl rfl (fun h => ?_) (fun h => ?_) <;> try (exfalso; omega))
      | (refine GL.forkB rfl rfl (fun h => ?_) (fun h => ?_))
      | refine GP.endR1 rfl ?_
      | refine GP.endR2 rfl ?_
      | refine GP.endN1 rfl ?_
      | refine GP.endR3 rfl ?_
      | refine GP.endN0 rfl ?_
      | refine GP.endR0 rfl ?_)
    · rw [firstNZ_take hx hz h]
    · exact GP.invN (ns.length - (i + 1)) (by omega) ⟨i + 1, by omega, rfl, take_zero hx hz h, asub_cons rfl (asub_cons rfl asub_nil), rfl, rfl⟩
  ·
    repeat' (first
      | refine GL.sf rfl rfl rfl rfl ?_
      | refine GL.nf rfl rfl rfl ?_
      | refine GL.sv rfl rfl rfl rfl ?_
      | refine GL.sn rfl rfl rfl ?_
      | refine GL.done ?_
      | refine GP.thenN ?_
      | refine GT.seq ?_
      | refine GT.region ?_
      | refine GL.unguard rfl rfl ?_
      | refine GL.skip rfl rfl rfl rfl ?_
      | refine GL.skipU rfl rfl rfl rfl ?_
      | refine GL.v rfl rfl rfl (by first | exact GO.add rfl rfl rfl (by omega) | exact GO.sub rfl rfl rfl (by omega) | exact GO.mul rfl rfl rfl (by omega) | exact GO.rem rfl rfl rfl (by omega) (by omega) | exact GO.quo rfl rfl rfl (by omega) (by omega) | exact GO.neg rfl rfl (by omega) | exact GO.conv rfl rfl rfl rfl (i64_wrap (by omega) (by omega)) | exact GO.conv rfl rfl rfl rfl rfl) ?_
      | refine GT.skip ?_
      | refine GT.block ?_
      | refine GT.ret ?_
      | refine GT.exit ?_
      | refine GP.thenR ?_
      | refine GP.thenE ?_
      | refine GP.inN ?_
      | refine GP.inR ?_
      | refine GP.hit ?_
      | refine GP.miss rfl ?_
      | refine GP.againN ?_
      | refine GP.againR ?_
      | refine GP.againE ?_
      | refine GP.invR ?_
      | refine GP.invE ?_
      | refine GU.step ?_
      | refine GT.condT rfl ?_
      | refine GT.condF rfl ?_
      | (refine GT.condD rfl (fun h => ?_) (fun h => ?_) <;> try (exfalso; omega))
      | (refine GT.condN rfl (fun h => ?_) (fun h => ?_) <;> try (exfalso; omega))
      | (refine GT.condB rfl (fun h => ?_) (fun h => ?_))
      | (refine GL.forkD rfl rfl (fun h => ?_) (fun h => ?_) <;> try (exfalso; omega))
      | (refine GL.forkN rfl rfl (fun h => ?_) (fun h => ?_) <;> try (exfalso; omega))
      | (refine GL.forkB rfl rfl (fun h => ?_) (fun h => ?_))
      | refine GP.endR1 rfl ?_
      | refine GP.endR2 rfl ?_
      | refine GP.endN1 rfl ?_
      | refine GP.endR3 rfl ?_
      | refine GP.endN0 rfl ?_
      | refine GP.endR0 rfl ?_)
    rw [firstNZ_all (by rw [List.take_of_length_le hge] at hz; exact hz)]
theorem first11 {A : AW} {b f l : Nat} (ns : List Int) (hl : ns.length = l) (hlen : Nat.ble l 1000000 = true) (h : A.rd b f l = some (ns.map (.int .i64))) : AC Try.prog 11 [.slice (some ⟨b, f, none⟩) l l] A (isR (.int .i64 (firstNZ ns)) A) := by
  subst hl
  exact AC.is1 (first11s ns (Nat.le_of_ble_eq_true hlen)) ⟨8, rfl⟩ (b := b) (g := f) ⟨by simpa using h, plain_ints⟩ (.sl (g := 0) rfl rfl .nil)
theorem station5 {A : AW} (s1 s2 s3 s4 s5 s6 s7 s8 : Int) : AC Try.prog 5 [.agg #[.int .i64 s1, .int .i64 s2, .int .i64 s3, .int .i64 s4, .int .i64 s5, .int .i64 s6, .int .i64 s7, .int .i64 s8]] A (isR (.int .i64 (firstNZ (stationNs s1 s2 s3 s4 s5 s6 s7 s8))) A) := by
  refine AC.is0 ?_ ⟨8, rfl⟩ (.flat (k := 32) rfl .nil)
  refine AC.go Try.func5 rfl rfl ?_
  repeat' (first
    | refine GL.sf rfl rfl rfl rfl ?_
    | refine GL.nf rfl rfl rfl ?_
    | refine GL.sv rfl rfl rfl rfl ?_
    | refine GL.sn rfl rfl rfl ?_
    | refine GL.done ?_
    | refine GP.thenN ?_
    | refine GT.seq ?_
    | refine GT.region ?_
    | refine GL.unguard rfl rfl ?_
    | refine GL.skip rfl rfl rfl rfl ?_
    | refine GL.skipU rfl rfl rfl rfl ?_
    | refine GL.v rfl rfl rfl (by first | exact GO.add rfl rfl rfl (by omega) | exact GO.sub rfl rfl rfl (by omega) | exact GO.mul rfl rfl rfl (by omega) | exact GO.rem rfl rfl rfl (by omega) (by omega) | exact GO.quo rfl rfl rfl (by omega) (by omega) | exact GO.neg rfl rfl (by omega) | exact GO.conv rfl rfl rfl rfl (i64_wrap (by omega) (by omega)) | exact GO.conv rfl rfl rfl rfl rfl) ?_
    | refine GT.skip ?_
    | refine GT.block ?_
    | refine GT.ret ?_
    | refine GT.exit ?_
    | refine GP.thenR ?_
    | refine GP.thenE ?_
    | refine GP.inN ?_
    | refine GP.inR ?_
    | refine GP.hit ?_
    | refine GP.miss rfl ?_
    | refine GP.againN ?_
    | refine GP.againR ?_
    | refine GP.againE ?_
    | refine GP.invR ?_
    | refine GP.invE ?_
    | refine GU.step ?_
    | refine GT.condT rfl ?_
    | refine GT.condF rfl ?_
    | (refine GT.condD rfl (fun h => ?_) (fun h => ?_) <;> try (exfalso; omega))
    | (refine GT.condN rfl (fun h => ?_) (fun h => ?_) <;> try (exfalso; omega))
    | (refine GT.condB rfl (fun h => ?_) (fun h => ?_))
    | (refine GL.forkD rfl rfl (fun h => ?_) (fun h => ?_) <;> try (exfalso; omega))
    | (refine GL.forkN rfl rfl (fun h => ?_) (fun h => ?_) <;> try (exfalso; omega))
    | (refine GL.forkB rfl rfl (fun h => ?_) (fun h => ?_))
    | refine GP.endR1 rfl ?_
    | refine GP.endR2 rfl ?_
    | refine GP.endN1 rfl ?_
    | refine GP.endR3 rfl ?_
    | refine GP.endN0 rfl ?_
    | refine GP.endR0 rfl ?_)
  refine GT.draws [[], [0], [0, 1], [], [3], [0, 1, 2, 3, 4], [], [6], [0, 1, 2, 3, 4, 5, 6, 7], [], [9], [0, 1, 2, 3, 4, 5, 6, 7, 8, 9, 10], [], [12], [0, 1, 2, 3, 4, 5, 6, 7, 8, 9, 10, 11, 12, 13], [], [15], [0, 1, 2, 3, 4, 5, 6, 7, 8, 9, 10, 11, 12, 13, 14, 15, 16], [], [18], [0, 1, 2, 3, 4, 5, 6, 7, 8, 9, 10, 11, 12, 13, 14, 15, 16, 17, 18, 19], [], [21], [0, 1, 2, 3, 4, 5, 6, 7, 8, 9, 10, 11, 12, 13, 14, 15, 16, 17, 18, 19, 20, 21, 22], [0, 1, 2, 3, 4, 5, 6, 7, 8, 9, 10, 11, 12, 13, 14, 15, 16, 17, 18, 19, 20, 21, 22, 23], [0, 1, 2, 3, 4, 5, 6, 7, 8, 9, 10, 11, 12, 13, 14, 15, 16, 17, 18, 19, 20, 21, 22, 23, 24], [0, 1, 2, 3, 4, 5, 6, 7, 8, 9, 10, 11, 12, 13, 14, 15, 16, 17, 18, 19, 20, 21, 22, 23, 24, 25]] [24] (by kernel_rfl) ?_
  repeat' (first
    | refine GD.light rfl rfl (by first | exact onAt.none rfl | exact onAt.yes rfl rfl rfl) rfl (by first | exact AllMs.cons rfl (astepF_sound rfl) (.nil rfl) | exact AllMs.cons rfl (astep_sound rfl) (.nil rfl) | exact AllMs.cons rfl (astep_sound rfl) (.cons rfl (astep_sound rfl) (.nil rfl)) | exact AllMs.cons rfl (astep_sound rfl) (.cons rfl (astep_sound rfl) (.cons rfl (astep_sound rfl) (.nil rfl))) | exact AllMs.cons rfl (GO.call rfl rfl Try.func12 rfl rfl rfl (within12 _ _ _)).run (.nil rfl) | exact AllMs.cons rfl (GO.call rfl rfl Try.func12 rfl rfl rfl (within12 _ _ _)).run (.cons rfl (GO.call rfl rfl Try.func12 rfl rfl rfl (within12 _ _ _)).run (.nil rfl)) | exact AllMs.cons rfl (GO.call rfl rfl Try.func11 rfl rfl rfl (first11 (stationNs s1 s2 s3 s4 s5 s6 s7 s8) rfl rfl rfl)).run (.nil rfl) | exact AllMs.cons rfl (GO.call rfl rfl Try.func11 rfl rfl rfl (first11 (stationNs s1 s2 s3 s4 s5 s6 s7 s8) rfl rfl rfl)).run (.cons rfl (GO.call rfl rfl Try.func11 rfl rfl rfl (first11 (stationNs s1 s2 s3 s4 s5 s6 s7 s8) rfl rfl rfl)).run (.nil rfl)) | exact AllMs.cons rfl (GO.add rfl rfl rfl (by omega)).run (.nil rfl) | exact AllMs.cons rfl (GO.add rfl rfl rfl (by omega)).run (.cons rfl (GO.add rfl rfl rfl (by omega)).run (.nil rfl)) | exact AllMs.cons rfl (GO.sub rfl rfl rfl (by omega)).run (.nil rfl) | exact AllMs.cons rfl (GO.sub rfl rfl rfl (by omega)).run (.cons rfl (GO.sub rfl rfl rfl (by omega)).run (.nil rfl)) | exact AllMs.cons rfl (GO.mul rfl rfl rfl (by omega)).run (.nil rfl) | exact AllMs.cons rfl (GO.mul rfl rfl rfl (by omega)).run (.cons rfl (GO.mul rfl rfl rfl (by omega)).run (.nil rfl)) | exact AllMs.cons rfl (GO.rem rfl rfl rfl (by omega) (by omega)).run (.nil rfl) | exact AllMs.cons rfl (GO.rem rfl rfl rfl (by omega) (by omega)).run (.cons rfl (GO.rem rfl rfl rfl (by omega) (by omega)).run (.nil rfl)) | exact AllMs.cons rfl (GO.quo rfl rfl rfl (by omega) (by omega)).run (.nil rfl) | exact AllMs.cons rfl (GO.quo rfl rfl rfl (by omega) (by omega)).run (.cons rfl (GO.quo rfl rfl rfl (by omega) (by omega)).run (.nil rfl)) | exact AllMs.cons rfl (GO.neg rfl rfl (by omega)).run (.nil rfl) | exact AllMs.cons rfl (GO.neg rfl rfl (by omega)).run (.cons rfl (GO.neg rfl rfl (by omega)).run (.nil rfl)) | exact AllMs.cons rfl (GO.conv rfl rfl rfl rfl (i64_wrap (by omega) (by omega))).run (.nil rfl) | exact AllMs.cons rfl (GO.conv rfl rfl rfl rfl (i64_wrap (by omega) (by omega))).run (.cons rfl (GO.conv rfl rfl rfl rfl (i64_wrap (by omega) (by omega))).run (.nil rfl)) | exact AllMs.cons rfl (GO.conv rfl rfl rfl rfl rfl).run (.nil rfl) | exact AllMs.cons rfl (GO.conv rfl rfl rfl rfl rfl).run (.cons rfl (GO.conv rfl rfl rfl rfl rfl).run (.nil rfl))) ?_
    | refine GD.off rfl rfl rfl rfl rfl (by first | exact .inl rfl | exact .inr rfl) rfl ?_
    | refine GD.heavy rfl rfl rfl (by first | exact onAt.none rfl | exact onAt.yes rfl rfl rfl) rfl (by first | exact astepF_sound rfl | exact astep_sound rfl | exact (GO.call rfl rfl Try.func12 rfl rfl rfl (within12 _ _ _)).run | exact (GO.call rfl rfl Try.func11 rfl rfl rfl (first11 (stationNs s1 s2 s3 s4 s5 s6 s7 s8) rfl rfl rfl)).run) (by repeat first | exact .nil rfl | refine .cons rfl (by first | exact again.one rfl rfl rfl (astep_sound rfl) | exact again.off rfl rfl rfl rfl (by first | exact .inl rfl | exact .inr rfl) rfl rfl | exact again.one rfl rfl rfl (GO.call rfl rfl Try.func12 rfl rfl rfl (within12 _ _ _)).run | exact again.one rfl rfl rfl (GO.call rfl rfl Try.func11 rfl rfl rfl (first11 (stationNs s1 s2 s3 s4 s5 s6 s7 s8) rfl rfl rfl)).run | exact again.one rfl rfl rfl (GO.add rfl rfl rfl (by omega)).run | exact again.one rfl rfl rfl (GO.sub rfl rfl rfl (by omega)).run | exact again.one rfl rfl rfl (GO.mul rfl rfl rfl (by omega)).run | exact again.one rfl rfl rfl (GO.rem rfl rfl rfl (by omega) (by omega)).run | exact again.one rfl rfl rfl (GO.quo rfl rfl rfl (by omega) (by omega)).run | exact again.one rfl rfl rfl (GO.neg rfl rfl (by omega)).run | exact again.one rfl rfl rfl (GO.conv rfl rfl rfl rfl (i64_wrap (by omega) (by omega))).run | exact again.one rfl rfl rfl (GO.conv rfl rfl rfl rfl rfl).run) ?_) ?_
    | refine GD.heavyF rfl rfl rfl (by first | exact onAt.none rfl | exact onAt.yes rfl rfl rfl) rfl rfl (by repeat first | exact .nil rfl | refine .cons rfl (by first | exact again.one rfl rfl rfl (astep_sound rfl) | exact again.off rfl rfl rfl rfl (by first | exact .inl rfl | exact .inr rfl) rfl rfl | exact again.one rfl rfl rfl (GO.call rfl rfl Try.func12 rfl rfl rfl (within12 _ _ _)).run | exact again.one rfl rfl rfl (GO.call rfl rfl Try.func11 rfl rfl rfl (first11 (stationNs s1 s2 s3 s4 s5 s6 s7 s8) rfl rfl rfl)).run | exact again.one rfl rfl rfl (GO.add rfl rfl rfl (by omega)).run | exact again.one rfl rfl rfl (GO.sub rfl rfl rfl (by omega)).run | exact again.one rfl rfl rfl (GO.mul rfl rfl rfl (by omega)).run | exact again.one rfl rfl rfl (GO.rem rfl rfl rfl (by omega) (by omega)).run | exact again.one rfl rfl rfl (GO.quo rfl rfl rfl (by omega) (by omega)).run | exact again.one rfl rfl rfl (GO.neg rfl rfl (by omega)).run | exact again.one rfl rfl rfl (GO.conv rfl rfl rfl rfl (i64_wrap (by omega) (by omega))).run | exact again.one rfl rfl rfl (GO.conv rfl rfl rfl rfl rfl).run) ?_) ?_
    | refine GD.heavyN rfl rfl rfl (by first | exact onAt.none rfl | exact onAt.yes rfl rfl rfl) rfl rfl (by repeat first | exact .nil rfl | refine .cons rfl (by first | exact again.one rfl rfl rfl (astep_sound rfl) | exact again.off rfl rfl rfl rfl (by first | exact .inl rfl | exact .inr rfl) rfl rfl | exact again.one rfl rfl rfl (GO.call rfl rfl Try.func12 rfl rfl rfl (within12 _ _ _)).run | exact again.one rfl rfl rfl (GO.call rfl rfl Try.func11 rfl rfl rfl (first11 (stationNs s1 s2 s3 s4 s5 s6 s7 s8) rfl rfl rfl)).run | exact again.one rfl rfl rfl (GO.add rfl rfl rfl (by omega)).run | exact again.one rfl rfl rfl (GO.sub rfl rfl rfl (by omega)).run | exact again.one rfl rfl rfl (GO.mul rfl rfl rfl (by omega)).run | exact again.one rfl rfl rfl (GO.rem rfl rfl rfl (by omega) (by omega)).run | exact again.one rfl rfl rfl (GO.quo rfl rfl rfl (by omega) (by omega)).run | exact again.one rfl rfl rfl (GO.neg rfl rfl (by omega)).run | exact again.one rfl rfl rfl (GO.conv rfl rfl rfl rfl (i64_wrap (by omega) (by omega))).run | exact again.one rfl rfl rfl (GO.conv rfl rfl rfl rfl rfl).run) ?_) ?_
    | refine GD.done rfl rfl rfl ?_
    | (refine GD.forkD rfl rfl rfl rfl (fun h => ?_) (fun h => ?_) <;> try (exfalso; omega))
    | (refine GD.forkN rfl rfl rfl rfl (fun h => ?_) (fun h => ?_) <;> try (exfalso; omega))
    | refine GD.forkB rfl rfl rfl rfl (fun h => ?_) (fun h => ?_))
  repeat' (first
    | refine GL.sf rfl rfl rfl rfl ?_
    | refine GL.nf rfl rfl rfl ?_
    | refine GL.sv rfl rfl rfl rfl ?_
    | refine GL.sn rfl rfl rfl ?_
    | refine GL.done ?_
    | refine GP.thenN ?_
    | refine GT.seq ?_
    | refine GT.region ?_
    | refine GL.unguard rfl rfl ?_
    | refine GL.skip rfl rfl rfl rfl ?_
    | refine GL.skipU rfl rfl rfl rfl ?_
    | refine GL.v rfl rfl rfl (by first | exact GO.add rfl rfl rfl (by omega) | exact GO.sub rfl rfl rfl (by omega) | exact GO.mul rfl rfl rfl (by omega) | exact GO.rem rfl rfl rfl (by omega) (by omega) | exact GO.quo rfl rfl rfl (by omega) (by omega) | exact GO.neg rfl rfl (by omega) | exact GO.conv rfl rfl rfl rfl (i64_wrap (by omega) (by omega)) | exact GO.conv rfl rfl rfl rfl rfl) ?_
    | refine GT.skip ?_
    | refine GT.block ?_
    | refine GT.ret ?_
    | refine GT.exit ?_
    | refine GP.thenR ?_
    | refine GP.thenE ?_
    | refine GP.inN ?_
    | refine GP.inR ?_
    | refine GP.hit ?_
    | refine GP.miss rfl ?_
    | refine GP.againN ?_
    | refine GP.againR ?_
    | refine GP.againE ?_
    | refine GP.invR ?_
    | refine GP.invE ?_
    | refine GU.step ?_
    | refine GT.condT rfl ?_
    | refine GT.condF rfl ?_
    | (refine GT.condD rfl (fun h => ?_) (fun h => ?_) <;> try (exfalso; omega))
    | (refine GT.condN rfl (fun h => ?_) (fun h => ?_) <;> try (exfalso; omega))
    | (refine GT.condB rfl (fun h => ?_) (fun h => ?_))
    | (refine GL.forkD rfl rfl (fun h => ?_) (fun h => ?_) <;> try (exfalso; omega))
    | (refine GL.forkN rfl rfl (fun h => ?_) (fun h => ?_) <;> try (exfalso; omega))
    | (refine GL.forkB rfl rfl (fun h => ?_) (fun h => ?_))
    | refine GP.endR1 rfl ?_
    | refine GP.endR2 rfl ?_
    | refine GP.endN1 rfl ?_
    | refine GP.endR3 rfl ?_
    | refine GP.endN0 rfl ?_
    | refine GP.endR0 rfl ?_)
  rfl
theorem interval27 {A : AW} (a b lo hi : Int) : AC Try.prog 27 [.agg #[.int .i64 a, .int .i64 b], .int .i64 lo, .int .i64 hi] A (isR (.int .i64 (firstNZ [whenI (withinB a lo hi) 3, whenI (withinB b lo hi) 3, whenI (decide (b < a)) 11])) A) := by
  refine AC.is0 ?_ ⟨8, rfl⟩ (.flat (k := 16) rfl (.flat (k := 8) rfl (.flat (k := 8) rfl .nil)))
  refine AC.go Try.func27 rfl rfl ?_
  repeat' (first
    | refine GL.sf rfl rfl rfl rfl ?_
    | refine GL.nf rfl rfl rfl ?_
    | refine GL.sv rfl rfl rfl rfl ?_
    | refine GL.sn rfl rfl rfl ?_
    | refine GL.done ?_
    | refine GP.thenN ?_
    | refine GT.seq ?_
    | refine GT.region ?_
    | refine GL.unguard rfl rfl ?_
    | refine GL.skip rfl rfl rfl rfl ?_
    | refine GL.skipU rfl rfl rfl rfl ?_
    | refine GL.v rfl rfl rfl (by first | exact GO.add rfl rfl rfl (by omega) | exact GO.sub rfl rfl rfl (by omega) | exact GO.mul rfl rfl rfl (by omega) | exact GO.rem rfl rfl rfl (by omega) (by omega) | exact GO.quo rfl rfl rfl (by omega) (by omega) | exact GO.neg rfl rfl (by omega) | exact GO.conv rfl rfl rfl rfl (i64_wrap (by omega) (by omega)) | exact GO.conv rfl rfl rfl rfl rfl) ?_
    | refine GT.skip ?_
    | refine GT.block ?_
    | refine GT.ret ?_
    | refine GT.exit ?_
    | refine GP.thenR ?_
    | refine GP.thenE ?_
    | refine GP.inN ?_
    | refine GP.inR ?_
    | refine GP.hit ?_
    | refine GP.miss rfl ?_
    | refine GP.againN ?_
    | refine GP.againR ?_
    | refine GP.againE ?_
    | refine GP.invR ?_
    | refine GP.invE ?_
    | refine GU.step ?_
    | refine GT.condT rfl ?_
    | refine GT.condF rfl ?_
    | (refine GT.condD rfl (fun h => ?_) (fun h => ?_) <;> try (exfalso; omega))
    | (refine GT.condN rfl (fun h => ?_) (fun h => ?_) <;> try (exfalso; omega))
    | (refine GT.condB rfl (fun h => ?_) (fun h => ?_))
    | (refine GL.forkD rfl rfl (fun h => ?_) (fun h => ?_) <;> try (exfalso; omega))
    | (refine GL.forkN rfl rfl (fun h => ?_) (fun h => ?_) <;> try (exfalso; omega))
    | (refine GL.forkB rfl rfl (fun h => ?_) (fun h => ?_))
    | refine GP.endR1 rfl ?_
    | refine GP.endR2 rfl ?_
    | refine GP.endN1 rfl ?_
    | refine GP.endR3 rfl ?_
    | refine GP.endN0 rfl ?_
    | refine GP.endR0 rfl ?_)
  refine GT.draws [[], [0], [], [], [0, 1, 2, 3], [], [5], [], [], [0, 1, 2, 3, 4, 5, 6, 7, 8], [], [10], [], [12], [10, 11, 12, 13], [0, 1, 2, 3, 4, 5, 6, 7, 8, 9, 10, 11, 12, 13, 14], [0, 1, 2, 3, 4, 5, 6, 7, 8, 9, 10, 11, 12, 13, 14, 15], [0, 1, 2, 3, 4, 5, 6, 7, 8, 9, 10, 11, 12, 13, 14, 15, 16], [0, 1, 2, 3, 4, 5, 6, 7, 8, 9, 10, 11, 12, 13, 14, 15, 16, 17]] [16] (by kernel_rfl) ?_
  repeat' (first
    | refine GD.light rfl rfl (by first | exact onAt.none rfl | exact onAt.yes rfl rfl rfl) rfl (by first | exact AllMs.cons rfl (astepF_sound rfl) (.nil rfl) | exact AllMs.cons rfl (astep_sound rfl) (.nil rfl) | exact AllMs.cons rfl (astep_sound rfl) (.cons rfl (astep_sound rfl) (.nil rfl)) | exact AllMs.cons rfl (astep_sound rfl) (.cons rfl (astep_sound rfl) (.cons rfl (astep_sound rfl) (.nil rfl))) | exact AllMs.cons rfl (GO.call rfl rfl Try.func33 rfl rfl rfl (within33 _ _ _)).run (.nil rfl) | exact AllMs.cons rfl (GO.call rfl rfl Try.func33 rfl rfl rfl (within33 _ _ _)).run (.cons rfl (GO.call rfl rfl Try.func33 rfl rfl rfl (within33 _ _ _)).run (.nil rfl)) | exact AllMs.cons rfl (GO.call rfl rfl Try.func32 rfl rfl rfl (when32 _ _)).run (.nil rfl) | exact AllMs.cons rfl (GO.call rfl rfl Try.func32 rfl rfl rfl (when32 _ _)).run (.cons rfl (GO.call rfl rfl Try.func32 rfl rfl rfl (when32 _ _)).run (.nil rfl)) | exact AllMs.cons rfl (GO.call rfl rfl Try.func28 rfl rfl rfl (first28 [whenI (withinB a lo hi) 3, whenI (withinB b lo hi) 3, whenI (decide (b < a)) 11] rfl rfl rfl)).run (.nil rfl) | exact AllMs.cons rfl (GO.call rfl rfl Try.func28 rfl rfl rfl (first28 [whenI (withinB a lo hi) 3, whenI (withinB b lo hi) 3, whenI (decide (b < a)) 11] rfl rfl rfl)).run (.cons rfl (GO.call rfl rfl Try.func28 rfl rfl rfl (first28 [whenI (withinB a lo hi) 3, whenI (withinB b lo hi) 3, whenI (decide (b < a)) 11] rfl rfl rfl)).run (.nil rfl)) | exact AllMs.cons rfl (GO.add rfl rfl rfl (by omega)).run (.nil rfl) | exact AllMs.cons rfl (GO.add rfl rfl rfl (by omega)).run (.cons rfl (GO.add rfl rfl rfl (by omega)).run (.nil rfl)) | exact AllMs.cons rfl (GO.sub rfl rfl rfl (by omega)).run (.nil rfl) | exact AllMs.cons rfl (GO.sub rfl rfl rfl (by omega)).run (.cons rfl (GO.sub rfl rfl rfl (by omega)).run (.nil rfl)) | exact AllMs.cons rfl (GO.mul rfl rfl rfl (by omega)).run (.nil rfl) | exact AllMs.cons rfl (GO.mul rfl rfl rfl (by omega)).run (.cons rfl (GO.mul rfl rfl rfl (by omega)).run (.nil rfl)) | exact AllMs.cons rfl (GO.rem rfl rfl rfl (by omega) (by omega)).run (.nil rfl) | exact AllMs.cons rfl (GO.rem rfl rfl rfl (by omega) (by omega)).run (.cons rfl (GO.rem rfl rfl rfl (by omega) (by omega)).run (.nil rfl)) | exact AllMs.cons rfl (GO.quo rfl rfl rfl (by omega) (by omega)).run (.nil rfl) | exact AllMs.cons rfl (GO.quo rfl rfl rfl (by omega) (by omega)).run (.cons rfl (GO.quo rfl rfl rfl (by omega) (by omega)).run (.nil rfl)) | exact AllMs.cons rfl (GO.neg rfl rfl (by omega)).run (.nil rfl) | exact AllMs.cons rfl (GO.neg rfl rfl (by omega)).run (.cons rfl (GO.neg rfl rfl (by omega)).run (.nil rfl)) | exact AllMs.cons rfl (GO.conv rfl rfl rfl rfl (i64_wrap (by omega) (by omega))).run (.nil rfl) | exact AllMs.cons rfl (GO.conv rfl rfl rfl rfl (i64_wrap (by omega) (by omega))).run (.cons rfl (GO.conv rfl rfl rfl rfl (i64_wrap (by omega) (by omega))).run (.nil rfl)) | exact AllMs.cons rfl (GO.conv rfl rfl rfl rfl rfl).run (.nil rfl) | exact AllMs.cons rfl (GO.conv rfl rfl rfl rfl rfl).run (.cons rfl (GO.conv rfl rfl rfl rfl rfl).run (.nil rfl))) ?_
    | refine GD.off rfl rfl rfl rfl rfl (by first | exact .inl rfl | exact .inr rfl) rfl ?_
    | refine GD.heavy rfl rfl rfl (by first | exact onAt.none rfl | exact onAt.yes rfl rfl rfl) rfl (by first | exact astepF_sound rfl | exact astep_sound rfl | exact (GO.call rfl rfl Try.func33 rfl rfl rfl (within33 _ _ _)).run | exact (GO.call rfl rfl Try.func32 rfl rfl rfl (when32 _ _)).run | exact (GO.call rfl rfl Try.func28 rfl rfl rfl (first28 [whenI (withinB a lo hi) 3, whenI (withinB b lo hi) 3, whenI (decide (b < a)) 11] rfl rfl rfl)).run) (by repeat first | exact .nil rfl | refine .cons rfl (by first | exact again.one rfl rfl rfl (astep_sound rfl) | exact again.off rfl rfl rfl rfl (by first | exact .inl rfl | exact .inr rfl) rfl rfl | exact again.one rfl rfl rfl (GO.call rfl rfl Try.func33 rfl rfl rfl (within33 _ _ _)).run | exact again.one rfl rfl rfl (GO.call rfl rfl Try.func32 rfl rfl rfl (when32 _ _)).run | exact again.one rfl rfl rfl (GO.call rfl rfl Try.func28 rfl rfl rfl (first28 [whenI (withinB a lo hi) 3, whenI (withinB b lo hi) 3, whenI (decide (b < a)) 11] rfl rfl rfl)).run | exact again.one rfl rfl rfl (GO.add rfl rfl rfl (by omega)).run | exact again.one rfl rfl rfl (GO.sub rfl rfl rfl (by omega)).run | exact again.one rfl rfl rfl (GO.mul rfl rfl rfl (by omega)).run | exact again.one rfl rfl rfl (GO.rem rfl rfl rfl (by omega) (by omega)).run | exact again.one rfl rfl rfl (GO.quo rfl rfl rfl (by omega) (by omega)).run | exact again.one rfl rfl rfl (GO.neg rfl rfl (by omega)).run | exact again.one rfl rfl rfl (GO.conv rfl rfl rfl rfl (i64_wrap (by omega) (by omega))).run | exact again.one rfl rfl rfl (GO.conv rfl rfl rfl rfl rfl).run) ?_) ?_
    | refine GD.heavyF rfl rfl rfl (by first | exact onAt.none rfl | exact onAt.yes rfl rfl rfl) rfl rfl (by repeat first | exact .nil rfl | refine .cons rfl (by first | exact again.one rfl rfl rfl (astep_sound rfl) | exact again.off rfl rfl rfl rfl (by first | exact .inl rfl | exact .inr rfl) rfl rfl | exact again.one rfl rfl rfl (GO.call rfl rfl Try.func33 rfl rfl rfl (within33 _ _ _)).run | exact again.one rfl rfl rfl (GO.call rfl rfl Try.func32 rfl rfl rfl (when32 _ _)).run | exact again.one rfl rfl rfl (GO.call rfl rfl Try.func28 rfl rfl rfl (first28 [whenI (withinB a lo hi) 3, whenI (withinB b lo hi) 3, whenI (decide (b < a)) 11] rfl rfl rfl)).run | exact again.one rfl rfl rfl (GO.add rfl rfl rfl (by omega)).run | exact again.one rfl rfl rfl (GO.sub rfl rfl rfl (by omega)).run | exact again.one rfl rfl rfl (GO.mul rfl rfl rfl (by omega)).run | exact again.one rfl rfl rfl (GO.rem rfl rfl rfl (by omega) (by omega)).run | exact again.one rfl rfl rfl (GO.quo rfl rfl rfl (by omega) (by omega)).run | exact again.one rfl rfl rfl (GO.neg rfl rfl (by omega)).run | exact again.one rfl rfl rfl (GO.conv rfl rfl rfl rfl (i64_wrap (by omega) (by omega))).run | exact again.one rfl rfl rfl (GO.conv rfl rfl rfl rfl rfl).run) ?_) ?_
    | refine GD.heavyN rfl rfl rfl (by first | exact onAt.none rfl | exact onAt.yes rfl rfl rfl) rfl rfl (by repeat first | exact .nil rfl | refine .cons rfl (by first | exact again.one rfl rfl rfl (astep_sound rfl) | exact again.off rfl rfl rfl rfl (by first | exact .inl rfl | exact .inr rfl) rfl rfl | exact again.one rfl rfl rfl (GO.call rfl rfl Try.func33 rfl rfl rfl (within33 _ _ _)).run | exact again.one rfl rfl rfl (GO.call rfl rfl Try.func32 rfl rfl rfl (when32 _ _)).run | exact again.one rfl rfl rfl (GO.call rfl rfl Try.func28 rfl rfl rfl (first28 [whenI (withinB a lo hi) 3, whenI (withinB b lo hi) 3, whenI (decide (b < a)) 11] rfl rfl rfl)).run | exact again.one rfl rfl rfl (GO.add rfl rfl rfl (by omega)).run | exact again.one rfl rfl rfl (GO.sub rfl rfl rfl (by omega)).run | exact again.one rfl rfl rfl (GO.mul rfl rfl rfl (by omega)).run | exact again.one rfl rfl rfl (GO.rem rfl rfl rfl (by omega) (by omega)).run | exact again.one rfl rfl rfl (GO.quo rfl rfl rfl (by omega) (by omega)).run | exact again.one rfl rfl rfl (GO.neg rfl rfl (by omega)).run | exact again.one rfl rfl rfl (GO.conv rfl rfl rfl rfl (i64_wrap (by omega) (by omega))).run | exact again.one rfl rfl rfl (GO.conv rfl rfl rfl rfl rfl).run) ?_) ?_
    | refine GD.done rfl rfl rfl ?_
    | (refine GD.forkD rfl rfl rfl rfl (fun h => ?_) (fun h => ?_) <;> try (exfalso; omega))
    | (refine GD.forkN rfl rfl rfl rfl (fun h => ?_) (fun h => ?_) <;> try (exfalso; omega))
    | refine GD.forkB rfl rfl rfl rfl (fun h => ?_) (fun h => ?_))
  repeat' (first
    | refine GL.sf rfl rfl rfl rfl ?_
    | refine GL.nf rfl rfl rfl ?_
    | refine GL.sv rfl rfl rfl rfl ?_
    | refine GL.sn rfl rfl rfl ?_
    | refine GL.done ?_
    | refine GP.thenN ?_
    | refine GT.seq ?_
    | refine GT.region ?_
    | refine GL.unguard rfl rfl ?_
    | refine GL.skip rfl rfl rfl rfl ?_
    | refine GL.skipU rfl rfl rfl rfl ?_
    | refine GL.v rfl rfl rfl (by first | exact GO.add rfl rfl rfl (by omega) | exact GO.sub rfl rfl rfl (by omega) | exact GO.mul rfl rfl rfl (by omega) | exact GO.rem rfl rfl rfl (by omega) (by omega) | exact GO.quo rfl rfl rfl (by omega) (by omega) | exact GO.neg rfl rfl (by omega) | exact GO.conv rfl rfl rfl rfl (i64_wrap (by omega) (by omega)) | exact GO.conv rfl rfl rfl rfl rfl) ?_
    | refine GT.skip ?_
    | refine GT.block ?_
    | refine GT.ret ?_
    | refine GT.exit ?_
    | refine GP.thenR ?_
    | refine GP.thenE ?_
    | refine GP.inN ?_
    | refine GP.inR ?_
    | refine GP.hit ?_
    | refine GP.miss rfl ?_
    | refine GP.againN ?_
    | refine GP.againR ?_
    | refine GP.againE ?_
    | refine GP.invR ?_
    | refine GP.invE ?_
    | refine GU.step ?_
    | refine GT.condT rfl ?_
    | refine GT.condF rfl ?_
    | (refine GT.condD rfl (fun h => ?_) (fun h => ?_) <;> try (exfalso; omega))
    | (refine GT.condN rfl (fun h => ?_) (fun h => ?_) <;> try (exfalso; omega))
    | (refine GT.condB rfl (fun h => ?_) (fun h => ?_))
    | (refine GL.forkD rfl rfl (fun h => ?_) (fun h => ?_) <;> try (exfalso; omega))
    | (refine GL.forkN rfl rfl (fun h => ?_) (fun h => ?_) <;> try (exfalso; omega))
    | (refine GL.forkB rfl rfl (fun h => ?_) (fun h => ?_))
    | refine GP.endR1 rfl ?_
    | refine GP.endR2 rfl ?_
    | refine GP.endN1 rfl ?_
    | refine GP.endR3 rfl ?_
    | refine GP.endN0 rfl ?_
    | refine GP.endR0 rfl ?_)
  rfl
theorem clos26 {A : AW} (a b : Int) (h : -1000000 ≤ a ∧ a ≤ b ∧ b ≤ 1000000) : AC Try.prog 26 [.agg #[.int .i64 a, .int .i64 b]] A (isR (.int .i64 0) A) := by
  have hz : firstNZ [whenI (withinB a (-1000000) 1000000) 3, whenI (withinB b (-1000000) 1000000) 3, whenI (decide (b < a)) 11] = 0 := by
    rw [withinB_no (by omega), withinB_no (by omega), decide_eq_false (by omega)]; rfl
  refine AC.is0 ?_ ⟨8, rfl⟩ (.flat (k := 16) rfl .nil)
  refine AC.go Try.func26 rfl rfl ?_
  repeat' (first
    | refine GL.sf rfl rfl rfl rfl ?_
    | refine GL.nf rfl rfl rfl ?_
    | refine GL.sv rfl rfl rfl rfl ?_
    | refine GL.sn rfl rfl rfl ?_
    | refine GL.done ?_
    | refine GP.thenN ?_
    | refine GT.seq ?_
    | refine GT.region ?_
    | refine GL.unguard rfl rfl ?_
    | refine GL.skip rfl rfl rfl rfl ?_
    | refine GL.skipU rfl rfl rfl rfl ?_
    | refine GL.v rfl rfl rfl (by first | exact GO.call rfl rfl Try.func27 rfl rfl rfl (interval27 a b (-1000000) 1000000) | exact GO.add rfl rfl rfl (by omega) | exact GO.sub rfl rfl rfl (by omega) | exact GO.mul rfl rfl rfl (by omega) | exact GO.rem rfl rfl rfl (by omega) (by omega) | exact GO.quo rfl rfl rfl (by omega) (by omega) | exact GO.neg rfl rfl (by omega) | exact GO.conv rfl rfl rfl rfl (i64_wrap (by omega) (by omega)) | exact GO.conv rfl rfl rfl rfl rfl) ?_
    | refine GT.skip ?_
    | refine GT.block ?_
    | refine GT.ret ?_
    | refine GT.exit ?_
    | refine GP.thenR ?_
    | refine GP.thenE ?_
    | refine GP.inN ?_
    | refine GP.inR ?_
    | refine GP.hit ?_
    | refine GP.miss rfl ?_
    | refine GP.againN ?_
    | refine GP.againR ?_
    | refine GP.againE ?_
    | refine GP.invR ?_
    | refine GP.invE ?_
    | refine GU.step ?_
    | refine GT.condT rfl ?_
    | refine GT.condF rfl ?_
    | (refine GT.condD rfl (fun h => ?_) (fun h => ?_) <;> try (exfalso; omega))
    | (refine GT.condN rfl (fun h => ?_) (fun h => ?_) <;> try (exfalso; omega))
    | (refine GT.condB rfl (fun h => ?_) (fun h => ?_))
    | (refine GL.forkD rfl rfl (fun h => ?_) (fun h => ?_) <;> try (exfalso; omega))
    | (refine GL.forkN rfl rfl (fun h => ?_) (fun h => ?_) <;> try (exfalso; omega))
    | (refine GL.forkB rfl rfl (fun h => ?_) (fun h => ?_))
    | refine GP.endR1 rfl ?_
    | refine GP.endR2 rfl ?_
    | refine GP.endN1 rfl ?_
    | refine GP.endR3 rfl ?_
    | refine GP.endN0 rfl ?_
    | refine GP.endR0 rfl ?_)
  rw [hz]
theorem sized24 {A : AW} (n m : Int) : AC Try.prog 24 [.int .i64 n, .int .i64 m] A (isR (.int .i64 (firstNZ [whenI (decide (n = 0)) 12, whenI (decide (m < n)) 5])) A) := by
  refine AC.is0 ?_ ⟨8, rfl⟩ (.flat (k := 8) rfl (.flat (k := 8) rfl .nil))
  refine AC.go Try.func24 rfl rfl ?_
  repeat' (first
    | refine GL.sf rfl rfl rfl rfl ?_
    | refine GL.nf rfl rfl rfl ?_
    | refine GL.sv rfl rfl rfl rfl ?_
    | refine GL.sn rfl rfl rfl ?_
    | refine GL.done ?_
    | refine GP.thenN ?_
    | refine GT.seq ?_
    | refine GT.region ?_
    | refine GL.unguard rfl rfl ?_
    | refine GL.skip rfl rfl rfl rfl ?_
    | refine GL.skipU rfl rfl rfl rfl ?_
    | refine GL.v rfl rfl rfl (by first | exact GO.call rfl rfl Try.func32 rfl rfl rfl (when32 _ _) | exact GO.call rfl rfl Try.func28 rfl rfl rfl (first28 [whenI (decide (n = 0)) 12, whenI (decide (m < n)) 5] rfl rfl rfl) | exact GO.add rfl rfl rfl (by omega) | exact GO.sub rfl rfl rfl (by omega) | exact GO.mul rfl rfl rfl (by omega) | exact GO.rem rfl rfl rfl (by omega) (by omega) | exact GO.quo rfl rfl rfl (by omega) (by omega) | exact GO.neg rfl rfl (by omega) | exact GO.conv rfl rfl rfl rfl (i64_wrap (by omega) (by omega)) | exact GO.conv rfl rfl rfl rfl rfl) ?_
    | refine GT.skip ?_
    | refine GT.block ?_
    | refine GT.ret ?_
    | refine GT.exit ?_
    | refine GP.thenR ?_
    | refine GP.thenE ?_
    | refine GP.inN ?_
    | refine GP.inR ?_
    | refine GP.hit ?_
    | refine GP.miss rfl ?_
    | refine GP.againN ?_
    | refine GP.againR ?_
    | refine GP.againE ?_
    | refine GP.invR ?_
    | refine GP.invE ?_
    | refine GU.step ?_
    | refine GT.condT rfl ?_
    | refine GT.condF rfl ?_
    | (refine GT.condD rfl (fun h => ?_) (fun h => ?_) <;> try (exfalso; omega))
    | (refine GT.condN rfl (fun h => ?_) (fun h => ?_) <;> try (exfalso; omega))
    | (refine GT.condB rfl (fun h => ?_) (fun h => ?_))
    | (refine GL.forkD rfl rfl (fun h => ?_) (fun h => ?_) <;> try (exfalso; omega))
    | (refine GL.forkN rfl rfl (fun h => ?_) (fun h => ?_) <;> try (exfalso; omega))
    | (refine GL.forkB rfl rfl (fun h => ?_) (fun h => ?_))
    | refine GP.endR1 rfl ?_
    | refine GP.endR2 rfl ?_
    | refine GP.endN1 rfl ?_
    | refine GP.endR3 rfl ?_
    | refine GP.endN0 rfl ?_
    | refine GP.endR0 rfl ?_)
  rfl
end Go.M
