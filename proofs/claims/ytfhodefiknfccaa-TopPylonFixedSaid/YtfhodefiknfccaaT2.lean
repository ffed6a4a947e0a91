/- Functions of the given program, walked (no condition beyond what each theorem says). -/
import Derived.Test.YtfhodefiknfccaaT1
set_option linter.unusedVariables false
set_option linter.unusedSimpArgs false
namespace Go.M
open Go.Proofs
set_option maxRecDepth 4000
def firstNZ (ns : List Int) : Int := (ns.find? (fun x => !decide (x = 0))).getD 0
theorem firstNZ_take {ns : List Int} {i : Nat} {x : Int} (hx : ns[i]? = some x) (h : ∀ y ∈ ns.take i, y = 0) (h0 : ¬x = 0) : firstNZ ns = x := by
  unfold firstNZ
  have e : ns = ns.take i ++ x :: ns.drop (i + 1) := by
    have h1 := List.drop_eq_getElem_cons (List.getElem?_eq_some_iff.1 hx).1
    rw [(List.getElem?_eq_some_iff.1 hx).2] at h1
    rw [← h1, List.take_append_drop]
  have h2 : (ns.take i).find? (fun x => !decide (x = 0)) = none := by rw [List.find?_eq_none]; intro y hy; simp [h y hy]
  rw [e, List.find?_append, h2]
  simp [h0]
theorem firstNZ_all {ns : List Int} (h : ∀ y ∈ ns, y = 0) : firstNZ ns = 0 := by
  unfold firstNZ
  rw [List.find?_eq_none.2 (fun y hy => by simp [h y hy])]; rfl
theorem take_zero {ns : List Int} {i : Nat} {x : Int} (hx : ns[i]? = some x) (h : ∀ y ∈ ns.take i, y = 0) (h0 : x = 0) : ∀ y ∈ ns.take (i + 1), y = 0 := by
  intro y hy
  rw [List.take_add_one, List.mem_append, hx] at hy
  rcases hy with hy | hy
  · exact h y hy
  · simp at hy; omega

theorem first13s (ns : List Int) (hlen : ns.length ≤ 1000000) : AC Try.prog 13 [.slice (some ⟨0, 0, none⟩) ns.length ns.length] (AW.of [(0, .cells (ns.map (.int .i64)) 34)] 1 1 0) (fun u _ => u = .int .i64 (firstNZ ns)) := by
  refine AC.go Try.func13 rfl rfl ?_
  repeat' (first
    | refine GL.sf rfl rfl rfl rfl ?_
    | refine GL.nf rfl rfl rfl ?_
    | refine GL.sv rfl rfl rfl rfl ?_
    | refine GL.sn rfl rfl rfl ?_
    | refine GL.done ?_
    | refine GP.thenN ?_
    | refine GT.seq ?_
    | refine GT.region ?_
    | refine GL.unguard rfl rfl ?_
    | refine GL.skip rfl rfl rfl rfl ?_
    | refine GL.skipU rfl rfl rfl rfl ?_
    | refine GL.v rfl rfl rfl (by first | exact GO.add rfl rfl rfl (by omega) | exact GO.sub rfl rfl rfl (by omega) | exact GO.mul rfl rfl rfl (by omega) | exact GO.rem rfl rfl rfl (by omega) (by omega) | exact GO.quo rfl rfl rfl (by omega) (by omega) | exact GO.neg rfl rfl (by omega) | exact GO.conv rfl rfl rfl rfl (i64_wrap (by omega) (by omega)) | exact GO.conv rfl rfl rfl rfl rfl) ?_
    | refine GT.skip ?_
    | refine GT.block ?_
    | refine GT.ret ?_
    | refine GT.exit ?_
    | refine GP.thenR ?_
    | refine GP.thenE ?_
    | refine GP.inN ?_
    | refine GP.inR ?_
    | refine GP.hit ?_
    | refine GP.miss rfl ?_
    | refine GP.againN ?_
    | refine GP.againR ?_
    | refine GP.againE ?_
    | refine GP.invR ?_
    | refine GP.invE ?_
    | refine GU.step ?_
    | refine GT.condT rfl ?_
    | refine GT.condF rfl ?_
    | (refine GT.condD rfl (fun h => ?_) (fun h => ?_) <;> try (exfalso; omega))
    | (refine GT.condN rfl (fun h => ?_) (fun h => ?_) <;> try (exfalso; omega))
    | (refine GT.condB rfl (fun h => ?_) (fun h => ?_))
    | (refine GL.forkD rfl rfl (fun h => ?_) (fun h => ?_) <;> try (exfalso; omega))
    | (refine GL.forkN rfl rfl (fun h => ?_) (fun h => ?_) <;> try (exfalso; omega))
    | (refine GL.forkB rfl rfl (fun h => ?_) (fun h => ?_))
    | refine GP.endR1 rfl ?_
    | refine GP.endR2 rfl ?_
    | refine GP.endN1 rfl ?_
    | refine GP.endR3 rfl ?_
    | refine GP.endN0 rfl ?_
    | refine GP.endR0 rfl ?_)
  refine GT.loop (fun k a L nx => ∃ i : Nat, i ≤ ns.length ∧ k = ns.length - i ∧ (∀ y ∈ ns.take i, y = 0) ∧ asub [(5, .slice (some ⟨0, 0, none⟩) ns.length ns.length), (6, .int .i64 ns.length), (7, .int .i64 i)] a ∧ L = [(0, .cells (ns.map (.int .i64)) 34)] ∧ nx = 1) ns.length
    ⟨0, by omega, by omega, by simp, asub_cons rfl (asub_cons rfl (asub_cons rfl asub_nil)), rfl, rfl⟩ ?_
  rintro k a L nx ⟨i, hi, rfl, hz, hs, rfl, rfl⟩
  refine GT.keep hs ?_
  clear hs
  rcases Nat.lt_or_ge i ns.length with hlt | hge
  · obtain ⟨x, hx⟩ : ∃ x, ns[i]? = some x := ⟨_, List.getElem?_eq_getElem hlt⟩
    have hx' : (ns.map (Value.int .i64))[0 + (i : Int).toNat * 1]? = some (.int .i64 x) := by simp [hx]
    repeat' (first
      | refine GL.sf rfl rfl rfl rfl ?_
      | refine GL.nf rfl rfl rfl ?_
      | refine GL.sv rfl rfl rfl rfl ?_
      | refine GL.sn rfl rfl rfl ?_
      | refine GL.done ?_
      | refine GP.thenN ?_
      | refine GT.seq ?_
      | refine GT.region ?_
      | refine GL.unguard rfl rfl ?_
      | refine GL.skip rfl rfl rfl rfl ?_
      | refine GL.skipU rfl rfl rfl rfl ?_
      | refine GL.v rfl rfl rfl (by first | exact GO.indexS rfl rfl rfl rfl rfl (by omega) | exact GO.loadC rfl rfl rfl rfl rfl hx' | exact GO.add rfl rfl rfl (by omega) | exact GO.sub rfl rfl rfl (by omega) | exact GO.mul rfl rfl rfl (by omega) | exact GO.rem rfl rfl rfl (by omega) (by omega) | exact GO.quo rfl rfl rfl (by omega) (by omega) | exact GO.neg rfl rfl (by omega) | exact GO.conv rfl rfl rfl rfl (i64_wrap (by omega) (by omega)) | exact GO.conv rfl rfl rfl rfl rfl) ?_
      | refine GT.skip ?_
      | refine GT.block ?_
      | refine GT.ret ?_
      | refine GT.exit ?_
      | refine GP.thenR ?_
      | refine GP.thenE ?_
      | refine GP.inN ?_
      | refine GP.inR ?_
      | refine GP.hit ?_
      | refine GP.miss rfl ?_
      | refine GP.againN ?_
      | refine GP.againR ?_
      | refine GP.againE ?_
      | refine GP.invR ?_
      | refine GP.invE ?_
      | refine GU.step ?_
      | refine GT.condT rfl ?_
      | refine GT.condF rfl ?_
      | (refine GT.condD rfl (fun h => ?_) (fun h => ?_) <;> try (exfalso; omega))
      | (refine GT.condN rfl (fun h => ?_) (fun h => ?_) <;> try (exfalso; omega))
      | (refine GT.condB rfl (fun h => ?_) (fun h => ?_))
      | (refine GL.forkD rfl rfl (fun h => ?_) (fun h => ?_) <;> try (exfalso; omega))
      | (refine GL.forkN rfl rfl (fun h => ?_) (fun h => ?_) <;> try (exfalso; omega))
      | (refine GL.forkB rfl rfl (fun h => ?_) (fun h => ?_))
      | refine GP.endR1 rfl ?_
      | refine GP.endR2 rfl ?_
      | refine GP.endN1 rfl ?_
      | refine GP.endR3 rfl ?_
      | refine GP.endN0 rfl ?_
      | refine GP.endR0 rfl ?_)
    · rw [firstNZ_take hx hz h]
    · exact GP.invN (ns.length - (i + 1)) (by omega) ⟨i + 1, by omega, rfl, take_zero hx hz h, asub_cons rfl (asub_cons rfl (asub_cons rfl asub_nil)), rfl, rfl⟩
  ·
    repeat' (first
      | refine GL.sf rfl rfl rfl rfl ?_
      | refine GL.nf rfl rfl rfl ?_
      | refine GL.sv rfl rfl rfl rfl ?_
      | refine GL.sn rfl rfl rfl ?_
      | refine GL.done ?_
      | refine GP.thenN ?_
      | refine GT.seq ?_
      | refine GT.region ?_
      | refine GL.unguard rfl rfl ?_
      | refine GL.skip rfl rfl rfl rfl ?_
      | refine GL.skipU rfl rfl rfl rfl ?_
      | refine GL.v rfl rfl rfl (by first | exact GO.add rfl rfl rfl (by omega) | exact GO.sub rfl rfl rfl (by omega) | exact GO.mul rfl rfl rfl (by omega) | exact GO.rem rfl rfl rfl (by omega) (by omega) | exact GO.quo rfl rfl rfl (by omega) (by omega) | exact GO.neg rfl rfl (by omega) | exact GO.conv rfl rfl rfl rfl (i64_wrap (by omega) (by omega)) | exact GO.conv rfl rfl rfl rfl rfl) ?_
      | refine GT.skip ?_
      | refine GT.block ?_
      | refine GT.ret ?_
      | refine GT.exit ?_
      | refine GP.thenR ?_
      | refine GP.thenE ?_
      | refine GP.inN ?_
      | refine GP.inR ?_
      | refine GP.hit ?_
      | refine GP.miss rfl ?_
      | refine GP.againN ?_
      | refine GP.againR ?_
      | refine GP.againE ?_
      | refine GP.invR ?_
      | refine GP.invE ?_
      | refine GU.step ?_
      | refine GT.condT rfl ?_
      | refine GT.condF rfl ?_
      | (refine GT.condD rfl (fun h => ?_) (fun h => ?_) <;> try (exfalso; omega))
      | (refine GT.condN rfl (fun h => ?_) (fun h => ?_) <;> try (exfalso; omega))
      | (refine GT.condB rfl (fun h => ?_) (fun h => ?_))
      | (refine GL.forkD rfl rfl (fun h => ?_) (fun h => ?_) <;> try (exfalso; omega))
      | (refine GL.forkN rfl rfl (fun h => ?_) (fun h => ?_) <;> try (exfalso; omega))
      | (refine GL.forkB rfl rfl (fun h => ?_) (fun h => ?_))
      | refine GP.endR1 rfl ?_
      | refine GP.endR2 rfl ?_
      | refine GP.endN1 rfl ?_
      | refine GP.endR3 rfl ?_
      | refine GP.endN0 rfl ?_
      | refine GP.endR0 rfl ?_)
    rw [firstNZ_all (by rw [List.take_of_length_le hge] at hz; exact hz)]
end Go.M
