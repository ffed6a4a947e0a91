/- Functions of the given program, walked (no condition beyond what each theorem says). -/
import Derived.Test.YtfhodefiknfccaaDoorC2
import Derived.Test.YtfhodefiknfccaaDoorE5
set_option linter.unusedVariables false
set_option linter.unusedSimpArgs false
namespace Go.M
open Go.Proofs Go.RowKit
set_option maxRecDepth 16000
set_option maxHeartbeats 8000000
theorem rd_zero {b nx ro gl : Nat} {c : List Value} {e : TypeId} {L : LM} (hb : alook L b = some (.cells c e)) : (AW.of L nx ro gl).rd b 0 0 = some [] := by
  have ho : (AW.of L nx ro gl).objs b = some (.cells c e) := hb
  unfold AW.rd
  rw [ho]; simp
theorem d_trans195G {A : AW} {p x n k : Nat} (need sil lf : Int) (hlf : 1 ≤ lf ∧ lf ≤ 1000) (hp : A.rd p 0 0 = some []) (hx : A.rd x 0 0 = some []) :
    AC Tryd.prog 195 [.agg #[.slice (some ⟨p, 0, none⟩) n k, .int .i64 need, .int .i64 sil], .agg (stV 1 lf (fun _ => 0)).toArray, .slice (some ⟨x, 0, none⟩) n n] A
      (isR (.agg (outC (if lf = 1 then 2 else 1) (lf - 1) (fun _ => 0) (.slice none 0 0)).toArray) A) := by
  refine AC.isX ((SmallX.nil.cons (k := 0) (b := p) (f := 0) (o := .cells [] 128) (.flat (k := 64) hp rfl)).cons (b := x) (f := 0) (o := .cells [] 46) (.flat (k := 64) hx rfl))
    (args := [.agg #[.slice (some ⟨0, 0, none⟩) n k, .int .i64 need, .int .i64 sil], .agg (stV 1 lf (fun _ => 0)).toArray, .slice (some ⟨1, 0, none⟩) n n]) ?_ ⟨32, rfl⟩ (.agg (.sl rfl rfl (.flat (k := 8) rfl (.flat (k := 8) rfl .nil))) (.flat (k := 32) rfl (.sl rfl rfl .nil)))
  refine AC.go Tryd.func195 rfl rfl ?_
  clear hp hx
  by_cases h1 : lf = 1
  · subst h1
    rw [if_pos rfl]
    repeat' (first
    | refine GL.sf rfl rfl rfl rfl ?_
    | refine GL.nf rfl rfl rfl ?_
    | refine GL.done ?_
    | refine GP.thenN ?_
    | refine GT.seq ?_
    | refine GT.region ?_
    | refine GL.v rfl rfl rfl (by first | exact GO.eq rfl rfl rfl rfl rfl Tryd.eqGuardType59 (d_aeq59 _ _ _ _ _ _ _ _ _ _ _ _ _ _ _ _ _ _ _ _) rfl | exact GO.sub rfl rfl rfl (by omega)) ?_
    | refine GT.ret ?_
    | refine GT.condT rfl ?_
    | refine GP.endR1 rfl ?_)
    rfl
  · rw [if_neg h1]
    repeat' (first
    | refine GL.sf rfl rfl rfl rfl ?_
    | refine GL.nf rfl rfl rfl ?_
    | refine GL.done ?_
    | refine GP.thenN ?_
    | refine GT.seq ?_
    | refine GT.region ?_
    | refine GL.v rfl rfl rfl (by first | exact GO.eq rfl rfl rfl rfl rfl Tryd.eqGuardType59 (d_aeq59 _ _ _ _ _ _ _ _ _ _ _ _ _ _ _ _ _ _ _ _) rfl | exact GO.sub rfl rfl rfl (by omega)) ?_
    | refine GT.skip ?_
    | refine GT.ret ?_
    | (refine GT.condD rfl (fun h => ?_) (fun h => ?_) <;> try (exfalso; omega))
    | refine GP.endR1 rfl ?_)
    rfl
/-- One second, from a state to a state; no sensor in alarm. -/
def StepN (sens rds : List Value) (n k : Nat) (need sil md lf : Int) (c : Nat → Int) (md' lf' : Int) (c' : Nat → Int) : Prop :=
  ∀ (L : LM) (nx ro p x : Nat), (AW.of L nx ro 3).rd p 0 sens.length = some sens → (AW.of L nx ro 3).rd x 0 rds.length = some rds → GOk (AW.of L nx ro 3) →
    AC Tryd.prog 90 [.agg #[.slice (some ⟨p, 0, none⟩) n k, .int .i64 need, .int .i64 sil], .agg (stV md lf c).toArray, .agg #[.slice (some ⟨x, 0, none⟩) n n, .int .i64 0]] (AW.of L nx ro 3)
      (isR (.agg (outC md' lf' c' (.slice none 0 0)).toArray) (AW.of L nx ro 3))
/-- The same, with sensors in alarm. -/
def StepP (sens rds : List Value) (n k : Nat) (need sil md lf : Int) (c : Nat → Int) (md' lf' : Int) (c' : Nat → Int) (al : List Nat) : Prop :=
  ∀ (L : LM) (nx ro p x : Nat), (AW.of L nx ro 3).rd p 0 sens.length = some sens → (AW.of L nx ro 3).rd x 0 rds.length = some rds → GOk (AW.of L nx ro 3) →
    AC Tryd.prog 90 [.agg #[.slice (some ⟨p, 0, none⟩) n k, .int .i64 need, .int .i64 sil], .agg (stV md lf c).toArray, .agg #[.slice (some ⟨x, 0, none⟩) n n, .int .i64 0]] (AW.of L nx ro 3)
      (isR (.agg (outC md' lf' c' (.slice (some ⟨nx, 0, none⟩) al.length al.length)).toArray) (AW.of ((nx, .cells (natC al) 3) :: L) (nx + 1) ro 3))
def Step (sens rds : List Value) (n k : Nat) (need sil md lf : Int) (c : Nat → Int) (md' lf' : Int) (c' : Nat → Int) : Prop :=
  StepN sens rds n k need sil md lf c md' lf' c' ∨ ∃ al, StepP sens rds n k need sil md lf c md' lf' c' al
theorem small90 {sens rds : List Value} {ks kr : Nat} (hs : noAddrs ks sens = true) (hr : noAddrs kr rds = true) : ∀ (L : LM) (nx ro p x : Nat), (AW.of L nx ro 3).rd p 0 sens.length = some sens → (AW.of L nx ro 3).rd x 0 rds.length = some rds → GOk (AW.of L nx ro 3) →
    SmallX (AW.of L nx ro 3) [(4, .cells rds 46), (3, .cells sens 128), (2, .cells [] 0), (1, .cells stepsV 242), (0, .cells [.int .i64 0, .int .i64 0] 31)] 5 3 (onto 4 x 0 (onto 3 p 0 (fun j => if j < 3 then some (j, 0) else none))) := by
  intro L nx ro p x hp hx ⟨hgl, g0, g1, cc, ee, g2⟩
  refine SmallX.cons (SmallX.cons ⟨fun j x hx => by split at hx <;> simp_all, fun j hj => ?_, fun j o hj => ?_, Nat.le_refl 3, fun g hg => by simp [hg], by decide⟩ (.flat hp hs)) (.flat hx hr)
  · match j with
    | 0 => simp [alook] at hj
    | 1 => simp [alook] at hj
    | 2 => simp [alook] at hj
    | j + 3 => simp
  · match j with
    | 0 => simp only [alook] at hj; simp at hj; subst hj; exact ⟨by decide, (0, 0), by simp, .flat (k := 8) (by show AW.rd _ 0 0 2 = _; unfold AW.rd; rw [g0]; rfl) rfl⟩
    | 1 => simp only [alook] at hj; simp at hj; subst hj; exact ⟨by decide, (1, 0), by simp, .flat (k := 8) (by show AW.rd _ 1 0 5 = _; unfold AW.rd; rw [g1]; rfl) rfl⟩
    | 2 => simp only [alook] at hj; simp at hj; subst hj; exact ⟨by decide, (2, 0), by simp, .flat (k := 8) (by show AW.rd _ 2 0 0 = _; unfold AW.rd; rw [g2]; simp) rfl⟩
    | j + 3 => simp [alook] at hj
theorem d_next90N {sens rds : List Value} {n k : Nat} {need sil md lf md' lf' : Int} {c c' : Nat → Int} (hmd : md = 0 ∨ md = 2) (hs : ∃ k, noAddrs k sens = true) (hr : ∃ k, noAddrs k rds = true)
    (h : ∀ (L : LM) (nx ro p x : Nat), (AW.of L nx ro 3).rd p 0 sens.length = some sens → (AW.of L nx ro 3).rd x 0 rds.length = some rds →
      AC Tryd.prog 194 [.agg #[.slice (some ⟨p, 0, none⟩) n k, .int .i64 need, .int .i64 sil], .agg (stV md lf c).toArray, .slice (some ⟨x, 0, none⟩) n n] (AW.of L nx ro 3) (isR (.agg (outC md' lf' c' (.slice none 0 0)).toArray) (AW.of L nx ro 3))) :
    StepN sens rds n k need sil md lf c md' lf' c' := by
  obtain ⟨ks, hs⟩ := hs
  obtain ⟨kr, hr⟩ := hr
  intro L nx ro p x hp hx hg
  refine AC.isX (small90 hs hr L nx ro p x hp hx hg) (args := [.agg #[.slice (some ⟨3, 0, none⟩) n k, .int .i64 need, .int .i64 sil], .agg (stV md lf c).toArray, .agg #[.slice (some ⟨4, 0, none⟩) n n, .int .i64 0]]) ?_ ⟨32, rfl⟩
      (.agg (.sl rfl rfl (.flat (k := 8) rfl (.flat (k := 8) rfl .nil))) (.flat (k := 32) rfl (.agg (.sl rfl rfl (.flat (k := 8) rfl .nil)) .nil)))
  refine AC.go Tryd.func90 rfl rfl ?_
  rcases hmd with rfl | rfl
  all_goals
    repeat' (first
    | refine GT.draws (id := 6) [[], [0], [0, 1], [0, 1, 2], [0, 1, 2, 3], [], [], [], [7], [0, 1, 2, 3, 4, 5, 6, 7, 8], [0, 1, 2, 3, 4, 5, 6, 7, 8, 9]] [10] (by kernel_rfl) ?_
    | refine GL.sf rfl rfl rfl rfl ?_
    | refine GL.done ?_
    | refine GP.thenN ?_
    | refine GT.seq ?_
    | refine GT.region ?_
    | refine GL.skipG rfl rfl rfl rfl rfl ?_
    | refine GD.li rfl rfl (by exact onAt.none rfl) rfl (by repeat first | exact AllG.nil rfl | refine AllG.cons rfl (by first | exact GO.sf rfl rfl | exact GO.sv rfl rfl | exact GO.callV rfl rfl rfl Tryd.func194 rfl rfl rfl (h _ _ _ 3 4 (rd_self rfl) (rd_self rfl))) ?_) ?_
    | refine GD.hN rfl rfl rfl (by exact onAt.none rfl) rfl rfl ?_ ?_
    | refine GD.done rfl rfl rfl ?_
    | exact AllJs.nil rfl
    | refine GT.skip ?_
    | refine GT.block ?_
    | refine GT.ret ?_
    | refine GP.inN ?_
    | refine GT.condF rfl ?_
    | refine GP.endR1 rfl ?_)
  all_goals rfl
theorem d_next90P {sens rds : List Value} {n k : Nat} {need sil md lf md' lf' : Int} {c c' : Nat → Int} {al : List Nat} (hmd : md = 0 ∨ md = 2) (hs : ∃ k, noAddrs k sens = true) (hr : ∃ k, noAddrs k rds = true)
    (h : ∀ (L : LM) (nx ro p x : Nat), (AW.of L nx ro 3).rd p 0 sens.length = some sens → (AW.of L nx ro 3).rd x 0 rds.length = some rds →
      AC Tryd.prog 194 [.agg #[.slice (some ⟨p, 0, none⟩) n k, .int .i64 need, .int .i64 sil], .agg (stV md lf c).toArray, .slice (some ⟨x, 0, none⟩) n n] (AW.of L nx ro 3) (isR (.agg (outC md' lf' c' (.slice (some ⟨nx, 0, none⟩) al.length al.length)).toArray) (AW.of ((nx, .cells (natC al) 3) :: L) (nx + 1) ro 3))) :
    StepP sens rds n k need sil md lf c md' lf' c' al := by
  obtain ⟨ks, hs⟩ := hs
  obtain ⟨kr, hr⟩ := hr
  intro L nx ro p x hp hx hg
  refine AC.mono (AC.givesX (Φ := fun cs => cs = natC al) (e := 3) (small90 hs hr L nx ro p x hp hx hg) (v2 := .agg (outC md' lf' c' (.slice (some ⟨nx, 0, none⟩) al.length al.length)).toArray) (args := [.agg #[.slice (some ⟨3, 0, none⟩) n k, .int .i64 need, .int .i64 sil], .agg (stV md lf c).toArray, .agg #[.slice (some ⟨4, 0, none⟩) n n, .int .i64 0]]) ?_
      (.agg (.sl rfl rfl (.flat (k := 8) rfl (.flat (k := 8) rfl .nil))) (.flat (k := 32) rfl (.agg (.sl rfl rfl (.flat (k := 8) rfl .nil)) .nil)))) (fun v A1 hv => ?_)
  · refine AC.go Tryd.func90 rfl rfl ?_
    rcases hmd with rfl | rfl
    all_goals
      repeat' (first
      | refine GT.draws (id := 6) [[], [0], [0, 1], [0, 1, 2], [0, 1, 2, 3], [], [], [], [7], [0, 1, 2, 3, 4, 5, 6, 7, 8], [0, 1, 2, 3, 4, 5, 6, 7, 8, 9]] [9, 10] (by kernel_rfl) ?_
      | refine GL.sf rfl rfl rfl rfl ?_
      | refine GL.done ?_
      | refine GP.thenN ?_
      | refine GT.seq ?_
      | refine GT.region ?_
      | refine GL.skipG rfl rfl rfl rfl rfl ?_
      | refine GD.li rfl rfl (by exact onAt.none rfl) rfl (by repeat first | exact AllG.nil rfl | refine AllG.cons rfl (by first | exact GO.sf rfl rfl | exact GO.sv rfl rfl) ?_) ?_
      | refine GD.he rfl rfl rfl (by exact onAt.none rfl) rfl (by exact GO.callV rfl rfl rfl Tryd.func194 rfl rfl rfl (h _ _ _ 3 4 (rd_self rfl) (rd_self rfl))) ?_ ?_
      | refine GD.hN rfl rfl rfl (by exact onAt.none rfl) rfl rfl ?_ ?_
      | refine GD.done rfl rfl rfl ?_
      | exact AllJs.nil rfl
      | refine GT.skip ?_
      | refine GT.block ?_
      | refine GT.ret ?_
      | refine GP.inN ?_
      | refine GT.condF rfl ?_
      | refine GP.endR1 rfl ?_)
    all_goals exact ⟨_, _, rfl, Nat.le_of_ble_eq_true rfl, natC_flat _, rfl, arO (.sl (f := 0) (g := 0) (if_pos rfl) rfl .nil)⟩
  · obtain ⟨cs, rfl, rfl, rfl⟩ := hv
    exact ⟨rfl, AW.of_push _⟩
theorem d_next90T {sens rds : List Value} {n k : Nat} {need sil lf : Int} (hlf : 1 ≤ lf ∧ lf ≤ 1000) (hs : ∃ k, noAddrs k sens = true) (hr : ∃ k, noAddrs k rds = true) :
    StepN sens rds n k need sil 1 lf (fun _ => 0) (if lf = 1 then 2 else 1) (lf - 1) (fun _ => 0) := by
  obtain ⟨ks, hs⟩ := hs
  obtain ⟨kr, hr⟩ := hr
  intro L nx ro p x hp hx hg
  refine AC.isX (small90 hs hr L nx ro p x hp hx hg) (args := [.agg #[.slice (some ⟨3, 0, none⟩) n k, .int .i64 need, .int .i64 sil], .agg (stV 1 lf (fun _ => 0)).toArray, .agg #[.slice (some ⟨4, 0, none⟩) n n, .int .i64 0]]) ?_ ⟨32, rfl⟩
      (.agg (.sl rfl rfl (.flat (k := 8) rfl (.flat (k := 8) rfl .nil))) (.flat (k := 32) rfl (.agg (.sl rfl rfl (.flat (k := 8) rfl .nil)) .nil)))
  refine AC.go Tryd.func90 rfl rfl ?_
  repeat' (first
  | refine GT.draws (id := 6) [[], [0], [0, 1], [0, 1, 2], [0, 1, 2, 3], [], [], [], [7], [0, 1, 2, 3, 4, 5, 6, 7, 8], [0, 1, 2, 3, 4, 5, 6, 7, 8, 9]] [10] (by kernel_rfl) ?_
  | refine GL.sf rfl rfl rfl rfl ?_
  | refine GL.done ?_
  | refine GP.thenN ?_
  | refine GT.seq ?_
  | refine GT.region ?_
  | refine GL.skipG rfl rfl rfl rfl rfl ?_
  | refine GD.li rfl rfl (by exact onAt.none rfl) rfl (by repeat first | exact AllG.nil rfl | refine AllG.cons rfl (by first | exact GO.sf rfl rfl | exact GO.sv rfl rfl | exact GO.callV rfl rfl rfl Tryd.func195 rfl rfl rfl (d_trans195G need sil lf hlf (rd_zero rfl) (rd_zero rfl))) ?_) ?_
  | refine GD.hN rfl rfl rfl (by exact onAt.none rfl) rfl rfl ?_ ?_
  | refine GD.done rfl rfl rfl ?_
  | exact AllJs.nil rfl
  | refine GT.skip ?_
  | refine GT.block ?_
  | refine GT.ret ?_
  | refine GP.inN ?_
  | refine GT.condF rfl ?_
  | refine GP.endR1 rfl ?_)
  rfl
/-- A second that is counted. -/
theorem d_step_count {l : List Sen} {rs : List (Int × Bool)} {need sil md lf : Int} {c : Nat → Int} {k : Nat} (hmd : md = 0 ∨ md = 2) (hl : 0 < l.length ∧ l.length ≤ 8) (hrs : rs.length = l.length) (hd : ∀ (i : Nat) (y : Sen), l[i]? = some y → 1 ≤ y.d ∧ y.d ≤ 60) (hcb : ∀ j, 0 ≤ c j ∧ c j ≤ 60) (hneed : 1 ≤ need) :
    Step (senC l) (rdC rs) l.length k need sil md lf c (cntMd l rs need sil md c) (cntLf l rs need sil md lf c) (cntC l rs need c) := by
  by_cases he : als l rs c l.length = []
  · exact .inl (d_next90N hmd (senC_flat l) (rdC_flat rs) fun L nx ro p x hp hx => d_counted194N (A := AW.of L nx ro 3) l rs need sil md lf c hl hrs hd hcb hneed hp hx he)
  · refine .inr ⟨als l rs c l.length, d_next90P hmd (senC_flat l) (rdC_flat rs) fun L nx ro p x hp hx => ?_⟩
    have := d_counted194P (A := AW.of L nx ro 3) (k := k) l rs need sil md lf c hl hrs hd hcb hneed hp hx he
    rw [AW.of_push] at this
    exact this
end Go.M
namespace Go.M
open Go.Proofs Go.RowKit
set_option maxRecDepth 16000
set_option maxHeartbeats 8000000
/-- The cells of the states after the seconds 1 .. i. -/
def stCs (md lf : Nat → Int) (c : Nat → Nat → Int) : Nat → List Value
  | 0 => []
  | i + 1 => stCs md lf c i ++ stV (md (i + 1)) (lf (i + 1)) (c (i + 1))
theorem stCs_len {md lf : Nat → Int} {c : Nat → Nat → Int} : ∀ {i : Nat}, (stCs md lf c i).length = i * 10
  | 0 => rfl
  | i + 1 => by rw [stCs, List.length_append, stCs_len (i := i)]; simp; omega
theorem stCs_flat {md lf : Nat → Int} {c : Nat → Nat → Int} : ∀ {i : Nat}, ∃ j, noAddrs j (stCs md lf c i) = true
  | 0 => ⟨1, rfl⟩
  | i + 1 => AllI.flat (fun v hv => stCs_int (i + 1) v hv)
  where stCs_int : ∀ (i : Nat), AllI (stCs md lf c i)
  | 0 => fun _ h => (List.not_mem_nil h).elim
  | i + 1 => fun v hv => by
    rw [stCs] at hv
    rcases List.mem_append.1 hv with q | q
    · exact stCs_int i v q
    · exact (AllI.cons (.cons (.cons (.cons (.cons (.cons (.cons (.cons (.cons (.cons (fun _ h => (List.not_mem_nil h).elim)))))))))) : AllI (stV (md (i + 1)) (lf (i + 1)) (c (i + 1)))) v q
theorem stCs_at {md lf : Nat → Int} {c : Nat → Nat → Int} : ∀ {i j : Nat}, j < i → ((stCs md lf c i).drop (j * 10)).take 10 = stV (md (j + 1)) (lf (j + 1)) (c (j + 1))
  | i + 1, j, h => by
    have hl := stCs_len (md := md) (lf := lf) (c := c) (i := i)
    rcases Nat.lt_or_ge j i with q | q
    · rw [stCs, List.drop_append_of_le_length (by omega), List.take_append_of_le_length (by rw [List.length_drop]; omega)]
      exact stCs_at q
    · obtain rfl : j = i := by omega
      rw [stCs, List.drop_append, List.drop_of_length_le (by omega), show j * 10 - (stCs md lf c j).length = 0 by omega]
      rfl
theorem d_states10G {md lf : Nat → Int} {c : Nat → Nat → Int} {sens : List Value} {n m k : Nat} {rd : Nat → List Value} {need sil : Int} (hm : 0 < m ∧ m ≤ 256) (hs : ∃ k, noAddrs k sens = true) (hr : ∀ i, i < m → ∃ k, noAddrs k (rd i) = true) (hcl : Closure86 sens n m k rd need sil) (hpl : Plant84 sens n m k rd need sil)
    (h00 : md 0 = 0 ∧ lf 0 = 0 ∧ c 0 = fun _ => 0) (hc : ∀ i, i < m → Step sens (rd i) n k need sil (md i) (lf i) (c i) (md (i + 1)) (lf (i + 1)) (c (i + 1))) :
    AC Tryd.prog 10 [.agg #[.slice (some ⟨3, 0, none⟩) n k, .int .i64 need, .int .i64 sil], .slice (some ⟨4, 0, none⟩) m m] (AW.of (FM sens n m rd) 1000 1000 3)
      (fun u A1 => ∃ nm, u = .tuple #[.slice (some ⟨nm, 0, none⟩) m m, .int .i64 0] ∧ A1.objs nm = some (.cells (stCs md lf c m) 59) ∧ 1000 ≤ nm) := by
  refine AC.goF Tryd.func10 rfl rfl ?_
  repeat' (first
  | refine GL.v rfl rfl rfl (GO.call rfl rfl Tryd.func41 rfl rfl rfl (AC.go Tryd.func41 rfl rfl (by repeat' (first | exact ⟨rfl, rfl⟩ | refine GL.sf rfl rfl rfl rfl ?_ | refine GL.done ?_ | refine GP.thenN ?_ | refine GT.seq ?_ | refine GT.region ?_ | refine GL.v rfl rfl rfl (by exact GO.mkfn rfl (fun _ h => by cases h) rfl rfl) ?_ | refine GT.ret ?_ | refine GP.endR1 rfl ?_)))) ?_
  | refine GP.fthen ?_
  | refine GF.range2 ?_
  | refine GP.range ?_
  | refine GF.seq ?_
  | refine GL.sf rfl rfl rfl rfl ?_
  | refine GL.done ?_
  | refine GP.thenN ?_
  | refine GT.seq ?_
  | refine GT.region ?_
  | refine GL.v rfl rfl rfl (by exact GO.call rfl rfl Tryd.func40 rfl rfl rfl (d_seconds40at hm hs hr hcl hpl (fun j o h => by have hj := FM_lt (by omega) h; simp only [alook]; (repeat rw [if_neg (by omega)]); exact h))) ?_
  | refine GT.skip ?_
  | refine GT.condF rfl ?_)
  refine GRange.of (a := [(18, .func (.func 89) #[] #[.pointer (some ⟨1003, 0, none⟩), .pointer (some ⟨1002, 0, none⟩)]), (7, .pointer (some ⟨1001, 0, none⟩))]) (asub_cons rfl (asub_cons rfl asub_nil)) rfl rfl rfl rfl (fun f => ?_)
  refine AC.go Tryd.func89 rfl rfl ?_
  repeat' (first
  | refine GL.sf rfl rfl rfl rfl ?_
  | refine GL.sv rfl rfl rfl rfl ?_
  | refine GL.done ?_
  | refine GP.thenN ?_
  | refine GT.seq ?_
  | refine GT.region ?_
  | refine GT.block ?_)
  generalize hrec : (AObj.loop _ _ _ _ _ _ _) = rec
  have hrl : ObjLt 1007 rec := by
    subst hrec
    intro t v hv
    exact EnvLt.get (.cons (.func .nil (.cons (.ptr rfl) (.ptr rfl)) (by intro l h; cases h)) (.cons (.ptr rfl) .nil)) hv
  refine GT.loop (fun q a L nx => ∃ i : Nat, i ≤ m ∧ q = m - i ∧ 1007 ≤ nx ∧ asub (EB m i) a ∧ subm (SB sens n m k rd need sil rec (stV (md i) (lf i) (c i))) L ∧
      ((i = 0 ∧ alook L 1001 = some (.cells [.slice none 0 0] 47)) ∨ ∃ o, 0 < i ∧ 1007 ≤ o ∧ alook L o = some (.cells (stCs md lf c i) 59) ∧ alook L 1001 = some (.cells [.slice (some ⟨o, 0, none⟩) i i] 47))) m
    ⟨0, by omega, by omega, by decide, EB_sub rfl rfl rfl rfl rfl rfl rfl rfl, SB_sub (by rw [h00.1, h00.2.1, h00.2.2]; rfl) rfl rfl rfl rfl rfl (fun j o h => by have hj := FM_lt (by omega) h; simp only [alook_aset, alook_aerase, alook]; (repeat rw [if_neg (by omega)]); exact h), .inl ⟨rfl, rfl⟩⟩ ?_
  rintro q a L nx ⟨i, hi, rfl, hnx, hsa, hsub, hcase⟩
  have hlook : ∀ i, i < m → ((secC n m).drop (0 + (i : Int).toNat * 2)).take 2 = [.slice (some ⟨5 + i, 0, none⟩) n n, .int .i64 0] := fun i h => by simpa using secC_at n m i h
  have hlen := secC_len n m
  have hok := SB_ok (n := n) (k := k) (need := need) (sil := sil) (st := stV (md i) (lf i) (c i)) (by omega) hs hr hrl ⟨16, rfl⟩
  rcases hcase with ⟨rfl, h1001⟩ | ⟨o, hpos, hlo, hob, h1001⟩
  · refine GT.resetL (L' := (1001, .cells [.slice none 0 0] 47) :: SB sens n m k rd need sil rec (stV (md 0) (lf 0) (c 0))) 1007 hsa (subm_cons h1001 hsub) hnx rfl rfl (fun j y hy => by
      rw [alook] at hy
      split at hy
      · cases hy; subst j; exact ⟨by decide, .flat (j := 8) rfl⟩
      · exact (hok j y hy).2) EB_lt (fun g hg => by
      match g, hg with
      | 0, _ => rfl
      | 1, _ => rfl
      | 2, _ => rfl) ?_
    have hl0 := hlook 0 hm.1
    rcases hc 0 hm.1 with hcc | ⟨al, hcc⟩

    ·
      repeat' (first
      | refine GL.v rfl rfl rfl (GO.yield rfl rfl rfl rfl (congrArg some hrec.symm) rfl rfl rfl (by repeat' (first | exact GP.yBody rfl ⟨rfl, rfl⟩ | refine GP.yAssign (congrArg some hrec.symm) ?_ | refine GL.sf rfl rfl rfl rfl ?_ | refine GL.sv rfl rfl rfl rfl ?_ | refine GL.sn rfl rfl rfl ?_ | refine GL.done ?_ | refine GT.region ?_ | refine GT.block ?_ | refine GP.inN ?_))) ?_
      | refine GL.sf rfl rfl rfl rfl ?_
      | refine GL.sn rfl rfl rfl ?_
      | refine GL.done ?_
      | refine GP.thenN ?_
      | refine GT.seq ?_
      | refine GT.region ?_
      | refine GL.v rfl rfl rfl (by first | exact GO.indexS (s := 2) rfl rfl rfl rfl rfl (by omega) | exact GO.loadG (s := 2) rfl rfl rfl rfl rfl rfl (by omega) hl0 | exact GO.call rfl rfl Tryd.func90 rfl rfl rfl (hcc _ _ _ 3 (5 + 0) (rd_of rfl) (rd_of (by simp only [alook_aset, alook_aerase, alook]; (repeat rw [if_neg (by omega)]); rw [fam_look, if_pos (by omega), show 5 + 0 - 5 = 0 by omega])) ⟨rfl, rfl, rfl, _, _, rfl⟩) | exact GO.add rfl rfl rfl (by omega)) ?_
      | refine GT.skip ?_
      | refine GT.block ?_
      | refine GP.inN ?_
      | refine GT.condF rfl ?_
      | (refine GT.condD rfl (fun h => ?_) (fun h => ?_) <;> try (exfalso; omega)))
      exact GP.invN (m - (0 + 1)) (by omega) ⟨0 + 1, by omega, rfl, by decide, EB_sub rfl rfl rfl rfl rfl rfl rfl rfl, SB_sub rfl (congrArg some hrec) rfl rfl rfl rfl (fun j o h => by have hj := FM_lt (by omega) h; simp only [alook_aset, alook_aerase, alook]; (repeat rw [if_neg (by omega)]); exact h), .inr ⟨1011, by omega, by decide, rfl, rfl⟩⟩
    ·
      repeat' (first
      | refine GL.v rfl rfl rfl (GO.yield rfl rfl rfl rfl (congrArg some hrec.symm) rfl rfl rfl (by repeat' (first | exact GP.yBody rfl ⟨rfl, rfl⟩ | refine GP.yAssign (congrArg some hrec.symm) ?_ | refine GL.sf rfl rfl rfl rfl ?_ | refine GL.sv rfl rfl rfl rfl ?_ | refine GL.sn rfl rfl rfl ?_ | refine GL.done ?_ | refine GT.region ?_ | refine GT.block ?_ | refine GP.inN ?_))) ?_
      | refine GL.sf rfl rfl rfl rfl ?_
      | refine GL.sn rfl rfl rfl ?_
      | refine GL.done ?_
      | refine GP.thenN ?_
      | refine GT.seq ?_
      | refine GT.region ?_
      | refine GL.v rfl rfl rfl (by first | exact GO.indexS (s := 2) rfl rfl rfl rfl rfl (by omega) | exact GO.loadG (s := 2) rfl rfl rfl rfl rfl rfl (by omega) hl0 | exact GO.call rfl rfl Tryd.func90 rfl rfl rfl (hcc _ _ _ 3 (5 + 0) (rd_of rfl) (rd_of (by simp only [alook_aset, alook_aerase, alook]; (repeat rw [if_neg (by omega)]); rw [fam_look, if_pos (by omega), show 5 + 0 - 5 = 0 by omega])) ⟨rfl, rfl, rfl, _, _, rfl⟩) | exact GO.add rfl rfl rfl (by omega)) ?_
      | refine GT.skip ?_
      | refine GT.block ?_
      | refine GP.inN ?_
      | refine GT.condF rfl ?_
      | (refine GT.condD rfl (fun h => ?_) (fun h => ?_) <;> try (exfalso; omega)))
      exact GP.invN (m - (0 + 1)) (by omega) ⟨0 + 1, by omega, rfl, by decide, EB_sub rfl rfl rfl rfl rfl rfl rfl rfl, SB_sub rfl (congrArg some hrec) rfl rfl rfl rfl (fun j o h => by have hj := FM_lt (by omega) h; simp only [alook_aset, alook_aerase, alook]; (repeat rw [if_neg (by omega)]); exact h), .inr ⟨1012, by omega, by decide, rfl, rfl⟩⟩
  · refine GT.ren 1007 o (a2 := EB m i) (L' := (1007, .cells (stCs md lf c i) 59) :: (1001, .cells [.slice (some ⟨1007, 0, none⟩) i i] 47) :: SB sens n m k rd need sil rec (stV (md i) (lf i) (c i))) hsa EB_lt
      hob stCs_flat rfl (Nat.ble_eq_true_of_le hlo) rfl rfl (fun j y hne hy => by
        rw [alook, if_neg (fun e => hne e.symm), alook] at hy
        split at hy
        · cases hy; subst j; exact ⟨by decide, .inr ⟨_, _, _, rfl, h1001⟩⟩
        · obtain ⟨h0, h1, h2⟩ := hok j y hy
          exact ⟨h1, .inl ⟨hsub j y hy, h2⟩⟩) (fun g hg => by
      match g, hg with
      | 0, _ => rfl
      | 1, _ => rfl
      | 2, _ => rfl) (.inl rfl) ?_
    rcases Nat.lt_or_ge i m with hlt | hge
    · have hl0 := hlook i hlt
      rcases hc i hlt with hcc | ⟨al, hcc⟩

      ·
        repeat' (first
        | refine GL.v rfl rfl rfl (GO.yield rfl rfl rfl rfl (congrArg some hrec.symm) rfl rfl rfl (by repeat' (first | exact GP.yBody rfl ⟨rfl, rfl⟩ | refine GP.yAssign (congrArg some hrec.symm) ?_ | refine GL.sf rfl rfl rfl rfl ?_ | refine GL.sv rfl rfl rfl rfl ?_ | refine GL.sn rfl rfl rfl ?_ | refine GL.done ?_ | refine GT.region ?_ | refine GL.v rfl rfl rfl (by exact GO.appendG rfl rfl rfl rfl rfl rfl rfl rfl rfl rfl rfl rfl rfl rfl stCs_len (by decide) rfl (Nat.le_of_ble_eq_true rfl) (by omega)) ?_ | refine GT.block ?_ | refine GP.inN ?_))) ?_
        | refine GL.sf rfl rfl rfl rfl ?_
        | refine GL.sn rfl rfl rfl ?_
        | refine GL.done ?_
        | refine GP.thenN ?_
        | refine GT.seq ?_
        | refine GT.region ?_
        | refine GL.v rfl rfl rfl (by first | exact GO.indexS (s := 2) rfl rfl rfl rfl rfl (by omega) | exact GO.loadG (s := 2) rfl rfl rfl rfl rfl rfl (by omega) hl0 | exact GO.call rfl rfl Tryd.func90 rfl rfl rfl (hcc _ _ _ 3 (5 + i) (rd_of rfl) (rd_of (by simp only [alook_aset, alook_aerase, alook]; (repeat rw [if_neg (by omega)]); rw [fam_look, if_pos (by omega), show 5 + i - 5 = i by omega])) ⟨rfl, rfl, rfl, _, _, rfl⟩) | exact GO.add rfl rfl rfl (by omega)) ?_
        | refine GT.skip ?_
        | refine GT.block ?_
        | refine GP.inN ?_
        | refine GT.condF rfl ?_
        | (refine GT.condD rfl (fun h => ?_) (fun h => ?_) <;> try (exfalso; omega)))
        exact GP.invN (m - (i + 1)) (by omega) ⟨i + 1, by omega, rfl, by decide, EB_sub rfl rfl rfl rfl rfl rfl rfl rfl, SB_sub rfl (congrArg some hrec) rfl rfl rfl rfl (fun j o h => by have hj := FM_lt (by omega) h; simp only [alook_aset, alook_aerase, alook]; (repeat rw [if_neg (by omega)]); exact h), .inr ⟨1012, by omega, by decide, rfl, rfl⟩⟩
      ·
        repeat' (first
        | refine GL.v rfl rfl rfl (GO.yield rfl rfl rfl rfl (congrArg some hrec.symm) rfl rfl rfl (by repeat' (first | exact GP.yBody rfl ⟨rfl, rfl⟩ | refine GP.yAssign (congrArg some hrec.symm) ?_ | refine GL.sf rfl rfl rfl rfl ?_ | refine GL.sv rfl rfl rfl rfl ?_ | refine GL.sn rfl rfl rfl ?_ | refine GL.done ?_ | refine GT.region ?_ | refine GL.v rfl rfl rfl (by exact GO.appendG rfl rfl rfl rfl rfl rfl rfl rfl rfl rfl rfl rfl rfl rfl stCs_len (by decide) rfl (Nat.le_of_ble_eq_true rfl) (by omega)) ?_ | refine GT.block ?_ | refine GP.inN ?_))) ?_
        | refine GL.sf rfl rfl rfl rfl ?_
        | refine GL.sn rfl rfl rfl ?_
        | refine GL.done ?_
        | refine GP.thenN ?_
        | refine GT.seq ?_
        | refine GT.region ?_
        | refine GL.v rfl rfl rfl (by first | exact GO.indexS (s := 2) rfl rfl rfl rfl rfl (by omega) | exact GO.loadG (s := 2) rfl rfl rfl rfl rfl rfl (by omega) hl0 | exact GO.call rfl rfl Tryd.func90 rfl rfl rfl (hcc _ _ _ 3 (5 + i) (rd_of rfl) (rd_of (by simp only [alook_aset, alook_aerase, alook]; (repeat rw [if_neg (by omega)]); rw [fam_look, if_pos (by omega), show 5 + i - 5 = i by omega])) ⟨rfl, rfl, rfl, _, _, rfl⟩) | exact GO.add rfl rfl rfl (by omega)) ?_
        | refine GT.skip ?_
        | refine GT.block ?_
        | refine GP.inN ?_
        | refine GT.condF rfl ?_
        | (refine GT.condD rfl (fun h => ?_) (fun h => ?_) <;> try (exfalso; omega)))
        exact GP.invN (m - (i + 1)) (by omega) ⟨i + 1, by omega, rfl, by decide, EB_sub rfl rfl rfl rfl rfl rfl rfl rfl, SB_sub rfl (congrArg some hrec) rfl rfl rfl rfl (fun j o h => by have hj := FM_lt (by omega) h; simp only [alook_aset, alook_aerase, alook]; (repeat rw [if_neg (by omega)]); exact h), .inr ⟨1013, by omega, by decide, rfl, rfl⟩⟩
    · obtain rfl : i = m := by omega
      repeat' (first
      | refine GL.sf rfl rfl rfl rfl ?_
      | refine GL.done ?_
      | refine GP.thenN ?_
      | refine GT.seq ?_
      | refine GT.region ?_
      | refine GT.exit ?_
      | refine GP.thenE ?_
      | refine GP.hit ?_
      | refine GP.invE ?_
      | (refine GT.condD rfl (fun h => ?_) (fun h => ?_) <;> try (exfalso; omega))
      | refine GP.endN0 rfl ?_)
      refine ⟨_, _, rfl, rfl, rfl, ?_⟩
      repeat' (first
      | refine GP.fend2 rfl rfl ?_
      | refine GL.sf rfl rfl rfl rfl ?_
      | refine GL.sv rfl rfl rfl rfl ?_
      | refine GL.done ?_)
      exact ⟨1007, rfl, rfl, by decide⟩
end Go.M
