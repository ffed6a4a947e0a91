/- Functions of the given program, walked (no condition beyond what each theorem says). -/
import Derived.Test.YtfhodefiknfccaaDoorC6
import Derived.Test.YtfhodefiknfccaaDoorC7
import Derived.Test.YtfhodefiknfccaaDoorE6
set_option linter.unusedVariables false
set_option linter.unusedSimpArgs false
namespace Go.M
open Go.Proofs Go.RowKit
set_option maxRecDepth 8000
set_option maxHeartbeats 8000000
theorem d_first71n {A : AW} : AC Tryd.prog 71 [.slice none 0 0] A (isR (.int .i64 0) A) := by
  refine AC.is0 ?_ ⟨8, rfl⟩ (.flat (k := 8) rfl .nil)
  refine AC.go Tryd.func71 rfl rfl ?_
  repeat' (first
  | refine GT.unroll 1 ?_
  | refine GL.sf rfl rfl rfl rfl ?_
  | refine GL.done ?_
  | refine GP.thenN ?_
  | refine GT.seq ?_
  | refine GT.region ?_
  | refine GT.block ?_
  | refine GT.ret ?_
  | refine GT.exit ?_
  | refine GP.thenE ?_
  | refine GP.hit ?_
  | refine GP.againE ?_
  | refine GU.step ?_
  | refine GT.condF rfl ?_
  | refine GP.endR1 rfl ?_)
  rfl
theorem d_mapped73z {A : AW} : AC Tryd.prog 73 [.slice none 0 0, .func (.func 74) #[] #[]] A (isR (.slice none 0 0) A) := by
  refine AC.is0 ?_ ⟨8, rfl⟩ (.flat (k := 8) rfl (.flat (k := 8) rfl .nil))
  refine AC.go Tryd.func73 rfl rfl ?_
  repeat' (first
  | refine GT.unroll 1 ?_
  | refine GL.sf rfl rfl rfl rfl ?_
  | refine GL.done ?_
  | refine GP.thenN ?_
  | refine GT.seq ?_
  | refine GT.region ?_
  | refine GT.block ?_
  | refine GT.ret ?_
  | refine GT.exit ?_
  | refine GP.thenE ?_
  | refine GP.hit ?_
  | refine GP.againE ?_
  | refine GU.step ?_
  | refine GT.condF rfl ?_
  | refine GP.endR1 rfl ?_)
  rfl
theorem d_seconds40z {A : AW} {p n k : Nat} {sens : List Value} {need sil : Int} (hs : ∃ j, noAddrs j sens = true) (hp : A.rd p 0 sens.length = some sens) (hpl : ∀ {A : AW} {p : Nat}, A.rd p 0 sens.length = some sens → AC Tryd.prog 84 [.agg #[.slice (some ⟨p, 0, none⟩) n k, .int .i64 need, .int .i64 sil]] A (isR (.int .i64 0) A)) :
    AC Tryd.prog 40 [.agg #[.slice (some ⟨p, 0, none⟩) n k, .int .i64 need, .int .i64 sil], .slice none 0 0] A (isR (.int .i64 0) A) := by
  obtain ⟨fj, hs⟩ := hs
  refine AC.isX (SmallX.nil.cons (k := 0) (b := p) (f := 0) (o := .cells sens 128) (.flat hp hs)) (args := [.agg #[.slice (some ⟨0, 0, none⟩) n k, .int .i64 need, .int .i64 sil], .slice none 0 0]) ?_ ⟨8, rfl⟩ (.agg (.sl rfl rfl (.flat (k := 8) rfl (.flat (k := 8) rfl .nil))) (.flat (k := 8) rfl .nil))
  refine AC.go Tryd.func40 rfl rfl ?_
  clear hp
  repeat' (first
  | refine GL.v rfl rfl rfl (GO.call rfl rfl Tryd.func85 rfl rfl rfl (AC.go Tryd.func85 rfl rfl (by repeat' (first | exact ⟨rfl, rfl⟩ | refine GT.unroll 1 ?_ | refine GL.sf rfl rfl rfl rfl ?_ | refine GL.sv rfl rfl rfl rfl ?_ | refine GL.done ?_ | refine GP.thenN ?_ | refine GT.seq ?_ | refine GT.region ?_ | refine GT.block ?_ | refine GT.ret ?_ | refine GT.exit ?_ | refine GP.thenE ?_ | refine GP.hit ?_ | refine GP.againE ?_ | refine GU.step ?_ | refine GT.condF rfl ?_ | refine GP.endR1 rfl ?_)))) ?_
  | refine GL.sf rfl rfl rfl rfl ?_
  | refine GL.sv rfl rfl rfl rfl ?_
  | refine GL.done ?_
  | refine GP.thenN ?_
  | refine GT.seq ?_
  | refine GT.region ?_
  | refine GL.v rfl rfl rfl (by first | exact GO.call rfl rfl Tryd.func84 rfl rfl rfl (hpl (rd_self rfl)) | exact GO.call rfl rfl Tryd.func72 rfl rfl rfl (d_when72 _ _) | exact GO.call rfl rfl Tryd.func71 rfl rfl rfl (d_first71n) | exact GO.call rfl rfl Tryd.func71 rfl rfl rfl (d_first71 [0, 0] rfl rfl rfl) | exact GO.mkfn rfl (fun _ h => by cases h) rfl rfl) ?_
  | refine GT.skip ?_
  | refine GT.ret ?_
  | refine GT.condF rfl ?_
  | refine GP.endR1 rfl ?_)
  rfl
abbrev PM (sens : List Value) : LM := [(3, .cells sens 128), (2, .cells [] 0), (1, .cells stepsV 242), (0, .cells [.int .i64 0, .int .i64 0] 31)]
theorem d_exposed33z {sens : List Value} {n k : Nat} {need sil : Int} (hs : ∃ j, noAddrs j sens = true) (hpl : ∀ {A : AW} {p : Nat}, A.rd p 0 sens.length = some sens → AC Tryd.prog 84 [.agg #[.slice (some ⟨p, 0, none⟩) n k, .int .i64 need, .int .i64 sil]] A (isR (.int .i64 0) A)) :
    AC Tryd.prog 33 [.agg #[.slice (some ⟨3, 0, none⟩) n k, .int .i64 need, .int .i64 sil], .slice none 0 0, .slice none 0 0, .agg #[.int .i64 0, .int .i64 0]] (AW.of (PM sens) 4 4 3) (fun u _ => u = .tuple #[.int .i64 0, .int .i64 0]) := by
  refine AC.goF Tryd.func33 rfl rfl ?_
  repeat' (first
  | refine GL.v rfl rfl rfl (GO.call rfl rfl Tryd.func41 rfl rfl rfl (AC.go Tryd.func41 rfl rfl (by repeat' (first | exact ⟨rfl, rfl⟩ | refine GL.sf rfl rfl rfl rfl ?_ | refine GL.done ?_ | refine GP.thenN ?_ | refine GT.seq ?_ | refine GT.region ?_ | refine GL.v rfl rfl rfl (by exact GO.mkfn rfl (fun _ h => by cases h) rfl rfl) ?_ | refine GT.ret ?_ | refine GP.endR1 rfl ?_)))) ?_
  | refine GT.draws (id := 1) [[], [], [0, 1], [], [3], [], [5], [3, 4, 5, 6], [0, 1, 2, 3, 4, 5, 6, 7], [], [0, 1, 2, 3, 4, 5, 6, 7, 8, 9], [0, 1, 2, 3, 4, 5, 6, 7, 8, 9, 10], [], [0, 1, 2, 3, 4, 5, 6, 7, 8, 9, 10, 11, 12], [0, 1, 2, 3, 4, 5, 6, 7, 8, 9, 10, 11, 12, 13], [0, 1, 2, 3, 4, 5, 6, 7, 8, 9, 10, 11, 12, 13, 14], [0, 1, 2, 3, 4, 5, 6, 7, 8, 9, 10, 11, 12, 13, 14, 15]] [14] (by kernel_rfl) ?_
  | refine GP.fthen ?_
  | refine GF.range2 ?_
  | refine GP.range ?_
  | refine GF.seq ?_
  | refine GL.sf rfl rfl rfl rfl ?_
  | refine GL.sn rfl rfl rfl ?_
  | refine GL.done ?_
  | refine GP.thenN ?_
  | refine GT.seq ?_
  | refine GT.region ?_
  | refine GD.li rfl rfl (by exact onAt.none rfl) rfl (by repeat first | exact AllG.nil rfl | refine AllG.cons rfl (by first | exact GO.sf rfl rfl | exact GO.sv rfl rfl | exact GO.call rfl rfl Tryd.func72 rfl rfl rfl (d_when72 _ _) | exact GO.call rfl rfl Tryd.func71 rfl rfl rfl (d_first71n) | exact GO.call rfl rfl Tryd.func73 rfl rfl rfl (d_mapped73z) | exact GO.call rfl rfl Tryd.func71 rfl rfl rfl (d_first71 [0, 0, 0, 0] rfl rfl rfl) | exact GO.call rfl rfl Tryd.func75 rfl rfl rfl (d_limits75 0 0 (by omega) (by omega) (by omega)) | exact GO.call rfl rfl Tryd.func40 rfl rfl rfl (d_seconds40z hs (rd_self rfl) hpl)) ?_) ?_
  | refine GD.he rfl rfl rfl (by exact onAt.none rfl) rfl (by exact GO.sf rfl rfl) ?_ ?_
  | refine GD.done rfl rfl rfl ?_
  | exact AllJs.nil rfl
  | refine GT.skip ?_
  | refine GT.condF rfl ?_)
  refine GRange.of (a := [(36, .func (.func 89) #[] #[.pointer (some ⟨11, 0, none⟩), .pointer (some ⟨10, 0, none⟩)]), (6, .pointer (some ⟨5, 0, none⟩)), (7, .pointer (some ⟨6, 0, none⟩)), (11, .pointer (some ⟨8, 0, none⟩)), (12, .pointer (some ⟨9, 0, none⟩))]) (asub_cons rfl (asub_cons rfl (asub_cons rfl (asub_cons rfl (asub_cons rfl asub_nil))))) rfl rfl rfl rfl (fun f => ?_)
  refine AC.go Tryd.func89 rfl rfl ?_
  repeat' (first
  | refine GT.unroll 1 ?_
  | refine GL.sf rfl rfl rfl rfl ?_
  | refine GL.sv rfl rfl rfl rfl ?_
  | refine GL.done ?_
  | refine GP.thenN ?_
  | refine GT.seq ?_
  | refine GT.region ?_
  | refine GT.block ?_
  | refine GT.exit ?_
  | refine GP.thenE ?_
  | refine GP.hit ?_
  | refine GP.againE ?_
  | refine GU.step ?_
  | refine GT.condF rfl ?_
  | refine GP.endN0 rfl ?_)
  refine ⟨_, _, rfl, rfl, rfl, ?_⟩
  repeat' (first
  | refine GP.fend2 rfl rfl ?_
  | refine GL.sf rfl rfl rfl rfl ?_
  | refine GL.done ?_)
  rfl
end Go.M
namespace Go.M
open Go.Proofs Go.RowKit
set_option maxRecDepth 8000
set_option maxHeartbeats 4000000
theorem Secs.fm {B X : LM} {k nx ro n m p o : Nat} {ν : Nat → Nat} {sens : List Value} {rd : Nat → List Value} (h : Secs X k nx n m o ν rd) (hm : 0 < m) (hB : below k B = true) (hG : GOk (AW.of (B ++ X) nx ro 3)) (hp : (AW.of (B ++ X) nx ro 3).rd p 0 sens.length = some sens) (fs : ∃ k, noAddrs k sens = true) (fr : ∀ i, i < m → ∃ k, noAddrs k (rd i) = true) :
    FMOk (AW.of (B ++ X) nx ro 3) p 0 o ν sens n m rd := by
  refine ⟨hG, hp, fs, ?_, fun i hi => ?_, fr⟩
  · obtain ⟨h1, h2, _⟩ := h.hob hm
    have := rd_of (nx := nx) (ro := ro) (gl := 3) ((app_new hB h2).trans h1)
    rw [secV_len, Nat.mul_comm] at this
    exact this
  · obtain ⟨h1, h2, _⟩ := h.hrd i hi
    exact rd_of ((app_new hB h2).trans h1)
theorem FMOk.smallE {A : AW} {p o s x : Nat} {r : Nat → Nat} {sens : List Value} {n m : Nat} {rd : Nat → List Value} {ex : List Int} (h : FMOk A p o s r sens n m rd) (hm : m ≤ 256) (hx : A.rd x 0 (intC ex).length = some (intC ex)) (hf : ∃ j, noAddrs j (intC ex) = true) :
    SmallX A (FX sens n m rd ex) 1000 3 (fun j => if j = 999 then some (x, 0) else rhoFM p o s r m j) := by
  have hs := h.small (m := m) (by omega)
  obtain ⟨fj, hf⟩ := hf
  have key : ∀ j y, alook (FM sens n m rd) j = some y → j < 999 := fun j y hj => FM_ne hj hm
  have hmono : ∀ j x', rhoFM p o s r m j = some x' → (if j = 999 then some (x, 0) else rhoFM p o s r m j) = some x' := fun j x' hj => by
    have : j ≠ 999 := fun e => by
      subst e
      have hn : alook (FM sens n m rd) 999 = none := by
        cases hq : alook (FM sens n m rd) 999 with
        | none => rfl
        | some y => exact absurd (key _ _ hq) (by decide)
      rw [hs.hd _ hn] at hj
      cases hj
    rw [if_neg this]; exact hj
  refine ⟨fun j y hy => ?_, fun j hj => ?_, fun j y hy => ?_, hs.hgl, fun g hg => ?_, hs.hGk⟩
  · split at hy
    · omega
    · exact hs.hk j y hy
  · rw [FX, alook] at hj
    split at hj
    · cases hj
    · rw [if_neg (by omega)]; exact hs.hd j hj
  · rw [FX, alook] at hy
    split at hy
    · rename_i e
      subst e; cases hy
      exact ⟨by decide, (x, 0), if_pos rfl, .flat hx hf⟩
    · obtain ⟨h1, x', h2, h3⟩ := hs.hL j y hy
      exact ⟨h1, x', hmono j x' h2, h3.mono hmono⟩
  · rw [if_neg (by omega)]; exact hs.hG g hg
theorem d_states10at {A : AW} {p s n m : Nat} {r : Nat → Nat} {md lf : Nat → Int} {c : Nat → Nat → Int} {sens : List Value} {rd : Nat → List Value} {need sil : Int} (hm : 0 < m ∧ m ≤ 256) (hf : FMOk A p 0 s r sens n m rd) (hcl : Closure86 sens n m n rd need sil) (hpl : Plant84 sens n m n rd need sil)
    (h00 : md 0 = 0 ∧ lf 0 = 0 ∧ c 0 = fun _ => 0) (hc : ∀ i, i < m → Step sens (rd i) n n need sil (md i) (lf i) (c i) (md (i + 1)) (lf (i + 1)) (c (i + 1))) :
    AC Tryd.prog 10 [.agg #[.slice (some ⟨p, 0, none⟩) n n, .int .i64 need, .int .i64 sil], .slice (some ⟨s, 0, none⟩) m m] A (isR (.tuple #[.slice (some ⟨A.next, 0, none⟩) m m, .int .i64 0]) (A.push (.cells (stCs md lf c m) 59))) := by
  refine AC.exact (AC.givesX (hf.small (by omega)) (args := [.agg #[.slice (some ⟨3, 0, none⟩) n n, .int .i64 need, .int .i64 sil], .slice (some ⟨4, 0, none⟩) m m]) (AC.mono (d_states10G hm hf.fsens hf.frd hcl hpl h00 hc) ?_) (.agg (.sl (f := 0) (by simp [rhoFM]) rfl (.flat (k := 8) rfl (.flat (k := 8) rfl .nil))) (.sl (f := 0) (by simp [rhoFM]) rfl .nil)))
  rintro v A1 ⟨nm, rfl, h1, h2⟩
  exact ⟨nm, _, h1, h2, stCs_flat, rfl, .tuple (.sl (f := 0) (if_pos rfl) rfl (.flat (k := 8) rfl .nil)) .nil⟩
theorem d_exposed33at {A : AW} {p s x n m cx : Nat} {r : Nat → Nat} {md lf : Nat → Int} {c : Nat → Nat → Int} {sens : List Value} {rd : Nat → List Value} {need sil : Int} {ex : List Int} (hm : 0 < m ∧ m ≤ 256) (hf : FMOk A p 0 s r sens n m rd) (hx : A.rd x 0 (intC ex).length = some (intC ex)) (hcl : Closure86 sens n m n rd need sil) (hpl : Plant84 sens n m n rd need sil)
    (h00 : md 0 = 0 ∧ lf 0 = 0 ∧ c 0 = fun _ => 0) (hc : ∀ i, i < m → Step sens (rd i) n n need sil (md i) (lf i) (c i) (md (i + 1)) (lf (i + 1)) (c (i + 1))) (hxl : ex.length = m) (hex : ∀ z ∈ ex, -10000 ≤ z ∧ z ≤ 10000) :
    AC Tryd.prog 33 [.agg #[.slice (some ⟨p, 0, none⟩) n n, .int .i64 need, .int .i64 sil], .slice (some ⟨s, 0, none⟩) m m, .slice (some ⟨x, 0, none⟩) m cx, .agg #[.int .i64 0, .int .i64 0]] A (isR (.tuple #[.int .i64 (bestF md ex m), .int .i64 0]) A) := by
  have h := d_exposed33 (k := n) (cx := cx) hm hf.fsens hf.frd hcl hpl h00 hc hxl hex
  rw [hxl] at h
  exact AC.isX (hf.smallE hm.2 hx (intC_flat ex)) (args := [.agg #[.slice (some ⟨3, 0, none⟩) n n, .int .i64 need, .int .i64 sil], .slice (some ⟨4, 0, none⟩) m m, .slice (some ⟨999, 0, none⟩) m cx, .agg #[.int .i64 0, .int .i64 0]]) h ⟨8, rfl⟩
    (.agg (.sl (f := 0) (by simp [rhoFM]) rfl (.flat (k := 8) rfl (.flat (k := 8) rfl .nil))) (.sl (f := 0) (by simp [rhoFM]) rfl (.sl (f := 0) (by simp) rfl (.flat (k := 16) rfl .nil))))
theorem d_exposed33zat {A : AW} {p n k : Nat} {sens : List Value} {need sil : Int} (hG : GOk A) (hs : ∃ j, noAddrs j sens = true) (hp : A.rd p 0 sens.length = some sens) (hpl : ∀ {A : AW} {p : Nat}, A.rd p 0 sens.length = some sens → AC Tryd.prog 84 [.agg #[.slice (some ⟨p, 0, none⟩) n k, .int .i64 need, .int .i64 sil]] A (isR (.int .i64 0) A)) :
    AC Tryd.prog 33 [.agg #[.slice (some ⟨p, 0, none⟩) n k, .int .i64 need, .int .i64 sil], .slice none 0 0, .slice none 0 0, .agg #[.int .i64 0, .int .i64 0]] A (isR (.tuple #[.int .i64 0, .int .i64 0]) A) := by
  obtain ⟨hgl, g0, g1, cc, ee, g2⟩ := hG
  obtain ⟨fj, hs⟩ := hs
  refine AC.isX (SmallX.cons (b := p) (f := 0) (o := .cells sens 128) (L := [(2, .cells [] 0), (1, .cells stepsV 242), (0, .cells [.int .i64 0, .int .i64 0] 31)]) (k := 3) (ρ := fun j => if j < 3 then some (j, 0) else none) ⟨fun j x hx => by split at hx <;> simp_all, fun j hj => ?_, fun j o hj => ?_, by rw [hgl]; exact Nat.le_refl _, fun g hg => by simp [hg], by decide⟩ (.flat hp hs)) (args := [.agg #[.slice (some ⟨3, 0, none⟩) n k, .int .i64 need, .int .i64 sil], .slice none 0 0, .slice none 0 0, .agg #[.int .i64 0, .int .i64 0]]) (d_exposed33z ⟨fj, hs⟩ hpl) ⟨8, rfl⟩
    (.agg (.sl (f := 0) rfl rfl (.flat (k := 8) rfl (.flat (k := 8) rfl .nil))) (.flat (k := 8) rfl (.flat (k := 8) rfl (.flat (k := 16) rfl .nil))))
  · match j with
    | 0 => simp [alook] at hj
    | 1 => simp [alook] at hj
    | 2 => simp [alook] at hj
    | j + 3 => simp
  · match j with
    | 0 => simp only [alook] at hj; simp at hj; subst hj; exact ⟨by decide, (0, 0), by simp, .flat (k := 8) (by show A.rd 0 0 2 = _; unfold AW.rd; rw [g0]; rfl) rfl⟩
    | 1 => simp only [alook] at hj; simp at hj; subst hj; exact ⟨by decide, (1, 0), by simp, .flat (k := 8) (by show A.rd 1 0 5 = _; unfold AW.rd; rw [g1]; rfl) rfl⟩
    | 2 => simp only [alook] at hj; simp at hj; subst hj; exact ⟨by decide, (2, 0), by simp, .flat (k := 8) (by show A.rd 2 0 0 = _; unfold AW.rd; rw [g2]; simp) rfl⟩
    | j + 3 => simp [alook] at hj
/-- The second of a failure is one. -/
theorem isTime_one {l : List Sen} {zs : List Int} {need : Int} {t u : Nat} (h1 : IsTime l zs need t) (h2 : IsTime l zs need u) : t = u := by
  rcases h1 with ⟨rfl, h1⟩ | ⟨a1, a2, a3, a4⟩ <;> rcases h2 with ⟨rfl, h2⟩ | ⟨b1, b2, b3, b4⟩
  · rfl
  · rw [h1 u b1 b2] at b3; cases b3
  · rw [h2 t a1 a2] at a3; cases a3
  · rcases Nat.lt_trichotomy t u with q | q | q
    · rw [b4 t a1 q] at a3; cases a3
    · exact q
    · rw [a4 u b1 q] at b3; cases b3
theorem first_of {p : Nat → Bool} : ∀ n : Nat, (∀ s, 1 ≤ s → s ≤ n → p s = false) ∨ ∃ t, 1 ≤ t ∧ t ≤ n ∧ p t = true ∧ ∀ s, 1 ≤ s → s < t → p s = false
  | 0 => .inl fun s h1 h2 => by omega
  | n + 1 => by
    rcases first_of (p := p) n with h | ⟨t, h1, h2, h3⟩
    · cases hp : p (n + 1) with
      | true => exact .inr ⟨n + 1, by omega, by omega, hp, fun s a b => h s a (by omega)⟩
      | false =>
        refine .inl fun s a b => ?_
        by_cases q : s = n + 1
        · subst q; exact hp
        · exact h s a (by omega)
    · exact .inr ⟨t, h1, by omega, h3⟩
theorem isTime_some (l : List Sen) (zs : List Int) (need : Int) : ∃ t, IsTime l zs need t := by
  rcases first_of (p := vt l zs need) 60 with h | ⟨t, h⟩
  · exact ⟨0, .inl ⟨rfl, h⟩⟩
  · exact ⟨t, .inr h⟩
theorem d_seen32t {A : AW} {p x k c t : Nat} (l : List Sen) (nm : ByteArray) (hnm : NameOk nm) (zs : List Int) (need sil : Int) (ht : IsTime l zs need t) (hzl : zs.length = l.length) (h : ∀ z ∈ zs, -10000 ≤ z ∧ z ≤ 10000) (hn : 0 < l.length ∧ l.length ≤ 8)
    (hpl : ∀ {A : AW} {p : Nat}, A.rd p 0 (senC l).length = some (senC l) → AC Tryd.prog 84 [.agg #[.slice (some ⟨p, 0, none⟩) l.length k, .int .i64 need, .int .i64 sil]] A (isR (.int .i64 0) A))
    (hp : A.rd p 0 (senC l).length = some (senC l)) (hx : A.rd x 0 (intC zs).length = some (intC zs)) :
    AC Tryd.prog 32 [.agg #[.slice (some ⟨p, 0, none⟩) l.length k, .int .i64 need, .int .i64 sil], failV nm x l.length c] A (isR (.tuple #[.bool (decide (0 < (t : Int))), .int .i64 (t : Int), .int .i64 0]) A) := by
  refine AC.mono (d_seen32 l nm hnm zs need sil hzl h hn hpl hp hx) ?_
  rintro v A1 ⟨⟨u, rfl, hu⟩, rfl⟩
  obtain rfl := isTime_one ht hu
  exact ⟨rfl, rfl⟩
/-- What the monitor needs of the law's seconds. -/
theorem cl_law {l : List Sen} {need sil : Int} {gs bs : List (Int × Bool)} {r t m : Nat} (hm : m ≤ 900) (hn : 0 < l.length ∧ l.length ≤ 5) (hgl : gs.length = l.length) (hbl : bs.length = l.length) (hgi : ∀ y ∈ gs, InR y) (hbi : ∀ y ∈ bs, InR y) :
    Closure86 (senC l) l.length m l.length (fun i => rdC (rsF gs bs r t i)) need sil := fun L nx i hi hsub => by
  have hlen : (rsF gs bs r t i).length = l.length := by unfold rsF; split <;> assumption
  have hin : ∀ y ∈ rsF gs bs r t i, InR y := by unfold rsF; split <;> assumption
  have h := d_closure86G (A := AW.of L nx 1001 3) (r := 5 + i) (b := 1000) (p := 3) (k := l.length) (rsF gs bs r t i) need sil (by omega) hin (rd_of (hsub (5 + i) _ (by rw [alook, if_neg (by omega)]; exact FM_look hi))) (by rw [hlen]; exact rd_of (hsub 1000 _ rfl)) (rd_zero (hsub 3 _ rfl))
  rw [hlen] at h
  exact h
theorem pl_law {l : List Sen} {need sil : Int} {rd : Nat → List Value} {m : Nat} (h : PlantOk l need sil) (h5 : l.length ≤ 5) : Plant84 (senC l) l.length m l.length rd need sil := fun L nx ro hp => d_plant84G h h5 (rd_of hp)
end Go.M
namespace Go.M
open Go.Proofs Go.RowKit
set_option maxRecDepth 16000
set_option maxHeartbeats 16000000
theorem GO.remE {P : Program} {n : Nat} {a : AEnv} {o : Oper} {L : LM} {nx ro gl : Nat} {t t2 : TypeId} {X Y : Operand} {i j r : Int} {k : IntKind} (ho : o.op = .binOp .rem t X Y t2) (hx : aev gl a X = some (.int k i)) (hy : aev gl a Y = some (.int k j)) (h1 : 0 < j) (h2 : 0 ≤ i) (hr : i % j = r) : GO P n o a L nx ro gl (isR (.int k r) (AW.of L nx ro gl)) := by
  subst hr
  exact GO.rem ho hx hy h1 h2
theorem GO.maxE {P : Program} {n : Nat} {a : AEnv} {o : Oper} {L : LM} {nx ro gl : Nat} {c : Call} {x y : Operand} {k : IntKind} {i j r : Int} (ho : o.op = .call c) (hc : c.callee = .builtin .max) (ha : c.args.toList = [x, y]) (hx : aev gl a x = some (.int k i)) (hy : aev gl a y = some (.int k j)) (hr : max i j = r) : GO P n o a L nx ro gl (isR (.int k r) (AW.of L nx ro gl)) := by
  subst hr
  exact ⟨AOp.imax ho hc ha hx hy⟩
def fN : ByteArray := ⟨#[102]⟩
theorem fName : NameOk fN := ⟨by decide, by decide, fun i b h => by
  match i with
  | 0 => simp [fN] at h; subst h; exact .inl (.inr (by decide))
  | i + 1 => simp [fN] at h⟩
abbrev xC (x : Fault) : List Value := [.int .i64 x.s0, .int .i64 x.g0, .int .i64 x.l0, .int .i64 x.lo0, .int .i64 x.hi0, .int .i64 x.s1, .int .i64 x.g1, .int .i64 x.l1, .int .i64 x.lo1, .int .i64 x.hi1, .int .i64 x.s2, .int .i64 x.g2, .int .i64 x.l2, .int .i64 x.lo2, .int .i64 x.hi2, .int .i64 x.s3, .int .i64 x.g3, .int .i64 x.l3, .int .i64 x.lo3, .int .i64 x.hi3, .int .i64 x.s4, .int .i64 x.g4, .int .i64 x.l4, .int .i64 x.lo4, .int .i64 x.hi4,
  .int .i64 x.a, .int .i64 x.b, .int .i64 x.c, .int .i64 x.d, .int .i64 x.e, .int .i64 x.f, .int .i64 x.a', .int .i64 x.b', .int .i64 x.c', .int .i64 x.d', .int .i64 x.e', .int .i64 x.f', .int .u8 x.before, .int .u8 x.which, .int .i64 x.u, .int .i64 x.v]
/-- The plant, the fault and the readings of both signals. -/
abbrev B8 (l : List Sen) (need sil : Int) (x : Fault) (gs bs : List (Int × Bool)) (c : Nat) : LM := [(7, .cells (rdC bs) 46), (6, .cells (rdC gs) 46), (5, .cells (xC x) 35), (4, .cells [.slice (some ⟨3, 0, none⟩) l.length c, .int .i64 need, .int .i64 sil] 24), (3, .cells (senC l) 43), (2, .cells [] 0), (1, .cells stepsV 242), (0, .cells [.int .i64 0, .int .i64 0] 31)]
theorem B8_under {l : List Sen} {need sil : Int} {x : Fault} {gs bs : List (Int × Bool)} {c K : Nat} (hK : 8 ≤ K) : ∀ j y, alook (B8 l need sil x gs bs c) j = some y → j < K ∧ ObjLt K y := by
  obtain ⟨j1, h1⟩ := senC_flat l
  obtain ⟨j2, h2⟩ := rdC_flat gs
  obtain ⟨j3, h3⟩ := rdC_flat bs
  exact Under.look (.cons (Nat.ble_eq_true_of_le (by omega)) (Lt.flat h3) (.cons (Nat.ble_eq_true_of_le (by omega)) (Lt.flat h2) (.cons (Nat.ble_eq_true_of_le (by omega)) (Lt.flat (j := 64) rfl) (.cons (Nat.ble_eq_true_of_le (by omega)) (.cons (.sl (Nat.ble_eq_true_of_le (by omega))) (.flat (j := 8) rfl)) (.cons (Nat.ble_eq_true_of_le (by omega)) (Lt.flat h1) (.cons (Nat.ble_eq_true_of_le (by omega)) (Lt.flat (j := 8) rfl) (.cons (Nat.ble_eq_true_of_le (by omega)) (Lt.flat (j := 8) rfl) (.cons (Nat.ble_eq_true_of_le (by omega)) (Lt.flat (j := 8) rfl) .nil))))))))
theorem under_cons {K i : Nat} {x : AObj} {B : LM} (hi : i < K) (hx : ObjLt K x) (h : ∀ j y, alook B j = some y → j < K ∧ ObjLt K y) : ∀ j y, alook ((i, x) :: B) j = some y → j < K ∧ ObjLt K y := fun j y hy => by
  rw [alook] at hy
  split at hy
  · rename_i e; subst e; cases hy; exact ⟨hi, hx⟩
  · exact h j y hy
theorem B8_sub {l : List Sen} {need sil : Int} {x : Fault} {gs bs : List (Int × Bool)} {c : Nat} {L : LM} (h7 : alook L 7 = some (.cells (rdC bs) 46)) (h6 : alook L 6 = some (.cells (rdC gs) 46)) (h5 : alook L 5 = some (.cells (xC x) 35)) (h4 : alook L 4 = some (.cells [.slice (some ⟨3, 0, none⟩) l.length c, .int .i64 need, .int .i64 sil] 24)) (h3 : alook L 3 = some (.cells (senC l) 43)) (h2 : alook L 2 = some (.cells [] 0)) (h1 : alook L 1 = some (.cells stepsV 242)) (h0 : alook L 0 = some (.cells [.int .i64 0, .int .i64 0] 31)) : subm (B8 l need sil x gs bs c) L :=
  subm_cons h7 (subm_cons h6 (subm_cons h5 (subm_cons h4 (subm_cons h3 (subm_cons h2 (subm_cons h1 (subm_cons h0 subm_nil)))))))
abbrev E0 (n c i : Nat) : AEnv := [(2, .pointer (some ⟨4, 0, none⟩)), (3, .pointer (some ⟨5, 0, none⟩)), (5, .slice (some ⟨6, 0, none⟩) n n), (7, .slice (some ⟨7, 0, none⟩) n n), (9, .pointer (some ⟨8, 0, none⟩)), (64, .slice (some ⟨3, 0, none⟩) n c), (65, .int .i64 n), (66, .int .i64 i)]
theorem E0_lt {n c i : Nat} : EnvLt 9 (E0 n c i) := .cons (.ptr rfl) (.cons (.ptr rfl) (.cons (.sl rfl) (.cons (.sl rfl) (.cons (.ptr rfl) (.cons (.sl rfl) (.cons (.flat (j := 8) rfl) (.cons (.flat (j := 8) rfl) .nil)))))))
theorem E0_sub {n c i : Nat} {a : AEnv} (h2 : aget a 2 = some (.pointer (some ⟨4, 0, none⟩))) (h3 : aget a 3 = some (.pointer (some ⟨5, 0, none⟩))) (h5 : aget a 5 = some (.slice (some ⟨6, 0, none⟩) n n)) (h7 : aget a 7 = some (.slice (some ⟨7, 0, none⟩) n n)) (h9 : aget a 9 = some (.pointer (some ⟨8, 0, none⟩))) (h64 : aget a 64 = some (.slice (some ⟨3, 0, none⟩) n c)) (h65 : aget a 65 = some (.int .i64 n)) (h66 : aget a 66 = some (.int .i64 i)) : asub (E0 n c i) a :=
  asub_cons h2 (asub_cons h3 (asub_cons h5 (asub_cons h7 (asub_cons h9 (asub_cons h64 (asub_cons h65 (asub_cons h66 asub_nil)))))))
theorem rdC_two : ∀ (rs : List (Int × Bool)) (i : Nat) (x : Int × Bool), rs[i]? = some x → ((rdC rs).drop (i * 2)).take 2 = [.int .i64 x.1, .bool x.2]
  | [], i, x, h => by simp at h
  | y :: rs, 0, x, h => by
    simp at h; subst h
    rw [rdC_cons]; rfl
  | y :: rs, i + 1, x, h => by
    have := rdC_two rs i x (by simpa using h)
    rw [rdC_cons, show (i + 1) * 2 = i * 2 + 1 + 1 by omega]
    simpa using this
theorem intC_snoc (zs : List Int) (z : Int) : intC (zs ++ [z]) = intC zs ++ [.int .i64 z] := by simp
theorem zsN_in {l : List Sen} {bs : List (Int × Bool)} {need sil : Int} {x : Fault} (hR : Ready l need sil x) (hbi : ∀ y ∈ bs, InR y) (n : Nat) : ∀ z ∈ zsN l bs n, -10000 ≤ z ∧ z ≤ 10000 := by
  intro z hz
  obtain ⟨i, _, rfl⟩ := List.mem_map.1 hz
  unfold zAt
  split
  · rename_i y w h1 h2
    have hw := hbi w (List.mem_of_getElem? h2)
    have hlo := hR.low i y h1
    have hs := (hR.pl.2.2.1 i y h1).2.2.2.1
    unfold zOf
    cases w.2 with
    | true => simp only [cond_true]; omega
    | false => exact hw.1
  · omega
theorem lens_of {l : List Sen} {need sil : Int} (h : PlantOk l need sil) : Lens l need := ⟨⟨h.1, h.2.1⟩, fun i y hy => (h.2.2.1 i y hy).2.2.2.2.2, h.2.2.2.2.1.1⟩
abbrev fC (n i : Nat) : List Value := [.string fN, .int .i64 0, .slice (some ⟨9, 0, none⟩) n i, .int .i64 0]
abbrev B11 (l : List Sen) (need sil : Int) (x : Fault) (gs bs : List (Int × Bool)) (c : Nat) : LM := (10, .cells (senC l) 128) :: (9, .cells (intC (zsN l bs l.length)) 3) :: (8, .cells (fC l.length l.length) 116) :: B8 l need sil x gs bs c
abbrev B12 (l : List Sen) (need sil : Int) (x : Fault) (gs bs : List (Int × Bool)) (c : Nat) (ex : List Int) (st : List Value) : LM := (11, .cells (senC l) 128) :: (10, .cells (senC l) 128) :: (9, .cells (intC ex) 3) :: (8, .cells st 59) :: B8 l need sil x gs bs c
theorem two_law {gs bs : List (Int × Bool)} {r t m : Nat} : ∀ i, i < r + t + m → twoR (r + t) (twoR r (fun _ => rdC gs) (fun _ => rdC bs)) (fun _ => rdC gs) i = rdC (rsF gs bs r t i) := fun i hi => by
  unfold twoR rsF
  by_cases h1 : i < r
  · rw [if_pos (by omega), if_pos h1, if_neg (by omega)]
  · by_cases h2 : i < r + t
    · rw [if_pos h2, if_neg h1, if_pos (by omega)]
    · rw [if_neg h2, if_neg (by omega)]
theorem two_blind {gs bs : List (Int × Bool)} {r t m : Nat} : ∀ i, i < r + t + m → twoR (r + t) (twoR r (fun _ => rdC gs) (fun _ => rdC bs)) (fun _ => rdC bs) i = rdC (rsF gs bs r (t + m) i) := fun i hi => by
  unfold twoR rsF
  by_cases h1 : i < r
  · rw [if_pos (by omega), if_pos h1, if_neg (by omega)]
  · by_cases h2 : i < r + t
    · rw [if_pos h2, if_neg h1, if_pos (by omega)]
    · rw [if_neg h2, if_pos (by omega)]
theorem fr_law {gs bs : List (Int × Bool)} {r t m : Nat} : ∀ i, i < m → ∃ k, noAddrs k (rdC (rsF gs bs r t i)) = true := fun i _ => rdC_flat _
theorem md_at {md lf : Nat → Int} {c : Nat → Nat → Int} {m i : Nat} {v : Int} (h : i < m) (hv : md (i + 1) = v) : ((stCs md lf c m).drop (0 + (i : Int).toNat * 10)).take 10 = stV v (lf (i + 1)) (c (i + 1)) := by
  subst hv
  have := stCs_at (md := md) (lf := lf) (c := c) h
  simpa using this
theorem glob8 {l : List Sen} {need sil : Int} {x : Fault} {gs bs : List (Int × Bool)} {c : Nat} {o : AObj} : ∀ g, g < 3 → (alook ((8, o) :: B8 l need sil x gs bs c) g).isSome = true := fun g hg => by
  match g, hg with
  | 0, _ => rfl
  | 1, _ => rfl
  | 2, _ => rfl
abbrev E2 (m i : Nat) : AEnv := [(2, .pointer (some ⟨4, 0, none⟩)), (3, .pointer (some ⟨5, 0, none⟩)), (151, .slice (some ⟨8, 0, none⟩) m m), (152, .int .i64 m), (153, .int .i64 i)]
theorem E2_lt {m i : Nat} : EnvLt 9 (E2 m i) := .cons (.ptr rfl) (.cons (.ptr rfl) (.cons (.sl rfl) (.cons (.flat (j := 8) rfl) (.cons (.flat (j := 8) rfl) .nil))))
abbrev E4 (n m r t i : Nat) : AEnv := [(2, .pointer (some ⟨4, 0, none⟩)), (3, .pointer (some ⟨5, 0, none⟩)), (5, .slice (some ⟨6, 0, none⟩) n n), (7, .slice (some ⟨7, 0, none⟩) n n), (14, .int .i64 t), (16, .int .i64 r), (185, .slice (some ⟨8, 0, none⟩) m m), (186, .int .i64 m), (187, .int .i64 i)]
theorem E4_lt {n m r t i : Nat} : EnvLt 9 (E4 n m r t i) := .cons (.ptr rfl) (.cons (.ptr rfl) (.cons (.sl rfl) (.cons (.sl rfl) (.cons (.flat (j := 8) rfl) (.cons (.flat (j := 8) rfl) (.cons (.sl rfl) (.cons (.flat (j := 8) rfl) (.cons (.flat (j := 8) rfl) .nil))))))))
theorem E4_sub {n m r t i : Nat} {a : AEnv} (h2 : aget a 2 = some (.pointer (some ⟨4, 0, none⟩))) (h3 : aget a 3 = some (.pointer (some ⟨5, 0, none⟩))) (h5 : aget a 5 = some (.slice (some ⟨6, 0, none⟩) n n)) (h7 : aget a 7 = some (.slice (some ⟨7, 0, none⟩) n n)) (h14 : aget a 14 = some (.int .i64 t)) (h16 : aget a 16 = some (.int .i64 r)) (h185 : aget a 185 = some (.slice (some ⟨8, 0, none⟩) m m)) (h186 : aget a 186 = some (.int .i64 m)) (h187 : aget a 187 = some (.int .i64 i)) : asub (E4 n m r t i) a :=
  asub_cons h2 (asub_cons h3 (asub_cons h5 (asub_cons h7 (asub_cons h14 (asub_cons h16 (asub_cons h185 (asub_cons h186 (asub_cons h187 asub_nil))))))))
theorem GO.of {P : Program} {n : Nat} {a : AEnv} {o : Oper} {L : LM} {nx ro gl : Nat} {R : Value → AW → Prop} (h : GO P n o a L nx ro gl R) : GO P n o a L nx ro gl R := h
end Go.M
