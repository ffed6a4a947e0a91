/- Functions of the given program, walked (no condition beyond what each theorem says). -/
import Derived.Test.YtfhodefiknfccaaDoorC4
import Derived.Test.YtfhodefiknfccaaDoorB5
set_option linter.unusedVariables false
set_option linter.unusedSimpArgs false
namespace Go.M
open Go.Proofs Go.RowKit
set_option maxRecDepth 8000
set_option maxHeartbeats 4000000
theorem zero_snoc (i : Nat) : intC (List.replicate (i + 1) 0) = intC (List.replicate i 0) ++ [.int .i64 0] := by
  show List.map _ _ = List.map _ _ ++ _
  rw [List.replicate_succ', List.map_append]; rfl
theorem d_mapped73 {A : AW} {x c : Nat} (zs : List Int) (h : ∀ z ∈ zs, -10000 ≤ z ∧ z ≤ 10000) (hn : 0 < zs.length ∧ zs.length ≤ 1000) (hx : A.rd x 0 (intC zs).length = some (intC zs)) :
    AC Tryd.prog 73 [.slice (some ⟨x, 0, none⟩) zs.length c, .func (.func 74) #[] #[]] A (isR (.slice (some ⟨A.next, 0, none⟩) zs.length zs.length) (A.push (.cells (intC (List.replicate zs.length 0)) 48))) := by
  obtain ⟨fz, hfz⟩ := intC_flat zs
  refine AC.mono (AC.givesX (Φ := fun cs => cs = intC (List.replicate zs.length 0)) (e := 48) (SmallX.nil.cons (k := 0) (b := x) (f := 0) (o := .cells (intC zs) 3) (.flat hx hfz)) (args := [.slice (some ⟨0, 0, none⟩) zs.length c, .func (.func 74) #[] #[]]) (v2 := .slice (some ⟨A.next, 0, none⟩) zs.length zs.length) ?_
    (.sl rfl rfl (.flat (k := 8) rfl .nil))) (fun v A1 hv => by obtain ⟨cs, rfl, rfl, rfl⟩ := hv; exact ⟨rfl, rfl⟩)
  clear hx
  refine AC.go Tryd.func73 rfl rfl ?_
  repeat' (first
  | refine GL.sf rfl rfl rfl rfl ?_
  | refine GL.sv rfl rfl rfl rfl ?_
  | refine GL.done ?_
  | refine GP.thenN ?_
  | refine GT.seq ?_
  | refine GT.region ?_
  | refine GT.block ?_)
  refine GT.loop (fun q a L nx => ∃ i : Nat, i ≤ zs.length ∧ q = zs.length - i ∧ 1 ≤ nx ∧ asub [(1, .func (.func 74) #[] #[]), (8, .slice (some ⟨0, 0, none⟩) zs.length c), (9, .int .i64 zs.length), (10, .int .i64 i)] a ∧ subm [(0, .cells (intC zs) 3)] L ∧
      ((i = 0 ∧ aget a 5 = some (.slice none 0 0)) ∨ ∃ o, 0 < i ∧ 1 ≤ o ∧ alook L o = some (.cells (intC (List.replicate i 0)) 48) ∧ aget a 5 = some (.slice (some ⟨o, 0, none⟩) i i))) zs.length
    ⟨0, by omega, by omega, Nat.le_of_ble_eq_true rfl, asub_cons rfl (asub_cons rfl (asub_cons rfl (asub_cons rfl asub_nil))), subm_cons rfl subm_nil, .inl ⟨rfl, rfl⟩⟩ ?_
  rintro q a L nx ⟨i, hi, rfl, hnx, hs, hsub, hcase⟩
  have hU : ∀ j y, alook [(0, .cells (intC zs) 3)] j = some y → j < 1 ∧ ObjLt 1 y := Under.look (.cons rfl (Lt.flat hfz) .nil)
  have hE : EnvLt 1 [(1, .func (.func 74) #[] #[]), (8, .slice (some ⟨0, 0, none⟩) zs.length c), (9, .int .i64 zs.length), (10, .int .i64 i)] := .cons (.flat (j := 8) rfl) (.cons (.sl rfl) (.cons (.flat (j := 8) rfl) (.cons (.flat (j := 8) rfl) .nil)))
  have hzz : ∀ (j : Nat), j < zs.length → ∃ z, (intC zs)[0 + (j : Int).toNat * 1]? = some (.int .i64 z) ∧ -10000 ≤ z ∧ z ≤ 10000 := fun j hj => ⟨zs[j], by simp [hj], h _ (List.getElem_mem hj)⟩
  rcases hcase with ⟨rfl, h3⟩ | ⟨o, hpos, ho, hob, h3⟩
  · refine GT.resetL (a1 := (5, .slice none 0 0) :: [(1, .func (.func 74) #[] #[]), (8, .slice (some ⟨0, 0, none⟩) zs.length c), (9, .int .i64 zs.length), (10, .int .i64 (0 : Nat))]) 1 (asub_cons h3 hs) hsub hnx rfl rfl hU (.cons (.flat (j := 8) rfl) hE) (fun g hg => absurd hg (Nat.not_lt_zero g)) ?_
    clear hs hsub hnx h3
    obtain ⟨z, hz, hz2⟩ := hzz 0 hn.1
    repeat' (first
    | refine GL.sf rfl rfl rfl rfl ?_
    | refine GL.sv rfl rfl rfl rfl ?_
    | refine GL.done ?_
    | refine GP.thenN ?_
    | refine GT.seq ?_
    | refine GT.region ?_
    | refine GL.v rfl rfl rfl (by first | exact GO.indexS (s := 1) rfl rfl rfl rfl rfl (by omega) | exact GO.loadC rfl rfl rfl rfl rfl hz | exact GO.callV rfl rfl rfl Tryd.func74 rfl rfl rfl (d_needle74 z hz2) | exact GO.add rfl rfl rfl (by omega)) ?_
    | refine GT.skip ?_
    | refine GT.block ?_
    | refine GP.inN ?_
    | (refine GT.condD rfl (fun h => ?_) (fun h => ?_) <;> try (exfalso; omega)))
    exact GP.invN (zs.length - (0 + 1)) (by omega) ⟨0 + 1, by omega, rfl, Nat.le_of_ble_eq_true rfl, asub_cons rfl (asub_cons rfl (asub_cons rfl (asub_cons rfl asub_nil))), subm_cons rfl subm_nil, .inr ⟨2, by omega, Nat.le_of_ble_eq_true rfl, rfl, rfl⟩⟩
  · refine GT.resetE (L' := [(0, .cells (intC zs) 3)]) 1 o (u' := .slice (some ⟨1, 0, none⟩) i i) hs hsub rfl rfl rfl hU hE ho trivial hob (intC_flat _) h3 (fun ρ h1 h2 => .sl h2) rfl ?_
    clear hs hsub hnx h3 ho hob
    rcases Nat.lt_or_ge i zs.length with hlt | hge
    · have hnl : (intC (List.replicate i 0)).length = i * 1 := by simp
      obtain ⟨z, hz, hz2⟩ := hzz i hlt
      repeat' (first
      | refine GL.sf rfl rfl rfl rfl ?_
      | refine GL.done ?_
      | refine GP.thenN ?_
      | refine GT.seq ?_
      | refine GT.region ?_
      | refine GL.v rfl rfl rfl (by first | exact GO.indexS (s := 1) rfl rfl rfl rfl rfl (by omega) | exact GO.loadC rfl rfl rfl rfl rfl hz | exact GO.callV rfl rfl rfl Tryd.func74 rfl rfl rfl (d_needle74 z hz2) | exact GO.appendN (olds := intC (List.replicate i 0)) rfl rfl rfl rfl rfl rfl rfl rfl rfl rfl rfl rfl rfl rfl hnl (Nat.le_of_ble_eq_true rfl) rfl (Nat.le_of_ble_eq_true rfl) (Nat.le_of_ble_eq_true rfl) (Nat.le_trans (m := 1000 + 8) (Nat.add_le_add (by omega) (Nat.le_of_ble_eq_true rfl)) (Nat.le_of_ble_eq_true rfl)) | exact GO.add rfl rfl rfl (by omega)) ?_
      | refine GT.skip ?_
      | refine GT.block ?_
      | refine GP.inN ?_
      | (refine GT.condD rfl (fun h => ?_) (fun h => ?_) <;> try (exfalso; omega)))
      exact GP.invN (zs.length - (i + 1)) (by omega) ⟨i + 1, by omega, rfl, Nat.le_of_ble_eq_true rfl, asub_cons rfl (asub_cons rfl (asub_cons rfl (asub_cons rfl asub_nil))), subm_cons rfl subm_nil, .inr ⟨3, by omega, Nat.le_of_ble_eq_true rfl, by rw [zero_snoc]; rfl, rfl⟩⟩
    · obtain rfl : i = zs.length := by omega
      repeat' (first
      | refine GL.sf rfl rfl rfl rfl ?_
      | refine GL.done ?_
      | refine GP.thenN ?_
      | refine GT.seq ?_
      | refine GT.region ?_
      | refine GT.ret ?_
      | refine GT.exit ?_
      | refine GP.thenE ?_
      | refine GP.hit ?_
      | refine GP.invE ?_
      | (refine GT.condD rfl (fun h => ?_) (fun h => ?_) <;> try (exfalso; omega))
      | refine GP.endR1 rfl ?_)
      exact ⟨1, _, rfl, Nat.le_of_ble_eq_true rfl, intC_flat _, rfl, .sl (f := 0) (g := 0) (if_pos rfl) rfl .nil⟩
end Go.M
namespace Go.M
open Go.Proofs Go.RowKit
set_option maxRecDepth 8000
set_option maxHeartbeats 4000000
theorem rd_zeros {L : LM} {nx ro gl b n : Nat} {e : TypeId} (hb : alook L b = some (.cells (intC (List.replicate n 0)) e)) : (AW.of L nx ro gl).rd b 0 n = some ((List.replicate n 0).map (.int .i64)) := rd3 rfl hb (by simp) (by simp)
theorem d_first71z {A : AW} {b n c : Nat} (hn : n ≤ 1000) (h : A.rd b 0 n = some ((List.replicate n 0).map (.int .i64))) : AC Tryd.prog 71 [.slice (some ⟨b, 0, none⟩) n c] A (isR (.int .i64 0) A) := by
  have := d_first71 (A := A) (b := b) (f := 0) (l := n) (c := c) (List.replicate n 0) (by simp) (Nat.ble_eq_true_of_le (by omega)) h
  rwa [firstNZ_replicate] at this
abbrev failV (nm : ByteArray) (x n c : Nat) : Value := .agg #[.string nm, .int .i64 0, .slice (some ⟨x, 0, none⟩) n c, .int .i64 0]
theorem d_label113 {A : AW} {x n c : Nat} (nm : ByteArray) (hx : A.rd x 0 0 = some []) : AC Tryd.prog 113 [failV nm x n c] A (isR (.string nm) A) := by
  refine AC.isX (SmallX.nil.cons (k := 0) (b := x) (f := 0) (o := .cells [] 3) (.flat (k := 8) hx rfl)) (args := [failV nm 0 n c]) ?_ ⟨8, rfl⟩ (.agg (.flat (k := 8) rfl (.flat (k := 8) rfl (.sl rfl rfl (.flat (k := 8) rfl .nil)))) .nil)
  refine AC.go Tryd.func113 rfl rfl ?_
  clear hx
  repeat' (first
  | refine GL.sf rfl rfl rfl rfl ?_
  | refine GL.done ?_
  | refine GP.thenN ?_
  | refine GT.seq ?_
  | refine GT.region ?_
  | refine GT.ret ?_
  | refine GP.endR1 rfl ?_)
  rfl
theorem d_when72x {A : AW} (b : Bool) (h : b = false) (e : Int) : AC Tryd.prog 72 [.bool b, .int .i64 e] A (isR (.int .i64 0) A) := by
  subst h; exact d_when72 false e
theorem d_check114 {A : AW} {b p x k c n : Nat} (nm : ByteArray) (zs : List Int) (need sil : Int) (hzl : zs.length = n) (h : ∀ z ∈ zs, -10000 ≤ z ∧ z ≤ 10000) (hn : 0 < n ∧ n ≤ 1000)
    (hb : A.rd b 0 3 = some [.slice (some ⟨p, 0, none⟩) n k, .int .i64 need, .int .i64 sil]) (hp : A.rd p 0 0 = some []) (hx : A.rd x 0 (intC zs).length = some (intC zs)) :
    AC Tryd.prog 114 [failV nm x n c, .pointer (some ⟨b, 0, none⟩)] A (isR (.int .i64 0) A) := by
  subst hzl
  obtain ⟨fz, hfz⟩ := intC_flat zs
  refine AC.isX (((SmallX.nil.cons (k := 0) (b := p) (f := 0) (o := .cells [] 128) (.flat (k := 8) hp rfl)).cons (b := x) (f := 0) (o := .cells (intC zs) 3) (.flat hx hfz)).cons (b := b) (f := 0) (o := .cells [.slice (some ⟨0, 0, none⟩) zs.length k, .int .i64 need, .int .i64 sil] 53) ⟨_, hb, .sl rfl rfl (.flat (k := 8) rfl (.flat (k := 8) rfl .nil))⟩)
    (args := [failV nm 1 zs.length c, .pointer (some ⟨2, 0, none⟩)]) ?_ ⟨8, rfl⟩ (.agg (.flat (k := 8) rfl (.flat (k := 8) rfl (.sl rfl rfl (.flat (k := 8) rfl .nil)))) (.ptr rfl rfl .nil))
  clear hb hp hx
  refine AC.go Tryd.func114 rfl rfl ?_
  repeat' (first
  | refine GT.draws (id := 1) [[], [0], [0, 1], [], [3], [3, 4], [], [6], [6, 7], [3, 4, 5, 6, 7, 8], [0, 1, 2, 3, 4, 5, 6, 7, 8, 9], [], [11], [0, 1, 2, 3, 4, 5, 6, 7, 8, 9, 10, 11, 12], [0, 1, 2, 3, 4, 5, 6, 7, 8, 9, 10, 11, 12, 13], [], [15], [0, 1, 2, 3, 4, 5, 6, 7, 8, 9, 10, 11, 12, 13, 14, 15, 16], [0, 1, 2, 3, 4, 5, 6, 7, 8, 9, 10, 11, 12, 13, 14, 15, 16, 17], [0, 1, 2, 3, 4, 5, 6, 7, 8, 9, 10, 11, 12, 13, 14, 15, 16, 17, 18], [0, 1, 2, 3, 4, 5, 6, 7, 8, 9, 10, 11, 12, 13, 14, 15, 16, 17, 18, 19]] [13, 18] (by kernel_rfl) ?_
  | refine GL.sf rfl rfl rfl rfl ?_
  | refine GL.done ?_
  | refine GP.thenN ?_
  | refine GT.seq ?_
  | refine GT.region ?_
  | refine GD.li rfl rfl (by exact onAt.none rfl) rfl (by repeat first | exact AllG.nil rfl | refine AllG.cons rfl (by first | exact GO.sf rfl rfl | exact GO.sv rfl rfl | exact GO.call rfl rfl Tryd.func74 rfl rfl rfl (d_needle74 0 (by omega)) | exact GO.call rfl rfl Tryd.func71 rfl rfl rfl (d_first71z hn.2 (rd_zeros rfl)) | exact GO.call rfl rfl Tryd.func71 rfl rfl rfl (d_first71 [0, 0, 0, 0] rfl rfl rfl) | exact GO.call rfl rfl Tryd.func72 rfl rfl rfl (d_when72x _ (by simp) _) | exact GO.call rfl rfl Tryd.func115 rfl rfl rfl (d_within115ok 0 0 1000 (by omega))) ?_) ?_
  | refine GD.he rfl rfl rfl (by exact onAt.none rfl) rfl (by first | exact GO.sf rfl rfl | exact GO.push (GO.call rfl rfl Tryd.func73 rfl rfl rfl (d_mapped73 zs h hn (rd_self rfl)))) ?_ ?_
  | refine GD.done rfl rfl rfl ?_
  | exact AllJs.nil rfl
  | refine GT.ret ?_
  | refine GP.endR1 rfl ?_)
  rfl
theorem d_named112 {A : AW} {b p x fo k c cf n : Nat} (nm : ByteArray) (hnm : NameOk nm) (zs : List Int) (need sil : Int) (hzl : zs.length = n) (h : ∀ z ∈ zs, -10000 ≤ z ∧ z ≤ 10000) (hn : 0 < n ∧ n ≤ 1000)
    (hb : A.rd b 0 3 = some [.slice (some ⟨p, 0, none⟩) n k, .int .i64 need, .int .i64 sil]) (hp : A.rd p 0 0 = some []) (hx : A.rd x 0 (intC zs).length = some (intC zs)) (hf : A.rd fo 0 4 = some [.string nm, .int .i64 0, .slice (some ⟨x, 0, none⟩) n c, .int .i64 0]) :
    AC Tryd.prog 112 [.slice (some ⟨fo, 0, none⟩) 1 cf, .int .i64 8, .func (.func 113) #[] #[], .func (.func 114) #[] #[.pointer (some ⟨b, 0, none⟩)]] A (isR (.int .i64 0) A) := by
  obtain ⟨fz, hfz⟩ := intC_flat zs
  refine AC.isX ((((SmallX.nil.cons (k := 0) (b := p) (f := 0) (o := .cells [] 128) (.flat (k := 8) hp rfl)).cons (b := x) (f := 0) (o := .cells (intC zs) 3) (.flat hx hfz)).cons (b := b) (f := 0) (o := .cells [.slice (some ⟨0, 0, none⟩) n k, .int .i64 need, .int .i64 sil] 53) ⟨_, hb, .sl rfl rfl (.flat (k := 8) rfl (.flat (k := 8) rfl .nil))⟩).cons (b := fo) (f := 0) (o := .cells [.string nm, .int .i64 0, .slice (some ⟨1, 0, none⟩) n c, .int .i64 0] 116) ⟨_, hf, .flat (k := 8) rfl (.flat (k := 8) rfl (.sl rfl rfl (.flat (k := 8) rfl .nil)))⟩)
    (args := [.slice (some ⟨3, 0, none⟩) 1 cf, .int .i64 8, .func (.func 113) #[] #[], .func (.func 114) #[] #[.pointer (some ⟨2, 0, none⟩)]]) ?_ ⟨8, rfl⟩ (.sl rfl rfl (.flat (k := 8) rfl (.flat (k := 8) rfl (.func (by intro l h; cases h) .nil (.ptr (f := 0) (g := 0) rfl rfl .nil) .nil))))
  clear hb hp hx hf
  refine AC.go Tryd.func112 rfl rfl ?_
  repeat' (first
  | refine GT.unroll 2 ?_
  | refine GT.draws (id := 8) [[], [0], [0, 1], [0, 1, 2], [], [], [4, 5], [0, 1, 2, 3, 4, 5, 6], [], [], [0, 1, 2, 3, 4, 5, 6, 7, 8, 9], [0, 1, 2, 3, 4, 5, 6, 7, 8, 9, 10], [0, 1, 2, 3, 4, 5, 6, 7, 8, 9, 10, 11], [0, 1, 2, 3, 4, 5, 6, 7, 8, 9, 10, 11, 12]] [11] (by kernel_rfl) ?_
  | refine GL.mapNew rfl rfl rfl rfl rfl rfl rfl rfl rfl rfl (findNow0) rfl ?_
  | refine GL.sf rfl rfl rfl rfl ?_
  | refine GL.sv rfl rfl rfl rfl ?_
  | refine GL.sn rfl rfl rfl ?_
  | refine GL.done ?_
  | refine GP.thenN ?_
  | refine GT.seq ?_
  | refine GT.region ?_
  | refine GD.li rfl rfl (by exact onAt.none rfl) rfl (by repeat first | exact AllG.nil rfl | refine AllG.cons rfl (by first | exact GO.sf rfl rfl | exact GO.call rfl rfl Tryd.func145 rfl rfl rfl (d_isname145 _ hnm) | exact GO.callV rfl rfl rfl Tryd.func114 rfl rfl rfl (d_check114 nm zs need sil hzl h hn rfl (rd_zero rfl) (rd_self rfl)) | exact GO.call rfl rfl Tryd.func72 rfl rfl rfl (d_when72 _ _) | exact GO.call rfl rfl Tryd.func71 rfl rfl rfl (d_first71 [0, 0, 0] rfl rfl rfl)) ?_) ?_
  | refine GD.he rfl rfl rfl (by exact onAt.none rfl) rfl (by exact GO.sf rfl rfl) ?_ ?_
  | refine GD.done rfl rfl rfl ?_
  | exact AllJs.nil rfl
  | refine GL.v rfl rfl rfl (by first | exact GO.callV rfl rfl rfl Tryd.func113 rfl rfl rfl (d_label113 nm (rd_zero rfl)) | exact GO.add rfl rfl rfl (by omega)) ?_
  | refine GT.skip ?_
  | refine GT.block ?_
  | refine GT.ret ?_
  | refine GT.exit ?_
  | refine GP.thenE ?_
  | refine GP.inN ?_
  | refine GP.hit ?_
  | refine GP.againN ?_
  | refine GP.againE ?_
  | refine GU.step ?_
  | refine GT.condT rfl ?_
  | refine GT.condF rfl ?_
  | refine GP.endR1 rfl ?_)
  rfl
theorem d_check69 {A : AW} {p x fo k c cf : Nat} (l : List Sen) (nm : ByteArray) (hnm : NameOk nm) (zs : List Int) (need sil : Int) (hzl : zs.length = l.length) (h : ∀ z ∈ zs, -10000 ≤ z ∧ z ≤ 10000) (hn : 0 < l.length ∧ l.length ≤ 8)
    (hpl : ∀ {A : AW} {p : Nat}, A.rd p 0 (senC l).length = some (senC l) → AC Tryd.prog 84 [.agg #[.slice (some ⟨p, 0, none⟩) l.length k, .int .i64 need, .int .i64 sil]] A (isR (.int .i64 0) A))
    (hp : A.rd p 0 (senC l).length = some (senC l)) (hx : A.rd x 0 (intC zs).length = some (intC zs)) (hf : A.rd fo 0 4 = some [.string nm, .int .i64 0, .slice (some ⟨x, 0, none⟩) l.length c, .int .i64 0]) :
    AC Tryd.prog 69 [.agg #[.slice (some ⟨p, 0, none⟩) l.length k, .int .i64 need, .int .i64 sil], .slice (some ⟨fo, 0, none⟩) 1 cf] A (isR (.int .i64 0) A) := by
  obtain ⟨fz, hfz⟩ := intC_flat zs
  obtain ⟨fj, hflat⟩ := senC_flat l
  refine AC.isX (((SmallX.nil.cons (k := 0) (b := p) (f := 0) (o := .cells (senC l) 128) (.flat hp hflat)).cons (b := x) (f := 0) (o := .cells (intC zs) 3) (.flat hx hfz)).cons (b := fo) (f := 0) (o := .cells [.string nm, .int .i64 0, .slice (some ⟨1, 0, none⟩) l.length c, .int .i64 0] 116) ⟨_, hf, .flat (k := 8) rfl (.flat (k := 8) rfl (.sl rfl rfl (.flat (k := 8) rfl .nil)))⟩)
    (args := [.agg #[.slice (some ⟨0, 0, none⟩) l.length k, .int .i64 need, .int .i64 sil], .slice (some ⟨2, 0, none⟩) 1 cf]) ?_ ⟨8, rfl⟩ (.agg (.sl rfl rfl (.flat (k := 8) rfl (.flat (k := 8) rfl .nil))) (.sl rfl rfl .nil))
  clear hp hx hf
  refine AC.go Tryd.func69 rfl rfl ?_
  repeat' (first
  | refine GL.sf rfl rfl rfl rfl ?_
  | refine GL.done ?_
  | refine GP.thenN ?_
  | refine GT.seq ?_
  | refine GT.region ?_
  | refine GL.v rfl rfl rfl (by first | exact GO.call rfl rfl Tryd.func84 rfl rfl rfl (hpl (rd_self rfl)) | exact GO.call rfl rfl Tryd.func112 rfl rfl rfl (d_named112 nm hnm zs need sil hzl h (by omega) rfl (rd_zero rfl) (rd_self rfl) rfl) | exact GO.mkfn rfl (fun _ h => by cases h) rfl rfl) ?_
  | refine GT.skip ?_
  | refine GT.ret ?_
  | refine GT.condF rfl ?_
  | refine GP.endR1 rfl ?_)
  rfl
theorem d_seen32 {A : AW} {p x k c : Nat} (l : List Sen) (nm : ByteArray) (hnm : NameOk nm) (zs : List Int) (need sil : Int) (hzl : zs.length = l.length) (h : ∀ z ∈ zs, -10000 ≤ z ∧ z ≤ 10000) (hn : 0 < l.length ∧ l.length ≤ 8)
    (hpl : ∀ {A : AW} {p : Nat}, A.rd p 0 (senC l).length = some (senC l) → AC Tryd.prog 84 [.agg #[.slice (some ⟨p, 0, none⟩) l.length k, .int .i64 need, .int .i64 sil]] A (isR (.int .i64 0) A))
    (hp : A.rd p 0 (senC l).length = some (senC l)) (hx : A.rd x 0 (intC zs).length = some (intC zs)) :
    AC Tryd.prog 32 [.agg #[.slice (some ⟨p, 0, none⟩) l.length k, .int .i64 need, .int .i64 sil], failV nm x l.length c] A
      (fun v A1 => (∃ t : Nat, v = .tuple #[.bool (decide (0 < (t : Int))), .int .i64 (t : Int), .int .i64 0] ∧ IsTime l zs need t) ∧ A1 = A) := by
  obtain ⟨fz, hfz⟩ := intC_flat zs
  obtain ⟨fj, hflat⟩ := senC_flat l
  refine AC.pureX (R := fun v => ∃ t : Nat, v = .tuple #[.bool (decide (0 < (t : Int))), .int .i64 (t : Int), .int .i64 0] ∧ IsTime l zs need t) ((SmallX.nil.cons (k := 0) (b := p) (f := 0) (o := .cells (senC l) 128) (.flat hp hflat)).cons (b := x) (f := 0) (o := .cells (intC zs) 3) (.flat hx hfz))
    (args := [.agg #[.slice (some ⟨0, 0, none⟩) l.length k, .int .i64 need, .int .i64 sil], failV nm 1 l.length c]) (AC.mono (R := fun v _ => ∃ t : Nat, v = .tuple #[.bool (decide (0 < (t : Int))), .int .i64 (t : Int), .int .i64 0] ∧ IsTime l zs need t) ?_ (fun v _ ⟨t, e, h⟩ => ⟨⟨t, e, h⟩, by subst e; exact ⟨8, rfl⟩⟩))
    (.agg (.sl rfl rfl (.flat (k := 8) rfl (.flat (k := 8) rfl .nil))) (.agg (.flat (k := 8) rfl (.flat (k := 8) rfl (.sl rfl rfl (.flat (k := 8) rfl .nil)))) .nil))
  clear hp hx
  refine AC.go Tryd.func32 rfl rfl ?_
  repeat' (first
  | (refine GL.any rfl rfl rfl (GO.call rfl rfl Tryd.func70 rfl rfl rfl (d_time70 l zs nm need sil 0 0 hn hzl (rd_self rfl) (rd_self rfl))) ?_; rintro v A1 ⟨⟨t, rfl, ht⟩, rfl⟩; refine ⟨_, _, rfl, ?_⟩)
  | refine GL.sf rfl rfl rfl rfl ?_
  | refine GL.done ?_
  | refine GP.thenN ?_
  | refine GT.seq ?_
  | refine GT.region ?_
  | refine GL.v rfl rfl rfl (by exact GO.call rfl rfl Tryd.func69 rfl rfl rfl (d_check69 l nm hnm zs need sil hzl h hn hpl (rd_self rfl) (rd_self rfl) rfl)) ?_
  | refine GT.skip ?_
  | refine GT.ret ?_
  | refine GT.condF rfl ?_
  | refine GP.endR3 rfl ?_)
  all_goals exact ⟨t, rfl, ht⟩
end Go.M
