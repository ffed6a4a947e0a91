/- Functions of the given program, walked (no condition beyond what each theorem says). -/
import Derived.Test.YtfhodefiknfccaaDoorC8
set_option linter.unusedVariables false
set_option linter.unusedSimpArgs false
namespace Go.M
open Go.Proofs Go.RowKit
set_option maxRecDepth 16000
set_option maxHeartbeats 16000000
theorem d_law5G {c : Nat} (l : List Sen) (need sil : Int) (x : Fault) (hb : 0 ≤ x.before ∧ x.before ≤ 255) (hR : Ready l need sil x) :
    AC Tryd.prog 5 [.agg #[.slice (some ⟨3, 0, none⟩) l.length c, .int .i64 need, .int .i64 sil], x.val] (AW.of [(3, .cells (senC l) 43), (2, .cells [] 0), (1, .cells stepsV 242), (0, .cells [.int .i64 0, .int .i64 0] 31)] 4 4 3) (fun v _ => v = .bool true) := by
  have hn : 0 < l.length ∧ l.length ≤ 5 := ⟨hR.pl.1, hR.five⟩
  have hlens := lens_of hR.pl
  obtain ⟨fj, hflat⟩ := senC_flat l
  have hsl := senC_len l
  obtain ⟨gs, hgs⟩ : ∃ gs, rdsOf x l.length x.a x.b x.c x.d x.e x.f = gs := ⟨_, rfl⟩
  obtain ⟨bs, hbs⟩ : ∃ bs, rdsOf x l.length x.a' x.b' x.c' x.d' x.e' x.f' = bs := ⟨_, rfl⟩
  have hgl : gs.length = l.length := by rw [← hgs]; exact rdsOf_len hn.2
  have hbl : bs.length = l.length := by rw [← hbs]; exact rdsOf_len hn.2
  have hgi : ∀ y ∈ gs, InR y := by rw [← hgs]; exact rdsOf_in hR
  have hbi : ∀ y ∈ bs, InR y := by rw [← hbs]; exact rdsOf_in hR
  have k8 := fun {A : AW} (hG : GOk A) {p o k : Nat} hp => d_readings8G (A := A) (p := p) (o := o) (k := k) hn hR hR.good hG hp
  have b8 := fun {A : AW} (hG : GOk A) {p o k : Nat} hp => d_readings8G (A := A) (p := p) (o := o) (k := k) hn hR hR.bad hG hp
  rw [hgs] at k8
  rw [hbs] at b8
  have hgc := rdC_len gs
  have hbc := rdC_len bs
  refine AC.go Tryd.func5 rfl rfl ?_
  repeat' (first
  | (refine GL.any rfl rfl rfl (GO.call rfl rfl Tryd.func6 rfl rfl rfl (d_ready6 l need sil x (by omega) (rd_self rfl))) ?_; rintro v A1 ⟨⟨b, rfl, _⟩, rfl⟩; refine ⟨_, _, rfl, ?_⟩)
  | exact rfl
  | refine GL.sf rfl rfl rfl rfl ?_
  | refine GL.sv rfl rfl rfl rfl ?_
  | refine GL.sn rfl rfl rfl ?_
  | refine GL.done ?_
  | refine GP.thenN ?_
  | refine GT.seq ?_
  | refine GT.region ?_
  | refine GL.unguardG rfl rfl rfl ?_
  | refine GL.v rfl rfl rfl (by first | exact GO.call rfl rfl Tryd.func7 rfl rfl rfl (d_off7 ⟨rfl, rfl, rfl, _, _, rfl⟩) | exact GO.push (GO.call rfl rfl Tryd.func8 rfl rfl rfl (k8 ⟨rfl, rfl, rfl, _, _, rfl⟩ (rd_zero rfl))) | exact GO.push (GO.call rfl rfl Tryd.func8 rfl rfl rfl (b8 ⟨rfl, rfl, rfl, _, _, rfl⟩ (rd_zero rfl)))) ?_
  | refine GT.skip ?_
  | refine GT.block ?_
  | refine GT.ret ?_
  | refine GP.thenR ?_
  | refine GT.condF rfl ?_
  | (refine GT.condB rfl (fun h => ?_) (fun h => ?_))
  | refine GP.endR1 rfl ?_)
  refine GT.loop (fun q a L nx => ∃ i : Nat, i ≤ l.length ∧ q = l.length - i ∧ 9 ≤ nx ∧ (∀ (j : Nat) (y : Sen) (w : Int × Bool), j < i → l[j]? = some y → gs[j]? = some w → goodB y w = true) ∧
      asub (E0 l.length c i) a ∧ subm (B8 l need sil x gs bs c) L ∧
      ((i = 0 ∧ alook L 8 = some (.cells [.string fN, .int .i64 0, .slice none 0 0, .int .i64 0] 116)) ∨ ∃ o, 0 < i ∧ 9 ≤ o ∧ alook L o = some (.cells (intC (zsN l bs i)) 3) ∧ alook L 8 = some (.cells [.string fN, .int .i64 0, .slice (some ⟨o, 0, none⟩) i i, .int .i64 0] 116))) l.length
    ⟨0, by omega, by omega, by decide, fun j y w hj => by omega, E0_sub rfl rfl rfl rfl rfl rfl rfl rfl, B8_sub rfl rfl rfl rfl rfl rfl rfl rfl, .inl ⟨rfl, rfl⟩⟩ ?_
  rintro q a L nx ⟨i, hi, rfl, hnx, hgood, hsa, hsub, hcase⟩
  have glob : ∀ (X : LM) (p q : AObj), ∀ g, g < 3 → (alook ((9, p) :: (8, q) :: B8 l need sil x gs bs c) g).isSome = true := fun X p q g hg => by
    match g, hg with
    | 0, _ => rfl
    | 1, _ => rfl
    | 2, _ => rfl
  rcases Nat.lt_or_ge i l.length with hlt | hge
  · obtain ⟨y, hy⟩ : ∃ y, l[i]? = some y := ⟨_, List.getElem?_eq_getElem hlt⟩
    obtain ⟨⟨g1, g2⟩, hg⟩ : ∃ g, gs[i]? = some g := ⟨_, List.getElem?_eq_getElem (by omega)⟩
    obtain ⟨⟨w1, w2⟩, hw⟩ : ∃ w, bs[i]? = some w := ⟨_, List.getElem?_eq_getElem (by omega)⟩
    have g5 : ((senC l).drop (0 + (i : Int).toNat * 5)).take 5 = [.string y.s, .string y.k, .int .i64 y.lo, .int .i64 y.hi, .int .i64 y.d] := by simpa using senC_five l i y hy
    have gg : ((rdC gs).drop (0 + (i : Int).toNat * 2)).take 2 = [.int .i64 g1, .bool g2] := by simpa using rdC_two gs i _ hg
    have hb1 : (rdC bs)[0 + (i : Int).toNat * 2]? = some (.int .i64 w1) := by simpa using (rdC_at bs i _ hw).1
    have hb2 : (rdC bs)[0 + (i : Int).toNat * 2 + 1]? = some (.bool w2) := by simpa using (rdC_at bs i _ hw).2
    have hlow := hR.low i y hy
    have hsen := (hR.pl.2.2.1 i y hy).2.2.2.1
    have hz : zAt l bs i = zOf y (w1, w2) := zAt_at hy hw
    have hgo : g2 = false ∧ y.lo ≤ g1 ∧ g1 ≤ y.hi → goodB y (g1, g2) = true := fun ⟨h1, h2⟩ => by
      subst h1
      show (true && decide (y.lo ≤ g1 ∧ g1 ≤ y.hi)) = true
      rw [decide_eq_true h2]; rfl
    have hnext : g2 = false ∧ y.lo ≤ g1 ∧ g1 ≤ y.hi → ∀ (j : Nat) (y : Sen) (w : Int × Bool), j < i + 1 → l[j]? = some y → gs[j]? = some w → goodB y w = true := fun h j y' w' hj h1 h2 => by
      rcases Nat.lt_or_ge j i with q | q
      · exact hgood j y' w' q h1 h2
      · obtain rfl : j = i := by omega
        rw [hy] at h1; rw [hg] at h2; cases h1; cases h2
        exact hgo h
    rcases hcase with ⟨h0, h8⟩ | ⟨o, hpos, ho9, hob, h8⟩
    · refine GT.resetL 9 hsa (subm_cons h8 hsub) hnx rfl rfl (under_cons (by decide) (Lt.flat (j := 64) rfl) (B8_under (by decide))) E0_lt (fun g hg => by
        match g, hg with
        | 0, _ => rfl
        | 1, _ => rfl
        | 2, _ => rfl) ?_
      clear hsa hsub hnx h8
      cases w2
      all_goals
        repeat' (first
        | refine GT.draws (id := 11) [[], [], [0, 1], [0, 1, 2], [], [4], [0, 1, 2, 3, 4, 5], [0, 1, 2, 3, 4, 5, 6]] [] (by kernel_rfl) ?_
        | exact rfl
        | refine GL.sf rfl rfl rfl rfl ?_
        | refine GL.sv rfl rfl rfl rfl ?_
        | refine GL.sn rfl rfl rfl ?_
        | refine GL.done ?_
        | refine GP.thenN ?_
        | refine GT.seq ?_
        | refine GT.region ?_
        | refine GD.li rfl rfl (by exact onAt.none rfl) rfl (by repeat first | exact AllG.nil rfl | refine AllG.cons rfl (by first | exact GO.sf rfl rfl | exact GO.indexS (s := 2) rfl rfl rfl rfl rfl (by omega) | exact GO.loadG (s := 2) rfl rfl rfl rfl rfl rfl (by omega) gg | exact GO.call rfl rfl Tryd.func9 rfl rfl rfl (d_within9 _ _ _ _)) ?_) ?_
        | refine GD.done rfl rfl rfl ?_
        | refine GL.v rfl rfl rfl (by first | exact GO.indexS (s := 5) rfl rfl rfl rfl rfl (by omega) | exact GO.loadG (s := 5) rfl rfl rfl rfl rfl rfl (by omega) g5 | exact GO.indexS (s := 2) rfl rfl rfl rfl rfl (by omega) | exact GO.loadC rfl rfl rfl rfl rfl hb1 | exact GO.loadC rfl rfl rfl rfl rfl hb2 | exact GO.call rfl rfl Tryd.func7 rfl rfl rfl (d_off7 ⟨rfl, rfl, rfl, _, _, rfl⟩) | exact GO.add rfl rfl rfl (by omega)) ?_
        | refine GT.skip ?_
        | refine GT.block ?_
        | refine GT.ret ?_
        | refine GP.thenR ?_
        | refine GP.inN ?_
        | refine GP.inR ?_
        | refine GP.invR ?_
        | refine GT.condT rfl ?_
        | refine GT.condF rfl ?_
        | (refine GT.condD rfl (fun h => ?_) (fun h => ?_) <;> try (exfalso; omega))
        | (refine GT.condN rfl (fun h => ?_) (fun h => ?_) <;> try (exfalso; omega))
        | refine GP.endR1 rfl ?_)
      all_goals exact GP.invN (l.length - (i + 1)) (by omega) ⟨i + 1, by omega, rfl, Nat.le_of_ble_eq_true rfl, hnext (by assumption), E0_sub rfl rfl rfl rfl rfl rfl rfl rfl, B8_sub rfl rfl rfl rfl rfl rfl rfl rfl, .inr ⟨11, by omega, by decide, by subst h0; rw [zsN_succ, hz]; rfl, by subst h0; rfl⟩⟩
    · refine GT.resetO (c0' := fC i i) (L' := B8 l need sil x gs bs c) 9 o 8 hsa hsub rfl rfl rfl (B8_under (by decide)) E0_lt ho9 trivial hob (intC_flat _) h8 rfl (fun ρ h1 h2 => Rn.cons (.flat (k := 8) rfl) (Rn.cons (.flat (k := 8) rfl) (Rn.cons (.sl h2) (.flat (k := 8) rfl)))) rfl ?_
      clear hsa hsub hnx h8 hob ho9
      have hzl : (intC (zsN l bs i)).length = i := by simp [zsN_len]
      cases w2
      all_goals
        repeat' (first
        | refine GT.draws (id := 11) [[], [], [0, 1], [0, 1, 2], [], [4], [0, 1, 2, 3, 4, 5], [0, 1, 2, 3, 4, 5, 6]] [] (by kernel_rfl) ?_
        | exact rfl
        | refine GL.sf rfl rfl rfl rfl ?_
        | refine GL.sv rfl rfl rfl rfl ?_
        | refine GL.sn rfl rfl rfl ?_
        | refine GL.done ?_
        | refine GP.thenN ?_
        | refine GT.seq ?_
        | refine GT.region ?_
        | refine GD.li rfl rfl (by exact onAt.none rfl) rfl (by repeat first | exact AllG.nil rfl | refine AllG.cons rfl (by first | exact GO.sf rfl rfl | exact GO.indexS (s := 2) rfl rfl rfl rfl rfl (by omega) | exact GO.loadG (s := 2) rfl rfl rfl rfl rfl rfl (by omega) gg | exact GO.call rfl rfl Tryd.func9 rfl rfl rfl (d_within9 _ _ _ _)) ?_) ?_
        | refine GD.done rfl rfl rfl ?_
        | refine GL.v rfl rfl rfl (by first | exact GO.indexS (s := 5) rfl rfl rfl rfl rfl (by omega) | exact GO.loadG (s := 5) rfl rfl rfl rfl rfl rfl (by omega) g5 | exact GO.indexS (s := 2) rfl rfl rfl rfl rfl (by omega) | exact GO.loadC rfl rfl rfl rfl rfl hb1 | exact GO.loadC rfl rfl rfl rfl rfl hb2 | exact GO.call rfl rfl Tryd.func7 rfl rfl rfl (d_off7 ⟨rfl, rfl, rfl, _, _, rfl⟩) | exact GO.appendG rfl rfl rfl rfl rfl rfl rfl rfl rfl rfl rfl rfl rfl rfl (hzl.trans (Nat.mul_one i).symm) (Nat.le_of_ble_eq_true rfl) rfl (Nat.le_of_ble_eq_true rfl) (by omega) | exact GO.add rfl rfl rfl (by omega)) ?_
        | refine GT.skip ?_
        | refine GT.block ?_
        | refine GT.ret ?_
        | refine GP.thenR ?_
        | refine GP.inN ?_
        | refine GP.inR ?_
        | refine GP.invR ?_
        | refine GT.condT rfl ?_
        | refine GT.condF rfl ?_
        | (refine GT.condD rfl (fun h => ?_) (fun h => ?_) <;> try (exfalso; omega))
        | (refine GT.condN rfl (fun h => ?_) (fun h => ?_) <;> try (exfalso; omega))
        | refine GP.endR1 rfl ?_)
      all_goals exact GP.invN (l.length - (i + 1)) (by omega) ⟨i + 1, by omega, rfl, Nat.le_of_ble_eq_true rfl, hnext (by assumption), E0_sub rfl rfl rfl rfl rfl rfl rfl rfl, B8_sub rfl rfl rfl rfl rfl rfl rfl rfl, .inr ⟨12, by omega, by decide, by rw [zsN_succ, intC_snoc, hz]; rfl, rfl⟩⟩
  · obtain rfl : i = l.length := by omega
    rcases hcase with ⟨h0, _⟩ | ⟨o, hpos, ho9, hob, h8⟩
    · omega
    refine GT.resetO (c0' := fC l.length l.length) (L' := B8 l need sil x gs bs c) 9 o 8 hsa hsub rfl rfl rfl (B8_under (by decide)) E0_lt ho9 trivial hob (intC_flat _) h8 rfl (fun ρ h1 h2 => Rn.cons (.flat (k := 8) rfl) (Rn.cons (.flat (k := 8) rfl) (Rn.cons (.sl h2) (.flat (k := 8) rfl)))) rfl ?_
    clear hsa hsub hnx h8 hob ho9 hge hi
    have hgood' : GoodL l gs := fun j y w h1 h2 => hgood j y w (List.getElem?_eq_some_iff.1 h1).1 h1 h2
    obtain ⟨t, ht⟩ := isTime_some l (zsN l bs l.length) need
    have hzi := zsN_in hR hbi l.length
    obtain ⟨r, hr, hr5⟩ : ∃ r : Nat, x.before % 6 = (r : Int) ∧ r ≤ 5 := ⟨(x.before % 6).toNat, by omega, by omega⟩
    have hsil := hR.pl.2.2.2.2.2
    obtain ⟨u, hu⟩ : ∃ u : Nat, sil = (u : Int) := ⟨sil.toNat, by omega⟩
    subst hu
    have hgf := rdC_flat gs
    have hbf := rdC_flat bs
    have hg2 : (rdC gs).length = l.length * 2 := by omega
    have hb2 : (rdC bs).length = l.length * 2 := by omega
    rcases Nat.eq_zero_or_pos t with rfl | htp
    · have hvf : ∀ s, 1 ≤ s → vt l (zsN l bs l.length) need s = false := vt_late hlens.ds (by
        rcases ht with ⟨_, h⟩ | ⟨h, _⟩
        · exact h
        · omega)
      have k32 : ∀ {A : AW} {p x' : Nat}, A.rd p 0 (senC l).length = some (senC l) → A.rd x' 0 (intC (zsN l bs l.length)).length = some (intC (zsN l bs l.length)) → AC Tryd.prog 32 [.agg #[.slice (some ⟨p, 0, none⟩) l.length l.length, .int .i64 need, .int .i64 (u : Int)], .agg #[.string fN, .int .i64 0, .slice (some ⟨x', 0, none⟩) l.length l.length, .int .i64 0]] A (isR (.tuple #[.bool false, .int .i64 0, .int .i64 0]) A) := fun hp hx => d_seen32t l fN fName _ need _ ht zsN_len hzi ⟨hn.1, by omega⟩ (fun h => d_plant84G hR.pl hR.five h) hp hx
      obtain ⟨X1, N1, o1, ν1, c1, n1, q1, s1⟩ := secs_step (B := B11 l need u x gs bs c) (X := []) (k := 11) (nx := 11) (ro := 4) (gl := 3) (x := 6) (rdC gs) l.length l.length r rfl (Nat.le_refl _) ⟨hn.1, by omega⟩ (by omega) hg2 hgf (rdC_one gs) rfl
      obtain ⟨X2, N2, o2, ν2, c2, n2, q2, s2⟩ := secs_step (B := B11 l need u x gs bs c) (X := X1) (k := 11) (nx := N1) (ro := 4) (gl := 3) (x := 7) (rdC bs) l.length l.length 1 rfl n1 ⟨hn.1, by omega⟩ (by omega) hb2 hbf (rdC_one bs) rfl
      obtain ⟨X3, N3, o3, ν3, a3, n3, q3, s3⟩ := app_step (B := B11 l need u x gs bs c) (ro := 4) (gl := 3) rfl (by omega) (by decide) (s1.keep n2 q2) s2 (by decide) (by omega)
      have s4 := s3.keep (X' := (N3, .cells (senC l) 128) :: X3) (Nat.le_succ N3) (fun j hj => cons_old hj)
      obtain ⟨X5, N5, o5, ν5, c5, n5, q5, s5⟩ := secs_step (B := B11 l need u x gs bs c) (X := (N3, .cells (senC l) 128) :: X3) (k := 11) (nx := N3 + 1) (ro := 4) (gl := 3) (x := 7) (rdC bs) l.length l.length 62 rfl (by omega) ⟨hn.1, by omega⟩ (by omega) hb2 hbf (rdC_one bs) rfl
      obtain ⟨X6, N6, o6, ν6, a6, n6, q6, s6⟩ := app_step (B := B11 l need u x gs bs c) (ro := 4) (gl := 3) rfl (by omega) (by decide) (s4.keep n5 q5) s5 (by decide) (by omega)
      rw [show ((62 : Nat) : Int) = 62 from rfl] at c5
      have ho3 : N3 ≠ o3 := by have := (s3.hob (by omega)).2.2; omega
      have hp6 : alook X6 N3 = some (.cells (senC l) 128) := (q6 N3 (by omega) ho3).trans ((q5 N3 (by omega)).trans alook_hd)
      have st := d_states10at (A := AW.of (B11 l need u x gs bs c ++ X6) N6 4 3) (md := fun _ => 0) (lf := fun _ => 0) (c := cN l bs r) ⟨by omega, by omega⟩ ((s6.congr (two_blind (m := 62))).fm (ro := 4) (p := N3) (by omega) rfl ⟨rfl, rfl, rfl, _, _, rfl⟩ (rd_of ((app_new (B := B11 l need u x gs bs c) (k := 11) rfl n3).trans hp6)) ⟨fj, hflat⟩ fr_law) (cl_law (need := need) (sil := u) (by omega) hn hgl hbl hgi hbi) (pl_law hR.pl hR.five) ⟨rfl, rfl, by unfold cN; rw [show 0 - r = 0 by omega]; exact cB_zero hlens.ds⟩ (fun i hi => step_blind hlens hgl hbl hgood' hvf (by omega))
      repeat' (first
      | refine GT.draws (id := 18) [[], [0], [], [0, 1, 2], [0, 1, 2, 3], [0, 1, 2, 3, 4], [0, 1, 2, 3, 4], [0, 1, 2, 3, 4], [0, 1, 2, 3, 4, 5], [0, 1, 2, 3, 4, 5, 6, 8], [0, 1, 2, 3, 4, 5, 6, 7, 8, 9]] [1] (by kernel_rfl) ?_
      | refine GL.v rfl rfl rfl (GO.remE rfl rfl rfl (by omega) (by omega) hr) ?_
      | refine GL.v rfl rfl rfl (GO.maxE rfl rfl rfl rfl rfl (show max (0 : Int) 1 = ((1 : Nat) : Int) from rfl)) ?_
      | refine GL.v rfl rfl rfl (a3 rfl rfl rfl rfl rfl rfl rfl rfl rfl rfl rfl rfl (Nat.le_of_ble_eq_true rfl) rfl rfl) ?_
      | refine GL.v rfl rfl rfl (a6 rfl rfl rfl rfl rfl rfl rfl rfl rfl rfl rfl rfl (Nat.le_of_ble_eq_true rfl) (slS_pos (by omega)).symm rfl) ?_
      | refine GL.sf rfl rfl rfl rfl ?_
      | refine GL.sv rfl rfl rfl rfl ?_
      | refine GL.done ?_
      | refine GP.thenN ?_
      | refine GT.seq ?_
      | refine GT.region ?_
      | refine GL.unguardG rfl rfl rfl ?_
      | refine GD.li rfl rfl (by exact onAt.none rfl) rfl (by repeat first | exact AllG.nil rfl | refine AllG.cons rfl (by first | exact GO.sf rfl rfl | exact GO.call rfl rfl Tryd.func32 rfl rfl rfl (k32 (rd_self rfl) (rd_self rfl))) ?_) ?_
      | refine GD.he rfl rfl rfl (by exact onAt.none rfl) rfl (by exact GO.push (GO.call rfl rfl Tryd.func11 rfl rfl rfl (d_plant11G l need u hn (rd_self rfl)))) ?_ ?_
      | refine GD.done rfl rfl rfl ?_
      | exact AllJs.nil rfl
      | refine GL.v rfl rfl rfl (by first | exact GO.pushB (k := 11) rfl n3 (GO.call rfl rfl Tryd.func11 rfl rfl rfl (d_plant11G l need u hn (rd_of rfl))) | exact GO.pushB (k := 11) rfl n6 (GO.call rfl rfl Tryd.func10 rfl rfl rfl st) | exact GO.call rfl rfl Tryd.func12 rfl rfl rfl (c1) | exact GO.call rfl rfl Tryd.func12 rfl rfl rfl (c2) | exact GO.call rfl rfl Tryd.func12 rfl rfl rfl (c5) | exact GO.conv rfl rfl rfl rfl (i64_wrap (by omega) (by omega))) ?_
      | refine GT.skip ?_
      | refine GT.block ?_
      | refine GT.exit ?_
      | refine GP.thenE ?_
      | refine GP.hit ?_
      | refine GP.invE ?_
      | refine GT.condT rfl ?_
      | refine GT.condF rfl ?_
      | (refine GT.condD rfl (fun h => ?_) (fun h => ?_) <;> try (exfalso; omega)))
      refine GT.resetE (L' := B8 l need u x gs bs c) (a1 := [(2, .pointer (some ⟨4, 0, none⟩)), (3, .pointer (some ⟨5, 0, none⟩)), (152, .int .i64 ((r + 1 + 62 : Nat) : Int)), (153, .int .i64 ((0 : Nat) : Int))]) 8 N6 (d := 151) (u' := .slice (some ⟨8, 0, none⟩) (r + 1 + 62) (r + 1 + 62)) (asub_cons rfl (asub_cons rfl (asub_cons rfl (asub_cons rfl asub_nil)))) (B8_sub rfl rfl rfl rfl rfl rfl rfl rfl) rfl rfl rfl (B8_under (Nat.le_refl 8)) (.cons (.ptr rfl) (.cons (.ptr rfl) (.cons (.flat (j := 8) rfl) (.cons (.flat (j := 8) rfl) .nil)))) (by omega) trivial ((app_new (B := B11 l need u x gs bs c) (k := 11) rfl n6).trans alook_hd) stCs_flat rfl (fun ρ h1 h2 => .sl h2) rfl ?_
      clear c1 c2 a3 c5 a6 st s1 s2 s3 s4 s5 s6 q1 q2 q3 q5 q6 hp6
      generalize hst : stCs (fun _ => 0) (fun _ => 0) (cN l bs r) (r + 1 + 62) = cs
      have hcl : cs.length = (r + 1 + 62) * 10 := by rw [← hst]; exact stCs_len
      have hcf : ∃ j, noAddrs j cs = true := by rw [← hst]; exact stCs_flat
      have hmd : ∀ i, i < r + 1 + 62 → (cs.drop (0 + (i : Int).toNat * 10)).take 10 = stV 0 0 (cN l bs r (i + 1)) := fun i h => by rw [← hst]; exact md_at h rfl
      clear hst
      obtain ⟨jc, hcf⟩ := hcf
      refine GT.loop (fun q a L nx => ∃ i : Nat, i ≤ r + 1 + 62 ∧ q = r + 1 + 62 - i ∧ 9 ≤ nx ∧ asub (E2 (r + 1 + 62) i) a ∧ subm ((8, .cells cs 59) :: B8 l need u x gs bs c) L) (r + 1 + 62)
        ⟨0, by omega, by omega, by decide, asub_cons rfl (asub_cons rfl (asub_cons rfl (asub_cons rfl (asub_cons rfl asub_nil)))), fun _ _ h => h⟩ ?_
      rintro q a L nx ⟨i, hi, rfl, hnx, hsa, hsub⟩
      refine GT.resetL 9 hsa hsub hnx rfl rfl (under_cons (by decide) (Lt.flat hcf) (B8_under (by decide))) E2_lt glob8 ?_
      clear hsa hsub hnx
      rcases Nat.lt_or_ge i (r + 1 + 62) with hlt | hge
      · have hmi := hmd i hlt
        repeat' (first
        | refine GL.sf rfl rfl rfl rfl ?_
        | refine GL.sn rfl rfl rfl ?_
        | refine GL.done ?_
        | refine GP.thenN ?_
        | refine GT.seq ?_
        | refine GT.region ?_
        | refine GL.v rfl rfl rfl (by first | exact GO.indexS (s := 10) rfl rfl rfl rfl rfl (by omega) | exact GO.loadG (s := 10) rfl rfl rfl rfl rfl rfl (by omega) hmi | exact GO.add rfl rfl rfl (by omega)) ?_
        | refine GT.skip ?_
        | refine GT.block ?_
        | refine GP.inN ?_
        | refine GT.condF rfl ?_
        | (refine GT.condD rfl (fun h => ?_) (fun h => ?_) <;> try (exfalso; omega)))
        exact GP.invN (r + 1 + 62 - (i + 1)) (by omega) ⟨i + 1, by omega, rfl, Nat.le_of_ble_eq_true rfl, asub_cons rfl (asub_cons rfl (asub_cons rfl (asub_cons rfl (asub_cons rfl asub_nil)))), subm_cons rfl (B8_sub rfl rfl rfl rfl rfl rfl rfl rfl)⟩
      · obtain rfl : i = r + 1 + 62 := by omega
        repeat' (first
        | refine GL.sf rfl rfl rfl rfl ?_
        | refine GL.done ?_
        | refine GP.thenN ?_
        | refine GT.seq ?_
        | refine GT.region ?_
        | refine GL.v rfl rfl rfl (by exact GO.call rfl rfl Tryd.func7 rfl rfl rfl (d_off7 ⟨rfl, rfl, rfl, _, _, rfl⟩)) ?_
        | refine GT.ret ?_
        | refine GT.exit ?_
        | refine GP.thenR ?_
        | refine GP.thenE ?_
        | refine GP.hit ?_
        | refine GP.invE ?_
        | (refine GT.condD rfl (fun h => ?_) (fun h => ?_) <;> try (exfalso; omega))
        | refine GP.endR1 rfl ?_)
        rfl
    · obtain ⟨ht60, hvt, hvn⟩ : t ≤ 60 ∧ vt l (zsN l bs l.length) need t = true ∧ ∀ s, 1 ≤ s → s < t → vt l (zsN l bs l.length) need s = false := by
        rcases ht with ⟨h, _⟩ | ⟨_, h⟩
        · omega
        · exact h
      have k32 : ∀ {A : AW} {p x' : Nat}, A.rd p 0 (senC l).length = some (senC l) → A.rd x' 0 (intC (zsN l bs l.length)).length = some (intC (zsN l bs l.length)) → AC Tryd.prog 32 [.agg #[.slice (some ⟨p, 0, none⟩) l.length l.length, .int .i64 need, .int .i64 (u : Int)], .agg #[.string fN, .int .i64 0, .slice (some ⟨x', 0, none⟩) l.length l.length, .int .i64 0]] A (isR (.tuple #[.bool true, .int .i64 (t : Int), .int .i64 0]) A) := fun hp hx => by
        have h := d_seen32t (k := l.length) l fN fName _ need (u : Int) ht zsN_len hzi ⟨hn.1, by omega⟩ (fun h => d_plant84G hR.pl hR.five h) hp hx (c := l.length)
        rw [decide_eq_true (by omega)] at h
        exact h
      obtain ⟨X1, N1, o1, ν1, c1, n1, q1, s1⟩ := secs_step (B := B11 l need u x gs bs c) (X := []) (k := 11) (nx := 11) (ro := 4) (gl := 3) (x := 6) (rdC gs) l.length l.length r rfl (Nat.le_refl _) ⟨hn.1, by omega⟩ (by omega) hg2 hgf (rdC_one gs) rfl
      obtain ⟨X2, N2, o2, ν2, c2, n2, q2, s2⟩ := secs_step (B := B11 l need u x gs bs c) (X := X1) (k := 11) (nx := N1) (ro := 4) (gl := 3) (x := 7) (rdC bs) l.length l.length t rfl n1 ⟨hn.1, by omega⟩ (by omega) hb2 hbf (rdC_one bs) rfl
      obtain ⟨X3, N3, o3, ν3, a3, n3, q3, s3⟩ := app_step (B := B11 l need u x gs bs c) (ro := 4) (gl := 3) rfl (by omega) (by decide) (s1.keep n2 q2) s2 htp (by omega)
      obtain ⟨X5, N5, o5, ν5, c5, n5, q5, s5⟩ := secs_step (B := B11 l need u x gs bs c) (X := X3) (k := 11) (nx := N3) (ro := 4) (gl := 3) (x := 6) (rdC gs) l.length l.length (u + 5) rfl n3 ⟨hn.1, by omega⟩ (by omega) hg2 hgf (rdC_one gs) rfl
      obtain ⟨X6, N6, o6, ν6, a6, n6, q6, s6⟩ := app_step (B := B11 l need u x gs bs c) (ro := 4) (gl := 3) rfl (by omega) (by decide) (s3.keep n5 q5) s5 (by omega) (by omega)
      have s7 := s6.keep (X' := (N6, .cells (senC l) 128) :: X6) (Nat.le_succ N6) (fun j hj => cons_old hj)
      have hcl86 := fun m (hm : m ≤ 900) => cl_law (need := need) (sil := (u : Int)) (r := r) (t := t) hm hn hgl hbl hgi hbi
      have hst0 : mdF r t u 0 = 0 ∧ lfF r t u 0 = 0 ∧ cF l bs r t 0 = fun _ => 0 := by
        refine ⟨?_, ?_, ?_⟩
        · unfold mdF; rw [if_pos (by omega)]
        · unfold lfF; rw [if_pos (by omega)]
        · unfold cF
          split
          · rw [Nat.zero_sub]; exact cB_zero hlens.ds
          · rfl
      have hstep := fun i (_ : i < r + t + (u + 5)) => step_law (k := l.length) (r := r) hlens (show u ≤ 60 by omega) hgl hbl hgood' htp hvt hvn i
      have st := d_states10at (A := AW.of (B11 l need u x gs bs c ++ (N6, .cells (senC l) 128) :: X6) (N6 + 1) 4 3) (md := mdF r t u) (lf := lfF r t u) (c := cF l bs r t) ⟨by omega, by omega⟩ ((s7.congr (two_law (m := u + 5))).fm (ro := 4) (p := N6) (by omega) rfl ⟨rfl, rfl, rfl, _, _, rfl⟩ (rd_of ((app_new (B := B11 l need u x gs bs c) (k := 11) rfl n6).trans alook_hd)) ⟨fj, hflat⟩ fr_law) (hcl86 _ (by omega)) (pl_law hR.pl hR.five) hst0 hstep
      have htd : true = decide (0 < (t : Int)) := (decide_eq_true (by omega)).symm
      repeat' (first
      | exact absurd htd h
      | refine GT.draws (id := 18) [[], [0], [], [0, 1, 2], [0, 1, 2, 3], [0, 1, 2, 3, 4], [0, 1, 2, 3, 4], [0, 1, 2, 3, 4], [0, 1, 2, 3, 4, 5], [0, 1, 2, 3, 4, 5, 6, 8], [0, 1, 2, 3, 4, 5, 6, 7, 8, 9]] [1] (by kernel_rfl) ?_
      | refine GL.v rfl rfl rfl (GO.remE rfl rfl rfl (by omega) (by omega) hr) ?_
      | refine GL.v rfl rfl rfl (GO.maxE rfl rfl rfl rfl rfl (show max (t : Int) 1 = (t : Int) by omega)) ?_
      | refine GL.v rfl rfl rfl (a3 rfl rfl rfl rfl rfl rfl rfl rfl rfl rfl rfl rfl (Nat.le_of_ble_eq_true rfl) rfl rfl) ?_
      | refine GL.v rfl rfl rfl (a6 rfl rfl rfl rfl rfl rfl rfl rfl rfl rfl rfl rfl (Nat.le_of_ble_eq_true rfl) (slS_pos (by omega)).symm rfl) ?_
      | refine GL.sf rfl rfl rfl rfl ?_
      | refine GL.sv rfl rfl rfl rfl ?_
      | refine GL.done ?_
      | refine GP.thenN ?_
      | refine GT.seq ?_
      | refine GT.region ?_
      | refine GL.unguardG rfl rfl rfl ?_
      | refine GD.li rfl rfl (by exact onAt.none rfl) rfl (by repeat first | exact AllG.nil rfl | refine AllG.cons rfl (by first | exact GO.sf rfl rfl | exact GO.call rfl rfl Tryd.func32 rfl rfl rfl (k32 (rd_self rfl) (rd_self rfl))) ?_) ?_
      | refine GD.he rfl rfl rfl (by exact onAt.none rfl) rfl (by exact GO.push (GO.call rfl rfl Tryd.func11 rfl rfl rfl (d_plant11G l need u hn (rd_self rfl)))) ?_ ?_
      | refine GD.done rfl rfl rfl ?_
      | exact AllJs.nil rfl
      | refine GL.v rfl rfl rfl (by first | exact GO.pushB (k := 11) rfl n6 (GO.call rfl rfl Tryd.func11 rfl rfl rfl (d_plant11G l need u hn (rd_of rfl))) | exact GO.pushB (k := 11) rfl (Nat.le_succ_of_le n6) (GO.call rfl rfl Tryd.func10 rfl rfl rfl st) | exact GO.call rfl rfl Tryd.func12 rfl rfl rfl (c1) | exact GO.call rfl rfl Tryd.func12 rfl rfl rfl (c2) | exact GO.call rfl rfl Tryd.func12 rfl rfl rfl (c5) | exact GO.add rfl rfl rfl (by omega) | exact GO.conv rfl rfl rfl rfl (i64_wrap (by omega) (by omega))) ?_
      | refine GT.skip ?_
      | refine GT.block ?_
      | refine GT.exit ?_
      | refine GP.thenE ?_
      | refine GP.hit ?_
      | refine GP.invE ?_
      | refine GT.condF rfl ?_
      | (refine GT.condD rfl (fun h => ?_) (fun h => ?_) <;> try (exfalso; omega))
      | (refine GT.condN rfl (fun h => ?_) (fun h => ?_) <;> try (exfalso; omega))
      | (refine GL.forkDG rfl rfl rfl (fun h => ?_) (fun h => ?_) <;> try (exfalso; omega)))
      refine GT.resetE (L' := B8 l need u x gs bs c) (a1 := [(2, .pointer (some ⟨4, 0, none⟩)), (3, .pointer (some ⟨5, 0, none⟩)), (5, .slice (some ⟨6, 0, none⟩) l.length l.length), (7, .slice (some ⟨7, 0, none⟩) l.length l.length), (14, .int .i64 t), (16, .int .i64 r), (25, .slice none 0 0), (186, .int .i64 ((r + t + (u + 5)) : Nat)), (187, .int .i64 ((0 : Nat) : Int))]) 8 (N6 + 1) (d := 185) (u' := .slice (some ⟨8, 0, none⟩) (r + t + (u + 5)) (r + t + (u + 5))) (asub_cons rfl (asub_cons rfl (asub_cons rfl (asub_cons rfl (asub_cons rfl (asub_cons rfl (asub_cons rfl (asub_cons rfl (asub_cons rfl asub_nil))))))))) (B8_sub rfl rfl rfl rfl rfl rfl rfl rfl) rfl rfl rfl (B8_under (Nat.le_refl 8)) (.cons (.ptr rfl) (.cons (.ptr rfl) (.cons (.sl rfl) (.cons (.sl rfl) (.cons (.flat (j := 8) rfl) (.cons (.flat (j := 8) rfl) (.cons (.flat (j := 8) rfl) (.cons (.flat (j := 8) rfl) (.cons (.flat (j := 8) rfl) .nil))))))))) (by omega) trivial ((app_new (B := B11 l need u x gs bs c) (k := 11) rfl (Nat.le_succ_of_le n6)).trans alook_hd) stCs_flat rfl (fun ρ h1 h2 => .sl h2) rfl ?_
      clear c1 c2 a3 c5 a6 st s1 s2 s3 s5 s6 s7 q1 q2 q3 q5 q6
      generalize hst : stCs (mdF r t u) (lfF r t u) (cF l bs r t) (r + t + (u + 5)) = cs
      have hcl : cs.length = (r + t + (u + 5)) * 10 := by rw [← hst]; exact stCs_len
      have hcf : ∃ j, noAddrs j cs = true := by rw [← hst]; exact stCs_flat
      have hmd : ∀ i v, i < (r + t + (u + 5)) → mdF r t u (i + 1) = v → (cs.drop (0 + (i : Int).toNat * 10)).take 10 = stV v (lfF r t u (i + 1)) (cF l bs r t (i + 1)) := fun i v h hv => by rw [← hst]; exact md_at h hv
      clear hst
      obtain ⟨jc, hcf⟩ := hcf
      refine GT.loop (fun q a L nx => ∃ i : Nat, i ≤ (r + t + (u + 5)) ∧ q = (r + t + (u + 5)) - i ∧ 9 ≤ nx ∧ asub (E4 l.length (r + t + (u + 5)) r t i) a ∧ subm ((8, .cells cs 59) :: B8 l need u x gs bs c) L ∧
          ((i = 0 ∧ aget a 25 = some (.slice none 0 0)) ∨ ∃ o, 0 < i ∧ 9 ≤ o ∧ aget a 25 = some (.slice (some ⟨o, 0, none⟩) i i) ∧ alook L o = some (.cells (intC (exL r t i)) 3))) (r + t + (u + 5))
        ⟨0, by omega, by omega, by decide, E4_sub rfl rfl rfl rfl rfl rfl rfl rfl rfl, fun _ _ h => h, .inl ⟨rfl, rfl⟩⟩ ?_
      rintro q a L nx ⟨i, hi, rfl, hnx, hsa, hsub, hcase⟩
      rcases Nat.lt_or_ge i (r + t + (u + 5)) with hlt | hge
      · have hcut : 0 + (i : Int).toNat * 10 + 10 ≤ cs.length := by omega
        have hx1 : r ≤ i ∧ i < r + t → exF r t i = 1 := fun h => by unfold exF; rw [if_pos h]
        have hx0 : ¬(r ≤ i ∧ i < r + t) → exF r t i = 0 := fun h => by unfold exF; rw [if_neg h]
        have hmi : ∃ v, ((i + 1 < r + t ∧ v = 0) ∨ (r + t ≤ i + 1 ∧ i + 1 < r + t + u ∧ v = 1) ∨ (r + t + u ≤ i + 1 ∧ r + t ≤ i + 1 ∧ v = 2)) ∧ (cs.drop (0 + (i : Int).toNat * 10)).take 10 = stV v (lfF r t u (i + 1)) (cF l bs r t (i + 1)) := by
          refine ⟨mdF r t u (i + 1), ?_, hmd i _ hlt rfl⟩
          unfold mdF
          split
          · exact .inl ⟨by assumption, rfl⟩
          · split
            · exact .inr (.inl ⟨by omega, by assumption, rfl⟩)
            · exact .inr (.inr ⟨by omega, by omega, rfl⟩)
        obtain ⟨v, hv, hmi⟩ := hmi
        rcases hcase with ⟨h0, h25⟩ | ⟨o, hpos, ho9, h25, hob⟩
        · refine GT.resetL (a1 := (25, .slice none 0 0) :: E4 l.length (r + t + (u + 5)) r t i) 9 (asub_cons h25 hsa) hsub hnx rfl rfl (under_cons (by decide) (Lt.flat hcf) (B8_under (by decide))) (.cons (.flat (j := 8) rfl) E4_lt) glob8 ?_
          clear hsa hsub hnx h25
          have he0 : exL r t i = [] := by rw [h0]; rfl
          rcases hv with ⟨hv1, rfl⟩ | ⟨hv1, hv2, rfl⟩ | ⟨hv1, hv2, rfl⟩
          all_goals
            repeat' (first
            | refine GL.sf rfl rfl rfl rfl ?_
            | refine GL.sv rfl rfl rfl rfl ?_
            | refine GL.sn rfl rfl rfl ?_
            | refine GL.done ?_
            | refine GP.thenN ?_
            | refine GT.seq ?_
            | refine GT.region ?_
            | refine GL.unguardG rfl rfl rfl ?_
            | refine GL.skipG rfl rfl rfl rfl rfl ?_
            | refine GL.v rfl rfl rfl (by first | exact GO.indexS (s := 10) rfl rfl rfl rfl rfl (by omega) | exact GO.loadG (s := 10) rfl rfl rfl rfl rfl rfl hcut hmi | exact GO.add rfl rfl rfl (by omega) | exact GO.sub rfl rfl rfl (by omega)) ?_
            | refine GT.skip ?_
            | refine GT.block ?_
            | refine GP.inN ?_
            | refine GT.condF rfl ?_
            | (refine GT.condD rfl (fun h => ?_) (fun h => ?_) <;> try (exfalso; omega))
            | (refine GL.forkDG rfl rfl rfl (fun h => ?_) (fun h => ?_) <;> try (exfalso; omega)))
          all_goals exact GP.invN ((r + t + (u + 5)) - (i + 1)) (by omega) ⟨i + 1, by omega, rfl, Nat.le_of_ble_eq_true rfl, E4_sub rfl rfl rfl rfl rfl rfl rfl rfl rfl, subm_cons rfl (B8_sub rfl rfl rfl rfl rfl rfl rfl rfl), .inr ⟨11, by omega, by decide, by rw [h0]; rfl, by first | (rw [exL_succ, he0, hx1 (by omega)]; rfl) | (rw [exL_succ, he0, hx0 (by omega)]; rfl)⟩⟩
        · refine GT.resetE (L' := (8, .cells cs 59) :: B8 l need u x gs bs c) 9 o (d := 25) (u' := .slice (some ⟨9, 0, none⟩) i i) hsa hsub rfl rfl rfl (under_cons (by decide) (Lt.flat hcf) (B8_under (by decide))) E4_lt ho9 trivial hob (intC_flat _) h25 (fun ρ h1 h2 => .sl h2) rfl ?_
          clear hsa hsub hnx h25 hob ho9
          have hzl : (intC (exL r t i)).length = i := by simp [exL_len]
          rcases hv with ⟨hv1, rfl⟩ | ⟨hv1, hv2, rfl⟩ | ⟨hv1, hv2, rfl⟩
          all_goals
            repeat' (first
            | refine GL.sf rfl rfl rfl rfl ?_
            | refine GL.sn rfl rfl rfl ?_
            | refine GL.done ?_
            | refine GP.thenN ?_
            | refine GT.seq ?_
            | refine GT.region ?_
            | refine GL.unguardG rfl rfl rfl ?_
            | refine GL.skipG rfl rfl rfl rfl rfl ?_
            | refine GL.v rfl rfl rfl (by first | exact GO.indexS (s := 10) rfl rfl rfl rfl rfl (by omega) | exact GO.loadG (s := 10) rfl rfl rfl rfl rfl rfl hcut hmi | exact GO.appendG rfl rfl rfl rfl rfl rfl rfl rfl rfl rfl rfl rfl rfl rfl (hzl.trans (Nat.mul_one i).symm) (Nat.le_of_ble_eq_true rfl) rfl (Nat.le_of_ble_eq_true rfl) (by omega) | exact GO.add rfl rfl rfl (by omega) | exact GO.sub rfl rfl rfl (by omega)) ?_
            | refine GT.skip ?_
            | refine GT.block ?_
            | refine GP.inN ?_
            | refine GT.condF rfl ?_
            | (refine GT.condD rfl (fun h => ?_) (fun h => ?_) <;> try (exfalso; omega))
            | (refine GL.forkDG rfl rfl rfl (fun h => ?_) (fun h => ?_) <;> try (exfalso; omega)))
          all_goals exact GP.invN ((r + t + (u + 5)) - (i + 1)) (by omega) ⟨i + 1, by omega, rfl, Nat.le_of_ble_eq_true rfl, E4_sub rfl rfl rfl rfl rfl rfl rfl rfl rfl, subm_cons rfl (B8_sub rfl rfl rfl rfl rfl rfl rfl rfl), .inr ⟨12, by omega, by decide, rfl, by first | (rw [exL_succ, intC_snoc, hx1 (by omega)]; rfl) | (rw [exL_succ, intC_snoc, hx0 (by omega)]; rfl)⟩⟩
      · obtain rfl : i = (r + t + (u + 5)) := by omega
        rcases hcase with ⟨h0, _⟩ | ⟨o, hpos, ho9, h25, hob⟩
        · omega
        refine GT.resetE (L' := (8, .cells cs 59) :: B8 l need u x gs bs c) 9 o (d := 25) (u' := .slice (some ⟨9, 0, none⟩) (r + t + (u + 5)) (r + t + (u + 5))) hsa hsub rfl rfl rfl (under_cons (by decide) (Lt.flat hcf) (B8_under (by decide))) E4_lt ho9 trivial hob (intC_flat _) h25 (fun ρ h1 h2 => .sl h2) rfl ?_
        clear hsa hsub hnx h25 hob ho9 hcl hmd hge hi n1 n2 n3 n5 n6
        have hbest : bestF (mdF r t u) (exL r t (r + t + (u + 5))) (r + t + (u + 5)) = if u = 0 then (t : Int) else t - 1 := by rw [best_law htp (r + t + (u + 5)) (Nat.le_refl _), if_neg (by omega), if_neg (by omega)]
        obtain ⟨ex, hex⟩ : ∃ ex, exL r t (r + t + (u + 5)) = ex := ⟨_, rfl⟩
        have hexl : ex.length = (r + t + (u + 5)) := by rw [← hex]; exact exL_len
        have hexi : ∀ z ∈ ex, -10000 ≤ z ∧ z ≤ 10000 := by rw [← hex]; exact exL_le
        rw [hex] at hbest ⊢
        obtain ⟨X1, N1, o1, ν1, c1, n1, q1, s1⟩ := secs_step (B := B12 l need u x gs bs c ex cs) (X := []) (k := 12) (nx := 12) (ro := 4) (gl := 3) (x := 6) (rdC gs) l.length l.length r rfl (Nat.le_refl _) ⟨hn.1, by omega⟩ (by omega) hg2 hgf (rdC_one gs) rfl
        obtain ⟨X2, N2, o2, ν2, c2, n2, q2, s2⟩ := secs_step (B := B12 l need u x gs bs c ex cs) (X := X1) (k := 12) (nx := N1) (ro := 4) (gl := 3) (x := 7) (rdC bs) l.length l.length t rfl n1 ⟨hn.1, by omega⟩ (by omega) hb2 hbf (rdC_one bs) rfl
        obtain ⟨X3, N3, o3, ν3, a3, n3, q3, s3⟩ := app_step (B := B12 l need u x gs bs c ex cs) (ro := 4) (gl := 3) rfl (by omega) (by decide) (s1.keep n2 q2) s2 htp (by omega)
        obtain ⟨X5, N5, o5, ν5, c5, n5, q5, s5⟩ := secs_step (B := B12 l need u x gs bs c ex cs) (X := X3) (k := 12) (nx := N3) (ro := 4) (gl := 3) (x := 6) (rdC gs) l.length l.length (u + 5) rfl n3 ⟨hn.1, by omega⟩ (by omega) hg2 hgf (rdC_one gs) rfl
        obtain ⟨X6, N6, o6, ν6, a6, n6, q6, s6⟩ := app_step (B := B12 l need u x gs bs c ex cs) (ro := 4) (gl := 3) rfl (by omega) (by decide) (s3.keep n5 q5) s5 (by omega) (by omega)
        have he := d_exposed33at (A := AW.of (B12 l need u x gs bs c ex cs ++ X6) N6 4 3) (x := 9) (cx := (r + t + (u + 5))) (md := mdF r t u) (lf := lfF r t u) (c := cF l bs r t) ⟨by omega, by omega⟩ ((s6.congr (two_law (m := u + 5))).fm (ro := 4) (p := 11) (by omega) rfl ⟨rfl, rfl, rfl, _, _, rfl⟩ (rd_of rfl) ⟨fj, hflat⟩ fr_law) (rd_of rfl) (hcl86 _ (by omega)) (pl_law hR.pl hR.five) hst0 hstep hexl hexi
        rw [hbest] at he
        clear hbest
        rcases Nat.eq_zero_or_pos u with hu0 | hu0
        all_goals first | rw [if_pos hu0] at he | rw [if_neg (by omega)] at he
        all_goals
          repeat' (first
          | refine GT.draws (id := 50) [[], [0], [], [], [0, 1, 2, 3], [], [], [0, 1, 2, 3, 4, 5, 6], [0, 1, 2, 3, 4, 5, 6, 7], [], [], [10], [10, 11], [0, 1, 2, 3, 4, 5, 6, 7, 8, 9, 10, 11, 12], [0, 1, 2, 3, 4, 5, 6, 7, 8, 9, 10, 11, 12, 13], [], [], [0, 1, 2, 3, 4, 5, 6, 7, 8, 9, 10, 11, 12, 13, 14, 15, 16], [0, 1, 2, 3, 4, 5, 6, 7, 8, 9, 10, 11, 12, 13, 14, 15, 16, 17], [0, 1, 2, 3, 4, 5, 6, 7, 8, 9, 10, 11, 12, 13, 14, 15, 16, 17, 18], [0, 1, 2, 3, 4, 5, 6, 7, 8, 9, 10, 11, 12, 13, 14, 15, 16, 17, 18], [0, 1, 2, 3, 4, 5, 6, 7, 8, 9, 10, 11, 12, 13, 14, 15, 16, 17, 18, 19], [0, 1, 2, 3, 4, 5, 6, 7, 8, 9, 10, 11, 12, 13, 14, 15, 16, 17, 18, 19, 20, 21]] [1, 4, 7, 8, 13, 14] (by kernel_rfl) ?_
          | refine GL.sf rfl rfl rfl rfl ?_
          | refine GL.done ?_
          | refine GP.thenN ?_
          | refine GT.seq ?_
          | refine GT.region ?_
          | refine GL.unguardG rfl rfl rfl ?_
          | refine GL.skipG rfl rfl rfl rfl rfl ?_
          | refine GD.li rfl rfl (by exact onAt.none rfl) rfl (by repeat first | exact AllG.nil rfl | refine AllG.cons rfl (by first | exact GO.sf rfl rfl | exact GO.call rfl rfl Tryd.func33 rfl rfl rfl (he) | exact GO.add rfl rfl rfl (by omega)) ?_) ?_
          | refine GD.he rfl rfl rfl (by exact onAt.none rfl) rfl (by first | exact GO.call rfl rfl Tryd.func12 rfl rfl rfl (c1) | exact GO.call rfl rfl Tryd.func12 rfl rfl rfl (c2) | exact GO.of (a3 rfl rfl rfl rfl rfl rfl rfl rfl rfl rfl rfl rfl (Nat.le_of_ble_eq_true rfl) rfl rfl) | exact GO.call rfl rfl Tryd.func12 rfl rfl rfl (c5) | exact GO.of (a6 rfl rfl rfl rfl rfl rfl rfl rfl rfl rfl rfl rfl (Nat.le_of_ble_eq_true rfl) (slS_pos (by omega)).symm rfl) | exact GO.push (GO.call rfl rfl Tryd.func11 rfl rfl rfl (d_plant11G l need u hn (rd_self rfl)))) ?_ ?_
          | refine GD.done rfl rfl rfl ?_
          | exact AllJs.nil rfl
          | refine GL.v rfl rfl rfl (by first | exact GO.push (GO.call rfl rfl Tryd.func11 rfl rfl rfl (d_plant11G l need u hn (rd_self rfl))) | exact GO.call rfl rfl Tryd.func12 rfl rfl rfl (d_seconds12z l.length l.length (rd_zero rfl)) | exact GO.call rfl rfl Tryd.func33 rfl rfl rfl (d_exposed33zat ⟨rfl, rfl, rfl, _, _, rfl⟩ ⟨fj, hflat⟩ (rd_self rfl) (fun h => d_plant84G hR.pl hR.five h)) | exact GO.call rfl rfl Tryd.func7 rfl rfl rfl (d_off7 ⟨rfl, rfl, rfl, _, _, rfl⟩) | exact GO.sub rfl rfl rfl (by omega)) ?_
          | refine GT.skip ?_
          | refine GT.ret ?_
          | refine GT.exit ?_
          | refine GP.thenE ?_
          | refine GP.hit ?_
          | refine GP.invE ?_
          | refine GT.condF rfl ?_
          | (refine GT.condD rfl (fun h => ?_) (fun h => ?_) <;> try (exfalso; omega))
          | (refine GT.condN rfl (fun h => ?_) (fun h => ?_) <;> try (exfalso; omega))
          | (refine GL.forkDG rfl rfl rfl (fun h => ?_) (fun h => ?_) <;> try (exfalso; omega))
          | (refine GL.forkNG rfl rfl rfl (fun h => ?_) (fun h => ?_) <;> try (exfalso; omega))
          | refine GP.endR1 rfl ?_)
        all_goals rfl
end Go.M
