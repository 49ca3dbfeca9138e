/- nodes: the reference's Check, Make. -/
import Derived.Test.YtgkeiaggldahnaaN26
import Derived.Test.YtgkeiaggldahnaaHeldE
import Derived.Test.YtgkeiaggldahnaaSpo
namespace Go.Proofs.Ytgkeiaggldahnaa
open Go.RowKit
set_option linter.unusedVariables false
theorem none_row (v : Value) : v.ownBlock = none ∨ v.ownBlock ≠ none := by
  cases v.ownBlock <;> simp
set_option maxRecDepth 100000 in
set_option maxHeartbeats 2000000 in
theorem refcheckg_any (d : GD) (p : GP) (hsm : d.Sm) (w : World) (hok : GOk w p d) :
    Calls Try.prog 34 #[.agg #[.slice p.A d.n p.c, .slice p.K d.m p.kc]] w fun e w' => (∃ x, e = .returned (.int .i64 x) ∧ chkG d x) ∧ Below w.heap.size w w' := by
  obtain ⟨A, c, K, kc, KA, KC⟩ := p
  dsimp only
  have b1 := (Below.refl w.heap.size w).alloc (Nat.le_refl _) (.cells #[.slice A d.n c, .slice K d.m kc] 27)
  have B1 := Lib.hid b1
  have KX := Lib.hid (refmayg_any d _ hsm _ (hok.below b1))
  by_cases hm : d.May
  · rw [mayB_yes hm] at KX
    have MN := Lib.hid hm
    clear hm hsm hok b1
    go_enter Try.func34, Try.ntmps34
    go_wp2_with fail
    refine KX.out.mono ?_
    rintro e w1 ⟨rfl, bel⟩
    go_wp2
    go_ret
    exact ⟨⟨0, rfl, .inl ⟨MN.out, rfl⟩⟩, B1.out.trans (bel.mono B1.out.size)⟩
  · rw [mayB_no hm] at KX
    have MN := Lib.hid hm
    clear hm hsm hok b1
    go_enter Try.func34, Try.ntmps34
    go_wp2_with fail
    refine KX.out.mono ?_
    rintro e w1 ⟨rfl, bel⟩
    go_wp2
    go_ret
    exact ⟨⟨8, rfl, .inr ⟨MN.out, rfl⟩⟩, B1.out.trans (bel.mono B1.out.size)⟩

set_option maxRecDepth 100000 in
set_option maxHeartbeats 8000000 in
theorem refmakeg_any (d : GD) (p : GP) (hsm : d.Sm) (w : World) (hok : GOk w p d) :
    Calls Try.prog 29 #[.agg #[.slice p.A d.n p.c, .slice p.K d.m p.kc]] w fun e w' => MakeGR d w.heap.size e w' ∧ Below w.heap.size w w' := by
  obtain ⟨A, c, K, kc, KA, KC⟩ := p
  dsimp only
  obtain ⟨j0', hj0, hy0, hy1, hy2⟩ := info_parts list_info
  obtain ⟨j0, hj00⟩ : ∃ j0, j0 = j0' := ⟨_, rfl⟩
  rw [← hj00] at hj0 hy0 hy1 hy2
  clear hj00
  have b3 : Below w.heap.size w (((w.alloc (.cells #[.slice A d.n c, .slice K d.m kc] 27)).alloc (.cells #[.slice none 0 0, .slice none 0 0] 27)).alloc (.cells #[.int .i64 0, .int .i64 0] 29)) := by
    repeat' (first | exact Below.refl _ _ | assumption | apply Below.drew | refine Below.setCell ?_ (by first | omega | (simp; done) | (simp; omega)) _ | refine Below.alloc ?_ (by first | omega | (simp; done) | (simp; omega)) _)
  have hn := hsm.n
  have OK := Lib.hid hok
  have Sm := Lib.hid hsm
  have B3 := Lib.hid b3
  have P0 := Lib.hid (show HasBlk (((w.alloc (.cells #[.slice A d.n c, .slice K d.m kc] 27)).alloc (.cells #[.slice none 0 0, .slice none 0 0] 27)).alloc (.cells #[.int .i64 0, .int .i64 0] 29)) w.heap.size 27 #[.slice A d.n c, .slice K d.m kc] from ((hasBlk_new w 27 #[.slice A d.n c, .slice K d.m kc]).alloc _).alloc _)
  have Z0 := Lib.hid (show HasBlk (((w.alloc (.cells #[.slice A d.n c, .slice K d.m kc] 27)).alloc (.cells #[.slice none 0 0, .slice none 0 0] 27)).alloc (.cells #[.int .i64 0, .int .i64 0] 29)) (w.heap.size + 1) 27 #[.slice none 0 0, .slice none 0 0] by simpa using (hasBlk_new (w.alloc (.cells #[.slice A d.n c, .slice K d.m kc] 27)) 27 #[.slice none 0 0, .slice none 0 0]).alloc (.cells #[.int .i64 0, .int .i64 0] 29))
  have R0 := Lib.hid (show HasBlk (((w.alloc (.cells #[.slice A d.n c, .slice K d.m kc] 27)).alloc (.cells #[.slice none 0 0, .slice none 0 0] 27)).alloc (.cells #[.int .i64 0, .int .i64 0] 29)) (w.heap.size + 1 + 1) 29 #[.int .i64 0, .int .i64 0] by simpa using hasBlk_new ((w.alloc (.cells #[.slice A d.n c, .slice K d.m kc] 27)).alloc (.cells #[.slice none 0 0, .slice none 0 0] 27)) 29 #[.int .i64 0, .int .i64 0])
  have hc := refmayg_any d _ hsm _ (hok.below b3)
  clear hok hsm b3
  by_cases hmay : d.May
  rotate_left
  · rw [mayB_no hmay] at hc
    have HC := Lib.hid hc
    have MN := Lib.hid hmay
    clear hc hmay
    go_enter Try.func29, Try.ntmps29
    go_wp2_with fail
    refine HC.out.mono ?_
    rintro e w1 ⟨rfl, bel⟩
    have B4 := Lib.hid (B3.out.trans (bel.mono B3.out.size))
    have Z1 := Lib.hid (Z0.out.below bel)
    have R1 := Lib.hid (R0.out.below bel)
    clear bel P0 Z0 R0
    have z0 := Z1.out.cell 0
    have z1 := Z1.out.cell 1
    have zf0 := Z1.out.frozen 0
    have zf1 := Z1.out.frozen 1
    have zz := Z1.out.lt
    have r0 := R1.out.cell 0
    have r1 := R1.out.cell 1
    have rf0 := R1.out.frozen 0
    have rf1 := R1.out.frozen 1
    have rz := R1.out.lt
    simp at z0 z1 r0 r1
    go_wp2
    refine bodyPost_ret (v := .tuple #[.agg #[.slice none 0 0, .slice none 0 0], .agg #[.int .i64 0, .int .i64 0], .int .i64 8]) (by simp [results, Try.results29, go_sem, *]) rfl ⟨?_, ?_⟩
    · exact .inl ⟨MN.out, rfl⟩
    · have bb := B4.out
      exact (Below.setCell (Below.setCell (Below.setCell (Below.setCell bb (by first | omega | (simp; done) | (simp; omega)) _) (by first | omega | (simp; done) | (simp; omega)) _) (by first | omega | (simp; done) | (simp; omega)) _) (by first | omega | (simp; done) | (simp; omega)) _)
  rw [mayB_yes hmay] at hc
  have HC := Lib.hid hc
  have MN := Lib.hid hmay
  clear hc hmay
  go_enter Try.func29, Try.ntmps29
  go_wp2_with fail
  refine HC.out.mono ?_
  rintro e w1 ⟨rfl, bel⟩
  have B4 := Lib.hid (B3.out.trans (bel.mono B3.out.size))
  have P1 := Lib.hid (P0.out.below bel)
  have Z1 := Lib.hid (Z0.out.below bel)
  have R1 := Lib.hid (R0.out.below bel)
  have p0 := P1.out.cell 0
  have zp := P1.out.lt
  simp at p0
  clear bel P0 Z0 R0
  have KX := Lib.hid (refmake_any A d.n c d.g d.b w1 (OK.out.below B4.out).ar (by omega))
  go_wp2_with fail
  refine KX.out.mono ?_
  rintro e w2 ⟨hx, bel⟩
  have B5 := Lib.hid (B4.out.trans (bel.mono B4.out.size))
  have P2 := Lib.hid (P1.out.below bel)
  have Z2 := Lib.hid (Z1.out.below bel)
  have R2 := Lib.hid (R1.out.below bel)
  have zb1 := B4.out.size
  have R1z := Lib.hid R1.out.lt
  clear p0 zp bel P1 Z1 R1 KX
  rcases hx with ⟨h, _⟩ | ⟨_, hfr, h128, rfl⟩ | ⟨_, k0, n', g', b', A1, c1, hmd, rfl, hown⟩
  · exact absurd MN.out.1 h
  · have HFR := Lib.hid hfr
    have H128 := Lib.hid h128
    clear hfr h128
    have z0 := Z2.out.cell 0
    have z1 := Z2.out.cell 1
    have zf0 := Z2.out.frozen 0
    have zf1 := Z2.out.frozen 1
    have zz := Z2.out.lt
    have r0 := R2.out.cell 0
    have r1 := R2.out.cell 1
    have rf0 := R2.out.frozen 0
    have rf1 := R2.out.frozen 1
    have rz := R2.out.lt
    simp at z0 z1 r0 r1
    have zz0 : w.heap.size < w2.heap.size := by omega
    go_wp2
    refine bodyPost_ret (v := .tuple #[.agg #[.slice none 0 0, .slice none 0 0], .agg #[.int .i64 0, .int .i64 0], .int .i64 9]) (by simp [results, Try.results29, go_sem, *]) rfl ⟨?_, ?_⟩
    · exact .inr (.inl ⟨MN.out, HFR.out, H128.out, rfl⟩)
    · have bb := B5.out
      exact Below.alloc (Below.alloc (Below.setCell (Below.setCell (Below.setCell (Below.setCell bb (by first | omega | (simp; done) | (simp; omega)) _) (by first | omega | (simp; done) | (simp; omega)) _) (by first | omega | (simp; done) | (simp; omega)) _) (by first | omega | (simp; done) | (simp; omega)) _) (by first | omega | (simp; done) | (simp; omega)) _) (by first | omega | (simp; done) | (simp; omega)) _
  · have HMD := Lib.hid hmd
    have hle := made_le hmd
    have p0 := P2.out.cell 0
    have p1 := P2.out.cell 1
    have zp := P2.out.lt
    simp at p0 p1
    have bA := (((Below.refl w2.heap.size w2).alloc (Nat.le_refl _) (.cells #[.slice A1 n' c1] 24)).alloc (by simp) (.cells #[.int .i64 k0, .int .i64 (g' k0)] 29))
    have A6 := Lib.hid (show HasBlk ((w2.alloc (.cells #[.slice A1 n' c1] 24)).alloc (.cells #[.int .i64 k0, .int .i64 (g' k0)] 29)) w2.heap.size 24 #[.slice A1 n' c1] from (hasBlk_new w2 24 #[.slice A1 n' c1]).alloc _)
    have H7 := Lib.hid (show HasBlk ((w2.alloc (.cells #[.slice A1 n' c1] 24)).alloc (.cells #[.int .i64 k0, .int .i64 (g' k0)] 29)) (w2.heap.size + 1) 29 #[.int .i64 k0, .int .i64 (g' k0)] by simpa using hasBlk_new (w2.alloc (.cells #[.slice A1 n' c1] 24)) 29 #[.int .i64 k0, .int .i64 (g' k0)])
    have P3 := Lib.hid (P2.out.below bA)
    have Z3 := Lib.hid (Z2.out.below bA)
    have R3 := Lib.hid (R2.out.below bA)
    have zb9 : (w.heap.size + 1 + 1 + 1) ≤ w1.heap.size := by have := R1z.out; omega
    have AO3 := Lib.hid (own_below (own_base hown zb9) bA)
    have B6 := Lib.hid (B5.out.trans (bA.mono B5.out.size))
    have KX := Lib.hid (reftwing_any d _ Sm.out _ (OK.out.below B6.out))
    clear hmd hown bA
    go_wp2_with fail
    refine KX.out.mono ?_
    rintro e w4 ⟨⟨v, rfl, po, rfl, ho⟩, bel⟩
    have zb2 := B6.out.size
    have B7 := Lib.hid (B6.out.trans (bel.mono zb2))
    have P4 := Lib.hid (P3.out.below bel)
    have Z4 := Lib.hid (Z3.out.below bel)
    have R4 := Lib.hid (R3.out.below bel)
    have A64 := Lib.hid (A6.out.below bel)
    have H74 := Lib.hid (H7.out.below bel)
    have AO4 := Lib.hid (own_below AO3.out bel)
    have GO := Lib.hid (ho.base (show (w.heap.size + 1 + 1 + 1) ≤ _ by have := R2.out.lt; simp; omega))
    obtain ⟨A6b, hA6b⟩ : ∃ A6b, A6b = w2.heap.size := ⟨_, rfl⟩
    have z6 : w.heap.size + 1 + 1 < A6b := by have := R2.out.lt; omega
    rw [← hA6b] at A64 H74 ⊢
    clear KX p0 p1 zp bel ho P2 Z2 R2 A6 H7 P3 Z3 R3 AO3 B6 zb2 hA6b
    obtain ⟨tA, tc, tK, tkc, KA', KC'⟩ := po
    dsimp only
    have a0 := A64.out.cell 0
    have za := A64.out.lt
    simp at a0
    go_upto_region 8 with fail
    have b5 := (Below.refl w4.heap.size w4).alloc (Nat.le_refl _) (.cells #[.slice A1 n' c1, .slice tK d.m tkc] 27)
    have P5 := Lib.hid (show HasBlk ((w4.alloc (.cells #[.slice A1 n' c1, .slice tK d.m tkc] 27))) w4.heap.size 27 #[.slice A1 n' c1, .slice tK d.m tkc] from hasBlk_new w4 27 #[.slice A1 n' c1, .slice tK d.m tkc])
    have Z5 := Lib.hid (Z4.out.below b5)
    have R5 := Lib.hid (R4.out.below b5)
    have A65 := Lib.hid (A64.out.below b5)
    have H75 := Lib.hid (H74.out.below b5)
    have AO5 := Lib.hid (own_below AO4.out b5)
    have KS5 := Lib.hid (own_below GO.out.ks b5)
    have KD5 := Lib.hid (GO.out.kd.below b5)
    have B8 := Lib.hid (B7.out.trans (b5.mono B7.out.size))
    have hm0 := MN.out.2.1
    have zpb : A6b + 1 < w4.heap.size := H74.out.lt
    clear b5 a0 za P4 Z4 R4 A64 H74 AO4 GO B7
    obtain ⟨pb, hpb⟩ : ∃ pb, pb = w4.heap.size := ⟨_, rfl⟩
    rw [← hpb] at P5 zpb ⊢
    clear hpb
    generalize gW : ((w4.alloc (.cells #[.slice A1 n' c1, .slice tK d.m tkc] 27))) = v5 at *
    clear gW
    have p0 := P5.out.cell 0
    have p1 := P5.out.cell 1
    have zp := P5.out.lt
    have a0 := A65.out.cell 0
    have za := A65.out.lt
    simp at p0 p1 a0
    rcases HMD.out with ⟨hk1, _, _, hn1, hg1, hb1⟩ | ⟨hk1, hk2, _, hn1, hg1, hb1⟩
    · obtain rfl : n' = d.m := by omega
      have i2 : decide (d.m < d.m) = false := decide_eq_false (by omega)
      have h0 := H75.out.cell 0
      have h1 := H75.out.cell 1
      have zh := H75.out.lt
      simp at h0 h1
      have FIN := Lib.hid (show GOwn (w.heap.size + 1 + 1 + 1) v5 ⟨A1, c1, tK, tkc, KA', KC'⟩ (d.made d.m g' b') from ⟨AO5.out, by
        have e : cellsR 1 (kv ⟨A1, c1, tK, tkc, KA', KC'⟩ (d.made d.m g' b')) d.m = cellsR 1 (kv ⟨tA, tc, tK, tkc, KA', KC'⟩ d) d.m := cellsR_congr fun i hi j hj => by
          show Value.slice (KA' i) ((d.made d.m g' b').L i) (KC' i) = Value.slice (KA' i) (d.L i) (KC' i)
          rw [made_L (show i < d.n by omega)]
        show World.ownsRow _ _ _ _ (.slice tK d.m tkc) d.m (cellsR 1 (kv ⟨A1, c1, tK, tkc, KA', KC'⟩ (d.made d.m g' b')) d.m)
        rw [e]
        exact KS5.out, KD5.out.congr fun i hi => made_L (by omega)⟩)
      clear hk1 hn1 hg1 hb1 hm0 KS5 KD5 AO5
      have z0 := Z5.out.cell 0
      have z1 := Z5.out.cell 1
      have zf0 := Z5.out.frozen 0
      have zf1 := Z5.out.frozen 1
      have zz := Z5.out.lt
      have r0 := R5.out.cell 0
      have r1 := R5.out.cell 1
      have rf0 := R5.out.frozen 0
      have rf1 := R5.out.frozen 1
      have rz := R5.out.lt
      simp at z0 z1 r0 r1
      go_upto_region 10 with fail
      go_region
      all_goals
        go_wp2
        refine bodyPost_ret (v := .tuple #[.agg #[.slice A1 d.m c1, .slice tK d.m tkc], hval (k0 : Nat) (g' k0), .int .i64 0]) (by simp [results, Try.results29, go_sem, *]) rfl ⟨.inr (.inr ⟨MN.out, k0, d.m, g', b', ⟨A1, c1, tK, tkc, KA', KC'⟩, HMD.out, rfl, ?_⟩), ?_⟩
        · exact (((((FIN.out.lset (by omega) _).lset (by omega) _).lset (by omega) _).lset (by omega) _).below (Below.refl _ _).drew).base (by omega)
        · have bb := B8.out
          exact Below.drew (Below.setCell (Below.setCell (Below.setCell (Below.setCell bb (by first | omega | (simp; done) | (simp; omega)) _) (by first | omega | (simp; done) | (simp; omega)) _) (by first | omega | (simp; done) | (simp; omega)) _) (by first | omega | (simp; done) | (simp; omega)) _)
    · obtain rfl : n' = d.m + 1 := by omega
      have i2 : decide (d.m < d.m + 1) = true := decide_eq_true (by omega)
      have i3 : decide (d.m + 1 < d.m + 1) = false := decide_eq_false (by omega)
      have h0 := H75.out.cell 0
      have h1 := H75.out.cell 1
      have zh := H75.out.lt
      simp at h0 h1
      have pf1 := P5.out.frozen 1
      have NEK := Lib.hid (P5.out.ne_own KS5.out (by decide))
      have zv := B8.out.size
      have zv2 := R5.out.lt
      have hm1 := Sm.out.m
      have HM0 := Lib.hid hm0
      clear hk1 hn1 hg1 hb1 hm0
      go_upto_region 10 with (at_builtin; refine wpList_append_lies _ rfl (.tmp 38) (.tmp 39) 25 rfl (w.heap.size + 1 + 1 + 1) 32 j0 _ 1 24 Try.underlying25 hj0 hy0 hy1 hy2 rfl (by omega) (.slice tK d.m tkc) d.m (cellsR 1 (kv ⟨tA, tc, tK, tkc, KA', KC'⟩ d) d.m) rfl (KS5.out.alloc _) ⟨v5.heap.size, 0, none⟩ 1 1 [.slice none 0 0] (by rfl) rfl (World.news_of_block (cs := #[.slice none 0 0]) (t := 32) (fr := (0, 0)) (heap_alloc_new v5 _)) (by simp [Value.oneCell']) (by omega) (by unfold maxLen; omega) (by omega) (by simp; omega) (v5.heap.size + 1) (by simp) ?_; intro A2 c2 w6 hown6 hgr6 hat6 hlt6; have hP3 := (P5.out.alloc (.cells #[.slice none 0 0] 32)).grown hgr6 NEK.out; have p1 := hP3.cell 1; have f1 := hP3.frozen 1; have zp3 := hP3.lt; simp at p1)
      have hb6 : Below w.heap.size w w6 := below_grown (v := .slice tK d.m tkc) (B8.out.alloc zv _) hgr6 (KS5.out.alloc _) (by omega) (by simp; omega)
      have hz6 := ((Z5.out.alloc (.cells #[.slice none 0 0] 32)).grown hgr6 (own_low KS5.out (by omega))).far (p := ⟨pb, 1, none⟩) (by simp; omega) (.slice (some ⟨A2, 0, none⟩) (d.m + 1) c2)
      have hr6 := ((R5.out.alloc (.cells #[.slice none 0 0] 32)).grown hgr6 (own_low KS5.out (by omega))).far (p := ⟨pb, 1, none⟩) (by simp; omega) (.slice (some ⟨A2, 0, none⟩) (d.m + 1) c2)
      have ha6 := ((A65.out.alloc (.cells #[.slice none 0 0] 32)).grown hgr6 (A65.out.ne_own KS5.out (by decide))).far (p := ⟨pb, 1, none⟩) (by simp; omega) (.slice (some ⟨A2, 0, none⟩) (d.m + 1) c2)
      have hh6 := ((H75.out.alloc (.cells #[.slice none 0 0] 32)).grown hgr6 (H75.out.ne_own KS5.out (by decide))).far (p := ⟨pb, 1, none⟩) (by simp; omega) (.slice (some ⟨A2, 0, none⟩) (d.m + 1) c2)
      have hp6 := hP3.set 1 (.slice (some ⟨A2, 0, none⟩) (d.m + 1) c2)
      have hkd6 := ((KD5.out.keep (World.grownBy_alloc v5 (.cells #[.slice none 0 0] 32) none) (fun i hi => none_row _)).keep hgr6 (fun i hi => own_types (KD5.out.kd i hi) KS5.out (by decide))).pset (g := pb) (j := 1) hP3 (by decide) (.slice (some ⟨A2, 0, none⟩) (d.m + 1) c2)
      have hao6 := own_pset (g := pb) (j := 1) (own_keep (AO5.out.alloc (.cells #[.slice none 0 0] 32)) hgr6 (own_types AO5.out KS5.out (by decide))) hP3 (by decide) (.slice (some ⟨A2, 0, none⟩) (d.m + 1) c2)
      have hks6 := own_pset (g := pb) (j := 1) hown6 hP3 (by decide) (.slice (some ⟨A2, 0, none⟩) (d.m + 1) c2)
      have hb7 := Below.setCell (p := ⟨pb, 1, none⟩) hb6 (by simp; omega) (.slice (some ⟨A2, 0, none⟩) (d.m + 1) c2)
      simp only [List.setIfInBounds_toArray, List.set_cons_zero, List.set_cons_succ] at hp6
      clear hb6 p0 p1 a0 pf1 f1 zp3 hP3 hown6 hgr6 hat6 hlt6 h0 h1 zh zv zv2 KS5 KD5 AO5 B8 P5 A65 H75 NEK za zp Z5 R5
      generalize w6.setCell ⟨pb, 1, none⟩ (.slice (some ⟨A2, 0, none⟩) (d.m + 1) c2) = v7 at *
      have FIN := Lib.hid (show GOwn (w.heap.size + 1 + 1 + 1) v7 ⟨A1, c1, some ⟨A2, 0, none⟩, c2, upd KA' d.m none, upd KC' d.m 0⟩ (d.made (d.m + 1) g' b') from ⟨hao6, by
        have e1 := kv_snoc (p := ⟨tA, tc, tK, tkc, KA', KC'⟩) (p' := ⟨A1, c1, some ⟨A2, 0, none⟩, c2, upd KA' d.m none, upd KC' d.m 0⟩) (d := d.made (d.m + 1) g' b') (k := d.m) (fun i hi => upd_ne _ _ (by omega)) (fun i hi => upd_ne _ _ (by omega))
        have e2 : cellsR 1 (kv ⟨tA, tc, tK, tkc, KA', KC'⟩ (d.made (d.m + 1) g' b')) d.m = cellsR 1 (kv ⟨tA, tc, tK, tkc, KA', KC'⟩ d) d.m := cellsR_congr fun i hi j hj => by
          show Value.slice (KA' i) ((d.made (d.m + 1) g' b').L i) (KC' i) = Value.slice (KA' i) (d.L i) (KC' i)
          rw [made_L (show i < d.n by have := HM0.out; omega)]
        dsimp only at e1
        rw [upd_at, upd_at, made_none HM0.out, e2] at e1
        show World.ownsRow _ _ _ _ (.slice (some ⟨A2, 0, none⟩) (d.m + 1) c2) (d.m + 1) (cellsR 1 (kv ⟨A1, c1, some ⟨A2, 0, none⟩, c2, upd KA' d.m none, upd KC' d.m 0⟩ (d.made (d.m + 1) g' b')) (d.m + 1))
        rw [e1]
        exact hks6, KOwn.push (hkd6.congr fun i hi => made_L (show i < d.n by have := HM0.out; omega)) (made_none HM0.out)⟩)
      have Z5 := Lib.hid hz6
      have R5 := Lib.hid hr6
      have B9 := Lib.hid hb7
      have p0 := hp6.cell 0
      have p1 := hp6.cell 1
      have zp := hp6.lt
      have a0 := ha6.cell 0
      have za := ha6.lt
      have h0 := hh6.cell 0
      have h1 := hh6.cell 1
      have zh := hh6.lt
      simp at p0 p1 a0 h0 h1
      clear hz6 hr6 ha6 hh6 hp6 hkd6 hao6 hks6 hb7
      have z0 := Z5.out.cell 0
      have z1 := Z5.out.cell 1
      have zf0 := Z5.out.frozen 0
      have zf1 := Z5.out.frozen 1
      have zz := Z5.out.lt
      have r0 := R5.out.cell 0
      have r1 := R5.out.cell 1
      have rf0 := R5.out.frozen 0
      have rf1 := R5.out.frozen 1
      have rz := R5.out.lt
      simp at z0 z1 r0 r1
      go_region
      all_goals
        go_wp2
        refine bodyPost_ret (v := .tuple #[.agg #[.slice A1 (d.m + 1) c1, .slice (some ⟨A2, 0, none⟩) (d.m + 1) c2], hval (k0 : Nat) (g' k0), .int .i64 0]) (by simp [results, Try.results29, go_sem, *]) rfl ⟨.inr (.inr ⟨MN.out, k0, d.m + 1, g', b', ⟨A1, c1, some ⟨A2, 0, none⟩, c2, upd KA' d.m none, upd KC' d.m 0⟩, HMD.out, rfl, ?_⟩), ?_⟩
        · exact (((((FIN.out.lset (by omega) _).lset (by omega) _).lset (by omega) _).lset (by omega) _).below (Below.refl _ _).drew).base (by omega)
        · have bb := B9.out
          exact Below.drew (Below.setCell (Below.setCell (Below.setCell (Below.setCell bb (by first | omega | (simp; done) | (simp; omega)) _) (by first | omega | (simp; done) | (simp; omega)) _) (by first | omega | (simp; done) | (simp; omega)) _) (by first | omega | (simp; done) | (simp; omega)) _)
end Go.Proofs.Ytgkeiaggldahnaa
/- nodes: the reference's without. -/
namespace Go.Proofs.Ytgkeiaggldahnaa
open Go.RowKit
set_option linter.unusedVariables false
/-- The handles that are kept of the first k. -/
def kpS (S Q : Nat → Int) (x y : Int) (k t : Nat) : Int := S ((keptH S Q x y k).getD t 0)
def kpQ (S Q : Nat → Int) (x y : Int) (k t : Nat) : Int := Q ((keptH S Q x y k).getD t 0)
theorem kept_snoc {S Q : Nat → Int} {x y : Int} {k : Nat} (h : keptH S Q x y (k + 1) = keptH S Q x y k ++ [k]) : cellsR 2 (hv (kpS S Q x y (k + 1)) (kpQ S Q x y (k + 1))) (keptH S Q x y (k + 1)).length = cellsR 2 (hv (kpS S Q x y k) (kpQ S Q x y k)) (keptH S Q x y k).length ++ [.int .i64 (S k), .int .i64 (Q k)] := by
  rw [h, List.length_append, show ([k] : List Nat).length = 1 from rfl, cellsR_succ]
  have e : ∀ i, i < (keptH S Q x y k).length → (keptH S Q x y (k + 1)).getD i 0 = (keptH S Q x y k).getD i 0 := fun i hi => by
    rw [h, List.getD_eq_getElem?_getD, List.getD_eq_getElem?_getD, List.getElem?_append_left hi]
  have e2 : (keptH S Q x y (k + 1)).getD (keptH S Q x y k).length 0 = k := by
    rw [h, List.getD_eq_getElem?_getD, List.getElem?_append_right (Nat.le_refl _)]
    simp
  rw [cellsR_congr (F := hv (kpS S Q x y (k + 1)) (kpQ S Q x y (k + 1))) (G := hv (kpS S Q x y k) (kpQ S Q x y k)) (fun i hi j _ => by unfold hv kpS kpQ; rw [e i hi])]
  congr 1
  show [hv (kpS S Q x y (k + 1)) (kpQ S Q x y (k + 1)) (keptH S Q x y k).length 0, hv (kpS S Q x y (k + 1)) (kpQ S Q x y (k + 1)) (keptH S Q x y k).length 1] = _
  unfold hv kpS kpQ
  rw [e2, if_pos rfl, if_neg (by decide)]
set_option maxRecDepth 100000 in
set_option maxHeartbeats 4000000 in
theorem without_any (A : Option Addr) (n c : Nat) (S Q : Nat → Int) (x y : Int) (w : World) (hA : Row w A n 2 (hv S Q)) (hn : n ≤ 1000) :
    Calls Try.prog 62 #[.slice A n c, hval x y] w fun e w' => (∃ A' c', e = .returned (.slice A' (keptH S Q x y n).length c') ∧ w'.ownsRow w.heap.size 29 2 (.slice A' (keptH S Q x y n).length c') (keptH S Q x y n).length (cellsR 2 (hv (kpS S Q x y n) (kpQ S Q x y n)) (keptH S Q x y n).length)) ∧ Below w.heap.size w w' := by
  obtain ⟨i0', hi0, hz0, hz1, hz2⟩ := info_parts hdl_info
  obtain ⟨i0, hi00⟩ : ∃ i0, i0 = i0' := ⟨_, rfl⟩
  rw [← hi00] at hi0 hz0 hz1 hz2
  clear hi00
  have HB := Lib.hid ((Below.refl w.heap.size w).alloc (Nat.le_refl _) (.cells #[.int .i64 x, .int .i64 y] 29))
  have HH := Lib.hid (hasBlk_new w 29 #[.int .i64 x, .int .i64 y])
  have HA := Lib.hid hA
  clear hA
  go_enter Try.func62, Try.ntmps62
  go_wp2
  go_loopw [5, 6] (fun o t' wr => ∃ (t : Nat) (X : Option Addr) (cx : Nat), t ≤ n ∧ t' = .int .i64 t ∧ o = .slice X (keptH S Q x y t).length cx ∧ wr.ownsRow (w.heap.size + 1) 29 2 (.slice X (keptH S Q x y t).length cx) (keptH S Q x y t).length (cellsR 2 (hv (kpS S Q x y t) (kpQ S Q x y t)) (keptH S Q x y t).length) ∧ HasBlk wr w.heap.size 29 #[.int .i64 x, .int .i64 y] ∧ Below w.heap.size w wr) (fun o t' wr => n - (intOf t').toNat)
  case atStart => exact ⟨0, none, 0, Nat.zero_le _, rfl, rfl, own_nil _ _ _ _, HH.out, HB.out⟩
  case round =>
    clear HB HH
    obtain ⟨t, X, cx, htn, rfl, rfl, hown, hH, hbel⟩ := hrel
    have HB := Lib.hid hbel
    have HH := Lib.hid hH
    have HO := Lib.hid hown
    have zb := hbel.size
    by_cases htl : t < n
    · obtain ⟨ga, oa, hA, hga, hca⟩ := HA.out.below hbel (by omega)
      subst hA
      have c0 := hca t htl 0 (by omega)
      have c1 := hca t htl 1 (by omega)
      simp only [hv, Nat.add_zero, if_true] at c0
      simp only [hv] at c1
      rw [if_neg (by decide)] at c1
      have C0 := Lib.hid c0
      have C1 := Lib.hid c1
      have h0 := hH.cell 0
      have h1 := hH.cell 1
      have zh := hH.lt
      simp at h0 h1
      have i1 : (t : Int) < (n : Int) := by omega
      have j0 : (0 : Int) ≤ (t : Int) := by omega
      have hl := kept_len S Q x y t
      have hq := fun W => neq_of_eql (eql_hdl (S t) (Q t) x y W)
      clear hown hH hbel hca
      by_cases hm : S t = x ∧ Q t = y
      · have hv1 : (S t == x && Q t == y) = true := by rw [hm.1, hm.2]; simp
        simp only [hv1] at hq
        have EL := Lib.hid (kept_yes (k := t) hm)
        clear hm hv1
        have r1 := fun b : BW wr => BW.cell c0 hga b
        have r2 := fun b : BW wr => BW.cell c1 hga b
        have r3 := fun b : BW wr => BW.cell h0 zh b
        have r4 := fun b : BW wr => BW.cell h1 zh b
        go_wp2_with fail
        clear c0 c1 h0 h1
        refine wp_region_quiet_bw (by kernel_rfl) (by kernel_rfl) ?_
        repeat (go_big_quiet_step (fail))
        refine wpQuiet_nil ?_
        intro _ hw'
        obtain ⟨pq, hw''⟩ := hw'
        subst hw''
        clear r1 r2 r3 r4
        have HB2 := Lib.hid (HB.out.trans (pq.h.mono zb))
        have HH2 := Lib.hid (HH.out.below pq.h)
        have hown2 := own_below HO.out pq.h
        have c0 := pq.h.cell hga |>.trans C0.out
        have c1 := pq.h.cell hga |>.trans C1.out
        have zw := HB2.out.size
        have hga2 : ga < pq.W.heap.size := Nat.lt_of_lt_of_le hga pq.h.size
        have Hown := Lib.hid hown2
        clear hown2 c0 c1 zw hga2
        go_wp2
        go_roundw
        case rel =>
          refine ⟨t + 1, X, cx, by omega, by go_num, by rw [EL.out], ?_, HH2.out, HB2.out⟩
          have e : cellsR 2 (hv (kpS S Q x y (t + 1)) (kpQ S Q x y (t + 1))) (keptH S Q x y (t + 1)).length = cellsR 2 (hv (kpS S Q x y t) (kpQ S Q x y t)) (keptH S Q x y t).length := by unfold kpS kpQ; rw [EL.out]
          rw [e, EL.out]
          exact Hown.out
        case measure => simp [intOf]; omega
      · have hv1 : (S t == x && Q t == y) = false := by
          rw [Bool.and_eq_false_iff]
          by_cases hm2 : S t = x
          · right
            simpa using fun h => hm ⟨hm2, h⟩
          · left
            simpa using hm2
        simp only [hv1] at hq
        have EL := Lib.hid (kept_no (k := t) hm)
        have EC := Lib.hid (kept_snoc (kept_no (k := t) hm))
        clear hm hv1
        have r1 := fun b : BW wr => BW.cell c0 hga b
        have r2 := fun b : BW wr => BW.cell c1 hga b
        have r3 := fun b : BW wr => BW.cell h0 zh b
        have r4 := fun b : BW wr => BW.cell h1 zh b
        go_wp2_with fail
        clear c0 c1 h0 h1
        refine wp_region_quiet_bw (by kernel_rfl) (by kernel_rfl) ?_
        repeat (go_big_quiet_step (fail))
        refine wpQuiet_nil ?_
        intro _ hw'
        obtain ⟨pq, hw''⟩ := hw'
        subst hw''
        clear r1 r2 r3 r4
        have HB2 := Lib.hid (HB.out.trans (pq.h.mono zb))
        have HH2 := Lib.hid (HH.out.below pq.h)
        have hown2 := own_below HO.out pq.h
        have c0 := pq.h.cell hga |>.trans C0.out
        have c1 := pq.h.cell hga |>.trans C1.out
        have zw := HB2.out.size
        have hga2 : ga < pq.W.heap.size := Nat.lt_of_lt_of_le hga pq.h.size
        have hne := Lib.hid (own_low hown2 (show w.heap.size < (w.heap.size + 1) by omega))
        have Hown := Lib.hid hown2
        have hnew : (pq.W.alloc (.cells #[.int .i64 (S t), .int .i64 (Q t)] 29)).heap[pq.W.heap.size]? = some (.cells #[.int .i64 (S t), .int .i64 (Q t)] 29 (0, 0)) := heap_alloc_new _ _
        have ML := Lib.hid (show (keptH S Q x y (t + 1)).length = (keptH S Q x y t).length + 1 by rw [EL.out, List.length_append]; rfl)
        have zhh := HH2.out.lt
        generalize hRW : cellsR 2 (hv (kpS S Q x y t) (kpQ S Q x y t)) (keptH S Q x y t).length = rw0 at *
        have HRW := Lib.hid hRW
        clear hRW
        generalize hml : (keptH S Q x y t).length = m at *
        have HML := Lib.hid hml
        clear hml
        go_wp2_with (at_builtin; refine wpList_append_lies _ rfl (.tmp 19) (.tmp 24) _ rfl (w.heap.size + 1) 29 i0 _ 2 16 Try.underlying32 hi0 hz0 hz1 hz2 rfl (by omega) (.slice X m cx) (m) (rw0) rfl (hown2.alloc _) ⟨pq.W.heap.size, 0, none⟩ 1 1 [.int .i64 (S t), .int .i64 (Q t)] (by rfl) rfl (World.news_of_block (cs := #[.int .i64 (S t), .int .i64 (Q t)]) (t := 29) (fr := (0, 0)) hnew) (by simp [Value.oneCell']) (by omega) (by unfold maxLen; omega) (by omega) (by simp; omega) (pq.W.heap.size + 1) (by simp) ?_; intro g' cap w3 hown3 hgrow hat hlt)
        clear zhh
        go_roundw
        case rel =>
          have zhh := HH2.out.lt
          refine ⟨t + 1, some ⟨g', 0, none⟩, cap, by omega, by go_num, by rw [ML.out], ?_, (HH2.out.alloc _).grown hgrow hne.out, below_grown (v := .slice X m cx) (HB2.out.alloc (by first | omega | (simp; omega)) _) hgrow (Hown.out.alloc _) (by omega) (by first | omega | (simp; omega))⟩
          rw [EC.out, ML.out]
          exact hown3
        case measure => simp [intOf]; omega
    · obtain rfl : t = n := by omega
      clear hown hH hbel
      go_wp2
      go_ret
      exact ⟨⟨X, cx, rfl, own_base HO.out (by omega)⟩, HB.out⟩
end Go.Proofs.Ytgkeiaggldahnaa
/- nodes: the reference's Kill. -/
namespace Go.Proofs.Ytgkeiaggldahnaa
open Go.RowKit
set_option linter.unusedVariables false
/-- A graph a slot of which is free, its children there. -/
def GD.cold (d : GD) (k : Nat) : GD := ⟨d.n, d.g, upd d.b k false, d.m, d.L, d.S, d.Q⟩
def GD.rkill (d : GD) (k : Nat) : GD := (killN (d.cold k) (k : Nat) (d.g k) d.m).setL k 0 (fun _ => 0) (fun _ => 0)
theorem rkill_same (d : GD) (k : Nat) : SameG (d.rkill k) (d.kill k) := by
  obtain ⟨a1, a2, a3, a4⟩ := killN_same (d.cold k) (k : Nat) (d.g k) d.m
  obtain ⟨b1, b2, b3, b4⟩ := killN_same (d.dead k) (k : Nat) (d.g k) d.m
  refine ⟨⟨a1.trans b1.symm, fun i hi => ⟨?_, ?_⟩⟩, a4.trans b4.symm, fun i hi => ?_⟩
  · show (killN (d.cold k) (k : Nat) (d.g k) d.m).g i = (killN (d.dead k) (k : Nat) (d.g k) d.m).g i
    rw [a2, b2]; rfl
  · show (killN (d.cold k) (k : Nat) (d.g k) d.m).b i = (killN (d.dead k) (k : Nat) (d.g k) d.m).b i
    rw [a3, b3]; rfl
  · have him : i < d.m := by
      have e : (d.rkill k).m = d.m := a4
      rw [e] at hi; exact hi
    obtain ⟨r1, r2⟩ := kill_row d k him
    obtain ⟨l1, l2, l3⟩ := killN_lo (d.cold k) (k : Nat) (d.g k) d.m i him
    by_cases e : i = k
    · subst e
      refine ⟨?_, fun j hj => ?_⟩
      · rw [r1, if_pos rfl]
        exact upd_at _ _ _
      · have : (d.rkill i).L i = 0 := upd_at _ _ _
        omega
    · have e1 : (d.rkill k).L i = (killN (d.cold k) (k : Nat) (d.g k) d.m).L i := upd_ne _ _ e
      have e2 : (d.rkill k).S i = (killN (d.cold k) (k : Nat) (d.g k) d.m).S i := if_neg e
      have e3 : (d.rkill k).Q i = (killN (d.cold k) (k : Nat) (d.g k) d.m).Q i := if_neg e
      obtain ⟨s1, s2⟩ := r2 e
      refine ⟨?_, fun j _ => ?_⟩
      · rw [e1, l1, r1, if_neg e]; rfl
      · rw [e2, e3, l2, l3, s1, s2]
        exact ⟨rfl, rfl⟩
/-- What the reference's Kill answers. -/
def RKillR (d : GD) (s q : Int) (B : Nat) (e : Ending) (w' : World) : Prop :=
  (askv d (HeldA d.n d.g d.b s q) ≠ 0 ∧ e = .returned (.tuple #[.agg #[.slice none 0 0, .slice none 0 0], .int .i64 (askv d (HeldA d.n d.g d.b s q))])) ∨
  (askv d (HeldA d.n d.g d.b s q) = 0 ∧ ∃ p : GP, e = .returned (.tuple #[.agg #[.slice p.A d.n p.c, .slice p.K d.m p.kc], .int .i64 0]) ∧ GOwn B w' p (d.rkill s.toNat))
theorem own_fresh {w : World} {B e s n : Nat} {v old : Value} {xs : List Value} (h : w.ownsRow B e s v n xs) : v.ownBlock = none ∨ v.ownBlock = old.ownBlock ∨ ∃ j, v.ownBlock = some j ∧ B ≤ j := by
  cases hk : v.ownBlock with
  | none => exact .inl rfl
  | some q => exact .inr (.inr ⟨q, rfl, (h.lt q hk).1⟩)
set_option maxRecDepth 100000 in
set_option maxHeartbeats 8000000 in
theorem refkillg_any (d : GD) (p : GP) (hsm : d.Sm) (s q : Int) (w : World) (hok : GOk w p d) :
    Calls Try.prog 30 #[.agg #[.slice p.A d.n p.c, .slice p.K d.m p.kc], hval s q] w fun e w' => RKillR d s q w.heap.size e w' ∧ Below w.heap.size w w' := by
  obtain ⟨A, c, K, kc, KA, KC⟩ := p
  dsimp only
  have b2 : Below w.heap.size w (((w.alloc (.cells #[.slice A d.n c, .slice K d.m kc] 27)).alloc (.cells #[.int .i64 s, .int .i64 q] 29)).alloc (.cells #[.slice none 0 0, .slice none 0 0] 27)) := by
    repeat' (first | exact Below.refl _ _ | assumption | apply Below.drew | refine Below.setCell ?_ (by first | omega | (simp; done) | (simp; omega)) _ | refine Below.alloc ?_ (by first | omega | (simp; done) | (simp; omega)) _)
  have OK := Lib.hid hok
  have Sm := Lib.hid hsm
  have B2 := Lib.hid b2
  have P0 := Lib.hid (show HasBlk (((w.alloc (.cells #[.slice A d.n c, .slice K d.m kc] 27)).alloc (.cells #[.int .i64 s, .int .i64 q] 29)).alloc (.cells #[.slice none 0 0, .slice none 0 0] 27)) (w.heap.size) 27 #[.slice A d.n c, .slice K d.m kc] by simpa using (((hasBlk_new w 27 #[.slice A d.n c, .slice K d.m kc]).alloc (.cells #[.int .i64 s, .int .i64 q] 29)).alloc (.cells #[.slice none 0 0, .slice none 0 0] 27)))
  have H0 := Lib.hid (show HasBlk (((w.alloc (.cells #[.slice A d.n c, .slice K d.m kc] 27)).alloc (.cells #[.int .i64 s, .int .i64 q] 29)).alloc (.cells #[.slice none 0 0, .slice none 0 0] 27)) (w.heap.size + 1) 29 #[.int .i64 s, .int .i64 q] by simpa using ((hasBlk_new (w.alloc (.cells #[.slice A d.n c, .slice K d.m kc] 27)) 29 #[.int .i64 s, .int .i64 q]).alloc (.cells #[.slice none 0 0, .slice none 0 0] 27)))
  have R0 := Lib.hid (show HasBlk (((w.alloc (.cells #[.slice A d.n c, .slice K d.m kc] 27)).alloc (.cells #[.int .i64 s, .int .i64 q] 29)).alloc (.cells #[.slice none 0 0, .slice none 0 0] 27)) (w.heap.size + 1 + 1) 27 #[.slice none 0 0, .slice none 0 0] by simpa using (hasBlk_new ((w.alloc (.cells #[.slice A d.n c, .slice K d.m kc] 27)).alloc (.cells #[.int .i64 s, .int .i64 q] 29)) 27 #[.slice none 0 0, .slice none 0 0]))
  have hc := refasked_any d _ hsm s q s q _ (hok.below b2)
  rw [askv_twice] at hc
  obtain ⟨x, hx⟩ : ∃ x, askv d (HeldA d.n d.g d.b s q) = x := ⟨_, rfl⟩
  unfold RKillR
  rw [hx] at hc ⊢
  clear b2 hsm
  by_cases hx0 : x = 0
  rotate_left
  · have x1 : (x == 0) = false := by simpa using hx0
    have x2 : (x != 0) = true := by simpa using hx0
    have HC := Lib.hid hc
    have X0 := Lib.hid hx0
    clear hx hx0 hc hok
    go_enter Try.func30, Try.ntmps30
    go_wp2_with fail
    refine HC.out.mono ?_
    rintro e w1 ⟨rfl, bel⟩
    have B3 := Lib.hid (B2.out.trans (bel.mono B2.out.size))
    have R1 := Lib.hid (R0.out.below bel)
    clear bel
    have r0 := R1.out.cell 0
    have r1 := R1.out.cell 1
    have zr := R1.out.lt
    have rf0 := R1.out.frozen 0
    have rf1 := R1.out.frozen 1
    simp at r0 r1
    go_wp2
    refine bodyPost_ret (v := .tuple #[.agg #[.slice none 0 0, .slice none 0 0], .int .i64 x]) (by simp [results, Try.results30, go_sem, *]) rfl ⟨.inl ⟨X0.out, rfl⟩, ?_⟩
    have bb := B3.out
    exact Below.setCell (Below.setCell bb (by first | omega | (simp; done) | (simp; omega)) _) (by first | omega | (simp; done) | (simp; omega)) _
  subst hx0
  obtain ⟨hmay, hheld⟩ := askv_zero hx
  obtain ⟨k, rfl⟩ := Int.eq_ofNat_of_zero_le hheld.1
  have hq1 := hheld.2.2.1
  have hi : k < d.n := by have := hheld.2.1; omega
  simp only [Int.toNat_natCast] at hq1
  subst hq1
  have hkm : k < d.m := by rw [hmay.2.1]; exact hi
  have HC := Lib.hid hc
  have MAY := Lib.hid hmay
  have HLD := Lib.hid hheld
  have htw := Lib.hid (fun W (hb : Below w.heap.size w W) => reftwing_any d _ Sm.out W (hok.below hb))
  have i1 : (k : Int) < (d.m : Int) := by omega
  have i0 : (0 : Int) ≤ (k : Int) := by omega
  have KI := Lib.hid (And.intro hi hkm)
  clear hc hok hx hheld hmay hi
  go_enter Try.func30, Try.ntmps30
  go_wp2_with fail
  refine HC.out.mono ?_
  rintro e w1 ⟨rfl, bel⟩
  have B3 := Lib.hid (B2.out.trans (bel.mono B2.out.size))
  have P1 := Lib.hid (P0.out.below bel)
  have H1 := Lib.hid (H0.out.below bel)
  have R1 := Lib.hid (R0.out.below bel)
  clear bel P0 H0 R0 HC B2
  have p0 := P1.out.cell 0
  have p1 := P1.out.cell 1
  have zp := P1.out.lt
  simp at p0 p1
  have KX := Lib.hid (htw.out w1 B3.out)
  clear htw
  go_wp2_with fail
  refine KX.out.mono ?_
  rintro e w3 ⟨⟨v, rfl, po, rfl, ho⟩, bel⟩
  have B5 := Lib.hid (B3.out.trans (bel.mono B3.out.size))
  clear p0 p1 zp
  have H3 := Lib.hid (H1.out.below bel)
  have R3 := Lib.hid (R1.out.below bel)
  have zb4 : w.heap.size + 1 + 1 + 1 ≤ w1.heap.size := by have := R1.out.lt; omega
  have GO := Lib.hid (ho.base zb4)
  clear bel P1 H1 R1 KX B3 ho zb4
  obtain ⟨tA, tc, tK, tkc, KA', KC'⟩ := po
  dsimp only
  go_upto_region 5 with fail
  have bA := (Below.refl w3.heap.size w3).alloc (Nat.le_refl _) (.cells #[.slice tA d.n tc, .slice tK d.m tkc] 27)
  have P4 := Lib.hid (show HasBlk (w3.alloc (.cells #[.slice tA d.n tc, .slice tK d.m tkc] 27)) w3.heap.size 27 #[.slice tA d.n tc, .slice tK d.m tkc] from hasBlk_new w3 27 _)
  have H4 := Lib.hid (H3.out.below bA)
  have R4 := Lib.hid (R3.out.below bA)
  have GO4 := Lib.hid (GO.out.below bA)
  have B6 := Lib.hid (B5.out.trans (bA.mono B5.out.size))
  have zp := R3.out.lt
  obtain ⟨pb, hpb⟩ : ∃ pb, pb = w3.heap.size := ⟨_, rfl⟩
  rw [← hpb] at P4 zp ⊢
  clear bA H3 R3 GO B5 hpb
  generalize (w3.alloc (.cells #[.slice tA d.n tc, .slice tK d.m tkc] 27)) = v5 at *
  have ZP := Lib.hid zp
  clear zp
  have p0 := P4.out.cell 0
  have p1 := P4.out.cell 1
  have zp := P4.out.lt
  have h0 := H4.out.cell 0
  have h1 := H4.out.cell 1
  have zh := H4.out.lt
  simp at p0 p1 h0 h1
  have KX := Lib.hid (refkill_any tA d.n tc d.g d.b k (d.g k) v5 GO4.out.ok.ar (by have := Sm.out.n; omega))
  go_wp2_with fail
  refine KX.out.mono ?_
  rintro e v6 ⟨hx, bel⟩
  rcases hx with ⟨h, _⟩ | ⟨_, h, _⟩ | ⟨_, _, va, rfl, hown⟩
  · exact absurd MAY.out.1 h
  · exact absurd HLD.out h
  obtain ⟨X, xc, rfl, hAr⟩ := hown
  have z5 : w.heap.size + 1 + 1 + 1 ≤ v5.heap.size := by have := R4.out.lt; omega
  have P6 := Lib.hid (P4.out.below bel)
  have H6 := Lib.hid (H4.out.below bel)
  have R6 := Lib.hid (R4.out.below bel)
  have GO6 := Lib.hid (show GOwn (w.heap.size + 1 + 1 + 1) v6 ⟨X, xc, tK, tkc, KA', KC'⟩ (d.cold k) from ⟨own_base hAr z5, (GO4.out.below bel).ks, (GO4.out.below bel).kd⟩)
  have B7 := Lib.hid (B6.out.trans (bel.mono B6.out.size))
  clear bel hAr P4 H4 R4 GO4 B6 z5 KX HLD
  clear p0 p1 zp h0 h1 zh
  have p0 := P6.out.cell 0
  have p1 := P6.out.cell 1
  have zp := P6.out.lt
  simp at p0 p1
  have pf0 := P6.out.frozen 0
  have zq := ZP.out
  go_upto_region 7 with fail
  have P7 := Lib.hid (show HasBlk ((v6.setCell ⟨pb, 0, none⟩ (.slice X d.n xc)).alloc (.cells #[.slice X d.n xc] 24)) pb 27 #[.slice X d.n xc, .slice tK d.m tkc] by simpa using (P6.out.set 0 (.slice X d.n xc)).alloc (.cells #[.slice X d.n xc] 24))
  have bA := fun v : World => (Below.refl v.heap.size v).alloc (Nat.le_refl _) (.cells #[.slice X d.n xc] 24)
  have H7 := Lib.hid ((H6.out.far (p := ⟨pb, 0, none⟩) (by simp; omega) (.slice X d.n xc)).below (bA _))
  have R7 := Lib.hid ((R6.out.far (p := ⟨pb, 0, none⟩) (by simp; omega) (.slice X d.n xc)).below (bA _))
  have GO7 := Lib.hid (show GOwn (w.heap.size + 1 + 1 + 1) ((v6.setCell ⟨pb, 0, none⟩ (.slice X d.n xc)).alloc (.cells #[.slice X d.n xc] 24)) ⟨X, xc, tK, tkc, KA', KC'⟩ (d.cold k) from GOwn.below ⟨own_pset GO6.out.ar P6.out (by decide) (.slice X d.n xc), own_pset GO6.out.ks P6.out (by decide) (.slice X d.n xc), GO6.out.kd.pset P6.out (by decide) (.slice X d.n xc)⟩ (bA _))
  have B8 := Lib.hid ((Below.setCell (p := ⟨pb, 0, none⟩) B7.out (by simp; omega) (.slice X d.n xc)).alloc (by have := B7.out.size; simp; omega) (.cells #[.slice X d.n xc] 24))
  clear pf0 P6 H6 R6 GO6 B7 zq bA
  clear p0 p1 zp
  generalize ((v6.setCell ⟨pb, 0, none⟩ (.slice X d.n xc)).alloc (.cells #[.slice X d.n xc] 24)) = v7 at *
  obtain ⟨gK, hK, hgB, hgl, hgf⟩ := own_some GO7.out.ks (show 0 < d.m by have := KI.out.2; omega)
  dsimp only at hK
  subst hK
  clear hgf hgl
  have ZK := Lib.hid hgB
  clear hgB
  go_wp2
  go_loopw [10] (fun idx wr => ∃ (i : Nat) (KAi : Nat → Option Addr) (KCi : Nat → Nat), i ≤ d.m ∧ idx = .int .i64 i ∧ GOwn (w.heap.size + 1 + 1 + 1) wr ⟨X, xc, some ⟨gK, 0, none⟩, tkc, KAi, KCi⟩ (killN (d.cold k) (k : Nat) (d.g k) i) ∧ HasBlk wr pb 27 #[.slice X d.n xc, .slice (some ⟨gK, 0, none⟩) d.m tkc] ∧ HasBlk wr (w.heap.size + 1) 29 #[.int .i64 k, .int .i64 (d.g k)] ∧ HasBlk wr (w.heap.size + 1 + 1) 27 #[.slice none 0 0, .slice none 0 0] ∧ Below w.heap.size w wr) (fun idx wr => d.m - (intOf idx).toNat)
  case atStart => exact ⟨0, KA', KC', Nat.zero_le _, rfl, GO7.out, P7.out, H7.out, R7.out, B8.out⟩
  case round =>
    clear GO7 P7 H7 R7 B8
    obtain ⟨i, KAi, KCi, hid, rfl, hgo, hP, hH, hR, hbel⟩ := hrel
    have GOi := Lib.hid hgo
    have Pi := Lib.hid hP
    have Hi := Lib.hid hH
    have Ri := Lib.hid hR
    have Bi := Lib.hid hbel
    clear hgo hP hH hR hbel
    have hdm := Sm.out.m
    have p0 := Pi.out.cell 0
    have p1 := Pi.out.cell 1
    have zp := Pi.out.lt
    simp at p0 p1
    by_cases him : i < d.m
    · have NM := killN_n (d.cold k) (k : Nat) (d.g k) i
      have hmi : i < (killN (d.cold k) (k : Nat) (d.g k) i).m := by rw [NM.2]; exact him
      have hLi : (killN (d.cold k) (k : Nat) (d.g k) i).L i ≤ 1000 := by rw [(killN_hi (d.cold k) (k : Nat) (d.g k) i i (Nat.le_refl _)).1]; exact Sm.out.L i him
      have c0 : wr.cell? ⟨gK, i, none⟩ = some (.slice (KAi i) ((killN (d.cold k) (k : Nat) (d.g k) i).L i) (KCi i)) := by
        obtain ⟨g', o', hA', _, hc'⟩ := GOi.out.ok.ks (by omega)
        cases hA'
        simpa [kv] using hc' i hmi 0 (by omega)
      have hoi := GOi.out.kd.kd i hmi
      have hks := GOi.out.ks
      clear NM
      have j1 : (i : Int) < (d.m : Int) := by omega
      have j0 : (0 : Int) ≤ (i : Int) := by omega
      have HS := Lib.hid (show (fun W => HasBlk W pb 27 #[.slice X d.n xc, .slice (some ⟨gK, 0, none⟩) d.m tkc] ∧ HasBlk W (w.heap.size + 1) 29 #[.int .i64 k, .int .i64 (d.g k)] ∧ W.cell? ⟨gK, i, none⟩ = some (.slice (KAi i) ((killN (d.cold k) (k : Nat) (d.g k) i).L i) (KCi i))) wr.drew from ⟨Pi.out.drew, Hi.out.drew, c0⟩)
      have KS := Lib.hid c0
      have HMI := Lib.hid hmi
      have HLI := Lib.hid hLi
      have HOI := Lib.hid hoi
      have HKS := Lib.hid hks
      clear hmi hLi hoi hks
      go_upto_region 10 with fail
      clear c0
      clear p0 p1 zp
      refine wp_region_E (fun W => HasBlk W pb 27 #[.slice X d.n xc, .slice (some ⟨gK, 0, none⟩) d.m tkc] ∧ HasBlk W (w.heap.size + 1) 29 #[.int .i64 k, .int .i64 (d.g k)] ∧ W.cell? ⟨gK, i, none⟩ = some (.slice (KAi i) ((killN (d.cold k) (k : Nat) (d.g k) i).L i) (KCi i))) 11 (by kernel_rfl) ?_
      refine wpAnyE_take (i := 0) (v := .pointer (some ⟨pb, 1, none⟩)) rfl (by kernel_rfl) (fun _ _ _ h => h) (.inl ⟨by kernel_rfl, fun W hW => ?_⟩) HS.out ?_
      · obtain ⟨hWP, hWH, hWK⟩ := hW
        have q1 := hWP.cell 1
        have q2 := hWH.cell 0
        have q3 := hWH.cell 1
        simp at q1 q2 q3
        go_simp
      simp only [Act.put, List.setIfInBounds_toArray]
      refine wpAnyE_take (i := 1) (v := .slice (some ⟨gK, 0, none⟩) d.m tkc) rfl (by kernel_rfl) (fun _ _ _ h => h) (.inl ⟨by kernel_rfl, fun W hW => ?_⟩) HS.out ?_
      · obtain ⟨hWP, hWH, hWK⟩ := hW
        have q1 := hWP.cell 1
        have q2 := hWH.cell 0
        have q3 := hWH.cell 1
        simp at q1 q2 q3
        go_simp
      simp only [Act.put]
      refine wpAnyE_take (i := 2) (v := .int .i64 i) rfl (by kernel_rfl) (fun _ _ _ h => h) (.inl ⟨by kernel_rfl, fun W hW => ?_⟩) HS.out ?_
      · obtain ⟨hWP, hWH, hWK⟩ := hW
        have q1 := hWP.cell 1
        have q2 := hWH.cell 0
        have q3 := hWH.cell 1
        simp at q1 q2 q3
        go_simp
      simp only [Act.put]
      refine wpAnyE_take (i := 3) (v := .pointer (some ⟨pb, 1, none⟩)) rfl (by kernel_rfl) (fun _ _ _ h => h) (.inl ⟨by kernel_rfl, fun W hW => ?_⟩) HS.out ?_
      · obtain ⟨hWP, hWH, hWK⟩ := hW
        have q1 := hWP.cell 1
        have q2 := hWH.cell 0
        have q3 := hWH.cell 1
        simp at q1 q2 q3
        go_simp
      simp only [Act.put]
      refine wpAnyE_take (i := 4) (v := .slice (some ⟨gK, 0, none⟩) d.m tkc) rfl (by kernel_rfl) (fun _ _ _ h => h) (.inl ⟨by kernel_rfl, fun W hW => ?_⟩) HS.out ?_
      · obtain ⟨hWP, hWH, hWK⟩ := hW
        have q1 := hWP.cell 1
        have q2 := hWH.cell 0
        have q3 := hWH.cell 1
        simp at q1 q2 q3
        go_simp
      simp only [Act.put]
      refine wpAnyE_take (i := 5) (v := .int .i64 i) rfl (by kernel_rfl) (fun _ _ _ h => h) (.inl ⟨by kernel_rfl, fun W hW => ?_⟩) HS.out ?_
      · obtain ⟨hWP, hWH, hWK⟩ := hW
        have q1 := hWP.cell 1
        have q2 := hWH.cell 0
        have q3 := hWH.cell 1
        simp at q1 q2 q3
        go_simp
      simp only [Act.put]
      refine wpAnyE_take (i := 6) (v := .pointer (some ⟨gK, i, none⟩)) rfl (by kernel_rfl) (fun _ _ _ h => h) (.inl ⟨by kernel_rfl, fun W hW => ?_⟩) HS.out ?_
      · obtain ⟨hWP, hWH, hWK⟩ := hW
        have q1 := hWP.cell 1
        have q2 := hWH.cell 0
        have q3 := hWH.cell 1
        simp at q1 q2 q3
        go_simp
      simp only [Act.put]
      refine wpAnyE_take (i := 7) (v := .slice (KAi i) ((killN (d.cold k) (k : Nat) (d.g k) i).L i) (KCi i)) rfl (by kernel_rfl) (fun _ _ _ h => h) (.inl ⟨by kernel_rfl, fun W hW => ?_⟩) HS.out ?_
      · obtain ⟨hWP, hWH, hWK⟩ := hW
        have q1 := hWP.cell 1
        have q2 := hWH.cell 0
        have q3 := hWH.cell 1
        simp at q1 q2 q3
        go_simp
      simp only [Act.put]
      refine wpAnyE_take (i := 8) (v := .agg #[.int .i64 k, .int .i64 (d.g k)]) rfl (by kernel_rfl) (fun _ _ _ h => h) (.inl ⟨by kernel_rfl, fun W hW => ?_⟩) HS.out ?_
      · obtain ⟨hWP, hWH, hWK⟩ := hW
        have q1 := hWP.cell 1
        have q2 := hWH.cell 0
        have q3 := hWH.cell 1
        simp at q1 q2 q3
        go_simp
      simp only [Act.put]
      clear HS
      refine wpAnyE_step (i := 9) rfl (by kernel_rfl) (fun KQ HK => ?_)
      have bd := (Below.refl wr.heap.size wr).drew
      have KX := Lib.hid (without_any (KAi i) ((killN (d.cold k) (k : Nat) (d.g k) i).L i) (KCi i) ((killN (d.cold k) (k : Nat) (d.g k) i).S i) ((killN (d.cold k) (k : Nat) (d.g k) i).Q i) (k : Nat) (d.g k) wr.drew ((GOi.out.ok.kd i HMI.out).below bd) HLI.out)
      go_wp2_with fail
      refine KX.out.mono ?_
      rintro e w7 ⟨⟨A2, c2, rfl, hown7⟩, bel7⟩
      have bel : Below wr.heap.size wr w7 := bd.trans bel7
      have P7 := Lib.hid (Pi.out.below bel)
      have H7 := Lib.hid (Hi.out.below bel)
      have R7 := Lib.hid (Ri.out.below bel)
      have K7 := Lib.hid ((bel.cell (p := ⟨gK, i, none⟩) (by have := HKS.out.lt gK rfl; exact this.2)).trans KS.out)
      have B7 := Lib.hid (Bi.out.trans (bel.mono Bi.out.size))
      have ks7 := own_below HKS.out bel
      obtain ⟨_, e7, _, lt7, hf7⟩ := own_some ks7 (show 0 < (killN (d.cold k) (k : Nat) (d.g k) i).m by have := HMI.out; omega)
      cases e7
      have f7 := hf7 i
      have zz7 := R7.out.lt
      have zB : (w.heap.size + 1 + 1 + 1) ≤ wr.drew.heap.size := by have := Ri.out.lt; simp; omega
      have GO8 := Lib.hid (GOi.out.put (S' := kpS ((killN (d.cold k) (k : Nat) (d.g k) i).S i) ((killN (d.cold k) (k : Nat) (d.g k) i).Q i) (k : Nat) (d.g k) ((killN (d.cold k) (k : Nat) (d.g k) i).L i)) (Q' := kpQ ((killN (d.cold k) (k : Nat) (d.g k) i).S i) ((killN (d.cold k) (k : Nat) (d.g k) i).Q i) (k : Nat) (d.g k) ((killN (d.cold k) (k : Nat) (d.g k) i).L i)) (k := i) HMI.out rfl (gb_below bel _) (own_base hown7 zB) (own_fresh hown7))
      have k7 := K7.out
      have S7 := Lib.hid (show (fun W => HasBlk W pb 27 #[.slice X d.n xc, .slice (some ⟨gK, 0, none⟩) d.m tkc] ∧ HasBlk W (w.heap.size + 1) 29 #[.int .i64 k, .int .i64 (d.g k)] ∧ W.cell? ⟨gK, i, none⟩ = some (.slice (KAi i) ((killN (d.cold k) (k : Nat) (d.g k) i).L i) (KCi i))) w7 from ⟨P7.out, H7.out, k7⟩)
      obtain ⟨lv, hlv⟩ : ∃ lv, Value.slice A2 (keptH ((killN (d.cold k) (k : Nat) (d.g k) i).S i) ((killN (d.cold k) (k : Nat) (d.g k) i).Q i) (k : Nat) (d.g k) ((killN (d.cold k) (k : Nat) (d.g k) i).L i)).length c2 = lv := ⟨_, rfl⟩
      have GO9 := Lib.hid (show GOwn (w.heap.size + 1 + 1 + 1) (w7.setCell ⟨gK, i, none⟩ lv) ⟨X, xc, some ⟨gK, 0, none⟩, tkc, upd KAi i A2, upd KCi i c2⟩ (killN (d.cold k) (k : Nat) (d.g k) (i + 1)) by rw [← hlv]; exact GO8.out)
      have O1 : lv.oneCell' = true := by rw [← hlv]; rfl
      have O2 : lv.cells = #[lv] := by rw [← hlv]; rfl
      rw [hlv]
      have npb : pb ≠ gK := fun e => by
        subst e
        exact (P7.out.ne_own ks7 (by decide)) rfl
      have zk := ZK.out
      clear hown7 ks7 hf7 GO8 GOi Pi Hi Ri Bi bel bel7 bd KX zB
      go_wp2
      refine HK _ _ (fun _ => S7.out) ?_
      clear HK
      refine wpAnyE_step (i := 10) rfl (by kernel_rfl) (fun KQ HK => ?_)
      go_wp2
      refine HK _ _ (fun _ => S7.out) ?_
      clear HK
      rw [← hlv] at GO9 ⊢
      clear hlv O1 O2 S7
      refine wpAnyE_step (i := 11) rfl (by kernel_rfl) (fun KQ HK => ?_)
      go_wp2
      refine HK _ _ (fun h => absurd rfl h) ?_
      clear HK
      refine wpAnyE_done (by kernel_rfl) ?_
      clear k7 f7
      go_wp2
      go_roundw
      case rel => exact ⟨i + 1, _, _, by omega, by go_num, GO9.out, P7.out.far (by simp; omega) _, H7.out.far (by simp; omega) _, R7.out.far (by simp; omega) _, Below.setCell B7.out (by simp; omega) _⟩
      case measure => simp [intOf]; omega
    · obtain rfl : i = d.m := by omega
      have NM := killN_n (d.cold k) (k : Nat) (d.g k) d.m
      have hkm' : k < (killN (d.cold k) (k : Nat) (d.g k) d.m).m := by rw [NM.2]; exact KI.out.2
      obtain ⟨_, e7, gB, lt7, hf7⟩ := own_some GOi.out.ks (show 0 < (killN (d.cold k) (k : Nat) (d.g k) d.m).m by omega)
      cases e7
      have f7 := hf7 k
      have c0 : wr.cell? ⟨gK, k, none⟩ = some (.slice (KAi k) ((killN (d.cold k) (k : Nat) (d.g k) d.m).L k) (KCi k)) := by
        obtain ⟨g', o', hA', _, hc'⟩ := GOi.out.ok.ks (by omega)
        cases hA'
        simpa [kv] using hc' k hkm' 0 (by omega)
      have npb : pb ≠ gK := fun e => by
        subst e
        exact (Pi.out.ne_own GOi.out.ks (by decide)) rfl
      have GF := Lib.hid (show GOwn (w.heap.size + 1 + 1 + 1) (wr.setCell ⟨gK, k, none⟩ (.slice none 0 0)) ⟨X, xc, some ⟨gK, 0, none⟩, tkc, upd KAi k none, upd KCi k 0⟩ (d.rkill k) from GOi.out.put (k := k) (S' := fun _ => 0) (Q' := fun _ => 0) hkm' rfl (World.grownBy.refl wr _) (own_nil _ _ _ _) (.inl rfl))
      have h0 := Hi.out.cell 0
      have zh := Hi.out.lt
      have pf1 := Pi.out.frozen 1
      simp at h0
      have hkm2 := KI.out.2
      go_upto_region 12 with fail
      have PF := Lib.hid (Pi.out.far (p := ⟨gK, k, none⟩) (by simp; omega) (.slice none 0 0))
      have RF := Lib.hid (Ri.out.far (p := ⟨gK, k, none⟩) (by simp; omega) (.slice none 0 0))
      have BF := Lib.hid (Below.setCell (p := ⟨gK, k, none⟩) Bi.out (by simp; omega) (.slice none 0 0))
      clear h0 zh pf1 c0 f7 hf7 GOi Pi Hi Ri Bi NM hkm' hkm2 lt7
      clear p0 p1 zp
      generalize (wr.setCell ⟨gK, k, none⟩ (.slice none 0 0)) = vF at *
      have p0 := PF.out.cell 0
      have p1 := PF.out.cell 1
      have zp := PF.out.lt
      have r0 := RF.out.cell 0
      have r1 := RF.out.cell 1
      have zr := RF.out.lt
      have rf0 := RF.out.frozen 0
      have rf1 := RF.out.frozen 1
      simp at p0 p1 r0 r1
      go_wp2
      refine bodyPost_ret (v := .tuple #[.agg #[.slice X d.n xc, .slice (some ⟨gK, 0, none⟩) d.m tkc], .int .i64 0]) (by simp [results, Try.results30, go_sem, *]) rfl ⟨.inr ⟨by first | trivial | rfl, ⟨X, xc, some ⟨gK, 0, none⟩, tkc, upd KAi k none, upd KCi k 0⟩, rfl, ?_⟩, ?_⟩
      · exact ((GF.out.lset (by omega) _).lset (by omega) _).base (by omega)
      · have bb := BF.out
        exact Below.setCell (Below.setCell bb (by first | omega | (simp; done) | (simp; omega)) _) (by first | omega | (simp; done) | (simp; omega)) _
end Go.Proofs.Ytgkeiaggldahnaa
/- nodes: the reference's Link, Unlink. -/
namespace Go.Proofs.Ytgkeiaggldahnaa
open Go.RowKit
set_option linter.unusedVariables false
theorem Row.shift {w : World} {g o n s : Nat} {F : Nat → Nat → Value} (h : Row w (some ⟨g, o, none⟩) n s F) (l : Nat) : Row w (some ⟨g, o + l * s, none⟩) (n - l) s (fun i => F (l + i)) := fun hn => by
  obtain ⟨g', o', e, hl, hc⟩ := h (by omega)
  cases e
  refine ⟨g, o + l * s, rfl, hl, fun i hi j hj => ?_⟩
  have := hc (l + i) (by omega) j hj
  rw [Nat.add_mul, ← Nat.add_assoc] at this
  exact this
theorem cellsR_cat (s : Nat) (F : Nat → Nat → Value) (m : Nat) : ∀ n, cellsR s F (m + n) = cellsR s F m ++ cellsR s (fun i => F (m + i)) n
  | 0 => by simp [cellsR]
  | n + 1 => by
    rw [show m + (n + 1) = (m + n) + 1 from rfl, cellsR_succ, cellsR_cat s F m n, cellsR_succ, List.append_assoc]
theorem hv_congr {S S' Q Q' : Nat → Int} {n : Nat} (h : ∀ i, i < n → S i = S' i ∧ Q i = Q' i) : cellsR 2 (hv S Q) n = cellsR 2 (hv S' Q') n := cellsR_congr fun i hi j _ => by unfold hv; rw [(h i hi).1, (h i hi).2]
theorem hv_shift (S Q : Nat → Int) (m n : Nat) : cellsR 2 (fun i => hv S Q (m + i)) n = cellsR 2 (hv (fun i => S (m + i)) (fun i => Q (m + i))) n := rfl
theorem ins_cat {S Q : Nat → Int} {x y : Int} {a n : Nat} (h : a ≤ n) : (cellsR 2 (hv S Q) a ++ [.int .i64 x, .int .i64 y]) ++ cellsR 2 (hv (fun i => S (a + i)) (fun i => Q (a + i))) (n - a) = cellsR 2 (hv (insF S a x) (insF Q a y)) (n + 1) := by
  rw [show n + 1 = (a + 1) + (n - a) by omega, cellsR_cat 2 _ (a + 1) (n - a), cellsR_succ]
  congr 1
  · rw [hv_congr (S' := insF S a x) (Q' := insF Q a y) (n := a) (fun i hi => by unfold insF; rw [if_pos hi, if_pos hi]; exact ⟨rfl, rfl⟩)]
    congr 1
    show _ = [hv (insF S a x) (insF Q a y) a 0, hv (insF S a x) (insF Q a y) a 1]
    unfold hv insF
    simp
  · rw [hv_shift]
    exact hv_congr fun i hi => by
      unfold insF
      rw [if_neg (by omega), if_neg (by omega), if_neg (by omega), if_neg (by omega), show a + 1 + i - 1 = a + i by omega]
      exact ⟨rfl, rfl⟩
theorem del_cat {S Q : Nat → Int} {a n : Nat} (h : a < n) : cellsR 2 (hv S Q) a ++ cellsR 2 (hv (fun i => S (a + 1 + i)) (fun i => Q (a + 1 + i))) (n - (a + 1)) = cellsR 2 (hv (delF S a) (delF Q a)) (n - 1) := by
  rw [show n - 1 = a + (n - (a + 1)) by omega, cellsR_cat 2 _ a (n - (a + 1))]
  congr 1
  · exact hv_congr fun i hi => by unfold delF; rw [if_pos hi, if_pos hi]; exact ⟨rfl, rfl⟩
  · rw [hv_shift]
    exact hv_congr fun i hi => by
      unfold delF
      rw [if_neg (by omega), if_neg (by omega), show a + i + 1 = a + 1 + i by omega]
      exact ⟨rfl, rfl⟩

set_option maxRecDepth 100000 in
set_option maxHeartbeats 16000000 in
theorem reflinkg_any (d : GD) (p : GP) (hsm : d.Sm) (hcap : ∀ i, i < d.m → d.L i ≤ p.KC i ∧ (p.KA i = none → p.KC i = 0)) (s q s' q' x : Int) (w : World) (hok : GOk w p d) :
    Calls Try.prog 31 #[.agg #[.slice p.A d.n p.c, .slice p.K d.m p.kc], hval s q, hval s' q', .int .i64 x] w fun e w' => LinkR d s q s' q' x w.heap.size e w' ∧ Below w.heap.size w w' := by
  obtain ⟨A, c, K, kc, KA, KC⟩ := p
  dsimp only at hcap ⊢
  have b2 : Below w.heap.size w ((((w.alloc (.cells #[.slice A d.n c, .slice K d.m kc] 27)).alloc (.cells #[.int .i64 s, .int .i64 q] 29)).alloc (.cells #[.int .i64 s', .int .i64 q'] 29)).alloc (.cells #[.slice none 0 0, .slice none 0 0] 27)) := by
    repeat' (first | exact Below.refl _ _ | assumption | apply Below.drew | refine Below.setCell ?_ (by first | omega | (simp; done) | (simp; omega)) _ | refine Below.alloc ?_ (by first | omega | (simp; done) | (simp; omega)) _)
  have OK := Lib.hid hok
  have Sm := Lib.hid hsm
  have CAP := Lib.hid hcap
  have B0 := Lib.hid b2
  have P0 := Lib.hid (show HasBlk ((((w.alloc (.cells #[.slice A d.n c, .slice K d.m kc] 27)).alloc (.cells #[.int .i64 s, .int .i64 q] 29)).alloc (.cells #[.int .i64 s', .int .i64 q'] 29)).alloc (.cells #[.slice none 0 0, .slice none 0 0] 27)) (w.heap.size) 27 #[.slice A d.n c, .slice K d.m kc] by simpa using ((((hasBlk_new w 27 #[.slice A d.n c, .slice K d.m kc]).alloc (.cells #[.int .i64 s, .int .i64 q] 29)).alloc (.cells #[.int .i64 s', .int .i64 q'] 29)).alloc (.cells #[.slice none 0 0, .slice none 0 0] 27)))
  have H0 := Lib.hid (show HasBlk ((((w.alloc (.cells #[.slice A d.n c, .slice K d.m kc] 27)).alloc (.cells #[.int .i64 s, .int .i64 q] 29)).alloc (.cells #[.int .i64 s', .int .i64 q'] 29)).alloc (.cells #[.slice none 0 0, .slice none 0 0] 27)) (w.heap.size + 1) 29 #[.int .i64 s, .int .i64 q] by simpa using (((hasBlk_new (w.alloc (.cells #[.slice A d.n c, .slice K d.m kc] 27)) 29 #[.int .i64 s, .int .i64 q]).alloc (.cells #[.int .i64 s', .int .i64 q'] 29)).alloc (.cells #[.slice none 0 0, .slice none 0 0] 27)))
  have J0 := Lib.hid (show HasBlk ((((w.alloc (.cells #[.slice A d.n c, .slice K d.m kc] 27)).alloc (.cells #[.int .i64 s, .int .i64 q] 29)).alloc (.cells #[.int .i64 s', .int .i64 q'] 29)).alloc (.cells #[.slice none 0 0, .slice none 0 0] 27)) (w.heap.size + 1 + 1) 29 #[.int .i64 s', .int .i64 q'] by simpa using ((hasBlk_new ((w.alloc (.cells #[.slice A d.n c, .slice K d.m kc] 27)).alloc (.cells #[.int .i64 s, .int .i64 q] 29)) 29 #[.int .i64 s', .int .i64 q']).alloc (.cells #[.slice none 0 0, .slice none 0 0] 27)))
  have R0 := Lib.hid (show HasBlk ((((w.alloc (.cells #[.slice A d.n c, .slice K d.m kc] 27)).alloc (.cells #[.int .i64 s, .int .i64 q] 29)).alloc (.cells #[.int .i64 s', .int .i64 q'] 29)).alloc (.cells #[.slice none 0 0, .slice none 0 0] 27)) (w.heap.size + 1 + 1 + 1) 27 #[.slice none 0 0, .slice none 0 0] by simpa using (hasBlk_new (((w.alloc (.cells #[.slice A d.n c, .slice K d.m kc] 27)).alloc (.cells #[.int .i64 s, .int .i64 q] 29)).alloc (.cells #[.int .i64 s', .int .i64 q'] 29)) 27 #[.slice none 0 0, .slice none 0 0]))
  have hc := refasked_any d _ hsm s q s' q' _ (hok.below b2)
  obtain ⟨y, hy⟩ : ∃ y, askv d (HeldA d.n d.g d.b s q ∧ HeldA d.n d.g d.b s' q') = y := ⟨_, rfl⟩
  rw [hy] at hc
  clear b2 hsm hcap
  by_cases hy0 : y = 0
  rotate_left
  · have y1 : (y == 0) = false := by simpa using hy0
    have y2 : (y != 0) = true := by simpa using hy0
    have HC := Lib.hid hc
    have X0 := Lib.hid hy0
    have EV := Lib.hid (show linkE d s q s' q' x = y by unfold linkE; rw [if_neg (by rw [hy]; exact hy0)]; exact hy)
    clear hy hy0 hc hok
    go_enter Try.func31, Try.ntmps31
    go_wp2_with fail
    refine HC.out.mono ?_
    rintro e w1 ⟨rfl, bel⟩
    have B1 := Lib.hid (B0.out.trans (bel.mono B0.out.size))
    have R1 := Lib.hid (R0.out.below bel)
    clear bel
    have r0 := R1.out.cell 0
    have r1 := R1.out.cell 1
    have zr := R1.out.lt
    have rf0 := R1.out.frozen 0
    have rf1 := R1.out.frozen 1
    simp at r0 r1
    go_wp2
    refine bodyPost_ret (v := .tuple #[.agg #[.slice none 0 0, .slice none 0 0], .int .i64 y]) (by simp [results, Try.results31, go_sem, *]) rfl ⟨.inl ⟨?_, ?_⟩, ?_⟩
    · rw [EV.out]; exact X0.out
    · rw [EV.out]
    · have bb := B1.out
      exact Below.setCell (Below.setCell bb (by first | omega | (simp; done) | (simp; omega)) _) (by first | omega | (simp; done) | (simp; omega)) _
  subst hy0
  obtain ⟨hmay, hhelds⟩ := askv_zero hy
  obtain ⟨hheld, hheld'⟩ := hhelds
  obtain ⟨k, rfl⟩ := Int.eq_ofNat_of_zero_le hheld.1
  have hq1 := hheld.2.2.1
  have hi : k < d.n := by have := hheld.2.1; omega
  simp only [Int.toNat_natCast] at hq1
  subst hq1
  have hkm : k < d.m := by rw [hmay.2.1]; exact hi
  obtain ⟨t, rfl⟩ := Int.eq_ofNat_of_zero_le hheld'.1
  have hq2 := hheld'.2.2.1
  have hti : t < d.n := by have := hheld'.2.1; omega
  simp only [Int.toNat_natCast] at hq2
  subst hq2
  have HC := Lib.hid hc
  have MAY := Lib.hid hmay
  have HY := Lib.hid hy
  obtain ⟨gk, ok, hA, hgk, hck⟩ := hok.ks (by omega)
  dsimp only at hA
  subst hA
  have K0 := Lib.hid (show w.cell? ⟨gk, ok + k, none⟩ = some (.slice (KA k) (d.L k) (KC k)) by have := hck k hkm 0 (by omega); simpa [kv] using this)
  have HGK := Lib.hid hgk
  have hlk := Sm.out.L k hkm
  have hcp := CAP.out k hkm
  have i1 : (k : Int) < (d.m : Int) := by omega
  have i0 : (0 : Int) ≤ (k : Int) := by omega
  have KI := Lib.hid (And.intro hi hkm)
  have RK := Lib.hid (hok.kd k hkm)
  have TI := Lib.hid hti
  clear hc hok hy hheld hmay hi hgk hck hheld' hti
  have OKA := Lib.hid OK.out
  clear OK
  obtain ⟨LK, hLK⟩ : ∃ LK, d.L k = LK := ⟨_, rfl⟩
  obtain ⟨kA, hkA⟩ : ∃ kA, KA k = kA := ⟨_, rfl⟩
  obtain ⟨kC, hkC⟩ : ∃ kC, KC k = kC := ⟨_, rfl⟩
  rw [hLK, hkA, hkC] at K0 hcp
  rw [hLK] at hlk
  have RK' := Lib.hid (show Row w kA LK 2 (hv (d.S k) (d.Q k)) by rw [← hkA, ← hLK]; exact RK.out)
  clear RK hkA hkC
  have HLK := Lib.hid hLK
  clear hLK
  go_enter Try.func31, Try.ntmps31
  go_wp2_with fail
  refine HC.out.mono ?_
  rintro e w1 ⟨rfl, bel⟩
  have B1 := Lib.hid (B0.out.trans (bel.mono B0.out.size))
  have P1 := Lib.hid (P0.out.below bel)
  clear P0
  have H1 := Lib.hid (H0.out.below bel)
  clear H0
  have J1 := Lib.hid (J0.out.below bel)
  clear J0
  have R1 := Lib.hid (R0.out.below bel)
  clear R0
  clear bel HC B0
  have p0 := P1.out.cell 0
  have p1 := P1.out.cell 1
  have zp := P1.out.lt
  have h0 := H1.out.cell 0
  have h1 := H1.out.cell 1
  have zh := H1.out.lt
  simp at p0 p1 h0 h1
  have k0 := (B1.out.cell (p := ⟨gk, ok + k, none⟩) HGK.out).trans K0.out
  by_cases q1 : x < 0
  · have g1 : decide (x < 0) = true := decide_eq_true q1
    have EV := Lib.hid (show linkE d (k : Nat) (d.g k) (t : Nat) (d.g t) x = 2 by unfold linkE; rw [if_pos HY.out]; unfold linkH; rw [if_pos (.inl q1)])

    have r0 := R1.out.cell 0
    have r1 := R1.out.cell 1
    have zr := R1.out.lt
    have rf0 := R1.out.frozen 0
    have rf1 := R1.out.frozen 1
    simp at r0 r1
    go_wp2
    refine bodyPost_ret (v := .tuple #[.agg #[.slice none 0 0, .slice none 0 0], .int .i64 2]) (by simp [results, Try.results31, go_sem, *]) rfl ⟨.inl ⟨?_, ?_⟩, ?_⟩
    · rw [EV.out]; decide
    · rw [EV.out]
    · have bb := B1.out
      exact Below.setCell (Below.setCell bb (by first | omega | (simp; done) | (simp; omega)) _) (by first | omega | (simp; done) | (simp; omega)) _
  have g1 : decide (x < 0) = false := decide_eq_false q1
  by_cases q2 : (LK : Int) < x
  · have g2 : decide ((LK : Int) < x) = true := decide_eq_true q2
    have EV := Lib.hid (show linkE d (k : Nat) (d.g k) (t : Nat) (d.g t) x = 2 by unfold linkE; rw [if_pos HY.out]; unfold linkH; rw [if_pos (.inr (by simp only [Int.toNat_natCast]; rw [HLK.out]; exact q2))])
    have r0 := R1.out.cell 0
    have r1 := R1.out.cell 1
    have zr := R1.out.lt
    have rf0 := R1.out.frozen 0
    have rf1 := R1.out.frozen 1
    simp at r0 r1
    go_wp2
    refine bodyPost_ret (v := .tuple #[.agg #[.slice none 0 0, .slice none 0 0], .int .i64 2]) (by simp [results, Try.results31, go_sem, *]) rfl ⟨.inl ⟨?_, ?_⟩, ?_⟩
    · rw [EV.out]; decide
    · rw [EV.out]
    · have bb := B1.out
      exact Below.setCell (Below.setCell bb (by first | omega | (simp; done) | (simp; omega)) _) (by first | omega | (simp; done) | (simp; omega)) _
  have g2 : decide ((LK : Int) < x) = false := decide_eq_false q2
  obtain ⟨a, rfl⟩ := Int.eq_ofNat_of_zero_le (show 0 ≤ x by omega)
  have ha : a ≤ LK := by omega
  by_cases q3 : LK = 16
  · have g3 : decide ((16 : Int) ≤ (LK : Int)) = true := decide_eq_true (by omega)
    have g3' : (16 : Int) ≤ (LK : Int) := by omega
    have EV := Lib.hid (show linkE d (k : Nat) (d.g k) (t : Nat) (d.g t) (a : Nat) = 9 by
      unfold linkE
      rw [if_pos HY.out]
      unfold linkH
      simp only [Int.toNat_natCast]
      rw [if_neg (by rw [HLK.out]; omega), if_pos (HLK.out.trans q3)])
    clear q3
    have r0 := R1.out.cell 0
    have r1 := R1.out.cell 1
    have zr := R1.out.lt
    have rf0 := R1.out.frozen 0
    have rf1 := R1.out.frozen 1
    simp at r0 r1
    go_wp2
    refine bodyPost_ret (v := .tuple #[.agg #[.slice none 0 0, .slice none 0 0], .int .i64 9]) (by simp [results, Try.results31, go_sem, *]) rfl ⟨.inl ⟨?_, ?_⟩, ?_⟩
    · rw [EV.out]; decide
    · rw [EV.out]
    · have bb := B1.out
      exact Below.setCell (Below.setCell bb (by first | omega | (simp; done) | (simp; omega)) _) (by first | omega | (simp; done) | (simp; omega)) _
  have hl16 : LK ≤ 16 := by
    have := (MAY.out.2.2.1 k KI.out.2).1
    rw [HLK.out] at this
    exact this
  have g3 : decide ((16 : Int) ≤ (LK : Int)) = false := decide_eq_false (by omega)
  have g3' : ¬ (16 : Int) ≤ (LK : Int) := by omega
  have Q3 := Lib.hid q3
  clear q3
  have j0 := J1.out.cell 0
  have zj := J1.out.lt
  simp at j0
  have KX := Lib.hid (refbelow_any d ⟨A, c, some ⟨gk, ok, none⟩, kc, KA, KC⟩ MAY.out.kids Sm.out t w1 TI.out (OKA.out.below B1.out))
  have HCP := Lib.hid hcp
  clear hcp
  go_wp2_with fail
  refine KX.out.mono ?_
  rintro e w2 ⟨⟨X, bq, rfl, hX, hXB, hbq⟩, bel⟩
  have hcp := HCP.out
  have B2 := Lib.hid (B1.out.trans (bel.mono B1.out.size))
  have P2 := Lib.hid (P1.out.below bel)
  clear P1
  have H2 := Lib.hid (H1.out.below bel)
  clear H1
  have J2 := Lib.hid (J1.out.below bel)
  clear J1
  have R2 := Lib.hid (R1.out.below bel)
  clear R1
  clear p0 p1 zp h0 h1 zh
  clear j0 zj KX bel g1 g2 g3 g3' k0
  have bk := hX.cell k
  have zX := hX.lt
  have hXc : (bls bq d.m)[k]? = some (.bool (bq k)) := bls_at KI.out.2
  rw [hXc] at bk
  have hb := hbq k KI.out.1
  rw [hb] at bk
  clear hX hbq hXc hXB hb
  have h0 := H2.out.cell 0
  have h1 := H2.out.cell 1
  have zh := H2.out.lt
  simp at h0 h1
  by_cases q4 : d.E.reachB t k = true
  · rw [q4] at bk
    have EV := Lib.hid (show linkE d (k : Nat) (d.g k) (t : Nat) (d.g t) (a : Nat) = 60 by
      unfold linkE
      rw [if_pos HY.out]
      unfold linkH
      simp only [Int.toNat_natCast]
      rw [if_neg (by rw [HLK.out]; omega), if_neg (by rw [HLK.out]; exact Q3.out), if_pos q4])
    clear q4
    have r0 := R2.out.cell 0
    have r1 := R2.out.cell 1
    have zr := R2.out.lt
    have rf0 := R2.out.frozen 0
    have rf1 := R2.out.frozen 1
    simp at r0 r1
    go_wp2
    refine bodyPost_ret (v := .tuple #[.agg #[.slice none 0 0, .slice none 0 0], .int .i64 60]) (by simp [results, Try.results31, go_sem, *]) rfl ⟨.inl ⟨?_, ?_⟩, ?_⟩
    · rw [EV.out]; decide
    · rw [EV.out]
    · have bb := B2.out
      exact Below.setCell (Below.setCell bb (by first | omega | (simp; done) | (simp; omega)) _) (by first | omega | (simp; done) | (simp; omega)) _
  rw [Bool.not_eq_true] at q4
  rw [q4] at bk
  have EV := Lib.hid (show linkE d (k : Nat) (d.g k) (t : Nat) (d.g t) (a : Nat) = 0 by
    unfold linkE
    rw [if_pos HY.out]
    unfold linkH
    simp only [Int.toNat_natCast]
    rw [if_neg (by rw [HLK.out]; omega), if_neg (by rw [HLK.out]; exact Q3.out), if_neg (by rw [q4]; decide)])
  clear q4
  have p0 := P2.out.cell 0
  have p1 := P2.out.cell 1
  have zp := P2.out.lt
  simp at p0 p1
  have KX := Lib.hid (reftwing_any d ⟨A, c, some ⟨gk, ok, none⟩, kc, KA, KC⟩ Sm.out w2 (OKA.out.below B2.out))
  go_wp2_with fail
  refine KX.out.mono ?_
  rintro e w3 ⟨⟨v, rfl, po, rfl, ho⟩, bel⟩
  have B3 := Lib.hid (B2.out.trans (bel.mono B2.out.size))
  have zb4 : (w.heap.size + 1 + 1 + 1 + 1) ≤ w2.heap.size := by have := R2.out.lt; omega
  have GO := Lib.hid (ho.base zb4)
  have P3 := Lib.hid (P2.out.below bel)
  clear P2
  have H3 := Lib.hid (H2.out.below bel)
  clear H2
  have J3 := Lib.hid (J2.out.below bel)
  clear J2
  have R3 := Lib.hid (R2.out.below bel)
  clear R2
  clear p0 p1 zp h0 h1 zh
  clear bel KX ho zb4 bk zX
  obtain ⟨tA, tc, tK, tkc, KA', KC'⟩ := po
  dsimp only
  go_upto_region 14 with fail
  have bA := (Below.refl w3.heap.size w3).alloc (Nat.le_refl _) (.cells #[.slice tA d.n tc, .slice tK d.m tkc] 27)
  have Q4 := Lib.hid (show HasBlk (w3.alloc (.cells #[.slice tA d.n tc, .slice tK d.m tkc] 27)) w3.heap.size 27 #[.slice tA d.n tc, .slice tK d.m tkc] from hasBlk_new w3 27 _)
  have zp := R3.out.lt
  have P4 := Lib.hid (P3.out.below bA)
  clear P3
  have H4 := Lib.hid (H3.out.below bA)
  clear H3
  have J4 := Lib.hid (J3.out.below bA)
  clear J3
  have R4 := Lib.hid (R3.out.below bA)
  clear R3
  have GO4 := Lib.hid (GO.out.below bA)
  have B4 := Lib.hid (B3.out.trans (bA.mono B3.out.size))
  obtain ⟨pb, hpb⟩ : ∃ pb, pb = w3.heap.size := ⟨_, rfl⟩
  rw [← hpb] at Q4 zp ⊢
  clear bA GO hpb
  generalize (w3.alloc (.cells #[.slice tA d.n tc, .slice tK d.m tkc] 27)) = v5 at *
  have ZP := Lib.hid zp
  clear zp
  have RK4 := Lib.hid (RK'.out.below B4.out)
  obtain ⟨i0', hi0, hz0, hz1, hz2⟩ := info_parts hdl_info
  obtain ⟨i0, hi00⟩ : ∃ i0, i0 = i0' := ⟨_, rfl⟩
  rw [← hi00] at hi0 hz0 hz1 hz2
  clear hi00
  have zz := ZP.out
  have zP4 := P4.out.lt
  obtain ⟨hlc, hkn⟩ := hcp
  by_cases hL0 : LK = 0
  · obtain rfl : a = 0 := by omega
    subst hL0
    cases kA with
    | none =>
      obtain rfl : kC = 0 := hkn rfl
      clear hkn
      have b5 := Lib.hid (Below.refl v5.heap.size v5)
      go_upto_region 15 with (at_builtin; refine wpList_app rfl (.tmp 54) (.tmp 57) 32 rfl v5.heap.size 29 i0 _ 2 16 Try.underlying32 hi0 hz0 hz1 hz2 rfl (by omega) none 0 (0) ([]) rfl (own_nil _ _ _ _) _ _ _ ([]) rfl rfl (fun h => absurd h (by decide)) (fun u hu => absurd hu (by simp)) (by unfold maxLen; omega) (by omega) (by omega) ?_; intro A1 c1 w6 hown6 hgr6; simp only [Nat.zero_add, List.nil_append] at hown6 ⊢)
      have b6 := Lib.hid (below_grown (v := .slice none 0 0) (base := v5.heap.size) b5.out hgr6 (own_nil _ _ 29 2) (Nat.le_refl _) b5.out.size)
      clear hgr6
      have z6 := b6.out.size
      have J6 := Lib.hid (J4.out.below b6.out)
      have j0 := J6.out.cell 0
      have j1 := J6.out.cell 1
      have zj := J6.out.lt
      simp at j0 j1
      have hnew : (w6.alloc (.cells #[.int .i64 t, .int .i64 (d.g t)] 29)).heap[w6.heap.size]? = some (.cells #[.int .i64 t, .int .i64 (d.g t)] 29 (0, 0)) := heap_alloc_new _ _
      go_upto_region 16 with (at_builtin; refine wpList_append_lies _ rfl (.tmp 59) (.tmp 61) _ rfl v5.heap.size 29 i0 _ 2 16 Try.underlying32 hi0 hz0 hz1 hz2 rfl (by omega) (.slice A1 0 c1) (0) ([]) rfl (hown6.alloc _) ⟨w6.heap.size, 0, none⟩ 1 1 [.int .i64 t, .int .i64 (d.g t)] (by rfl) rfl (World.news_of_block (cs := #[.int .i64 t, .int .i64 (d.g t)]) (t := 29) (fr := (0, 0)) hnew) (by simp [Value.oneCell']) (by omega) (by unfold maxLen; omega) (by omega) (by simp; omega) (w6.heap.size + 1) (by simp) ?_; intro g7 c7 w7 hown7 hgr7 hat7 hlt7)
      have b7 := Lib.hid (below_grown (v := .slice A1 0 c1) (b6.out.alloc b6.out.size (.cells #[.int .i64 t, .int .i64 (d.g t)] 29)) hgr7 (hown6.alloc _) (Nat.le_refl _) (by have := b6.out.size; simp; omega))
      clear j0 j1 zj hgr7 hat7 hlt7 hnew hown6 z6 J6
      have z7 := b7.out.size
      go_upto_region 17 with (at_builtin; refine wpList_app rfl (.tmp 63) (.tmp 66) 32 rfl v5.heap.size 29 i0 _ 2 16 Try.underlying32 hi0 hz0 hz1 hz2 rfl (by omega) (some ⟨g7, 0, none⟩) c7 (1) ([.int .i64 t, .int .i64 (d.g t)]) rfl (hown7) _ _ _ ([]) rfl rfl (fun h => absurd h (by decide)) (fun u hu => absurd hu (by simp)) (by unfold maxLen; omega) (by omega) (by omega) ?_; intro A8 c8 w8 hown8 hgr8)
      have b8 := Lib.hid (below_grown (v := .slice (some ⟨g7, 0, none⟩) 1 c7) (base := v5.heap.size) b7.out hgr8 (hown7) (Nat.le_refl _) b7.out.size)
      clear hgr8 hown7 z7 b7 b6
      simp only [List.append_nil, Nat.add_zero] at hown8 ⊢
      have h8 := (show w8.ownsRow v5.heap.size 29 2 (.slice A8 1 c8) 1 (cellsR 2 (hv (insF (d.S k) 0 t) (insF (d.Q k) 0 (d.g t))) 1) from hown8)
      clear hown8
      have hown8 := h8
      clear h8
      have bel := b8.out
      have GO8 := Lib.hid (GO4.out.below bel)
      have Q8 := Lib.hid (Q4.out.below bel)
      have H8 := Lib.hid (H4.out.below bel)
      have R8 := Lib.hid (R4.out.below bel)
      have B8 := Lib.hid (B4.out.trans (bel.mono B4.out.size))
      have zB : (w.heap.size + 1 + 1 + 1 + 1) ≤ v5.heap.size := by have := R4.out.lt; omega
      obtain ⟨gK, e7, gB, lt7, hf7⟩ := own_some GO8.out.ks (show 0 < d.m by have := KI.out.2; omega)
      dsimp only at e7
      subst e7
      have f7 := hf7 k
      have c0 : w8.cell? ⟨gK, k, none⟩ = some (.slice (KA' k) (d.L k) (KC' k)) := by
        obtain ⟨g', o', hA', _, hc'⟩ := GO8.out.ok.ks (by have := KI.out.2; omega)
        cases hA'
        simpa [kv] using hc' k KI.out.2 0 (by omega)
      have npb : pb ≠ gK := fun e => by
        subst e
        exact (Q8.out.ne_own GO8.out.ks (by decide)) rfl
      have GF := Lib.hid (show GOwn (w.heap.size + 1 + 1 + 1 + 1) (w8.setCell ⟨gK, k, none⟩ (.slice A8 (1) c8)) ⟨tA, tc, some ⟨gK, 0, none⟩, tkc, upd KA' k A8, upd KC' k c8⟩ ⟨d.n, d.g, d.b, d.m, upd d.L k 1, fun i => if i = k then insF (d.S k) 0 t else d.S i, fun i => if i = k then insF (d.Q k) 0 (d.g t) else d.Q i⟩ from GOwn.put (w := v5) (S' := insF (d.S k) 0 t) (Q' := insF (d.Q k) 0 (d.g t)) GO4.out KI.out.2 rfl (gb_below bel _) (own_base hown8 zB) (own_fresh hown8))
      have hkm2 := KI.out.2
      have h0 := H8.out.cell 0
      have h1 := H8.out.cell 1
      have zh := H8.out.lt
      simp at h0 h1
      have q1 := Q8.out.cell 1
      have zq := Q8.out.lt
      simp at q1
      clear bel hown8 zB GO8 GO4 Q4 H4 R4 B4 P4 J4 b8 hf7
      go_upto_region 18 with fail
      have QF := Lib.hid (Q8.out.far (p := ⟨gK, k, none⟩) (by simp; omega) (.slice A8 (1) c8))
      have RF := Lib.hid (R8.out.far (p := ⟨gK, k, none⟩) (by simp; omega) (.slice A8 (1) c8))
      have BF := Lib.hid (Below.setCell (p := ⟨gK, k, none⟩) B8.out (by simp; omega) (.slice A8 (1) c8))
      clear q1 zq c0 f7 lt7 npb Q8 R8 B8 H8 hkm2
      clear h0 h1 zh
      generalize (w8.setCell ⟨gK, k, none⟩ (.slice A8 (1) c8)) = vF at *
      have q0 := QF.out.cell 0
      have q1 := QF.out.cell 1
      have zq := QF.out.lt
      have zz := ZP.out
      simp at q0 q1
      have r0 := RF.out.cell 0
      have r1 := RF.out.cell 1
      have zr := RF.out.lt
      have rf0 := RF.out.frozen 0
      have rf1 := RF.out.frozen 1
      simp at r0 r1
      go_wp2
      refine bodyPost_ret (v := .tuple #[.agg #[.slice tA d.n tc, .slice (some ⟨gK, 0, none⟩) d.m tkc], .int .i64 0]) (by simp [results, Try.results31, go_sem, *]) rfl ⟨.inr ⟨EV.out, ⟨tA, tc, some ⟨gK, 0, none⟩, tkc, upd KA' k A8, upd KC' k c8⟩, rfl, ?_⟩, ?_⟩
      · have e : ⟨d.n, d.g, d.b, d.m, upd d.L k 1, fun i => if i = k then insF (d.S k) 0 t else d.S i, fun i => if i = k then insF (d.Q k) 0 (d.g t) else d.Q i⟩ = (d.link k 0 t (d.g t)) := by unfold GD.link; rw [HLK.out]
        have g := GF.out
        rw [e] at g
        exact ((g.lset (by omega) _).lset (by omega) _).base (by omega)
      · have bb := BF.out
        exact Below.setCell (Below.setCell bb (by first | omega | (simp; done) | (simp; omega)) _) (by first | omega | (simp; done) | (simp; omega)) _
    | some ad =>
      clear hkn
      by_cases hkc : kC = 0
      · subst hkc
        have b5 := Lib.hid (Below.refl v5.heap.size v5)
        go_upto_region 15 with (at_builtin; refine wpList_app rfl (.tmp 54) (.tmp 57) 32 rfl v5.heap.size 29 i0 _ 2 16 Try.underlying32 hi0 hz0 hz1 hz2 rfl (by omega) none 0 (0) ([]) rfl (own_nil _ _ _ _) _ _ _ ([]) rfl rfl (fun h => absurd h (by decide)) (fun u hu => absurd hu (by simp)) (by unfold maxLen; omega) (by omega) (by omega) ?_; intro A1 c1 w6 hown6 hgr6; simp only [Nat.zero_add, List.nil_append] at hown6 ⊢)
        have b6 := Lib.hid (below_grown (v := .slice none 0 0) (base := v5.heap.size) b5.out hgr6 (own_nil _ _ 29 2) (Nat.le_refl _) b5.out.size)
        clear hgr6
        have z6 := b6.out.size
        have J6 := Lib.hid (J4.out.below b6.out)
        have j0 := J6.out.cell 0
        have j1 := J6.out.cell 1
        have zj := J6.out.lt
        simp at j0 j1
        have hnew : (w6.alloc (.cells #[.int .i64 t, .int .i64 (d.g t)] 29)).heap[w6.heap.size]? = some (.cells #[.int .i64 t, .int .i64 (d.g t)] 29 (0, 0)) := heap_alloc_new _ _
        go_upto_region 16 with (at_builtin; refine wpList_append_lies _ rfl (.tmp 59) (.tmp 61) _ rfl v5.heap.size 29 i0 _ 2 16 Try.underlying32 hi0 hz0 hz1 hz2 rfl (by omega) (.slice A1 0 c1) (0) ([]) rfl (hown6.alloc _) ⟨w6.heap.size, 0, none⟩ 1 1 [.int .i64 t, .int .i64 (d.g t)] (by rfl) rfl (World.news_of_block (cs := #[.int .i64 t, .int .i64 (d.g t)]) (t := 29) (fr := (0, 0)) hnew) (by simp [Value.oneCell']) (by omega) (by unfold maxLen; omega) (by omega) (by simp; omega) (w6.heap.size + 1) (by simp) ?_; intro g7 c7 w7 hown7 hgr7 hat7 hlt7)
        have b7 := Lib.hid (below_grown (v := .slice A1 0 c1) (b6.out.alloc b6.out.size (.cells #[.int .i64 t, .int .i64 (d.g t)] 29)) hgr7 (hown6.alloc _) (Nat.le_refl _) (by have := b6.out.size; simp; omega))
        clear j0 j1 zj hgr7 hat7 hlt7 hnew hown6 z6 J6
        have z7 := b7.out.size
        go_upto_region 17 with (at_builtin; refine wpList_app rfl (.tmp 63) (.tmp 66) 32 rfl v5.heap.size 29 i0 _ 2 16 Try.underlying32 hi0 hz0 hz1 hz2 rfl (by omega) (some ⟨g7, 0, none⟩) c7 (1) ([.int .i64 t, .int .i64 (d.g t)]) rfl (hown7) _ _ _ ([]) rfl rfl (fun h => absurd h (by decide)) (fun u hu => absurd hu (by simp)) (by unfold maxLen; omega) (by omega) (by omega) ?_; intro A8 c8 w8 hown8 hgr8)
        have b8 := Lib.hid (below_grown (v := .slice (some ⟨g7, 0, none⟩) 1 c7) (base := v5.heap.size) b7.out hgr8 (hown7) (Nat.le_refl _) b7.out.size)
        clear hgr8 hown7 z7 b7 b6
        simp only [List.append_nil, Nat.add_zero] at hown8 ⊢
        have h8 := (show w8.ownsRow v5.heap.size 29 2 (.slice A8 1 c8) 1 (cellsR 2 (hv (insF (d.S k) 0 t) (insF (d.Q k) 0 (d.g t))) 1) from hown8)
        clear hown8
        have hown8 := h8
        clear h8
        have bel := b8.out
        have GO8 := Lib.hid (GO4.out.below bel)
        have Q8 := Lib.hid (Q4.out.below bel)
        have H8 := Lib.hid (H4.out.below bel)
        have R8 := Lib.hid (R4.out.below bel)
        have B8 := Lib.hid (B4.out.trans (bel.mono B4.out.size))
        have zB : (w.heap.size + 1 + 1 + 1 + 1) ≤ v5.heap.size := by have := R4.out.lt; omega
        obtain ⟨gK, e7, gB, lt7, hf7⟩ := own_some GO8.out.ks (show 0 < d.m by have := KI.out.2; omega)
        dsimp only at e7
        subst e7
        have f7 := hf7 k
        have c0 : w8.cell? ⟨gK, k, none⟩ = some (.slice (KA' k) (d.L k) (KC' k)) := by
          obtain ⟨g', o', hA', _, hc'⟩ := GO8.out.ok.ks (by have := KI.out.2; omega)
          cases hA'
          simpa [kv] using hc' k KI.out.2 0 (by omega)
        have npb : pb ≠ gK := fun e => by
          subst e
          exact (Q8.out.ne_own GO8.out.ks (by decide)) rfl
        have GF := Lib.hid (show GOwn (w.heap.size + 1 + 1 + 1 + 1) (w8.setCell ⟨gK, k, none⟩ (.slice A8 (1) c8)) ⟨tA, tc, some ⟨gK, 0, none⟩, tkc, upd KA' k A8, upd KC' k c8⟩ ⟨d.n, d.g, d.b, d.m, upd d.L k 1, fun i => if i = k then insF (d.S k) 0 t else d.S i, fun i => if i = k then insF (d.Q k) 0 (d.g t) else d.Q i⟩ from GOwn.put (w := v5) (S' := insF (d.S k) 0 t) (Q' := insF (d.Q k) 0 (d.g t)) GO4.out KI.out.2 rfl (gb_below bel _) (own_base hown8 zB) (own_fresh hown8))
        have hkm2 := KI.out.2
        have h0 := H8.out.cell 0
        have h1 := H8.out.cell 1
        have zh := H8.out.lt
        simp at h0 h1
        have q1 := Q8.out.cell 1
        have zq := Q8.out.lt
        simp at q1
        clear bel hown8 zB GO8 GO4 Q4 H4 R4 B4 P4 J4 b8 hf7
        go_upto_region 18 with fail
        have QF := Lib.hid (Q8.out.far (p := ⟨gK, k, none⟩) (by simp; omega) (.slice A8 (1) c8))
        have RF := Lib.hid (R8.out.far (p := ⟨gK, k, none⟩) (by simp; omega) (.slice A8 (1) c8))
        have BF := Lib.hid (Below.setCell (p := ⟨gK, k, none⟩) B8.out (by simp; omega) (.slice A8 (1) c8))
        clear q1 zq c0 f7 lt7 npb Q8 R8 B8 H8 hkm2
        clear h0 h1 zh
        generalize (w8.setCell ⟨gK, k, none⟩ (.slice A8 (1) c8)) = vF at *
        have q0 := QF.out.cell 0
        have q1 := QF.out.cell 1
        have zq := QF.out.lt
        have zz := ZP.out
        simp at q0 q1
        have r0 := RF.out.cell 0
        have r1 := RF.out.cell 1
        have zr := RF.out.lt
        have rf0 := RF.out.frozen 0
        have rf1 := RF.out.frozen 1
        simp at r0 r1
        go_wp2
        refine bodyPost_ret (v := .tuple #[.agg #[.slice tA d.n tc, .slice (some ⟨gK, 0, none⟩) d.m tkc], .int .i64 0]) (by simp [results, Try.results31, go_sem, *]) rfl ⟨.inr ⟨EV.out, ⟨tA, tc, some ⟨gK, 0, none⟩, tkc, upd KA' k A8, upd KC' k c8⟩, rfl, ?_⟩, ?_⟩
        · have e : ⟨d.n, d.g, d.b, d.m, upd d.L k 1, fun i => if i = k then insF (d.S k) 0 t else d.S i, fun i => if i = k then insF (d.Q k) 0 (d.g t) else d.Q i⟩ = (d.link k 0 t (d.g t)) := by unfold GD.link; rw [HLK.out]
          have g := GF.out
          rw [e] at g
          exact ((g.lset (by omega) _).lset (by omega) _).base (by omega)
        · have bb := BF.out
          exact Below.setCell (Below.setCell bb (by first | omega | (simp; done) | (simp; omega)) _) (by first | omega | (simp; done) | (simp; omega)) _
      · have hkc' : ¬ kC = 0 := hkc
        have b5 := Lib.hid (Below.refl v5.heap.size v5)
        go_upto_region 15 with (at_builtin; refine wpList_app rfl (.tmp 54) (.tmp 57) 32 rfl v5.heap.size 29 i0 _ 2 16 Try.underlying32 hi0 hz0 hz1 hz2 rfl (by omega) none 0 (0) ([]) rfl (own_nil _ _ _ _) _ _ _ ([]) rfl rfl (fun h => absurd h (by decide)) (fun u hu => absurd hu (by simp)) (by unfold maxLen; omega) (by omega) (by omega) ?_; intro A1 c1 w6 hown6 hgr6; simp only [Nat.zero_add, List.nil_append] at hown6 ⊢)
        have b6 := Lib.hid (below_grown (v := .slice none 0 0) (base := v5.heap.size) b5.out hgr6 (own_nil _ _ 29 2) (Nat.le_refl _) b5.out.size)
        clear hgr6
        have z6 := b6.out.size
        have J6 := Lib.hid (J4.out.below b6.out)
        have j0 := J6.out.cell 0
        have j1 := J6.out.cell 1
        have zj := J6.out.lt
        simp at j0 j1
        have hnew : (w6.alloc (.cells #[.int .i64 t, .int .i64 (d.g t)] 29)).heap[w6.heap.size]? = some (.cells #[.int .i64 t, .int .i64 (d.g t)] 29 (0, 0)) := heap_alloc_new _ _
        go_upto_region 16 with (at_builtin; refine wpList_append_lies _ rfl (.tmp 59) (.tmp 61) _ rfl v5.heap.size 29 i0 _ 2 16 Try.underlying32 hi0 hz0 hz1 hz2 rfl (by omega) (.slice A1 0 c1) (0) ([]) rfl (hown6.alloc _) ⟨w6.heap.size, 0, none⟩ 1 1 [.int .i64 t, .int .i64 (d.g t)] (by rfl) rfl (World.news_of_block (cs := #[.int .i64 t, .int .i64 (d.g t)]) (t := 29) (fr := (0, 0)) hnew) (by simp [Value.oneCell']) (by omega) (by unfold maxLen; omega) (by omega) (by simp; omega) (w6.heap.size + 1) (by simp) ?_; intro g7 c7 w7 hown7 hgr7 hat7 hlt7)
        have b7 := Lib.hid (below_grown (v := .slice A1 0 c1) (b6.out.alloc b6.out.size (.cells #[.int .i64 t, .int .i64 (d.g t)] 29)) hgr7 (hown6.alloc _) (Nat.le_refl _) (by have := b6.out.size; simp; omega))
        clear j0 j1 zj hgr7 hat7 hlt7 hnew hown6 z6 J6
        have z7 := b7.out.size
        go_upto_region 17 with (at_builtin; refine wpList_app rfl (.tmp 63) (.tmp 66) 32 rfl v5.heap.size 29 i0 _ 2 16 Try.underlying32 hi0 hz0 hz1 hz2 rfl (by omega) (some ⟨g7, 0, none⟩) c7 (1) ([.int .i64 t, .int .i64 (d.g t)]) rfl (hown7) _ _ _ ([]) rfl rfl (fun h => absurd h (by decide)) (fun u hu => absurd hu (by simp)) (by unfold maxLen; omega) (by omega) (by omega) ?_; intro A8 c8 w8 hown8 hgr8)
        have b8 := Lib.hid (below_grown (v := .slice (some ⟨g7, 0, none⟩) 1 c7) (base := v5.heap.size) b7.out hgr8 (hown7) (Nat.le_refl _) b7.out.size)
        clear hgr8 hown7 z7 b7 b6
        simp only [List.append_nil, Nat.add_zero] at hown8 ⊢
        have h8 := (show w8.ownsRow v5.heap.size 29 2 (.slice A8 1 c8) 1 (cellsR 2 (hv (insF (d.S k) 0 t) (insF (d.Q k) 0 (d.g t))) 1) from hown8)
        clear hown8
        have hown8 := h8
        clear h8
        have bel := b8.out
        have GO8 := Lib.hid (GO4.out.below bel)
        have Q8 := Lib.hid (Q4.out.below bel)
        have H8 := Lib.hid (H4.out.below bel)
        have R8 := Lib.hid (R4.out.below bel)
        have B8 := Lib.hid (B4.out.trans (bel.mono B4.out.size))
        have zB : (w.heap.size + 1 + 1 + 1 + 1) ≤ v5.heap.size := by have := R4.out.lt; omega
        obtain ⟨gK, e7, gB, lt7, hf7⟩ := own_some GO8.out.ks (show 0 < d.m by have := KI.out.2; omega)
        dsimp only at e7
        subst e7
        have f7 := hf7 k
        have c0 : w8.cell? ⟨gK, k, none⟩ = some (.slice (KA' k) (d.L k) (KC' k)) := by
          obtain ⟨g', o', hA', _, hc'⟩ := GO8.out.ok.ks (by have := KI.out.2; omega)
          cases hA'
          simpa [kv] using hc' k KI.out.2 0 (by omega)
        have npb : pb ≠ gK := fun e => by
          subst e
          exact (Q8.out.ne_own GO8.out.ks (by decide)) rfl
        have GF := Lib.hid (show GOwn (w.heap.size + 1 + 1 + 1 + 1) (w8.setCell ⟨gK, k, none⟩ (.slice A8 (1) c8)) ⟨tA, tc, some ⟨gK, 0, none⟩, tkc, upd KA' k A8, upd KC' k c8⟩ ⟨d.n, d.g, d.b, d.m, upd d.L k 1, fun i => if i = k then insF (d.S k) 0 t else d.S i, fun i => if i = k then insF (d.Q k) 0 (d.g t) else d.Q i⟩ from GOwn.put (w := v5) (S' := insF (d.S k) 0 t) (Q' := insF (d.Q k) 0 (d.g t)) GO4.out KI.out.2 rfl (gb_below bel _) (own_base hown8 zB) (own_fresh hown8))
        have hkm2 := KI.out.2
        have h0 := H8.out.cell 0
        have h1 := H8.out.cell 1
        have zh := H8.out.lt
        simp at h0 h1
        have q1 := Q8.out.cell 1
        have zq := Q8.out.lt
        simp at q1
        clear bel hown8 zB GO8 GO4 Q4 H4 R4 B4 P4 J4 b8 hf7
        go_upto_region 18 with fail
        have QF := Lib.hid (Q8.out.far (p := ⟨gK, k, none⟩) (by simp; omega) (.slice A8 (1) c8))
        have RF := Lib.hid (R8.out.far (p := ⟨gK, k, none⟩) (by simp; omega) (.slice A8 (1) c8))
        have BF := Lib.hid (Below.setCell (p := ⟨gK, k, none⟩) B8.out (by simp; omega) (.slice A8 (1) c8))
        clear q1 zq c0 f7 lt7 npb Q8 R8 B8 H8 hkm2
        clear h0 h1 zh
        generalize (w8.setCell ⟨gK, k, none⟩ (.slice A8 (1) c8)) = vF at *
        have q0 := QF.out.cell 0
        have q1 := QF.out.cell 1
        have zq := QF.out.lt
        have zz := ZP.out
        simp at q0 q1
        have r0 := RF.out.cell 0
        have r1 := RF.out.cell 1
        have zr := RF.out.lt
        have rf0 := RF.out.frozen 0
        have rf1 := RF.out.frozen 1
        simp at r0 r1
        go_wp2
        refine bodyPost_ret (v := .tuple #[.agg #[.slice tA d.n tc, .slice (some ⟨gK, 0, none⟩) d.m tkc], .int .i64 0]) (by simp [results, Try.results31, go_sem, *]) rfl ⟨.inr ⟨EV.out, ⟨tA, tc, some ⟨gK, 0, none⟩, tkc, upd KA' k A8, upd KC' k c8⟩, rfl, ?_⟩, ?_⟩
        · have e : ⟨d.n, d.g, d.b, d.m, upd d.L k 1, fun i => if i = k then insF (d.S k) 0 t else d.S i, fun i => if i = k then insF (d.Q k) 0 (d.g t) else d.Q i⟩ = (d.link k 0 t (d.g t)) := by unfold GD.link; rw [HLK.out]
          have g := GF.out
          rw [e] at g
          exact ((g.lset (by omega) _).lset (by omega) _).base (by omega)
        · have bb := BF.out
          exact Below.setCell (Below.setCell bb (by first | omega | (simp; done) | (simp; omega)) _) (by first | omega | (simp; done) | (simp; omega)) _
  clear hkn
  obtain ⟨gi, oi, hgi, _, _⟩ := RK'.out (by omega)
  subst hgi
  by_cases hkc : kC = a
  · have hkc2 := hkc.symm
    clear hkc
    subst hkc2
    have b5 := Lib.hid (Below.refl v5.heap.size v5)
    have NW1 := Lib.hid (((RK4.out.take (show a ≤ LK by omega))).news (by omega))
    have NW2 := Lib.hid (show ∀ W : World, 0 < LK - a → ∃ ad, some (⟨gi, oi, none⟩ : Addr) = some ad ∧ ∀ j u, (cellsR 2 (hv (fun i => d.S k (a + i)) (fun i => d.Q k (a + i))) (LK - a))[j]? = some u → W.cell? (ad.add j) = some u from fun W h => absurd h (by omega))
    go_upto_region 15 with (at_builtin; refine wpList_app rfl (.tmp 54) (.tmp 57) 32 rfl v5.heap.size 29 i0 _ 2 16 Try.underlying32 hi0 hz0 hz1 hz2 rfl (by omega) none 0 (0) ([]) rfl (own_nil _ _ _ _) (some ⟨gi, oi, none⟩) a a (cellsR 2 (hv (d.S k) (d.Q k)) a) rfl (cellsR_len 2 _ _) NW1.out (cellsR_one (hv_one _ _) _) (by unfold maxLen; omega) (by omega) (by omega) ?_; intro A1 c1 w6 hown6 hgr6; simp only [Nat.zero_add, List.nil_append] at hown6 ⊢)
    have b6 := Lib.hid (below_grown (v := .slice none 0 0) (base := v5.heap.size) b5.out hgr6 (own_nil _ _ 29 2) (Nat.le_refl _) b5.out.size)
    clear hgr6
    have z6 := b6.out.size
    have J6 := Lib.hid (J4.out.below b6.out)
    have j0 := J6.out.cell 0
    have j1 := J6.out.cell 1
    have zj := J6.out.lt
    simp at j0 j1
    have hnew : (w6.alloc (.cells #[.int .i64 t, .int .i64 (d.g t)] 29)).heap[w6.heap.size]? = some (.cells #[.int .i64 t, .int .i64 (d.g t)] 29 (0, 0)) := heap_alloc_new _ _
    go_upto_region 16 with (at_builtin; refine wpList_append_lies _ rfl (.tmp 59) (.tmp 61) _ rfl v5.heap.size 29 i0 _ 2 16 Try.underlying32 hi0 hz0 hz1 hz2 rfl (by omega) (.slice A1 a c1) (a) (cellsR 2 (hv (d.S k) (d.Q k)) a) rfl (hown6.alloc _) ⟨w6.heap.size, 0, none⟩ 1 1 [.int .i64 t, .int .i64 (d.g t)] (by rfl) rfl (World.news_of_block (cs := #[.int .i64 t, .int .i64 (d.g t)]) (t := 29) (fr := (0, 0)) hnew) (by simp [Value.oneCell']) (by omega) (by unfold maxLen; omega) (by omega) (by simp; omega) (w6.heap.size + 1) (by simp) ?_; intro g7 c7 w7 hown7 hgr7 hat7 hlt7)
    have b7 := Lib.hid (below_grown (v := .slice A1 a c1) (b6.out.alloc b6.out.size (.cells #[.int .i64 t, .int .i64 (d.g t)] 29)) hgr7 (hown6.alloc _) (Nat.le_refl _) (by have := b6.out.size; simp; omega))
    clear j0 j1 zj hgr7 hat7 hlt7 hnew hown6 z6 J6
    have z7 := b7.out.size
    go_upto_region 17 with (at_builtin; refine wpList_app rfl (.tmp 63) (.tmp 66) 32 rfl v5.heap.size 29 i0 _ 2 16 Try.underlying32 hi0 hz0 hz1 hz2 rfl (by omega) (some ⟨g7, 0, none⟩) c7 ((a + 1)) (cellsR 2 (hv (d.S k) (d.Q k)) a ++ [.int .i64 t, .int .i64 (d.g t)]) rfl (hown7) _ 0 _ ([]) rfl rfl (fun h => absurd h (by decide)) (fun u hu => absurd hu (by simp)) (by unfold maxLen; omega) (by omega) (by omega) ?_; intro A8 c8 w8 hown8 hgr8)
    have b8 := Lib.hid (below_grown (v := .slice (some ⟨g7, 0, none⟩) (a + 1) c7) (base := v5.heap.size) b7.out hgr8 (hown7) (Nat.le_refl _) b7.out.size)
    clear hgr8 hown7 z7 b7 b6
    simp only [List.append_nil, Nat.add_zero] at hown8 ⊢
    rw [ins_end] at hown8
    have bel := b8.out
    have GO8 := Lib.hid (GO4.out.below bel)
    have Q8 := Lib.hid (Q4.out.below bel)
    have H8 := Lib.hid (H4.out.below bel)
    have R8 := Lib.hid (R4.out.below bel)
    have B8 := Lib.hid (B4.out.trans (bel.mono B4.out.size))
    have zB : (w.heap.size + 1 + 1 + 1 + 1) ≤ v5.heap.size := by have := R4.out.lt; omega
    obtain ⟨gK, e7, gB, lt7, hf7⟩ := own_some GO8.out.ks (show 0 < d.m by have := KI.out.2; omega)
    dsimp only at e7
    subst e7
    have f7 := hf7 k
    have c0 : w8.cell? ⟨gK, k, none⟩ = some (.slice (KA' k) (d.L k) (KC' k)) := by
      obtain ⟨g', o', hA', _, hc'⟩ := GO8.out.ok.ks (by have := KI.out.2; omega)
      cases hA'
      simpa [kv] using hc' k KI.out.2 0 (by omega)
    have npb : pb ≠ gK := fun e => by
      subst e
      exact (Q8.out.ne_own GO8.out.ks (by decide)) rfl
    have GF := Lib.hid (show GOwn (w.heap.size + 1 + 1 + 1 + 1) (w8.setCell ⟨gK, k, none⟩ (.slice A8 ((a + 1)) c8)) ⟨tA, tc, some ⟨gK, 0, none⟩, tkc, upd KA' k A8, upd KC' k c8⟩ ⟨d.n, d.g, d.b, d.m, upd d.L k (a + 1), fun i => if i = k then insF (d.S k) a t else d.S i, fun i => if i = k then insF (d.Q k) a (d.g t) else d.Q i⟩ from GOwn.put (w := v5) (S' := insF (d.S k) a t) (Q' := insF (d.Q k) a (d.g t)) GO4.out KI.out.2 rfl (gb_below bel _) (own_base hown8 zB) (own_fresh hown8))
    have hkm2 := KI.out.2
    have h0 := H8.out.cell 0
    have h1 := H8.out.cell 1
    have zh := H8.out.lt
    simp at h0 h1
    have q1 := Q8.out.cell 1
    have zq := Q8.out.lt
    simp at q1
    clear bel hown8 zB GO8 GO4 Q4 H4 R4 B4 P4 J4 b8 hf7
    go_upto_region 18 with fail
    have QF := Lib.hid (Q8.out.far (p := ⟨gK, k, none⟩) (by simp; omega) (.slice A8 ((a + 1)) c8))
    have RF := Lib.hid (R8.out.far (p := ⟨gK, k, none⟩) (by simp; omega) (.slice A8 ((a + 1)) c8))
    have BF := Lib.hid (Below.setCell (p := ⟨gK, k, none⟩) B8.out (by simp; omega) (.slice A8 ((a + 1)) c8))
    clear q1 zq c0 f7 lt7 npb Q8 R8 B8 H8 hkm2
    clear h0 h1 zh
    generalize (w8.setCell ⟨gK, k, none⟩ (.slice A8 ((a + 1)) c8)) = vF at *
    have q0 := QF.out.cell 0
    have q1 := QF.out.cell 1
    have zq := QF.out.lt
    have zz := ZP.out
    simp at q0 q1
    have r0 := RF.out.cell 0
    have r1 := RF.out.cell 1
    have zr := RF.out.lt
    have rf0 := RF.out.frozen 0
    have rf1 := RF.out.frozen 1
    simp at r0 r1
    go_wp2
    refine bodyPost_ret (v := .tuple #[.agg #[.slice tA d.n tc, .slice (some ⟨gK, 0, none⟩) d.m tkc], .int .i64 0]) (by simp [results, Try.results31, go_sem, *]) rfl ⟨.inr ⟨EV.out, ⟨tA, tc, some ⟨gK, 0, none⟩, tkc, upd KA' k A8, upd KC' k c8⟩, rfl, ?_⟩, ?_⟩
    · have e : ⟨d.n, d.g, d.b, d.m, upd d.L k (a + 1), fun i => if i = k then insF (d.S k) a t else d.S i, fun i => if i = k then insF (d.Q k) a (d.g t) else d.Q i⟩ = (d.link k a t (d.g t)) := by unfold GD.link; rw [HLK.out, show LK = a by omega]
      have g := GF.out
      rw [e] at g
      exact ((g.lset (by omega) _).lset (by omega) _).base (by omega)
    · have bb := BF.out
      exact Below.setCell (Below.setCell bb (by first | omega | (simp; done) | (simp; omega)) _) (by first | omega | (simp; done) | (simp; omega)) _
  · have hkc' : ¬ kC = a := hkc
    have b5 := Lib.hid (Below.refl v5.heap.size v5)
    have NW1 := Lib.hid (((RK4.out.take (show a ≤ LK by omega))).news (by omega))
    have NW2 := Lib.hid (fun (W : World) (hb : Below v5.heap.size v5 W) => (((RK4.out.below hb).shift a).news (by omega)))
    go_upto_region 15 with (at_builtin; refine wpList_app rfl (.tmp 54) (.tmp 57) 32 rfl v5.heap.size 29 i0 _ 2 16 Try.underlying32 hi0 hz0 hz1 hz2 rfl (by omega) none 0 (0) ([]) rfl (own_nil _ _ _ _) (some ⟨gi, oi, none⟩) a kC (cellsR 2 (hv (d.S k) (d.Q k)) a) rfl (cellsR_len 2 _ _) NW1.out (cellsR_one (hv_one _ _) _) (by unfold maxLen; omega) (by omega) (by omega) ?_; intro A1 c1 w6 hown6 hgr6; simp only [Nat.zero_add, List.nil_append] at hown6 ⊢)
    have b6 := Lib.hid (below_grown (v := .slice none 0 0) (base := v5.heap.size) b5.out hgr6 (own_nil _ _ 29 2) (Nat.le_refl _) b5.out.size)
    clear hgr6
    have z6 := b6.out.size
    have J6 := Lib.hid (J4.out.below b6.out)
    have j0 := J6.out.cell 0
    have j1 := J6.out.cell 1
    have zj := J6.out.lt
    simp at j0 j1
    have hnew : (w6.alloc (.cells #[.int .i64 t, .int .i64 (d.g t)] 29)).heap[w6.heap.size]? = some (.cells #[.int .i64 t, .int .i64 (d.g t)] 29 (0, 0)) := heap_alloc_new _ _
    go_upto_region 16 with (at_builtin; refine wpList_append_lies _ rfl (.tmp 59) (.tmp 61) _ rfl v5.heap.size 29 i0 _ 2 16 Try.underlying32 hi0 hz0 hz1 hz2 rfl (by omega) (.slice A1 a c1) (a) (cellsR 2 (hv (d.S k) (d.Q k)) a) rfl (hown6.alloc _) ⟨w6.heap.size, 0, none⟩ 1 1 [.int .i64 t, .int .i64 (d.g t)] (by rfl) rfl (World.news_of_block (cs := #[.int .i64 t, .int .i64 (d.g t)]) (t := 29) (fr := (0, 0)) hnew) (by simp [Value.oneCell']) (by omega) (by unfold maxLen; omega) (by omega) (by simp; omega) (w6.heap.size + 1) (by simp) ?_; intro g7 c7 w7 hown7 hgr7 hat7 hlt7)
    have b7 := Lib.hid (below_grown (v := .slice A1 a c1) (b6.out.alloc b6.out.size (.cells #[.int .i64 t, .int .i64 (d.g t)] 29)) hgr7 (hown6.alloc _) (Nat.le_refl _) (by have := b6.out.size; simp; omega))
    clear j0 j1 zj hgr7 hat7 hlt7 hnew hown6 z6 J6
    have z7 := b7.out.size
    go_upto_region 17 with (at_builtin; refine wpList_app rfl (.tmp 63) (.tmp 66) 32 rfl v5.heap.size 29 i0 _ 2 16 Try.underlying32 hi0 hz0 hz1 hz2 rfl (by omega) (some ⟨g7, 0, none⟩) c7 ((a + 1)) (cellsR 2 (hv (d.S k) (d.Q k)) a ++ [.int .i64 t, .int .i64 (d.g t)]) rfl (hown7) (some ⟨gi, oi + a * 2, none⟩) (LK - a) (kC - a) (cellsR 2 (hv (fun i => d.S k (a + i)) (fun i => d.Q k (a + i))) (LK - a)) rfl (cellsR_len 2 _ _) (NW2.out w7 b7.out) (cellsR_one (hv_one _ _) _) (by unfold maxLen; omega) (by omega) (by omega) ?_; intro A8 c8 w8 hown8 hgr8)
    have b8 := Lib.hid (below_grown (v := .slice (some ⟨g7, 0, none⟩) (a + 1) c7) (base := v5.heap.size) b7.out hgr8 (hown7) (Nat.le_refl _) b7.out.size)
    clear hgr8 hown7 z7 b7 b6
    rw [ins_cat (show a ≤ LK by omega), show a + 1 + (LK - a) = LK + 1 by omega] at hown8
    rw [show a + 1 + (LK - a) = LK + 1 by omega]
    have bel := b8.out
    have GO8 := Lib.hid (GO4.out.below bel)
    have Q8 := Lib.hid (Q4.out.below bel)
    have H8 := Lib.hid (H4.out.below bel)
    have R8 := Lib.hid (R4.out.below bel)
    have B8 := Lib.hid (B4.out.trans (bel.mono B4.out.size))
    have zB : (w.heap.size + 1 + 1 + 1 + 1) ≤ v5.heap.size := by have := R4.out.lt; omega
    obtain ⟨gK, e7, gB, lt7, hf7⟩ := own_some GO8.out.ks (show 0 < d.m by have := KI.out.2; omega)
    dsimp only at e7
    subst e7
    have f7 := hf7 k
    have c0 : w8.cell? ⟨gK, k, none⟩ = some (.slice (KA' k) (d.L k) (KC' k)) := by
      obtain ⟨g', o', hA', _, hc'⟩ := GO8.out.ok.ks (by have := KI.out.2; omega)
      cases hA'
      simpa [kv] using hc' k KI.out.2 0 (by omega)
    have npb : pb ≠ gK := fun e => by
      subst e
      exact (Q8.out.ne_own GO8.out.ks (by decide)) rfl
    have GF := Lib.hid (show GOwn (w.heap.size + 1 + 1 + 1 + 1) (w8.setCell ⟨gK, k, none⟩ (.slice A8 ((LK + 1)) c8)) ⟨tA, tc, some ⟨gK, 0, none⟩, tkc, upd KA' k A8, upd KC' k c8⟩ ⟨d.n, d.g, d.b, d.m, upd d.L k (LK + 1), fun i => if i = k then insF (d.S k) a t else d.S i, fun i => if i = k then insF (d.Q k) a (d.g t) else d.Q i⟩ from GOwn.put (w := v5) (S' := insF (d.S k) a t) (Q' := insF (d.Q k) a (d.g t)) GO4.out KI.out.2 rfl (gb_below bel _) (own_base hown8 zB) (own_fresh hown8))
    have hkm2 := KI.out.2
    have h0 := H8.out.cell 0
    have h1 := H8.out.cell 1
    have zh := H8.out.lt
    simp at h0 h1
    have q1 := Q8.out.cell 1
    have zq := Q8.out.lt
    simp at q1
    clear bel hown8 zB GO8 GO4 Q4 H4 R4 B4 P4 J4 b8 hf7
    go_upto_region 18 with fail
    have QF := Lib.hid (Q8.out.far (p := ⟨gK, k, none⟩) (by simp; omega) (.slice A8 ((LK + 1)) c8))
    have RF := Lib.hid (R8.out.far (p := ⟨gK, k, none⟩) (by simp; omega) (.slice A8 ((LK + 1)) c8))
    have BF := Lib.hid (Below.setCell (p := ⟨gK, k, none⟩) B8.out (by simp; omega) (.slice A8 ((LK + 1)) c8))
    clear q1 zq c0 f7 lt7 npb Q8 R8 B8 H8 hkm2
    clear h0 h1 zh
    generalize (w8.setCell ⟨gK, k, none⟩ (.slice A8 ((LK + 1)) c8)) = vF at *
    have q0 := QF.out.cell 0
    have q1 := QF.out.cell 1
    have zq := QF.out.lt
    have zz := ZP.out
    simp at q0 q1
    have r0 := RF.out.cell 0
    have r1 := RF.out.cell 1
    have zr := RF.out.lt
    have rf0 := RF.out.frozen 0
    have rf1 := RF.out.frozen 1
    simp at r0 r1
    go_wp2
    refine bodyPost_ret (v := .tuple #[.agg #[.slice tA d.n tc, .slice (some ⟨gK, 0, none⟩) d.m tkc], .int .i64 0]) (by simp [results, Try.results31, go_sem, *]) rfl ⟨.inr ⟨EV.out, ⟨tA, tc, some ⟨gK, 0, none⟩, tkc, upd KA' k A8, upd KC' k c8⟩, rfl, ?_⟩, ?_⟩
    · have e : ⟨d.n, d.g, d.b, d.m, upd d.L k (LK + 1), fun i => if i = k then insF (d.S k) a t else d.S i, fun i => if i = k then insF (d.Q k) a (d.g t) else d.Q i⟩ = (d.link k a t (d.g t)) := by unfold GD.link; rw [HLK.out]
      have g := GF.out
      rw [e] at g
      exact ((g.lset (by omega) _).lset (by omega) _).base (by omega)
    · have bb := BF.out
      exact Below.setCell (Below.setCell bb (by first | omega | (simp; done) | (simp; omega)) _) (by first | omega | (simp; done) | (simp; omega)) _

set_option maxRecDepth 100000 in
set_option maxHeartbeats 16000000 in
theorem refunlinkg_any (d : GD) (p : GP) (hsm : d.Sm) (hcap : ∀ i, i < d.m → d.L i ≤ p.KC i ∧ (p.KA i = none → p.KC i = 0)) (s q x : Int) (w : World) (hok : GOk w p d) :
    Calls Try.prog 32 #[.agg #[.slice p.A d.n p.c, .slice p.K d.m p.kc], hval s q, .int .i64 x] w fun e w' => UnlinkR d s q x w.heap.size e w' ∧ Below w.heap.size w w' := by
  obtain ⟨A, c, K, kc, KA, KC⟩ := p
  dsimp only at hcap ⊢
  have b2 : Below w.heap.size w (((w.alloc (.cells #[.slice A d.n c, .slice K d.m kc] 27)).alloc (.cells #[.int .i64 s, .int .i64 q] 29)).alloc (.cells #[.slice none 0 0, .slice none 0 0] 27)) := by
    repeat' (first | exact Below.refl _ _ | assumption | apply Below.drew | refine Below.setCell ?_ (by first | omega | (simp; done) | (simp; omega)) _ | refine Below.alloc ?_ (by first | omega | (simp; done) | (simp; omega)) _)
  have OK := Lib.hid hok
  have Sm := Lib.hid hsm
  have CAP := Lib.hid hcap
  have B0 := Lib.hid b2
  have P0 := Lib.hid (show HasBlk (((w.alloc (.cells #[.slice A d.n c, .slice K d.m kc] 27)).alloc (.cells #[.int .i64 s, .int .i64 q] 29)).alloc (.cells #[.slice none 0 0, .slice none 0 0] 27)) (w.heap.size) 27 #[.slice A d.n c, .slice K d.m kc] by simpa using (((hasBlk_new w 27 #[.slice A d.n c, .slice K d.m kc]).alloc (.cells #[.int .i64 s, .int .i64 q] 29)).alloc (.cells #[.slice none 0 0, .slice none 0 0] 27)))
  have H0 := Lib.hid (show HasBlk (((w.alloc (.cells #[.slice A d.n c, .slice K d.m kc] 27)).alloc (.cells #[.int .i64 s, .int .i64 q] 29)).alloc (.cells #[.slice none 0 0, .slice none 0 0] 27)) (w.heap.size + 1) 29 #[.int .i64 s, .int .i64 q] by simpa using ((hasBlk_new (w.alloc (.cells #[.slice A d.n c, .slice K d.m kc] 27)) 29 #[.int .i64 s, .int .i64 q]).alloc (.cells #[.slice none 0 0, .slice none 0 0] 27)))
  have R0 := Lib.hid (show HasBlk (((w.alloc (.cells #[.slice A d.n c, .slice K d.m kc] 27)).alloc (.cells #[.int .i64 s, .int .i64 q] 29)).alloc (.cells #[.slice none 0 0, .slice none 0 0] 27)) (w.heap.size + 1 + 1) 27 #[.slice none 0 0, .slice none 0 0] by simpa using (hasBlk_new ((w.alloc (.cells #[.slice A d.n c, .slice K d.m kc] 27)).alloc (.cells #[.int .i64 s, .int .i64 q] 29)) 27 #[.slice none 0 0, .slice none 0 0]))
  have hc := refasked_any d _ hsm s q s q _ (hok.below b2)
  rw [askv_twice] at hc
  obtain ⟨y, hy⟩ : ∃ y, askv d (HeldA d.n d.g d.b s q) = y := ⟨_, rfl⟩
  rw [hy] at hc
  clear b2 hsm hcap
  by_cases hy0 : y = 0
  rotate_left
  · have y1 : (y == 0) = false := by simpa using hy0
    have y2 : (y != 0) = true := by simpa using hy0
    have HC := Lib.hid hc
    have X0 := Lib.hid hy0
    have EV := Lib.hid (show unlinkE d s q x = y by unfold unlinkE; rw [if_neg (by rw [hy]; exact hy0)]; exact hy)
    clear hy hy0 hc hok
    go_enter Try.func32, Try.ntmps32
    go_wp2_with fail
    refine HC.out.mono ?_
    rintro e w1 ⟨rfl, bel⟩
    have B1 := Lib.hid (B0.out.trans (bel.mono B0.out.size))
    have R1 := Lib.hid (R0.out.below bel)
    clear bel
    have r0 := R1.out.cell 0
    have r1 := R1.out.cell 1
    have zr := R1.out.lt
    have rf0 := R1.out.frozen 0
    have rf1 := R1.out.frozen 1
    simp at r0 r1
    go_wp2
    refine bodyPost_ret (v := .tuple #[.agg #[.slice none 0 0, .slice none 0 0], .int .i64 y]) (by simp [results, Try.results32, go_sem, *]) rfl ⟨.inl ⟨?_, ?_⟩, ?_⟩
    · rw [EV.out]; exact X0.out
    · rw [EV.out]
    · have bb := B1.out
      exact Below.setCell (Below.setCell bb (by first | omega | (simp; done) | (simp; omega)) _) (by first | omega | (simp; done) | (simp; omega)) _
  subst hy0
  obtain ⟨hmay, hheld⟩ := askv_zero hy
  obtain ⟨k, rfl⟩ := Int.eq_ofNat_of_zero_le hheld.1
  have hq1 := hheld.2.2.1
  have hi : k < d.n := by have := hheld.2.1; omega
  simp only [Int.toNat_natCast] at hq1
  subst hq1
  have hkm : k < d.m := by rw [hmay.2.1]; exact hi
  have HC := Lib.hid hc
  have MAY := Lib.hid hmay
  have HY := Lib.hid hy
  obtain ⟨gk, ok, hA, hgk, hck⟩ := hok.ks (by omega)
  dsimp only at hA
  subst hA
  have K0 := Lib.hid (show w.cell? ⟨gk, ok + k, none⟩ = some (.slice (KA k) (d.L k) (KC k)) by have := hck k hkm 0 (by omega); simpa [kv] using this)
  have HGK := Lib.hid hgk
  have hlk := Sm.out.L k hkm
  have hcp := CAP.out k hkm
  have i1 : (k : Int) < (d.m : Int) := by omega
  have i0 : (0 : Int) ≤ (k : Int) := by omega
  have KI := Lib.hid (And.intro hi hkm)
  have RK := Lib.hid (hok.kd k hkm)
  clear hc hok hy hheld hmay hi hgk hck 
  have OKA := Lib.hid OK.out
  clear OK
  obtain ⟨LK, hLK⟩ : ∃ LK, d.L k = LK := ⟨_, rfl⟩
  obtain ⟨kA, hkA⟩ : ∃ kA, KA k = kA := ⟨_, rfl⟩
  obtain ⟨kC, hkC⟩ : ∃ kC, KC k = kC := ⟨_, rfl⟩
  rw [hLK, hkA, hkC] at K0 hcp
  rw [hLK] at hlk
  have RK' := Lib.hid (show Row w kA LK 2 (hv (d.S k) (d.Q k)) by rw [← hkA, ← hLK]; exact RK.out)
  clear RK hkA hkC
  have HLK := Lib.hid hLK
  clear hLK
  go_enter Try.func32, Try.ntmps32
  go_wp2_with fail
  refine HC.out.mono ?_
  rintro e w1 ⟨rfl, bel⟩
  have B1 := Lib.hid (B0.out.trans (bel.mono B0.out.size))
  have P1 := Lib.hid (P0.out.below bel)
  clear P0
  have H1 := Lib.hid (H0.out.below bel)
  clear H0
  have R1 := Lib.hid (R0.out.below bel)
  clear R0
  clear bel HC B0
  have p0 := P1.out.cell 0
  have p1 := P1.out.cell 1
  have zp := P1.out.lt
  have h0 := H1.out.cell 0
  have h1 := H1.out.cell 1
  have zh := H1.out.lt
  simp at p0 p1 h0 h1
  have k0 := (B1.out.cell (p := ⟨gk, ok + k, none⟩) HGK.out).trans K0.out
  by_cases q1 : x < 0
  · have g1 : decide (x < 0) = true := decide_eq_true q1
    have EV := Lib.hid (show unlinkE d (k : Nat) (d.g k) x = 2 by unfold unlinkE; rw [if_pos HY.out]; rw [if_pos (.inl q1)])

    have r0 := R1.out.cell 0
    have r1 := R1.out.cell 1
    have zr := R1.out.lt
    have rf0 := R1.out.frozen 0
    have rf1 := R1.out.frozen 1
    simp at r0 r1
    go_wp2
    refine bodyPost_ret (v := .tuple #[.agg #[.slice none 0 0, .slice none 0 0], .int .i64 2]) (by simp [results, Try.results32, go_sem, *]) rfl ⟨.inl ⟨?_, ?_⟩, ?_⟩
    · rw [EV.out]; decide
    · rw [EV.out]
    · have bb := B1.out
      exact Below.setCell (Below.setCell bb (by first | omega | (simp; done) | (simp; omega)) _) (by first | omega | (simp; done) | (simp; omega)) _
  have g1 : decide (x < 0) = false := decide_eq_false q1
  by_cases q2 : (LK : Int) ≤ x
  · have g2 : decide ((LK : Int) ≤ x) = true := decide_eq_true q2
    have EV := Lib.hid (show unlinkE d (k : Nat) (d.g k) x = 2 by unfold unlinkE; rw [if_pos HY.out]; rw [if_pos (.inr (by simp only [Int.toNat_natCast]; rw [HLK.out]; exact q2))])
    have r0 := R1.out.cell 0
    have r1 := R1.out.cell 1
    have zr := R1.out.lt
    have rf0 := R1.out.frozen 0
    have rf1 := R1.out.frozen 1
    simp at r0 r1
    go_wp2
    refine bodyPost_ret (v := .tuple #[.agg #[.slice none 0 0, .slice none 0 0], .int .i64 2]) (by simp [results, Try.results32, go_sem, *]) rfl ⟨.inl ⟨?_, ?_⟩, ?_⟩
    · rw [EV.out]; decide
    · rw [EV.out]
    · have bb := B1.out
      exact Below.setCell (Below.setCell bb (by first | omega | (simp; done) | (simp; omega)) _) (by first | omega | (simp; done) | (simp; omega)) _
  have g2 : decide ((LK : Int) ≤ x) = false := decide_eq_false q2
  obtain ⟨a, rfl⟩ := Int.eq_ofNat_of_zero_le (show 0 ≤ x by omega)
  have ha : a < LK := by omega
  have EV := Lib.hid (show unlinkE d (k : Nat) (d.g k) (a : Nat) = 0 by
    unfold unlinkE
    rw [if_pos HY.out, if_neg (by simp only [Int.toNat_natCast]; rw [HLK.out]; omega)])
  have KX := Lib.hid (reftwing_any d ⟨A, c, some ⟨gk, ok, none⟩, kc, KA, KC⟩ Sm.out w1 (OKA.out.below B1.out))
  go_wp2_with fail
  refine KX.out.mono ?_
  rintro e w3 ⟨⟨v, rfl, po, rfl, ho⟩, bel⟩
  have B3 := Lib.hid (B1.out.trans (bel.mono B1.out.size))
  have zb4 : (w.heap.size + 1 + 1 + 1) ≤ w1.heap.size := by have := R1.out.lt; omega
  have GO := Lib.hid (ho.base zb4)
  have P3 := Lib.hid (P1.out.below bel)
  clear P1
  have H3 := Lib.hid (H1.out.below bel)
  clear H1
  have R3 := Lib.hid (R1.out.below bel)
  clear R1
  clear p0 p1 zp h0 h1 zh
  clear bel KX ho zb4 g1 g2 k0
  obtain ⟨tA, tc, tK, tkc, KA', KC'⟩ := po
  dsimp only
  go_upto_region 9 with fail
  have bA := (Below.refl w3.heap.size w3).alloc (Nat.le_refl _) (.cells #[.slice tA d.n tc, .slice tK d.m tkc] 27)
  have Q4 := Lib.hid (show HasBlk (w3.alloc (.cells #[.slice tA d.n tc, .slice tK d.m tkc] 27)) w3.heap.size 27 #[.slice tA d.n tc, .slice tK d.m tkc] from hasBlk_new w3 27 _)
  have zp := R3.out.lt
  have P4 := Lib.hid (P3.out.below bA)
  clear P3
  have H4 := Lib.hid (H3.out.below bA)
  clear H3
  have R4 := Lib.hid (R3.out.below bA)
  clear R3
  have GO4 := Lib.hid (GO.out.below bA)
  have B4 := Lib.hid (B3.out.trans (bA.mono B3.out.size))
  obtain ⟨pb, hpb⟩ : ∃ pb, pb = w3.heap.size := ⟨_, rfl⟩
  rw [← hpb] at Q4 zp ⊢
  clear bA GO hpb
  generalize (w3.alloc (.cells #[.slice tA d.n tc, .slice tK d.m tkc] 27)) = v5 at *
  have ZP := Lib.hid zp
  clear zp
  have RK4 := Lib.hid (RK'.out.below B4.out)
  obtain ⟨i0', hi0, hz0, hz1, hz2⟩ := info_parts hdl_info
  obtain ⟨i0, hi00⟩ : ∃ i0, i0 = i0' := ⟨_, rfl⟩
  rw [← hi00] at hi0 hz0 hz1 hz2
  clear hi00
  have zz := ZP.out
  have zP4 := P4.out.lt
  have hlc := hcp.1
  clear hcp
  obtain ⟨gi, oi, hgi, _, _⟩ := RK'.out (by omega)
  subst hgi
  by_cases hkc : kC = (a + 1)
  · have hkc2 := hkc.symm
    clear hkc
    subst hkc2
    have b5 := Lib.hid (Below.refl v5.heap.size v5)
    have NW1 := Lib.hid (((RK4.out.take (show a ≤ LK by omega))).news (by omega))
    have NW2 := Lib.hid (show ∀ W : World, 0 < LK - (a + 1) → ∃ ad, some (⟨gi, oi, none⟩ : Addr) = some ad ∧ ∀ j u, (cellsR 2 (hv (fun i => d.S k ((a + 1) + i)) (fun i => d.Q k ((a + 1) + i))) (LK - (a + 1)))[j]? = some u → W.cell? (ad.add j) = some u from fun W h => absurd h (by omega))
    go_upto_region 10 with (at_builtin; refine wpList_app rfl (.tmp 37) (.tmp 40) 32 rfl v5.heap.size 29 i0 _ 2 16 Try.underlying32 hi0 hz0 hz1 hz2 rfl (by omega) none 0 (0) ([]) rfl (own_nil _ _ _ _) (some ⟨gi, oi, none⟩) a (a + 1) (cellsR 2 (hv (d.S k) (d.Q k)) a) rfl (cellsR_len 2 _ _) NW1.out (cellsR_one (hv_one _ _) _) (by unfold maxLen; omega) (by omega) (by omega) ?_; intro A1 c1 w6 hown6 hgr6; simp only [Nat.zero_add, List.nil_append] at hown6 ⊢)
    have b6 := Lib.hid (below_grown (v := .slice none 0 0) (base := v5.heap.size) b5.out hgr6 (own_nil _ _ 29 2) (Nat.le_refl _) b5.out.size)
    clear hgr6
    have z6 := b6.out.size
    go_upto_region 11 with (at_builtin; refine wpList_app rfl (.tmp 42) (.tmp 46) 32 rfl v5.heap.size 29 i0 _ 2 16 Try.underlying32 hi0 hz0 hz1 hz2 rfl (by omega) A1 c1 (a) (cellsR 2 (hv (d.S k) (d.Q k)) a) rfl (hown6) _ 0 _ ([]) rfl rfl (fun h => absurd h (by decide)) (fun u hu => absurd hu (by simp)) (by unfold maxLen; omega) (by omega) (by omega) ?_; intro A8 c8 w8 hown8 hgr8)
    have b8 := Lib.hid (below_grown (v := .slice A1 a c1) (base := v5.heap.size) b6.out hgr8 (hown6) (Nat.le_refl _) b6.out.size)
    clear hgr8 hown6 z6 b6
    simp only [List.append_nil, Nat.add_zero] at hown8 ⊢
    rw [hv_congr (S' := delF (d.S k) a) (Q' := delF (d.Q k) a) (n := a) (fun i hi => by unfold delF; rw [if_pos hi, if_pos hi]; exact ⟨rfl, rfl⟩)] at hown8
    have bel := b8.out
    have GO8 := Lib.hid (GO4.out.below bel)
    have Q8 := Lib.hid (Q4.out.below bel)
    have H8 := Lib.hid (H4.out.below bel)
    have R8 := Lib.hid (R4.out.below bel)
    have B8 := Lib.hid (B4.out.trans (bel.mono B4.out.size))
    have zB : (w.heap.size + 1 + 1 + 1) ≤ v5.heap.size := by have := R4.out.lt; omega
    obtain ⟨gK, e7, gB, lt7, hf7⟩ := own_some GO8.out.ks (show 0 < d.m by have := KI.out.2; omega)
    dsimp only at e7
    subst e7
    have f7 := hf7 k
    have c0 : w8.cell? ⟨gK, k, none⟩ = some (.slice (KA' k) (d.L k) (KC' k)) := by
      obtain ⟨g', o', hA', _, hc'⟩ := GO8.out.ok.ks (by have := KI.out.2; omega)
      cases hA'
      simpa [kv] using hc' k KI.out.2 0 (by omega)
    have npb : pb ≠ gK := fun e => by
      subst e
      exact (Q8.out.ne_own GO8.out.ks (by decide)) rfl
    have GF := Lib.hid (show GOwn (w.heap.size + 1 + 1 + 1) (w8.setCell ⟨gK, k, none⟩ (.slice A8 (a) c8)) ⟨tA, tc, some ⟨gK, 0, none⟩, tkc, upd KA' k A8, upd KC' k c8⟩ ⟨d.n, d.g, d.b, d.m, upd d.L k a, fun i => if i = k then delF (d.S k) a else d.S i, fun i => if i = k then delF (d.Q k) a else d.Q i⟩ from GOwn.put (w := v5) (S' := delF (d.S k) a) (Q' := delF (d.Q k) a) GO4.out KI.out.2 rfl (gb_below bel _) (own_base hown8 zB) (own_fresh hown8))
    have hkm2 := KI.out.2
    have h0 := H8.out.cell 0
    have h1 := H8.out.cell 1
    have zh := H8.out.lt
    simp at h0 h1
    have q1 := Q8.out.cell 1
    have zq := Q8.out.lt
    simp at q1
    clear bel hown8 zB GO8 GO4 Q4 H4 R4 B4 P4  b8 hf7
    go_upto_region 12 with fail
    have QF := Lib.hid (Q8.out.far (p := ⟨gK, k, none⟩) (by simp; omega) (.slice A8 (a) c8))
    have RF := Lib.hid (R8.out.far (p := ⟨gK, k, none⟩) (by simp; omega) (.slice A8 (a) c8))
    have BF := Lib.hid (Below.setCell (p := ⟨gK, k, none⟩) B8.out (by simp; omega) (.slice A8 (a) c8))
    clear q1 zq c0 f7 lt7 npb Q8 R8 B8 H8 hkm2
    clear h0 h1 zh
    generalize (w8.setCell ⟨gK, k, none⟩ (.slice A8 (a) c8)) = vF at *
    have q0 := QF.out.cell 0
    have q1 := QF.out.cell 1
    have zq := QF.out.lt
    have zz := ZP.out
    simp at q0 q1
    have r0 := RF.out.cell 0
    have r1 := RF.out.cell 1
    have zr := RF.out.lt
    have rf0 := RF.out.frozen 0
    have rf1 := RF.out.frozen 1
    simp at r0 r1
    go_wp2
    refine bodyPost_ret (v := .tuple #[.agg #[.slice tA d.n tc, .slice (some ⟨gK, 0, none⟩) d.m tkc], .int .i64 0]) (by simp [results, Try.results32, go_sem, *]) rfl ⟨.inr ⟨EV.out, ⟨tA, tc, some ⟨gK, 0, none⟩, tkc, upd KA' k A8, upd KC' k c8⟩, rfl, ?_⟩, ?_⟩
    · have e : ⟨d.n, d.g, d.b, d.m, upd d.L k a, fun i => if i = k then delF (d.S k) a else d.S i, fun i => if i = k then delF (d.Q k) a else d.Q i⟩ = (d.unlink k a) := by unfold GD.unlink; rw [HLK.out, show LK - 1 = a by omega]
      have g := GF.out
      rw [e] at g
      exact ((g.lset (by omega) _).lset (by omega) _).base (by omega)
    · have bb := BF.out
      exact Below.setCell (Below.setCell bb (by first | omega | (simp; done) | (simp; omega)) _) (by first | omega | (simp; done) | (simp; omega)) _
  · have hkc' : ¬ kC = (a + 1) := hkc
    have b5 := Lib.hid (Below.refl v5.heap.size v5)
    have NW1 := Lib.hid (((RK4.out.take (show a ≤ LK by omega))).news (by omega))
    have NW2 := Lib.hid (fun (W : World) (hb : Below v5.heap.size v5 W) => (((RK4.out.below hb).shift (a + 1)).news (by omega)))
    go_upto_region 10 with (at_builtin; refine wpList_app rfl (.tmp 37) (.tmp 40) 32 rfl v5.heap.size 29 i0 _ 2 16 Try.underlying32 hi0 hz0 hz1 hz2 rfl (by omega) none 0 (0) ([]) rfl (own_nil _ _ _ _) (some ⟨gi, oi, none⟩) a kC (cellsR 2 (hv (d.S k) (d.Q k)) a) rfl (cellsR_len 2 _ _) NW1.out (cellsR_one (hv_one _ _) _) (by unfold maxLen; omega) (by omega) (by omega) ?_; intro A1 c1 w6 hown6 hgr6; simp only [Nat.zero_add, List.nil_append] at hown6 ⊢)
    have b6 := Lib.hid (below_grown (v := .slice none 0 0) (base := v5.heap.size) b5.out hgr6 (own_nil _ _ 29 2) (Nat.le_refl _) b5.out.size)
    clear hgr6
    have z6 := b6.out.size
    go_upto_region 11 with (at_builtin; refine wpList_app rfl (.tmp 42) (.tmp 46) 32 rfl v5.heap.size 29 i0 _ 2 16 Try.underlying32 hi0 hz0 hz1 hz2 rfl (by omega) A1 c1 (a) (cellsR 2 (hv (d.S k) (d.Q k)) a) rfl (hown6) (some ⟨gi, oi + (a + 1) * 2, none⟩) (LK - (a + 1)) (kC - (a + 1)) (cellsR 2 (hv (fun i => d.S k ((a + 1) + i)) (fun i => d.Q k ((a + 1) + i))) (LK - (a + 1))) rfl (cellsR_len 2 _ _) (NW2.out w6 b6.out) (cellsR_one (hv_one _ _) _) (by unfold maxLen; omega) (by omega) (by omega) ?_; intro A8 c8 w8 hown8 hgr8)
    have b8 := Lib.hid (below_grown (v := .slice A1 a c1) (base := v5.heap.size) b6.out hgr8 (hown6) (Nat.le_refl _) b6.out.size)
    clear hgr8 hown6 z6 b6
    rw [del_cat (show a < LK by omega), show a + (LK - (a + 1)) = LK - 1 by omega] at hown8
    rw [show a + (LK - (a + 1)) = LK - 1 by omega]
    have bel := b8.out
    have GO8 := Lib.hid (GO4.out.below bel)
    have Q8 := Lib.hid (Q4.out.below bel)
    have H8 := Lib.hid (H4.out.below bel)
    have R8 := Lib.hid (R4.out.below bel)
    have B8 := Lib.hid (B4.out.trans (bel.mono B4.out.size))
    have zB : (w.heap.size + 1 + 1 + 1) ≤ v5.heap.size := by have := R4.out.lt; omega
    obtain ⟨gK, e7, gB, lt7, hf7⟩ := own_some GO8.out.ks (show 0 < d.m by have := KI.out.2; omega)
    dsimp only at e7
    subst e7
    have f7 := hf7 k
    have c0 : w8.cell? ⟨gK, k, none⟩ = some (.slice (KA' k) (d.L k) (KC' k)) := by
      obtain ⟨g', o', hA', _, hc'⟩ := GO8.out.ok.ks (by have := KI.out.2; omega)
      cases hA'
      simpa [kv] using hc' k KI.out.2 0 (by omega)
    have npb : pb ≠ gK := fun e => by
      subst e
      exact (Q8.out.ne_own GO8.out.ks (by decide)) rfl
    have GF := Lib.hid (show GOwn (w.heap.size + 1 + 1 + 1) (w8.setCell ⟨gK, k, none⟩ (.slice A8 ((LK - 1)) c8)) ⟨tA, tc, some ⟨gK, 0, none⟩, tkc, upd KA' k A8, upd KC' k c8⟩ ⟨d.n, d.g, d.b, d.m, upd d.L k (LK - 1), fun i => if i = k then delF (d.S k) a else d.S i, fun i => if i = k then delF (d.Q k) a else d.Q i⟩ from GOwn.put (w := v5) (S' := delF (d.S k) a) (Q' := delF (d.Q k) a) GO4.out KI.out.2 rfl (gb_below bel _) (own_base hown8 zB) (own_fresh hown8))
    have hkm2 := KI.out.2
    have h0 := H8.out.cell 0
    have h1 := H8.out.cell 1
    have zh := H8.out.lt
    simp at h0 h1
    have q1 := Q8.out.cell 1
    have zq := Q8.out.lt
    simp at q1
    clear bel hown8 zB GO8 GO4 Q4 H4 R4 B4 P4  b8 hf7
    go_upto_region 12 with fail
    have QF := Lib.hid (Q8.out.far (p := ⟨gK, k, none⟩) (by simp; omega) (.slice A8 ((LK - 1)) c8))
    have RF := Lib.hid (R8.out.far (p := ⟨gK, k, none⟩) (by simp; omega) (.slice A8 ((LK - 1)) c8))
    have BF := Lib.hid (Below.setCell (p := ⟨gK, k, none⟩) B8.out (by simp; omega) (.slice A8 ((LK - 1)) c8))
    clear q1 zq c0 f7 lt7 npb Q8 R8 B8 H8 hkm2
    clear h0 h1 zh
    generalize (w8.setCell ⟨gK, k, none⟩ (.slice A8 ((LK - 1)) c8)) = vF at *
    have q0 := QF.out.cell 0
    have q1 := QF.out.cell 1
    have zq := QF.out.lt
    have zz := ZP.out
    simp at q0 q1
    have r0 := RF.out.cell 0
    have r1 := RF.out.cell 1
    have zr := RF.out.lt
    have rf0 := RF.out.frozen 0
    have rf1 := RF.out.frozen 1
    simp at r0 r1
    go_wp2
    refine bodyPost_ret (v := .tuple #[.agg #[.slice tA d.n tc, .slice (some ⟨gK, 0, none⟩) d.m tkc], .int .i64 0]) (by simp [results, Try.results32, go_sem, *]) rfl ⟨.inr ⟨EV.out, ⟨tA, tc, some ⟨gK, 0, none⟩, tkc, upd KA' k A8, upd KC' k c8⟩, rfl, ?_⟩, ?_⟩
    · have e : ⟨d.n, d.g, d.b, d.m, upd d.L k (LK - 1), fun i => if i = k then delF (d.S k) a else d.S i, fun i => if i = k then delF (d.Q k) a else d.Q i⟩ = (d.unlink k a) := by unfold GD.unlink; rw [HLK.out]
      have g := GF.out
      rw [e] at g
      exact ((g.lset (by omega) _).lset (by omega) _).base (by omega)
    · have bb := BF.out
      exact Below.setCell (Below.setCell bb (by first | omega | (simp; done) | (simp; omega)) _) (by first | omega | (simp; done) | (simp; omega)) _
end Go.Proofs.Ytgkeiaggldahnaa
/- nodes: spoil. -/
namespace Go.Proofs.Ytgkeiaggldahnaa
open Go.RowKit
set_option linter.unusedVariables false
/-- The blocks of a graph's slots and handles. -/
def GBlk (p : GP) (d : GD) (x : Nat) : Prop := (Value.slice p.A d.n p.c).ownBlock = some x ∨ ∃ i, i < d.m ∧ (Value.slice (p.KA i) (d.L i) (p.KC i)).ownBlock = some x
theorem GOwn.blk {B : Nat} {w : World} {p : GP} {d : GD} (h : GOwn B w p d) {x : Nat} (hx : GBlk p d x) : B ≤ x ∧ x < w.heap.size := by
  rcases hx with hx | ⟨i, hi, hx⟩
  · exact h.ar.lt x hx
  · exact (h.kd.kd i hi).lt x hx
theorem own_spo {S : Nat → Prop} {w w' : World} {B e s n : Nat} {v : Value} {xs : List Value} (h : w.ownsRow B e s v n xs) (hs : Spo S w w') (hne : ∀ x, v.ownBlock = some x → ¬ S x) : w'.ownsRow B e s v n xs := by
  refine ⟨h.1, ?_⟩
  rcases h.2 with h1 | ⟨g, cap, cur, rfl, hB, hblk, hr⟩
  · exact .inl h1
  · exact .inr ⟨g, cap, cur, rfl, hB, (hs.block g (Array.getElem?_eq_some_iff.1 hblk).1 (hne g rfl)).trans hblk, hr⟩
/-- A graph whose blocks are others stays. -/
theorem GOwn.spo {S : Nat → Prop} {B E : Nat} {w w' : World} {p : GP} {d : GD} (h : GOwn B w p d) (hs : Spo S w w') (hS : ∀ x, S x → x < B) : GOwn B w' p d :=
  ⟨own_spo h.ar hs (fun x hx h1 => by have := (h.ar.lt x hx).1; have := hS x h1; omega), own_spo h.ks hs (fun x hx h1 => by have := (h.ks.lt x hx).1; have := hS x h1; omega),
   ⟨fun i hi => own_spo (h.kd.kd i hi) hs (fun x hx h1 => by have := ((h.kd.kd i hi).lt x hx).1; have := hS x h1; omega), h.kd.ap⟩⟩
theorem Spo.comp {S : Nat → Prop} {a b c : World} (h : Spo S a b) (h' : Spo S b c) : Spo S a c where
  os := h'.os.trans h.os
  tape := h'.tape.trans h.tape
  output := h'.output.trans h.output
  size := Nat.le_trans h.size h'.size
  block k hk hs := (h'.block k (Nat.lt_of_lt_of_le hk h.size) hs).trans (h.block k hk hs)
  cell a v ha := by
    obtain ⟨v', h1⟩ := h.cell a v ha
    exact h'.cell a v' h1
  frozen a ha := (h'.frozen a (Nat.lt_of_lt_of_le ha h.size)).trans (h.frozen a ha)
set_option maxRecDepth 100000 in
set_option maxHeartbeats 4000000 in
theorem spoil_any (d : GD) (p : GP) (B : Nat) (hsm : d.Sm) (w : World) (h : GOwn B w p d) :
    Calls Try.prog 35 #[.agg #[.slice p.A d.n p.c, .slice p.K d.m p.kc]] w fun e w' => e = .returned (.tuple #[]) ∧ Spo (GBlk p d) w w' := by
  have bA := (Below.refl w.heap.size w).alloc (Nat.le_refl _) (.cells #[.slice p.A d.n p.c, .slice p.K d.m p.kc] 27)
  have S0 := Lib.hid (show Spo (GBlk p d) w (w.alloc (.cells #[.slice p.A d.n p.c, .slice p.K d.m p.kc] 27)) from (Spo.refl _ _).step bA)
  have HP := Lib.hid (hasBlk_new w 27 #[.slice p.A d.n p.c, .slice p.K d.m p.kc])
  have GO := Lib.hid (h.below bA)
  have HNB := Lib.hid (show ¬ GBlk p d w.heap.size from fun hx => by have := (h.blk hx).2; omega)
  have Sm := Lib.hid hsm
  have hn1 := hsm.n
  have hm1 := hsm.m
  have WB := Lib.hid (show (w.alloc (.cells #[.slice p.A d.n p.c, .slice p.K d.m p.kc] 27)).heap.size = w.heap.size + 1 by simp)
  clear h bA
  go_enter Try.func35, Try.ntmps35
  go_upto_region 1 with fail
  obtain ⟨b, hb⟩ : ∃ b, b = w.heap.size := ⟨_, rfl⟩
  rw [← hb] at HP HNB ⊢
  clear hb WB
  generalize w.alloc (.cells #[.slice p.A d.n p.c, .slice p.K d.m p.kc] 27) = w0 at *
  have hP := (Spo.refl (GBlk p d) w0).blk HP.out HNB.out
  have p0 := hP.cell 0
  have p1 := hP.cell 1
  have zp := hP.lt
  simp at p0 p1
  clear hP
  go_wp2
  clear p0 p1 zp
  go_loopw [2] (fun i' wr => ∃ i : Nat, i ≤ d.n ∧ i' = .int .i64 i ∧ Spo (GBlk p d) w0 wr) (fun i' wr => d.n - (intOf i').toNat)
  case atStart => exact ⟨0, Nat.zero_le _, rfl, Spo.refl _ _⟩
  case round =>
    obtain ⟨i, hil, rfl, hs⟩ := hrel
    have HS := Lib.hid hs
    have hP := hs.blk HP.out HNB.out
    have p0 := hP.cell 0
    have p1 := hP.cell 1
    have zp := hP.lt
    simp at p0 p1
    clear hP
    by_cases hin : i < d.n
    · obtain ⟨g, hA, hg1, hg2, hob, hcell, hfr⟩ := own_w GO.out.ar (by omega)
      obtain ⟨v0, hv0⟩ := hcell (i * 2) (by omega)
      obtain ⟨v, hv⟩ := hs.cell _ _ hv0
      have hf := (hs.frozen ⟨g, i * 2, none⟩ hg2).trans (hfr (i * 2))
      have hS := Lib.hid (show GBlk p d g from .inl hob)
      have gl : g < wr.heap.size := Nat.lt_of_lt_of_le hg2 hs.size
      have i1 : (i : Int) < (d.n : Int) := by omega
      have i0 : (0 : Int) ≤ (i : Int) := by omega
      rw [hA] at p0
      clear hcell hfr hv0 hs hob hA
      go_wp2
      go_roundw
      case rel => exact ⟨i + 1, by omega, by go_num, HS.out.set (p := ⟨g, i * 2, none⟩) hS.out _⟩
      case measure => simp [intOf]; omega
    · obtain rfl : i = d.n := by omega
      clear hs hil hin
      go_wp2
      clear p0 p1 zp
      go_loopw [3] (fun i' wr => ∃ i : Nat, i ≤ d.m ∧ i' = .int .i64 i ∧ Spo (GBlk p d) w0 wr) (fun i' wr => d.m - (intOf i').toNat)
      case atStart => exact ⟨0, Nat.zero_le _, rfl, HS.out⟩
      case round =>
        clear HS
        obtain ⟨i, hil, rfl, hs⟩ := hrel
        have HS := Lib.hid hs
        have hP := hs.blk HP.out HNB.out
        have p0 := hP.cell 0
        have p1 := hP.cell 1
        have zp := hP.lt
        simp at p0 p1
        clear hP
        by_cases him : i < d.m
        · obtain ⟨gK, hK, hk1, hk2, hkb, _, _⟩ := own_w GO.out.ks (by omega)
          have k0 : w0.cell? ⟨gK, i, none⟩ = some (.slice (p.KA i) (d.L i) (p.KC i)) := by
            obtain ⟨g', o', hA', _, hc'⟩ := GO.out.ok.ks (by omega)
            rw [hK] at hA'
            cases hA'
            simpa [kv] using hc' i him 0 (by omega)
          have hnK : ¬ GBlk p d gK := fun hx => by
            rcases hx with hx | ⟨j, hj, hx⟩
            · rcases own_types GO.out.ar GO.out.ks (by decide) with h1 | h1
              · rw [h1] at hx; cases hx
              · exact h1 (hx.trans hkb.symm)
            · rcases own_types (GO.out.kd.kd j hj) GO.out.ks (by decide) with h1 | h1
              · rw [h1] at hx; cases hx
              · exact h1 (hx.trans hkb.symm)
          have k1 := (hs.at (a := ⟨gK, i, none⟩) hk2 hnK).trans k0
          have KK := Lib.hid (And.intro hk2 (And.intro hnK k0))
          have zk : gK < wr.heap.size := Nat.lt_of_lt_of_le hk2 hs.size
          have HK := Lib.hid hK
          rw [hK] at p1
          have i1 : (i : Int) < (d.m : Int) := by omega
          have i0 : (0 : Int) ≤ (i : Int) := by omega
          have hLi := Sm.out.L i him
          clear hs k0 hkb hnK hK
          go_wp2
          obtain ⟨wo, rfl⟩ : ∃ wo : World, wo = wr := ⟨wr, rfl⟩
          clear p0 p1 zp k1 zk
          go_loopw [4] (fun t' wr => ∃ t : Nat, t ≤ d.L i ∧ t' = .int .i64 t ∧ Spo (GBlk p d) w0 wr) (fun t' wr => d.L i - (intOf t').toNat)
          case atStart => exact ⟨0, Nat.zero_le _, rfl, HS.out⟩
          case round =>
            clear HS
            obtain ⟨t, htl, rfl, hs⟩ := hrel
            have HS := Lib.hid hs
            have hP := hs.blk HP.out HNB.out
            have p0 := hP.cell 0
            have p1 := hP.cell 1
            have zp := hP.lt
            simp at p0 p1
            clear hP
            rw [HK.out] at p1
            have k1 := (hs.at (a := ⟨gK, i, none⟩) KK.out.1 KK.out.2.1).trans KK.out.2.2
            have zk : gK < wr.heap.size := Nat.lt_of_lt_of_le KK.out.1 hs.size
            by_cases htL : t < d.L i
            · obtain ⟨g, hA, hg1, hg2, hob, hcell, hfr⟩ := own_w (GO.out.kd.kd i him) (by omega)
              obtain ⟨v0, hv0⟩ := hcell (t * 2 + 1) (by omega)
              obtain ⟨v, hv⟩ := hs.cell _ _ hv0
              have hf := (hs.frozen ⟨g, t * 2 + 1, none⟩ hg2).trans (hfr (t * 2 + 1))
              have hS := Lib.hid (show GBlk p d g from .inr ⟨i, him, hob⟩)
              have gl : g < wr.heap.size := Nat.lt_of_lt_of_le hg2 hs.size
              have j1 : (t : Int) < (d.L i : Int) := by omega
              have j0 : (0 : Int) ≤ (t : Int) := by omega
              rw [hA] at k1
              clear hcell hfr hv0 hs hob hA
              go_wp2
              go_roundw
              case rel => exact ⟨t + 1, by omega, by go_num, HS.out.set (p := ⟨g, t * 2 + 1, none⟩) hS.out _⟩
              case measure => simp [intOf]; omega
            · obtain rfl : t = d.L i := by omega
              clear hs
              go_wp2
              go_roundw
              case rel => exact ⟨i + 1, by omega, by go_num, HS.out⟩
              case measure => simp [intOf]; omega
        · obtain rfl : i = d.m := by omega
          clear hs
          go_wp2
          go_end0
          exact ⟨rfl, S0.out.comp HS.out⟩
end Go.Proofs.Ytgkeiaggldahnaa
