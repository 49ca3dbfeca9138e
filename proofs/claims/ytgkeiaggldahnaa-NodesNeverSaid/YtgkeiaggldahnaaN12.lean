/- nodes: Twin. -/
import Derived.Test.YtgkeiaggldahnaaN9
import Derived.Test.YtgkeiaggldahnaaStep
import Derived.Deep.CutRange
import Derived.Deep.DeepCutAuto
import Derived.Deep.RegionLaw
namespace Go.Proofs.Ytgkeiaggldahnaa
open Go.RowKit
set_option linter.unusedVariables false

theorem twinA_any (A : Option Addr) (n c : Nat) (g : Nat → Int) (b : Nat → Bool) (w : World) (hA : Row w A n 2 (sv g b)) (hn : (n : Int) ≤ 1000000) :
    Calls Try.prog 63 #[.agg #[.slice A n c]] w fun e w' => (∃ (X : Option Addr) (xc : Nat), e = .returned (.agg #[.slice X n xc]) ∧ w'.ownsRow w.heap.size 58 2 (.slice X n xc) n (cellsR 2 (sv g b) n)) ∧ Below w.heap.size w w' :=
  (twin_any A n c g b w hA hn).mono fun e w' ⟨⟨v, he, X, hv, hX, hb⟩, hbel⟩ => ⟨⟨some ⟨X, 0, none⟩, n, by rw [he, hv], own_of_blk hb (cellsR_len 2 _ _) hX (by unfold maxLen; omega)⟩, hbel⟩
set_option maxRecDepth 100000 in
set_option maxHeartbeats 8000000 in
theorem twing_any (d : GD) (p : GP) (hsm : d.Sm) (w : World) (hok : GOk w p d) :
    Calls Try.prog 33 #[.agg #[.slice p.A d.n p.c, .slice p.K d.m p.kc]] w fun e w' => (∃ v, e = .returned v ∧ GOwnV d w.heap.size v w') ∧ Below w.heap.size w w' := by
  obtain ⟨A, c, K, kc, KA, KC⟩ := p
  dsimp only
  obtain ⟨i0', hi0, hz0, hz1, hz2⟩ := info_parts hdl_info
  obtain ⟨i0, hi00⟩ : ∃ i0, i0 = i0' := ⟨_, rfl⟩
  rw [← hi00] at hi0 hz0 hz1 hz2
  obtain ⟨j0', hj0, hy0, hy1, hy2⟩ := info_parts list_info
  obtain ⟨j0, hj00⟩ : ∃ j0, j0 = j0' := ⟨_, rfl⟩
  rw [← hj00] at hj0 hy0 hy1 hy2
  clear hi00 hj00
  have b2 : Below w.heap.size w ((w.alloc (.cells #[.slice A d.n c, .slice K d.m kc] 27)).alloc (.cells #[.slice none 0 0, .slice none 0 0] 27)) := by
    repeat' (first | exact Below.refl _ _ | assumption | apply Below.drew | refine Below.setCell ?_ (by first | omega | (simp; done) | (simp; omega)) _ | refine Below.alloc ?_ (by first | omega | (simp; done) | (simp; omega)) _)
  have hn := hsm.n
  have OK := Lib.hid hok
  have Sm := Lib.hid hsm
  have B2 := Lib.hid b2
  have HP := Lib.hid ((hasBlk_new w 27 #[.slice A d.n c, .slice K d.m kc]).alloc (.cells #[.slice none 0 0, .slice none 0 0] 27))
  have HZ := Lib.hid (show HasBlk ((w.alloc (.cells #[.slice A d.n c, .slice K d.m kc] 27)).alloc (.cells #[.slice none 0 0, .slice none 0 0] 27)) (w.heap.size + 1) 27 #[.slice none 0 0, .slice none 0 0] by simpa using hasBlk_new (w.alloc (.cells #[.slice A d.n c, .slice K d.m kc] 27)) 27 #[.slice none 0 0, .slice none 0 0])
  have hc := Lib.hid (twinA_any A d.n c d.g d.b _ (hok.below b2).ar (by omega))
  clear hok hsm b2
  go_enter Try.func33, Try.ntmps33
  go_wp2_with fail
  refine hc.out.mono ?_
  rintro e w1 ⟨⟨X, xc, rfl, hAr⟩, bel⟩
  have hb3 := B2.out.trans (bel.mono B2.out.size)
  have zb := hb3.size
  have HP3 := Lib.hid ((HP.out.below bel).alloc (.cells #[.slice X d.n xc, .slice none 0 0] 27))
  have HZ3 := Lib.hid ((HZ.out.below bel).alloc (.cells #[.slice X d.n xc, .slice none 0 0] 27))
  have HT3 := Lib.hid (hasBlk_new w1 27 #[.slice X d.n xc, .slice none 0 0])
  have HAR := Lib.hid ((own_base hAr (show w.heap.size ≤ _ by simp; omega)).alloc (.cells #[.slice X d.n xc, .slice none 0 0] 27))
  have HB3 := Lib.hid (hb3.alloc zb (.cells #[.slice X d.n xc, .slice none 0 0] 27))
  have zT := (HZ.out.below bel).lt
  have p1 := (HP.out.below bel).cell 1
  have zp := (HP.out.below bel).lt
  simp at p1
  clear bel hb3 hAr HP HZ hc B2
  go_wp2
  clear p1 zp
  obtain ⟨T0, hT0⟩ : ∃ T0, T0 = w1.heap.size := ⟨_, rfl⟩
  rw [← hT0] at HT3 ⊢
  have hTn : w.heap.size + 1 < T0 := by omega
  clear hT0 zT
  go_loopw [13] (fun i wr => ∃ (k : Nat) (X : Option Addr) (xc : Nat) (Kx : Option Addr) (kcx : Nat) (KA' : Nat → Option Addr) (KC' : Nat → Nat), k ≤ d.m ∧ i = .int .i64 k ∧ HasBlk wr w.heap.size 27 #[.slice A d.n c, .slice K d.m kc] ∧ HasBlk wr (w.heap.size + 1) 27 #[.slice none 0 0, .slice none 0 0] ∧ HasBlk wr T0 27 #[.slice X d.n xc, .slice Kx k kcx] ∧ wr.ownsRow w.heap.size 58 2 (.slice X d.n xc) d.n (cellsR 2 (sv d.g d.b) d.n) ∧ wr.ownsRow w.heap.size 32 1 (.slice Kx k kcx) k (cellsR 1 (kv ⟨X, xc, Kx, kcx, KA', KC'⟩ d) k) ∧ KOwn w.heap.size wr KA' KC' d.L d.S d.Q k ∧ Below w.heap.size w wr) (fun i wr => d.m - (intOf i).toNat)
  case atStart => exact ⟨0, X, xc, none, 0, fun _ => none, fun _ => 0, Nat.zero_le _, rfl, HP3.out, HZ3.out, HT3.out, HAR.out, own_nil _ _ _ _, .zero _ _ _ _ _ _ _, HB3.out⟩
  case round =>
    clear HP3 HZ3 HT3 HAR HB3
    obtain ⟨k, X, xc, Kx, kcx, KA', KC', hkm0, rfl, hP, hZ, hT, hAr, hKs, hKd, hbel⟩ := hrel
    have HB := Lib.hid hbel
    have HP := Lib.hid hP
    have HZ := Lib.hid hZ
    have HT := Lib.hid hT
    have HAR := Lib.hid hAr
    have HKS0 := Lib.hid hKs
    have HKD := Lib.hid hKd
    have p1 := hP.cell 1
    have zp := hP.lt
    simp at p1
    have zb := hbel.size
    clear hAr hKs hKd
    by_cases hkm : k < d.m
    · obtain ⟨gk, ok, hA, hgk, hck⟩ := (OK.out.below hbel).ks (by omega)
      dsimp only at hA
      subst hA
      have k0 := hck k hkm 0 (by omega)
      simp only [kv, Nat.add_zero, Nat.mul_one] at k0
      have hrow := OK.out.kd k hkm
      dsimp only at hrow
      have q16 := Sm.out.L k hkm
      have q17 := Sm.out.m
      have i1 : (k : Int) < (d.m : Int) := by omega
      have i2 : (0 : Int) ≤ (k : Int) := by omega
      clear hck hbel hP hZ hT
      have hcl := Lib.hid (fun W' (hb : Below w.heap.size w W') => cloneHd (KA k) (d.L k) (KC k) (hv (d.S k) (d.Q k)) W' (hrow.below hb) (hv_one _ _) (by omega))
      clear hrow
      go_upto_region 5 with fail
      have t0 := HT.out.cell 1
      have zt := HT.out.lt
      simp at t0
      have NEK := Lib.hid (HT.out.ne_own HKS0.out (by decide))
      go_region_law ((first | (refine step_append_lies _ (by rfl) (.tmp 18) (.tmp 21) _ (by rfl) w.heap.size 32 j0 _ 1 24 Try.underlying25 hj0 hy0 hy1 hy2 rfl (by omega) (.slice Kx k kcx) k (cellsR 1 (kv ⟨X, xc, Kx, kcx, KA', KC'⟩ d) k) (by rfl) (hksn.alloc _) ⟨w2.heap.size, 0, none⟩ 1 1 [.slice A1 (d.L k) c1] (by rfl) (by rfl) (World.news_of_block (cs := #[.slice A1 (d.L k) c1]) (t := 32) (fr := (0, 0)) (heap_alloc_new w2 _)) (by simp [Value.oneCell']) (by omega) (by unfold maxLen; omega) (by omega) (by simp; omega) (w2.heap.size + 1) (by simp) ?_; intro A2 c2 w3 hown3 hgr3 hat3 hlt3; have hT3 := (hT2.alloc (.cells #[.slice A1 (d.L k) c1] 32)).grown hgr3 NEK.out; have t1 := hT3.cell 1; have f1 := hT3.frozen 1; have zt3 := hT3.lt; simp at t1) | (go_simp; go_at_call 38; (with_reducible refine (hcl.out _ (HB.out.drew)).mono ?_); rintro e w2 ⟨⟨A1, c1, rfl, hown1⟩, hbel⟩; have hksn := own_below (own_drew HKS0.out) hbel; have hT2 := HT.out.drew.below hbel; have t2 := hT2.cell 1; have zt2 := hT2.lt; simp at t2; have hb9 : Below w.heap.size w w2 := HB.out.drew.trans (hbel.mono zb); have zb9 := hb9.size) | fail "arm"))
      all_goals
        go_wp2
        go_roundw
        case rel =>
          have hb3 : Below w.heap.size w w3 := below_grown (v := .slice Kx k kcx) (hb9.alloc zb9 _) hgr3 (hksn.alloc _) (Nat.le_refl _) (by simp; omega)
          have hkdd := HKD.out.below ((Below.refl wr.heap.size wr).drew)
          have hkd2 := KOwn.snoc (w := wr.drew) hkdd (Nat.le_refl _) (hkdd.below hbel) hown1 zb
          have hkd3 := (hkd2.keep (World.grownBy_alloc w2 (.cells #[.slice A1 (d.L k) c1] 32) none) (fun i hi => by cases upd KA' k A1 i <;> simp [Value.ownBlock])).keep hgr3 (fun i hi => own_types (hkd2.kd i hi) hksn (by decide))
          have har2 := own_below (own_drew HAR.out) hbel
          have har3 := own_keep (har2.alloc (.cells #[.slice A1 (d.L k) c1] 32)) hgr3 (own_types har2 hksn (by decide))
          have hp2 := HP.out.drew.below hbel
          have hz2 := HZ.out.drew.below hbel
          refine ⟨k + 1, X, xc, _, c2, _, _, by omega, by go_num, ((hp2.alloc _).grown hgr3 (hp2.ne_own hksn (by decide))).far (by simp; omega) _, ((hz2.alloc _).grown hgr3 (hz2.ne_own hksn (by decide))).far (by simp; omega) _, by simpa using hT3.set 1 (.slice (some ⟨A2, 0, none⟩) (k + 1) c2), ownsRow_setCell_other har3 (hT3.ne_own har3 (by decide)) _, ?_, hkd3.set hT3 (by decide) _, Below.setCell hb3 (by simp; omega) _⟩
          have h := ownsRow_setCell_other hown3 (a := ⟨T0, 1, none⟩) (hT3.ne_own hown3 (by decide)) (.slice (some ⟨A2, 0, none⟩) (k + 1) c2)
          rw [kv_snoc (p := ⟨X, xc, Kx, kcx, KA', KC'⟩) (fun i hi => upd_ne _ _ (by omega)) (fun i hi => upd_ne _ _ (by omega))]
          dsimp only
          rw [upd_at, upd_at]
          exact h
        case measure => simp [intOf]; omega
    · have hkm2 : k = d.m := by omega
      subst hkm2
      have z0 := hZ.cell 0
      have z1 := hZ.cell 1
      have zf0 := hZ.frozen 0
      have zf1 := hZ.frozen 1
      have zz := hZ.lt
      have t0 := hT.cell 0
      have t1 := hT.cell 1
      have zt := hT.lt
      simp at z0 z1 t0 t1
      clear hbel hP hZ hT
      go_wp2
      refine bodyPost_ret (v := .agg #[.slice X d.n xc, .slice Kx d.m kcx]) (by simp [results, Try.results33, go_sem, *]) rfl ⟨⟨_, rfl, ⟨X, xc, Kx, kcx, KA', KC'⟩, rfl, ?_⟩, ?_⟩
      · have hz2 := fun u => HZ.out.set 0 u
        have a1 := fun u => ownsRow_setCell_other HAR.out (a := ⟨w.heap.size + 1, 0, none⟩) (HZ.out.ne_own HAR.out (by decide)) u
        have a2 := fun u u' => ownsRow_setCell_other (a1 u) (a := ⟨w.heap.size + 1, 1, none⟩) ((hz2 u).ne_own (a1 u) (by decide)) u'
        have k1 := fun u => ownsRow_setCell_other HKS0.out (a := ⟨w.heap.size + 1, 0, none⟩) (HZ.out.ne_own HKS0.out (by decide)) u
        have k2 := fun u u' => ownsRow_setCell_other (k1 u) (a := ⟨w.heap.size + 1, 1, none⟩) ((hz2 u).ne_own (k1 u) (by decide)) u'
        have d2 := fun u u' => (HKD.out.set (a := ⟨w.heap.size + 1, 0, none⟩) HZ.out (by decide) u).set (a := ⟨w.heap.size + 1, 1, none⟩) (hz2 u) (by decide) u'
        exact ⟨a2 _ _, k2 _ _, d2 _ _⟩
      · exact Below.setCell (Below.setCell HB.out (by simp) _) (by simp) _
end Go.Proofs.Ytgkeiaggldahnaa
