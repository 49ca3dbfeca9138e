/- the law's turn: a frame's numbers are written over. -/
import Derived.Test.YtibeoeooajelgaaF35
namespace Go.Proofs.Ytibeoeooajelgaa
open Go.RowKit
set_option linter.unusedVariables false
theorem FOwn.spoil {B k : Nat} {w : World} {f : FD} {xc xd xi xt kc kd ki kt : Nat} (h : FOwn B w ⟨(some ⟨xc, 0, none⟩), (some ⟨xd, 0, none⟩), (some ⟨xi, 0, none⟩), (some ⟨xt, 0, none⟩), kc, kd, ki, kt⟩ f) (hc : k < f.nc) (hd : k < f.nd) (hi : k < f.ni) (ht : k < f.nt) (ncd : xc ≠ xd) (nci : xc ≠ xi) (nct : xc ≠ xt) (ndi : xd ≠ xi) (ndt : xd ≠ xt) (nit : xi ≠ xt) (x d i t : Int) :
    FOwn B ((((w.setCell ⟨xc, k * 4, none⟩ (.int .u8 (x))).setCell ⟨xd, k, none⟩ (.int .i64 d)).setCell ⟨xi, k, none⟩ (.int .i64 i)).setCell ⟨xt, k, none⟩ (.int .i64 t)) ⟨(some ⟨xc, 0, none⟩), (some ⟨xd, 0, none⟩), (some ⟨xi, 0, none⟩), (some ⟨xt, 0, none⟩), kc, kd, ki, kt⟩ ⟨f.W, f.H, f.nc, f.nd, f.ni, f.nt, upd2 f.C k 0 x, upd f.D k d, upd f.I k i, upd f.T k t⟩ := by
  obtain ⟨hC, hD, hI, hT, n1, n2, n3⟩ := h
  have ob : ∀ (x m c : Nat) (y : Nat), x ≠ y → (Value.slice (some ⟨x, 0, none⟩) m c).ownBlock ≠ some y := fun x m c y hne e => by simp [Value.ownBlock] at e; exact hne e
  refine ⟨?_, ?_, ?_, ?_, n1, n2, n3⟩
  · have a := own_set (j := k * 4) hC (.int .u8 x)
    have e := set_one (C := f.C) hc (show 0 < 4 by omega) x
    rw [Nat.add_zero] at e
    rw [e] at a
    exact ownsRow_setCell_other (a := ⟨xt, k, none⟩) (ownsRow_setCell_other (a := ⟨xi, k, none⟩) (ownsRow_setCell_other (a := ⟨xd, k, none⟩) a (ob _ _ _ _ ncd) _) (ob _ _ _ _ nci) _) (ob _ _ _ _ nct) _
  · have a := own_set (j := k) (ownsRow_setCell_other (a := ⟨xc, k * 4, none⟩) hD (ob _ _ _ _ (Ne.symm ncd)) (.int .u8 x)) (.int .i64 d)
    rw [set_int hd] at a
    exact ownsRow_setCell_other (a := ⟨xt, k, none⟩) (ownsRow_setCell_other (a := ⟨xi, k, none⟩) a (ob _ _ _ _ ndi) _) (ob _ _ _ _ ndt) _
  · have a := own_set (j := k) (ownsRow_setCell_other (a := ⟨xd, k, none⟩) (ownsRow_setCell_other (a := ⟨xc, k * 4, none⟩) hI (ob _ _ _ _ (Ne.symm nci)) (.int .u8 x)) (ob _ _ _ _ (Ne.symm ndi)) (.int .i64 d)) (.int .i64 i)
    rw [set_int hi] at a
    exact ownsRow_setCell_other (a := ⟨xt, k, none⟩) a (ob _ _ _ _ nit) _
  · have a := own_set (j := k) (ownsRow_setCell_other (a := ⟨xi, k, none⟩) (ownsRow_setCell_other (a := ⟨xd, k, none⟩) (ownsRow_setCell_other (a := ⟨xc, k * 4, none⟩) hT (ob _ _ _ _ (Ne.symm nct)) (.int .u8 x)) (ob _ _ _ _ (Ne.symm ndt)) (.int .i64 d)) (ob _ _ _ _ (Ne.symm nit)) (.int .i64 i)) (.int .i64 t)
    rw [set_int ht] at a
    exact a
theorem FOwn.drew {B : Nat} {w : World} {p : FP} {f : FD} (h : FOwn B w p f) : FOwn B w.drew p f := h.below (Below.refl _ _).drew

set_option maxRecDepth 100000 in
set_option maxHeartbeats 8000000 in
theorem turn_any (p : FP) (f : FD) (B : Nat) (w0 w : World) (h : FOwn B w p f) (h0 : FOwn B w0 p f) (hB : B ≤ w.heap.size) (hn : f.nc ≤ 5000) (hl : f.nd = f.nc ∧ f.ni = f.nc ∧ f.nt = f.nc) : Calls Try.prog 27 #[.agg #[.int .i64 f.W, .int .i64 f.H, .slice p.ac f.nc p.kc, .slice p.ad f.nd p.kd, .slice p.ai f.ni p.ki, .slice p.a4 f.nt p.kt]] w fun e w' => e = .returned (.tuple #[]) ∧ Below B w w' ∧ (∀ g cs, HasBlk w g 29 cs → HasBlk w' g 29 cs) ∧ (∀ E q (g : FD), w0.heap.size ≤ E → FOwn E w q g → FOwn E w' q g) := by
  obtain ⟨W, H, nc, nd, ni, nt, C, D, I, T⟩ := f
  obtain ⟨ac, ad, ai, a4, kc, kd, ki, kt⟩ := p
  obtain ⟨l1, l2, l3⟩ := hl
  have HA := Lib.hid h
  have HA0 := Lib.hid h0
  dsimp only at l1 l2 l3 hn HA HA0 ⊢
  replace l1 := l1.symm
  replace l2 := l2.symm
  replace l3 := l3.symm
  subst l1 l2 l3
  clear h h0
  go_enter Try.func27, Try.ntmps27
  go_wp2
  go_loopw [2] (fun i wr => ∃ j : Nat, j ≤ nc ∧ i = .int .i64 j ∧ HasBlk wr w.heap.size 29 #[.int .i64 W, .int .i64 H, .slice ac nc kc, .slice ad nc kd, .slice ai nc ki, .slice a4 nc kt] ∧ Below B w wr ∧ (∀ g cs, HasBlk w g 29 cs → HasBlk wr g 29 cs) ∧ (∀ E q (g : FD), w0.heap.size ≤ E → FOwn E w q g → FOwn E wr q g) ∧ ∃ C D I T, FOwn B wr ⟨ac, ad, ai, a4, kc, kd, ki, kt⟩ ⟨W, H, nc, nc, nc, nc, C, D, I, T⟩) (fun i wr => nc - (intOf i).toNat)
  case atStart =>
    refine ⟨0, Nat.zero_le _, rfl, hasBlk_new _ _ _, (Below.refl _ _).alloc hB _, fun g cs hg => hg.alloc _, fun E q g hE hg => hg.below ((Below.refl _ _).alloc (Nat.le_refl _) _), C, D, I, T, HA.out.below ((Below.refl _ _).alloc (Nat.le_refl _) _)⟩
  case round =>
    obtain ⟨j, hj, rfl, hP, hbel, hkf, hko, C', D', I', T', ho⟩ := hrel
    have lt_P := hP.lt
    have P_2 := hP.cell 2
    have P_3 := hP.cell 3
    have P_4 := hP.cell 4
    have P_5 := hP.cell 5
    simp at P_2 P_3 P_4 P_5
    by_cases hjn : j < nc
    · obtain ⟨xc, xd, xi, xt, ⟨ea, eb, ec, ed⟩, ⟨b1, b2, b3, b4⟩, _, ⟨n1, n2, n3, n4, n5, n6⟩, ⟨fc, fd, fi, ft⟩, ⟨cC, cD, cI, cT⟩, _, _⟩ := FOwn.store ho hjn hjn hjn hjn
      dsimp only at ea eb ec ed cC cD cI cT
      subst ea eb ec ed
      obtain ⟨zc, zd, zi, zt, ⟨ea, eb, ec, ed⟩, _, ⟨m1, m2, m3, m4⟩, _⟩ := FOwn.store HA0.out hjn hjn hjn hjn
      cases ea
      cases eb
      cases ec
      cases ed
      have c0 := cC 0 (by omega)
      simp only [Nat.add_zero] at c0
      have g0 := fc (j * 4)
      have g1 := fd j
      have g2 := fi j
      have g3 := ft j
      have hi1 : (j : Int) < (nc : Int) := by omega
      have hi0 : (0 : Int) ≤ (j : Int) := by omega
      obtain ⟨z1, z2, z3, z4⟩ := own_ne_fr ho hP
      have hNE := Lib.hid (fun g cs (hg : HasBlk wr g 29 cs) => own_ne_fr ho hg)
      have y1 := Ne.symm z1
      have y2 := Ne.symm z2
      have y3 := Ne.symm z3
      have y4 := Ne.symm z4
      have o1 := Ne.symm n1
      have o2 := Ne.symm n2
      have o3 := Ne.symm n3
      have o4 := Ne.symm n4
      have o5 := Ne.symm n5
      have o6 := Ne.symm n6
      have hsp := Lib.hid (fun x d i t => FOwn.spoil ho hjn hjn hjn hjn n1 n2 n3 n4 n5 n6 x d i t)
      have HP := Lib.hid hP
      have HB := Lib.hid hbel
      have HKF := Lib.hid hkf
      have HKO := Lib.hid hko
      have HM := Lib.hid (And.intro m1 (And.intro m2 (And.intro m3 m4)))
      have HBb := Lib.hid (And.intro b1 (And.intro b2 (And.intro b3 b4)))
      have HZ := Lib.hid (And.intro z1 (And.intro z2 (And.intro z3 z4)))
      clear cC fc fd fi ft hP hbel hkf hko ho m1 m2 m3 m4 b1 b2 b3 b4
      go_wp2_with fail
      go_still_tail 12, (by kernel_rfl)
      change wpList _ _ _ _ _ wr.drew
      go_wp2
      go_roundw
      case rel =>
        obtain ⟨m1, m2, m3, m4⟩ := HM.out
        obtain ⟨b1, b2, b3, b4⟩ := HBb.out
        obtain ⟨z1, z2, z3, z4⟩ := HZ.out
        refine ⟨j + 1, by omega, by go_num, (((((HP.out.far (p := ⟨xc, j * 4, none⟩) z1 _).far (p := ⟨xd, j, none⟩) z2 _).far (p := ⟨xi, j, none⟩) z3 _).far (p := ⟨xt, j, none⟩) z4 _).drew), ?_, fun g cs hg => ?_, fun E q g hE hg => ?_, _, _, _, _, FOwn.drew (hsp.out _ _ _ _)⟩
        · exact (Below.setCell (p := ⟨xt, j, none⟩) (Below.setCell (p := ⟨xi, j, none⟩) (Below.setCell (p := ⟨xd, j, none⟩) (Below.setCell (p := ⟨xc, j * 4, none⟩) HB.out b1 _) b2 _) b3 _) b4 _).drew
        · have hg' := HKF.out g cs hg
          obtain ⟨z1, z2, z3, z4⟩ := hNE.out g cs hg'
          exact ((((hg'.far (p := ⟨xc, j * 4, none⟩) z1 _).far (p := ⟨xd, j, none⟩) z2 _).far (p := ⟨xi, j, none⟩) z3 _).far (p := ⟨xt, j, none⟩) z4 _).drew
        · exact FOwn.drew (FOwn.far (g := xt) (j := j) (FOwn.far (g := xi) (j := j) (FOwn.far (g := xd) (j := j) (FOwn.far (g := xc) (j := j * 4) (HKO.out E q g hE hg) (by omega) _) (by omega) _) (by omega) _) (by omega) _)
      case measure => simp [intOf]; omega
    · obtain rfl : j = nc := by omega
      have HB := Lib.hid hbel
      have HKF := Lib.hid hkf
      have HKO := Lib.hid hko
      clear hbel hkf hko ho hP
      go_wp2
      go_end0
      exact ⟨rfl, HB.out, HKF.out, HKO.out⟩
end Go.Proofs.Ytibeoeooajelgaa
