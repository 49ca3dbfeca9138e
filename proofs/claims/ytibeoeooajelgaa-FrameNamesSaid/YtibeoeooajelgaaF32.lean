/- FrameNames: the walk. -/
import Derived.Test.YtibeoeooajelgaaF26
import Derived.Test.YtibeoeooajelgaaF19
import Derived.Test.YtibeoeooajelgaaF15
import Derived.Test.YtibeoeooajelgaaF13
import Derived.Test.YtibeoeooajelgaaHeldE2
import Derived.Deep.CutRange
import Derived.Deep.DeepCutAuto
namespace Go.Proofs.Ytibeoeooajelgaa
open Go.RowKit
set_option linter.unusedVariables false
def cwh : Nat → Int | _ => 255
def cwi : Nat → Int | 3 => 128 | _ => 255
theorem two_ok (b : Bool) : Two (twoF b) := by
  cases b
  · exact Two.put (d := 600) (i := 2) (t := 0) (Two.put (d := 600) (i := 3) (t := 0) (two_new cbk) (by unfold SomeP; decide) crd) (by unfold SomeP; decide) cbl
  · exact Two.put (d := 600) (i := 3) (t := 0) (Two.put (d := 600) (i := 2) (t := 0) (two_new cbk) (by unfold SomeP; decide) cbl) (by unfold SomeP; decide) crd
theorem two_eq : twoF true = twoF false := by
  show ((FDnew 2 1 2 cbk).put 1 600 2 0 cbl).put 1 600 3 0 crd = ((FDnew 2 1 2 cbk).put 1 600 3 0 crd).put 1 600 2 0 cbl
  exact FD.put_comm (d := 600) (i := 2) (t := 0) (d' := 600) (i' := 3) (t' := 0) _ 1 1 cbl crd (by unfold SomeP; decide) (by unfold SomeP; decide) (by decide)
theorem lay_one {f g : FD} {z : Int} {c : Nat → Int} (hf : f = twoF false) (hv : LayV f 1 0 600 c g z) : z = 0 ∧ g = f := by
  have h := two_ok false
  rw [← hf] at h
  have hr := two_reads
  rw [← hf] at hr
  obtain ⟨rfl, rfl⟩ := lay_in (k := 1) h.1 (by have := h.2; unfold FD.In; omega) (by unfold DeepP; decide) (by omega) hv
  exact ⟨rfl, lay_same _ (by omega)⟩
theorem lay_two {f g : FD} {z : Int} (hf : f = twoF false) (hv : LayV f 1 0 601 cwi g z) : z = 0 ∧ (g.nc = 2 ∧ g.nd = 2) ∧ g.D 1 = 600 ∧ g.C 1 0 = 128 ∧ g.C 1 1 = 128 ∧ g.C 1 2 = 255 ∧ g.C 1 3 = 255 := by
  have h := two_ok false
  rw [← hf] at h
  have hr := two_reads
  rw [← hf] at hr
  obtain ⟨rfl, rfl⟩ := lay_in (k := 1) h.1 (by have := h.2; unfold FD.In; omega) (by unfold DeepP; decide) (by omega) hv
  obtain ⟨r1, r2, r3, r4, a0, a1, a2, a3, r5, r6, r7⟩ := hr
  refine ⟨rfl, ⟨(lay_W f 1 601 cwi).2.2.1.trans r1, (lay_W f 1 601 cwi).2.2.2.1.trans r2⟩, (lay_rest f 1 601 cwi 1).1.trans r5, ?_⟩
  unfold FD.lay
  rw [if_pos (Or.inr (by omega))]
  show upd f.C 1 (ovc cwi (f.C 1)) 1 0 = 128 ∧ upd f.C 1 (ovc cwi (f.C 1)) 1 1 = 128 ∧ upd f.C 1 (ovc cwi (f.C 1)) 1 2 = 255 ∧ upd f.C 1 (ovc cwi (f.C 1)) 1 3 = 255
  rw [upd_at]
  unfold ovc
  simp only [a0, a1, a2, a3]
  refine ⟨?_, ?_, ?_, ?_⟩ <;> kernel_rfl

set_option maxRecDepth 100000 in
set_option maxHeartbeats 8000000 in
theorem frameNames_arg (w : World) : Calls Try.prog 8 #[] w fun e w' => e = .returned (.bool true) ∧ Below w.heap.size w w' := by
  go_enter Try.func8, Try.ntmps8
  go_wp2_with fail
  refine (alive_any _).mono ?_
  rintro e w1 ⟨rfl, bel1⟩
  have SB1 : Below w.heap.size w w1 := bel1
  have SB1h := Lib.hid SB1
  clear SB1 
  have szB_w1 := SB1h.out.size
  go_wp2_with fail
  refine (two_false _).mono ?_
  rintro e w2 ⟨⟨p, f, rfl, ho, hf⟩, bel2⟩
  have KF := Lib.hid ho.ok
  have HF := Lib.hid hf
  clear ho hf
  have SB2 : Below w.heap.size w w2 := SB1h.out.trans (bel2.mono SB1h.out.size)
  clear SB1h
  have SB2h := Lib.hid SB2
  clear SB2 bel2
  have szB_w2 := SB2h.out.size
  go_wp2_with fail
  have KFa := (KF.out.below ((Below.refl w2.heap.size w2).alloc (Nat.le_refl _) (.cells #[.int .i64 f.W, .int .i64 f.H, .slice p.ac f.nc p.kc, .slice p.ad f.nd p.kd, .slice p.ai f.ni p.ki, .slice p.a4 f.nt p.kt] 29)))
  clear KF
  have s_Tf : HasBlk (w2.alloc (.cells #[.int .i64 f.W, .int .i64 f.H, .slice p.ac f.nc p.kc, .slice p.ad f.nd p.kd, .slice p.ai f.ni p.ki, .slice p.a4 f.nt p.kt] 29)) (w2.heap.size) 29 #[.int .i64 f.W, .int .i64 f.H, .slice p.ac f.nc p.kc, .slice p.ad f.nd p.kd, .slice p.ai f.ni p.ki, .slice p.a4 f.nt p.kt] := by simpa using hasBlk_new w2 29 #[.int .i64 f.W, .int .i64 f.H, .slice p.ac f.nc p.kc, .slice p.ad f.nd p.kd, .slice p.ai f.ni p.ki, .slice p.a4 f.nt p.kt]
  have t_Tf : HasBlk (w2.alloc (.cells #[.int .i64 f.W, .int .i64 f.H, .slice p.ac f.nc p.kc, .slice p.ad f.nd p.kd, .slice p.ai f.ni p.ki, .slice p.a4 f.nt p.kt] 29)) (w2.heap.size) 29 #[.int .i64 f.W, .int .i64 f.H, .slice p.ac f.nc p.kc, .slice p.ad f.nd p.kd, .slice p.ai f.ni p.ki, .slice p.a4 f.nt p.kt] := by simpa using s_Tf
  clear s_Tf
  have SB3 : Below w.heap.size w (w2.alloc (.cells #[.int .i64 f.W, .int .i64 f.H, .slice p.ac f.nc p.kc, .slice p.ad f.nd p.kd, .slice p.ai f.ni p.ki, .slice p.a4 f.nt p.kt] 29)) := by
    have bel0 := SB2h.out
    repeat' (first | exact Below.refl _ _ | assumption | apply Below.drew | refine Below.setCell ?_ (by first | omega | (simp; done) | (simp; omega)) _ | refine Below.alloc ?_ (by first | omega | (simp; done) | (simp; omega)) _)
  generalize gW_v1 : (w2.alloc (.cells #[.int .i64 f.W, .int .i64 f.H, .slice p.ac f.nc p.kc, .slice p.ad f.nd p.kd, .slice p.ai f.ni p.ki, .slice p.a4 f.nt p.kt] 29)) = v1 at *
  clear gW_v1
  have Tf := Lib.hid t_Tf
  clear t_Tf
  clear SB2h
  have SB3h := Lib.hid SB3
  clear SB3
  have KF := Lib.hid KFa
  clear KFa
  have lt_Tf := Tf.out.lt
  have Tf_0 := Tf.out.cell 0
  have Tf_1 := Tf.out.cell 1
  have Tf_2 := Tf.out.cell 2
  have Tf_3 := Tf.out.cell 3
  have Tf_4 := Tf.out.cell 4
  have Tf_5 := Tf.out.cell 5
  have Tf_f0 := Tf.out.frozen 0
  have Tf_f1 := Tf.out.frozen 1
  have Tf_f2 := Tf.out.frozen 2
  have Tf_f3 := Tf.out.frozen 3
  have Tf_f4 := Tf.out.frozen 4
  have Tf_f5 := Tf.out.frozen 5
  simp at Tf_0 Tf_1 Tf_2 Tf_3 Tf_4 Tf_5
  have szB_v1 := SB3h.out.size
  refine (two_true _).mono ?_
  rintro e w3 ⟨⟨p', g, rfl, ho, hg⟩, bel3⟩
  clear lt_Tf Tf_0 Tf_1 Tf_2 Tf_3 Tf_4 Tf_5 Tf_f0 Tf_f1 Tf_f2 Tf_f3 Tf_f4 Tf_f5
  have KFa := KF.out.below bel3
  clear KF
  have KF := Lib.hid KFa
  clear KFa
  have KG := Lib.hid ho.ok
  have HG := Lib.hid hg
  clear ho hg
  have t_Tf := Tf.out.below bel3
  clear Tf
  have Tf := Lib.hid t_Tf
  clear t_Tf
  have SB4 : Below w.heap.size w w3 := SB3h.out.trans (bel3.mono SB3h.out.size)
  clear SB3h
  have SB4h := Lib.hid SB4
  clear SB4 bel3
  have lt_Tf := Tf.out.lt
  have Tf_0 := Tf.out.cell 0
  have Tf_1 := Tf.out.cell 1
  have Tf_2 := Tf.out.cell 2
  have Tf_3 := Tf.out.cell 3
  have Tf_4 := Tf.out.cell 4
  have Tf_5 := Tf.out.cell 5
  have Tf_f0 := Tf.out.frozen 0
  have Tf_f1 := Tf.out.frozen 1
  have Tf_f2 := Tf.out.frozen 2
  have Tf_f3 := Tf.out.frozen 3
  have Tf_f4 := Tf.out.frozen 4
  have Tf_f5 := Tf.out.frozen 5
  simp at Tf_0 Tf_1 Tf_2 Tf_3 Tf_4 Tf_5
  have szB_w3 := SB4h.out.size
  have KF0 := Lib.hid KF.out
  have KG0 := Lib.hid KG.out
  have HB0 := Lib.hid SB4h.out
  clear KF KG SB4h
  have SB0h := Lib.hid (Below.refl w3.heap.size w3)
  go_wp2_with fail
  have NE_Tf_Tg := Lib.hid (show w2.heap.size ≠ w3.heap.size by omega)
  have NE_Tf_C := Lib.hid (show w2.heap.size ≠ w3.heap.size + 1 by omega)
  have NE_Tg_C := Lib.hid (show w3.heap.size ≠ w3.heap.size + 1 by omega)
  have s_Tf := Tf.out
  replace s_Tf := s_Tf.alloc (.cells #[.int .i64 g.W, .int .i64 g.H, .slice p'.ac g.nc p'.kc, .slice p'.ad g.nd p'.kd, .slice p'.ai g.ni p'.ki, .slice p'.a4 g.nt p'.kt] 29)
  have s_Tg : HasBlk (w3.alloc (.cells #[.int .i64 g.W, .int .i64 g.H, .slice p'.ac g.nc p'.kc, .slice p'.ad g.nd p'.kd, .slice p'.ai g.ni p'.ki, .slice p'.a4 g.nt p'.kt] 29)) (w3.heap.size) 29 #[.int .i64 g.W, .int .i64 g.H, .slice p'.ac g.nc p'.kc, .slice p'.ad g.nd p'.kd, .slice p'.ai g.ni p'.ki, .slice p'.a4 g.nt p'.kt] := by simpa using hasBlk_new w3 29 #[.int .i64 g.W, .int .i64 g.H, .slice p'.ac g.nc p'.kc, .slice p'.ad g.nd p'.kd, .slice p'.ai g.ni p'.ki, .slice p'.a4 g.nt p'.kt]
  replace s_Tf := s_Tf.alloc (.cells #[.int .u8 255, .int .u8 255, .int .u8 255, .int .u8 255] 23)
  replace s_Tg := s_Tg.alloc (.cells #[.int .u8 255, .int .u8 255, .int .u8 255, .int .u8 255] 23)
  have s_C : HasBlk ((w3.alloc (.cells #[.int .i64 g.W, .int .i64 g.H, .slice p'.ac g.nc p'.kc, .slice p'.ad g.nd p'.kd, .slice p'.ai g.ni p'.ki, .slice p'.a4 g.nt p'.kt] 29)).alloc (.cells #[.int .u8 255, .int .u8 255, .int .u8 255, .int .u8 255] 23)) (w3.heap.size + 1) 23 #[.int .u8 255, .int .u8 255, .int .u8 255, .int .u8 255] := by simpa using hasBlk_new (w3.alloc (.cells #[.int .i64 g.W, .int .i64 g.H, .slice p'.ac g.nc p'.kc, .slice p'.ad g.nd p'.kd, .slice p'.ai g.ni p'.ki, .slice p'.a4 g.nt p'.kt] 29)) 23 #[.int .u8 255, .int .u8 255, .int .u8 255, .int .u8 255]
  have t_Tf : HasBlk ((w3.alloc (.cells #[.int .i64 g.W, .int .i64 g.H, .slice p'.ac g.nc p'.kc, .slice p'.ad g.nd p'.kd, .slice p'.ai g.ni p'.ki, .slice p'.a4 g.nt p'.kt] 29)).alloc (.cells #[.int .u8 255, .int .u8 255, .int .u8 255, .int .u8 255] 23)) (w2.heap.size) 29 #[.int .i64 f.W, .int .i64 f.H, .slice p.ac f.nc p.kc, .slice p.ad f.nd p.kd, .slice p.ai f.ni p.ki, .slice p.a4 f.nt p.kt] := by simpa using s_Tf
  clear s_Tf Tf
  have t_Tg : HasBlk ((w3.alloc (.cells #[.int .i64 g.W, .int .i64 g.H, .slice p'.ac g.nc p'.kc, .slice p'.ad g.nd p'.kd, .slice p'.ai g.ni p'.ki, .slice p'.a4 g.nt p'.kt] 29)).alloc (.cells #[.int .u8 255, .int .u8 255, .int .u8 255, .int .u8 255] 23)) (w3.heap.size) 29 #[.int .i64 g.W, .int .i64 g.H, .slice p'.ac g.nc p'.kc, .slice p'.ad g.nd p'.kd, .slice p'.ai g.ni p'.ki, .slice p'.a4 g.nt p'.kt] := by simpa using s_Tg
  clear s_Tg
  have t_C : HasBlk ((w3.alloc (.cells #[.int .i64 g.W, .int .i64 g.H, .slice p'.ac g.nc p'.kc, .slice p'.ad g.nd p'.kd, .slice p'.ai g.ni p'.ki, .slice p'.a4 g.nt p'.kt] 29)).alloc (.cells #[.int .u8 255, .int .u8 255, .int .u8 255, .int .u8 255] 23)) (w3.heap.size + 1) 23 #[.int .u8 255, .int .u8 255, .int .u8 255, .int .u8 255] := by simpa using s_C
  clear s_C
  have SB5 : Below w3.heap.size w3 ((w3.alloc (.cells #[.int .i64 g.W, .int .i64 g.H, .slice p'.ac g.nc p'.kc, .slice p'.ad g.nd p'.kd, .slice p'.ai g.ni p'.ki, .slice p'.a4 g.nt p'.kt] 29)).alloc (.cells #[.int .u8 255, .int .u8 255, .int .u8 255, .int .u8 255] 23)) := by
    have bel0 := SB0h.out
    repeat' (first | exact Below.refl _ _ | assumption | apply Below.drew | refine Below.setCell ?_ (by first | omega | (simp; done) | (simp; omega)) _ | refine Below.alloc ?_ (by first | omega | (simp; done) | (simp; omega)) _)
  clear lt_Tf Tf_0 Tf_1 Tf_2 Tf_3 Tf_4 Tf_5 Tf_f0 Tf_f1 Tf_f2 Tf_f3 Tf_f4 Tf_f5
  generalize gW_v2 : ((w3.alloc (.cells #[.int .i64 g.W, .int .i64 g.H, .slice p'.ac g.nc p'.kc, .slice p'.ad g.nd p'.kd, .slice p'.ai g.ni p'.ki, .slice p'.a4 g.nt p'.kt] 29)).alloc (.cells #[.int .u8 255, .int .u8 255, .int .u8 255, .int .u8 255] 23)) = v2 at *
  clear gW_v2
  have Tf := Lib.hid t_Tf
  clear t_Tf
  have Tg := Lib.hid t_Tg
  clear t_Tg
  have C := Lib.hid t_C
  clear t_C
  clear SB0h
  have SB5h := Lib.hid SB5
  clear SB5
  have lt_Tf := Tf.out.lt
  have Tf_0 := Tf.out.cell 0
  have Tf_1 := Tf.out.cell 1
  have Tf_2 := Tf.out.cell 2
  have Tf_3 := Tf.out.cell 3
  have Tf_4 := Tf.out.cell 4
  have Tf_5 := Tf.out.cell 5
  have Tf_f0 := Tf.out.frozen 0
  have Tf_f1 := Tf.out.frozen 1
  have Tf_f2 := Tf.out.frozen 2
  have Tf_f3 := Tf.out.frozen 3
  have Tf_f4 := Tf.out.frozen 4
  have Tf_f5 := Tf.out.frozen 5
  simp at Tf_0 Tf_1 Tf_2 Tf_3 Tf_4 Tf_5
  have lt_Tg := Tg.out.lt
  have Tg_0 := Tg.out.cell 0
  have Tg_1 := Tg.out.cell 1
  have Tg_2 := Tg.out.cell 2
  have Tg_3 := Tg.out.cell 3
  have Tg_4 := Tg.out.cell 4
  have Tg_5 := Tg.out.cell 5
  have Tg_f0 := Tg.out.frozen 0
  have Tg_f1 := Tg.out.frozen 1
  have Tg_f2 := Tg.out.frozen 2
  have Tg_f3 := Tg.out.frozen 3
  have Tg_f4 := Tg.out.frozen 4
  have Tg_f5 := Tg.out.frozen 5
  simp at Tg_0 Tg_1 Tg_2 Tg_3 Tg_4 Tg_5
  have lt_C := C.out.lt
  have C_0 := C.out.cell 0
  have C_1 := C.out.cell 1
  have C_2 := C.out.cell 2
  have C_3 := C.out.cell 3
  have C_f0 := C.out.frozen 0
  have C_f1 := C.out.frozen 1
  have C_f2 := C.out.frozen 2
  have C_f3 := C.out.frozen 3
  simp at C_0 C_1 C_2 C_3
  have szB_v2 := SB5h.out.size
  have ltC2 := C.out.lt
  refine (lay_frame p f 1 0 600 cwh _ (KF0.out.below SB5h.out)).mono ?_
  rintro e w4 ⟨⟨px, x, zx, rfl, ho, hv⟩, bel4⟩
  clear lt_Tf Tf_0 Tf_1 Tf_2 Tf_3 Tf_4 Tf_5 Tf_f0 Tf_f1 Tf_f2 Tf_f3 Tf_f4 Tf_f5 lt_Tg Tg_0 Tg_1 Tg_2 Tg_3 Tg_4 Tg_5 Tg_f0 Tg_f1 Tg_f2 Tg_f3 Tg_f4 Tg_f5 lt_C C_0 C_1 C_2 C_3 C_f0 C_f1 C_f2 C_f3
  obtain ⟨rfl, hx⟩ := lay_one HF.out hv
  have OX := Lib.hid ho
  have HXx := Lib.hid hx
  clear ho hv hx
  have t_Tf := Tf.out.below bel4
  clear Tf
  have Tf := Lib.hid t_Tf
  clear t_Tf
  have t_Tg := Tg.out.below bel4
  clear Tg
  have Tg := Lib.hid t_Tg
  clear t_Tg
  have t_C := C.out.below bel4
  clear C
  have C := Lib.hid t_C
  clear t_C
  have SB6 : Below w3.heap.size w3 w4 := SB5h.out.trans (bel4.mono SB5h.out.size)
  clear SB5h
  have SB6h := Lib.hid SB6
  clear SB6 bel4
  have lt_Tf := Tf.out.lt
  have Tf_0 := Tf.out.cell 0
  have Tf_1 := Tf.out.cell 1
  have Tf_2 := Tf.out.cell 2
  have Tf_3 := Tf.out.cell 3
  have Tf_4 := Tf.out.cell 4
  have Tf_5 := Tf.out.cell 5
  have Tf_f0 := Tf.out.frozen 0
  have Tf_f1 := Tf.out.frozen 1
  have Tf_f2 := Tf.out.frozen 2
  have Tf_f3 := Tf.out.frozen 3
  have Tf_f4 := Tf.out.frozen 4
  have Tf_f5 := Tf.out.frozen 5
  simp at Tf_0 Tf_1 Tf_2 Tf_3 Tf_4 Tf_5
  have lt_Tg := Tg.out.lt
  have Tg_0 := Tg.out.cell 0
  have Tg_1 := Tg.out.cell 1
  have Tg_2 := Tg.out.cell 2
  have Tg_3 := Tg.out.cell 3
  have Tg_4 := Tg.out.cell 4
  have Tg_5 := Tg.out.cell 5
  have Tg_f0 := Tg.out.frozen 0
  have Tg_f1 := Tg.out.frozen 1
  have Tg_f2 := Tg.out.frozen 2
  have Tg_f3 := Tg.out.frozen 3
  have Tg_f4 := Tg.out.frozen 4
  have Tg_f5 := Tg.out.frozen 5
  simp at Tg_0 Tg_1 Tg_2 Tg_3 Tg_4 Tg_5
  have lt_C := C.out.lt
  have C_0 := C.out.cell 0
  have C_1 := C.out.cell 1
  have C_2 := C.out.cell 2
  have C_3 := C.out.cell 3
  have C_f0 := C.out.frozen 0
  have C_f1 := C.out.frozen 1
  have C_f2 := C.out.frozen 2
  have C_f3 := C.out.frozen 3
  simp at C_0 C_1 C_2 C_3
  have szB_w4 := SB6h.out.size
  have lNE_Tf_C := NE_Tf_C.out
  have rNE_Tf_C := Ne.symm NE_Tf_C.out
  have lNE_Tg_C := NE_Tg_C.out
  have rNE_Tg_C := Ne.symm NE_Tg_C.out
  go_wp2_with fail
  clear lNE_Tf_C rNE_Tf_C lNE_Tg_C rNE_Tg_C
  have KXa := (FOwn.far (g := w3.heap.size + 1) (j := 3) OX.out ltC2 (.int .u8 128)).ok.below ((Below.refl (w4.setCell ⟨w3.heap.size + 1, 3, none⟩ (.int .u8 128)).heap.size (w4.setCell ⟨w3.heap.size + 1, 3, none⟩ (.int .u8 128))).alloc (Nat.le_refl _) (.cells #[.int .i64 x.W, .int .i64 x.H, .slice px.ac x.nc px.kc, .slice px.ad x.nd px.kd, .slice px.ai x.ni px.ki, .slice px.a4 x.nt px.kt] 29))
  clear OX
  have NE_Tf_X := Lib.hid (show w2.heap.size ≠ w4.heap.size by omega)
  have NE_Tg_X := Lib.hid (show w3.heap.size ≠ w4.heap.size by omega)
  have NE_C_X := Lib.hid (show w3.heap.size + 1 ≠ w4.heap.size by omega)
  have s_Tf := Tf.out
  have s_Tg := Tg.out
  have s_C := C.out
  replace s_C := s_C.set 3 (.int .u8 128)
  replace s_Tf := s_Tf.far (p := ⟨w3.heap.size + 1, 3, none⟩) (by first | exact NE_Tf_C.out | exact Ne.symm NE_Tf_C.out | (simp; done) | (simp; omega) | omega) (.int .u8 128)
  replace s_Tg := s_Tg.far (p := ⟨w3.heap.size + 1, 3, none⟩) (by first | exact NE_Tg_C.out | exact Ne.symm NE_Tg_C.out | (simp; done) | (simp; omega) | omega) (.int .u8 128)
  replace s_Tf := s_Tf.alloc (.cells #[.int .i64 x.W, .int .i64 x.H, .slice px.ac x.nc px.kc, .slice px.ad x.nd px.kd, .slice px.ai x.ni px.ki, .slice px.a4 x.nt px.kt] 29)
  replace s_Tg := s_Tg.alloc (.cells #[.int .i64 x.W, .int .i64 x.H, .slice px.ac x.nc px.kc, .slice px.ad x.nd px.kd, .slice px.ai x.ni px.ki, .slice px.a4 x.nt px.kt] 29)
  replace s_C := s_C.alloc (.cells #[.int .i64 x.W, .int .i64 x.H, .slice px.ac x.nc px.kc, .slice px.ad x.nd px.kd, .slice px.ai x.ni px.ki, .slice px.a4 x.nt px.kt] 29)
  have s_X : HasBlk ((w4.setCell ⟨w3.heap.size + 1, 3, none⟩ (.int .u8 128)).alloc (.cells #[.int .i64 x.W, .int .i64 x.H, .slice px.ac x.nc px.kc, .slice px.ad x.nd px.kd, .slice px.ai x.ni px.ki, .slice px.a4 x.nt px.kt] 29)) (w4.heap.size) 29 #[.int .i64 x.W, .int .i64 x.H, .slice px.ac x.nc px.kc, .slice px.ad x.nd px.kd, .slice px.ai x.ni px.ki, .slice px.a4 x.nt px.kt] := by simpa using hasBlk_new (w4.setCell ⟨w3.heap.size + 1, 3, none⟩ (.int .u8 128)) 29 #[.int .i64 x.W, .int .i64 x.H, .slice px.ac x.nc px.kc, .slice px.ad x.nd px.kd, .slice px.ai x.ni px.ki, .slice px.a4 x.nt px.kt]
  have t_Tf : HasBlk ((w4.setCell ⟨w3.heap.size + 1, 3, none⟩ (.int .u8 128)).alloc (.cells #[.int .i64 x.W, .int .i64 x.H, .slice px.ac x.nc px.kc, .slice px.ad x.nd px.kd, .slice px.ai x.ni px.ki, .slice px.a4 x.nt px.kt] 29)) (w2.heap.size) 29 #[.int .i64 f.W, .int .i64 f.H, .slice p.ac f.nc p.kc, .slice p.ad f.nd p.kd, .slice p.ai f.ni p.ki, .slice p.a4 f.nt p.kt] := by simpa using s_Tf
  clear s_Tf Tf
  have t_Tg : HasBlk ((w4.setCell ⟨w3.heap.size + 1, 3, none⟩ (.int .u8 128)).alloc (.cells #[.int .i64 x.W, .int .i64 x.H, .slice px.ac x.nc px.kc, .slice px.ad x.nd px.kd, .slice px.ai x.ni px.ki, .slice px.a4 x.nt px.kt] 29)) (w3.heap.size) 29 #[.int .i64 g.W, .int .i64 g.H, .slice p'.ac g.nc p'.kc, .slice p'.ad g.nd p'.kd, .slice p'.ai g.ni p'.ki, .slice p'.a4 g.nt p'.kt] := by simpa using s_Tg
  clear s_Tg Tg
  have t_C : HasBlk ((w4.setCell ⟨w3.heap.size + 1, 3, none⟩ (.int .u8 128)).alloc (.cells #[.int .i64 x.W, .int .i64 x.H, .slice px.ac x.nc px.kc, .slice px.ad x.nd px.kd, .slice px.ai x.ni px.ki, .slice px.a4 x.nt px.kt] 29)) (w3.heap.size + 1) 23 #[.int .u8 255, .int .u8 255, .int .u8 255, .int .u8 128] := by simpa using s_C
  clear s_C C
  have t_X : HasBlk ((w4.setCell ⟨w3.heap.size + 1, 3, none⟩ (.int .u8 128)).alloc (.cells #[.int .i64 x.W, .int .i64 x.H, .slice px.ac x.nc px.kc, .slice px.ad x.nd px.kd, .slice px.ai x.ni px.ki, .slice px.a4 x.nt px.kt] 29)) (w4.heap.size) 29 #[.int .i64 x.W, .int .i64 x.H, .slice px.ac x.nc px.kc, .slice px.ad x.nd px.kd, .slice px.ai x.ni px.ki, .slice px.a4 x.nt px.kt] := by simpa using s_X
  clear s_X
  have LE_C : w3.heap.size ≤ w3.heap.size + 1 := by omega
  have SB7 : Below w3.heap.size w3 ((w4.setCell ⟨w3.heap.size + 1, 3, none⟩ (.int .u8 128)).alloc (.cells #[.int .i64 x.W, .int .i64 x.H, .slice px.ac x.nc px.kc, .slice px.ad x.nd px.kd, .slice px.ai x.ni px.ki, .slice px.a4 x.nt px.kt] 29)) := (Below.alloc (Below.setCell (p := ⟨w3.heap.size + 1, 3, none⟩) SB6h.out LE_C _) (by first | omega | (simp; done) | (simp; omega)) _)
  clear lt_Tf Tf_0 Tf_1 Tf_2 Tf_3 Tf_4 Tf_5 Tf_f0 Tf_f1 Tf_f2 Tf_f3 Tf_f4 Tf_f5 lt_Tg Tg_0 Tg_1 Tg_2 Tg_3 Tg_4 Tg_5 Tg_f0 Tg_f1 Tg_f2 Tg_f3 Tg_f4 Tg_f5 lt_C C_0 C_1 C_2 C_3 C_f0 C_f1 C_f2 C_f3
  generalize gW_v3 : ((w4.setCell ⟨w3.heap.size + 1, 3, none⟩ (.int .u8 128)).alloc (.cells #[.int .i64 x.W, .int .i64 x.H, .slice px.ac x.nc px.kc, .slice px.ad x.nd px.kd, .slice px.ai x.ni px.ki, .slice px.a4 x.nt px.kt] 29)) = v3 at *
  clear gW_v3
  have Tf := Lib.hid t_Tf
  clear t_Tf
  have Tg := Lib.hid t_Tg
  clear t_Tg
  have C := Lib.hid t_C
  clear t_C
  have X := Lib.hid t_X
  clear t_X
  clear SB6h
  have SB7h := Lib.hid SB7
  clear SB7
  have lt_Tf := Tf.out.lt
  have Tf_0 := Tf.out.cell 0
  have Tf_1 := Tf.out.cell 1
  have Tf_2 := Tf.out.cell 2
  have Tf_3 := Tf.out.cell 3
  have Tf_4 := Tf.out.cell 4
  have Tf_5 := Tf.out.cell 5
  have Tf_f0 := Tf.out.frozen 0
  have Tf_f1 := Tf.out.frozen 1
  have Tf_f2 := Tf.out.frozen 2
  have Tf_f3 := Tf.out.frozen 3
  have Tf_f4 := Tf.out.frozen 4
  have Tf_f5 := Tf.out.frozen 5
  simp at Tf_0 Tf_1 Tf_2 Tf_3 Tf_4 Tf_5
  have lt_Tg := Tg.out.lt
  have Tg_0 := Tg.out.cell 0
  have Tg_1 := Tg.out.cell 1
  have Tg_2 := Tg.out.cell 2
  have Tg_3 := Tg.out.cell 3
  have Tg_4 := Tg.out.cell 4
  have Tg_5 := Tg.out.cell 5
  have Tg_f0 := Tg.out.frozen 0
  have Tg_f1 := Tg.out.frozen 1
  have Tg_f2 := Tg.out.frozen 2
  have Tg_f3 := Tg.out.frozen 3
  have Tg_f4 := Tg.out.frozen 4
  have Tg_f5 := Tg.out.frozen 5
  simp at Tg_0 Tg_1 Tg_2 Tg_3 Tg_4 Tg_5
  have lt_C := C.out.lt
  have C_0 := C.out.cell 0
  have C_1 := C.out.cell 1
  have C_2 := C.out.cell 2
  have C_3 := C.out.cell 3
  have C_f0 := C.out.frozen 0
  have C_f1 := C.out.frozen 1
  have C_f2 := C.out.frozen 2
  have C_f3 := C.out.frozen 3
  simp at C_0 C_1 C_2 C_3
  have lt_X := X.out.lt
  have X_0 := X.out.cell 0
  have X_1 := X.out.cell 1
  have X_2 := X.out.cell 2
  have X_3 := X.out.cell 3
  have X_4 := X.out.cell 4
  have X_5 := X.out.cell 5
  have X_f0 := X.out.frozen 0
  have X_f1 := X.out.frozen 1
  have X_f2 := X.out.frozen 2
  have X_f3 := X.out.frozen 3
  have X_f4 := X.out.frozen 4
  have X_f5 := X.out.frozen 5
  simp at X_0 X_1 X_2 X_3 X_4 X_5
  have szB_v3 := SB7h.out.size
  have KX := Lib.hid KXa
  clear KXa
  refine (lay_frame p f 1 0 601 cwi _ (KF0.out.below SB7h.out)).mono ?_
  rintro e w5 ⟨⟨py, y, zy, rfl, ho, hv⟩, bel5⟩
  clear lt_Tf Tf_0 Tf_1 Tf_2 Tf_3 Tf_4 Tf_5 Tf_f0 Tf_f1 Tf_f2 Tf_f3 Tf_f4 Tf_f5 lt_Tg Tg_0 Tg_1 Tg_2 Tg_3 Tg_4 Tg_5 Tg_f0 Tg_f1 Tg_f2 Tg_f3 Tg_f4 Tg_f5 lt_C C_0 C_1 C_2 C_3 C_f0 C_f1 C_f2 C_f3 lt_X X_0 X_1 X_2 X_3 X_4 X_5 X_f0 X_f1 X_f2 X_f3 X_f4 X_f5
  have KXa := KX.out.below bel5
  clear KX
  have KX := Lib.hid KXa
  clear KXa
  obtain ⟨rfl, ⟨hy1, hy2⟩, hy3, hy4⟩ := lay_two HF.out hv
  have KY := Lib.hid ho.ok
  clear ho hv
  obtain ⟨yW, yH, yc, yd, yi, yt, yC, yD, yI, yT⟩ := y
  obtain ⟨ac, ad, ai, a4, kc, kd, ki, kt⟩ := py
  dsimp only at hy1 hy2 hy3 hy4 KY ⊢
  subst hy1 hy2
  have t_Tf := Tf.out.below bel5
  clear Tf
  have Tf := Lib.hid t_Tf
  clear t_Tf
  have t_Tg := Tg.out.below bel5
  clear Tg
  have Tg := Lib.hid t_Tg
  clear t_Tg
  have t_C := C.out.below bel5
  clear C
  have C := Lib.hid t_C
  clear t_C
  have t_X := X.out.below bel5
  clear X
  have X := Lib.hid t_X
  clear t_X
  have SB8 : Below w3.heap.size w3 w5 := SB7h.out.trans (bel5.mono SB7h.out.size)
  clear SB7h
  have SB8h := Lib.hid SB8
  clear SB8 bel5
  have lt_Tf := Tf.out.lt
  have Tf_0 := Tf.out.cell 0
  have Tf_1 := Tf.out.cell 1
  have Tf_2 := Tf.out.cell 2
  have Tf_3 := Tf.out.cell 3
  have Tf_4 := Tf.out.cell 4
  have Tf_5 := Tf.out.cell 5
  have Tf_f0 := Tf.out.frozen 0
  have Tf_f1 := Tf.out.frozen 1
  have Tf_f2 := Tf.out.frozen 2
  have Tf_f3 := Tf.out.frozen 3
  have Tf_f4 := Tf.out.frozen 4
  have Tf_f5 := Tf.out.frozen 5
  simp at Tf_0 Tf_1 Tf_2 Tf_3 Tf_4 Tf_5
  have lt_Tg := Tg.out.lt
  have Tg_0 := Tg.out.cell 0
  have Tg_1 := Tg.out.cell 1
  have Tg_2 := Tg.out.cell 2
  have Tg_3 := Tg.out.cell 3
  have Tg_4 := Tg.out.cell 4
  have Tg_5 := Tg.out.cell 5
  have Tg_f0 := Tg.out.frozen 0
  have Tg_f1 := Tg.out.frozen 1
  have Tg_f2 := Tg.out.frozen 2
  have Tg_f3 := Tg.out.frozen 3
  have Tg_f4 := Tg.out.frozen 4
  have Tg_f5 := Tg.out.frozen 5
  simp at Tg_0 Tg_1 Tg_2 Tg_3 Tg_4 Tg_5
  have lt_C := C.out.lt
  have C_0 := C.out.cell 0
  have C_1 := C.out.cell 1
  have C_2 := C.out.cell 2
  have C_3 := C.out.cell 3
  have C_f0 := C.out.frozen 0
  have C_f1 := C.out.frozen 1
  have C_f2 := C.out.frozen 2
  have C_f3 := C.out.frozen 3
  simp at C_0 C_1 C_2 C_3
  have lt_X := X.out.lt
  have X_0 := X.out.cell 0
  have X_1 := X.out.cell 1
  have X_2 := X.out.cell 2
  have X_3 := X.out.cell 3
  have X_4 := X.out.cell 4
  have X_5 := X.out.cell 5
  have X_f0 := X.out.frozen 0
  have X_f1 := X.out.frozen 1
  have X_f2 := X.out.frozen 2
  have X_f3 := X.out.frozen 3
  have X_f4 := X.out.frozen 4
  have X_f5 := X.out.frozen 5
  simp at X_0 X_1 X_2 X_3 X_4 X_5
  have szB_w5 := SB8h.out.size
  go_wp2_with fail
  have KXa := (KX.out.below ((Below.refl w5.heap.size w5).alloc (Nat.le_refl _) (.cells #[.int .i64 yW, .int .i64 yH, .slice ac 2 kc, .slice ad 2 kd, .slice ai yi ki, .slice a4 yt kt] 29)))
  clear KX
  have KYa := (KY.out.below ((Below.refl w5.heap.size w5).alloc (Nat.le_refl _) (.cells #[.int .i64 yW, .int .i64 yH, .slice ac 2 kc, .slice ad 2 kd, .slice ai yi ki, .slice a4 yt kt] 29)))
  clear KY
  have NE_Tf_Y := Lib.hid (show w2.heap.size ≠ w5.heap.size by omega)
  have NE_Tg_Y := Lib.hid (show w3.heap.size ≠ w5.heap.size by omega)
  have NE_C_Y := Lib.hid (show w3.heap.size + 1 ≠ w5.heap.size by omega)
  have NE_X_Y := Lib.hid (show w4.heap.size ≠ w5.heap.size by omega)
  have s_Tf := Tf.out
  have s_Tg := Tg.out
  have s_C := C.out
  have s_X := X.out
  replace s_Tf := s_Tf.alloc (.cells #[.int .i64 yW, .int .i64 yH, .slice ac 2 kc, .slice ad 2 kd, .slice ai yi ki, .slice a4 yt kt] 29)
  replace s_Tg := s_Tg.alloc (.cells #[.int .i64 yW, .int .i64 yH, .slice ac 2 kc, .slice ad 2 kd, .slice ai yi ki, .slice a4 yt kt] 29)
  replace s_C := s_C.alloc (.cells #[.int .i64 yW, .int .i64 yH, .slice ac 2 kc, .slice ad 2 kd, .slice ai yi ki, .slice a4 yt kt] 29)
  replace s_X := s_X.alloc (.cells #[.int .i64 yW, .int .i64 yH, .slice ac 2 kc, .slice ad 2 kd, .slice ai yi ki, .slice a4 yt kt] 29)
  have s_Y : HasBlk (w5.alloc (.cells #[.int .i64 yW, .int .i64 yH, .slice ac 2 kc, .slice ad 2 kd, .slice ai yi ki, .slice a4 yt kt] 29)) (w5.heap.size) 29 #[.int .i64 yW, .int .i64 yH, .slice ac 2 kc, .slice ad 2 kd, .slice ai yi ki, .slice a4 yt kt] := by simpa using hasBlk_new w5 29 #[.int .i64 yW, .int .i64 yH, .slice ac 2 kc, .slice ad 2 kd, .slice ai yi ki, .slice a4 yt kt]
  have t_Tf : HasBlk (w5.alloc (.cells #[.int .i64 yW, .int .i64 yH, .slice ac 2 kc, .slice ad 2 kd, .slice ai yi ki, .slice a4 yt kt] 29)) (w2.heap.size) 29 #[.int .i64 f.W, .int .i64 f.H, .slice p.ac f.nc p.kc, .slice p.ad f.nd p.kd, .slice p.ai f.ni p.ki, .slice p.a4 f.nt p.kt] := by simpa using s_Tf
  clear s_Tf Tf
  have t_Tg : HasBlk (w5.alloc (.cells #[.int .i64 yW, .int .i64 yH, .slice ac 2 kc, .slice ad 2 kd, .slice ai yi ki, .slice a4 yt kt] 29)) (w3.heap.size) 29 #[.int .i64 g.W, .int .i64 g.H, .slice p'.ac g.nc p'.kc, .slice p'.ad g.nd p'.kd, .slice p'.ai g.ni p'.ki, .slice p'.a4 g.nt p'.kt] := by simpa using s_Tg
  clear s_Tg Tg
  have t_C : HasBlk (w5.alloc (.cells #[.int .i64 yW, .int .i64 yH, .slice ac 2 kc, .slice ad 2 kd, .slice ai yi ki, .slice a4 yt kt] 29)) (w3.heap.size + 1) 23 #[.int .u8 255, .int .u8 255, .int .u8 255, .int .u8 128] := by simpa using s_C
  clear s_C C
  have t_X : HasBlk (w5.alloc (.cells #[.int .i64 yW, .int .i64 yH, .slice ac 2 kc, .slice ad 2 kd, .slice ai yi ki, .slice a4 yt kt] 29)) (w4.heap.size) 29 #[.int .i64 x.W, .int .i64 x.H, .slice px.ac x.nc px.kc, .slice px.ad x.nd px.kd, .slice px.ai x.ni px.ki, .slice px.a4 x.nt px.kt] := by simpa using s_X
  clear s_X X
  have t_Y : HasBlk (w5.alloc (.cells #[.int .i64 yW, .int .i64 yH, .slice ac 2 kc, .slice ad 2 kd, .slice ai yi ki, .slice a4 yt kt] 29)) (w5.heap.size) 29 #[.int .i64 yW, .int .i64 yH, .slice ac 2 kc, .slice ad 2 kd, .slice ai yi ki, .slice a4 yt kt] := by simpa using s_Y
  clear s_Y
  have SB9 : Below w3.heap.size w3 (w5.alloc (.cells #[.int .i64 yW, .int .i64 yH, .slice ac 2 kc, .slice ad 2 kd, .slice ai yi ki, .slice a4 yt kt] 29)) := by
    have bel0 := SB8h.out
    repeat' (first | exact Below.refl _ _ | assumption | apply Below.drew | refine Below.setCell ?_ (by first | omega | (simp; done) | (simp; omega)) _ | refine Below.alloc ?_ (by first | omega | (simp; done) | (simp; omega)) _)
  clear lt_Tf Tf_0 Tf_1 Tf_2 Tf_3 Tf_4 Tf_5 Tf_f0 Tf_f1 Tf_f2 Tf_f3 Tf_f4 Tf_f5 lt_Tg Tg_0 Tg_1 Tg_2 Tg_3 Tg_4 Tg_5 Tg_f0 Tg_f1 Tg_f2 Tg_f3 Tg_f4 Tg_f5 lt_C C_0 C_1 C_2 C_3 C_f0 C_f1 C_f2 C_f3 lt_X X_0 X_1 X_2 X_3 X_4 X_5 X_f0 X_f1 X_f2 X_f3 X_f4 X_f5
  generalize gW_v4 : (w5.alloc (.cells #[.int .i64 yW, .int .i64 yH, .slice ac 2 kc, .slice ad 2 kd, .slice ai yi ki, .slice a4 yt kt] 29)) = v4 at *
  clear gW_v4
  have Tf := Lib.hid t_Tf
  clear t_Tf
  have Tg := Lib.hid t_Tg
  clear t_Tg
  have C := Lib.hid t_C
  clear t_C
  have X := Lib.hid t_X
  clear t_X
  have Y := Lib.hid t_Y
  clear t_Y
  clear SB8h
  have SB9h := Lib.hid SB9
  clear SB9
  have KX := Lib.hid KXa
  clear KXa
  have KY := Lib.hid KYa
  clear KYa
  have lt_Tf := Tf.out.lt
  have Tf_0 := Tf.out.cell 0
  have Tf_1 := Tf.out.cell 1
  have Tf_2 := Tf.out.cell 2
  have Tf_3 := Tf.out.cell 3
  have Tf_4 := Tf.out.cell 4
  have Tf_5 := Tf.out.cell 5
  have Tf_f0 := Tf.out.frozen 0
  have Tf_f1 := Tf.out.frozen 1
  have Tf_f2 := Tf.out.frozen 2
  have Tf_f3 := Tf.out.frozen 3
  have Tf_f4 := Tf.out.frozen 4
  have Tf_f5 := Tf.out.frozen 5
  simp at Tf_0 Tf_1 Tf_2 Tf_3 Tf_4 Tf_5
  have lt_Tg := Tg.out.lt
  have Tg_0 := Tg.out.cell 0
  have Tg_1 := Tg.out.cell 1
  have Tg_2 := Tg.out.cell 2
  have Tg_3 := Tg.out.cell 3
  have Tg_4 := Tg.out.cell 4
  have Tg_5 := Tg.out.cell 5
  have Tg_f0 := Tg.out.frozen 0
  have Tg_f1 := Tg.out.frozen 1
  have Tg_f2 := Tg.out.frozen 2
  have Tg_f3 := Tg.out.frozen 3
  have Tg_f4 := Tg.out.frozen 4
  have Tg_f5 := Tg.out.frozen 5
  simp at Tg_0 Tg_1 Tg_2 Tg_3 Tg_4 Tg_5
  have lt_C := C.out.lt
  have C_0 := C.out.cell 0
  have C_1 := C.out.cell 1
  have C_2 := C.out.cell 2
  have C_3 := C.out.cell 3
  have C_f0 := C.out.frozen 0
  have C_f1 := C.out.frozen 1
  have C_f2 := C.out.frozen 2
  have C_f3 := C.out.frozen 3
  simp at C_0 C_1 C_2 C_3
  have lt_X := X.out.lt
  have X_0 := X.out.cell 0
  have X_1 := X.out.cell 1
  have X_2 := X.out.cell 2
  have X_3 := X.out.cell 3
  have X_4 := X.out.cell 4
  have X_5 := X.out.cell 5
  have X_f0 := X.out.frozen 0
  have X_f1 := X.out.frozen 1
  have X_f2 := X.out.frozen 2
  have X_f3 := X.out.frozen 3
  have X_f4 := X.out.frozen 4
  have X_f5 := X.out.frozen 5
  simp at X_0 X_1 X_2 X_3 X_4 X_5
  have lt_Y := Y.out.lt
  have Y_0 := Y.out.cell 0
  have Y_1 := Y.out.cell 1
  have Y_2 := Y.out.cell 2
  have Y_3 := Y.out.cell 3
  have Y_4 := Y.out.cell 4
  have Y_5 := Y.out.cell 5
  have Y_f0 := Y.out.frozen 0
  have Y_f1 := Y.out.frozen 1
  have Y_f2 := Y.out.frozen 2
  have Y_f3 := Y.out.frozen 3
  have Y_f4 := Y.out.frozen 4
  have Y_f5 := Y.out.frozen 5
  simp at Y_0 Y_1 Y_2 Y_3 Y_4 Y_5
  have szB_v4 := SB9h.out.size
  refine (black_any _).mono ?_
  rintro e w6 ⟨rfl, bel6⟩
  clear lt_Tf Tf_0 Tf_1 Tf_2 Tf_3 Tf_4 Tf_5 Tf_f0 Tf_f1 Tf_f2 Tf_f3 Tf_f4 Tf_f5 lt_Tg Tg_0 Tg_1 Tg_2 Tg_3 Tg_4 Tg_5 Tg_f0 Tg_f1 Tg_f2 Tg_f3 Tg_f4 Tg_f5 lt_C C_0 C_1 C_2 C_3 C_f0 C_f1 C_f2 C_f3 lt_X X_0 X_1 X_2 X_3 X_4 X_5 X_f0 X_f1 X_f2 X_f3 X_f4 X_f5 lt_Y Y_0 Y_1 Y_2 Y_3 Y_4 Y_5 Y_f0 Y_f1 Y_f2 Y_f3 Y_f4 Y_f5
  have KXa := KX.out.below bel6
  clear KX
  have KX := Lib.hid KXa
  clear KXa
  have KYa := KY.out.below bel6
  clear KY
  have KY := Lib.hid KYa
  clear KYa
  have t_Tf := Tf.out.below bel6
  clear Tf
  have Tf := Lib.hid t_Tf
  clear t_Tf
  have t_Tg := Tg.out.below bel6
  clear Tg
  have Tg := Lib.hid t_Tg
  clear t_Tg
  have t_C := C.out.below bel6
  clear C
  have C := Lib.hid t_C
  clear t_C
  have t_X := X.out.below bel6
  clear X
  have X := Lib.hid t_X
  clear t_X
  have t_Y := Y.out.below bel6
  clear Y
  have Y := Lib.hid t_Y
  clear t_Y
  have SB10 : Below w3.heap.size w3 w6 := SB9h.out.trans (bel6.mono SB9h.out.size)
  clear SB9h
  have SB10h := Lib.hid SB10
  clear SB10 bel6
  have lt_Tf := Tf.out.lt
  have Tf_0 := Tf.out.cell 0
  have Tf_1 := Tf.out.cell 1
  have Tf_2 := Tf.out.cell 2
  have Tf_3 := Tf.out.cell 3
  have Tf_4 := Tf.out.cell 4
  have Tf_5 := Tf.out.cell 5
  have Tf_f0 := Tf.out.frozen 0
  have Tf_f1 := Tf.out.frozen 1
  have Tf_f2 := Tf.out.frozen 2
  have Tf_f3 := Tf.out.frozen 3
  have Tf_f4 := Tf.out.frozen 4
  have Tf_f5 := Tf.out.frozen 5
  simp at Tf_0 Tf_1 Tf_2 Tf_3 Tf_4 Tf_5
  have lt_Tg := Tg.out.lt
  have Tg_0 := Tg.out.cell 0
  have Tg_1 := Tg.out.cell 1
  have Tg_2 := Tg.out.cell 2
  have Tg_3 := Tg.out.cell 3
  have Tg_4 := Tg.out.cell 4
  have Tg_5 := Tg.out.cell 5
  have Tg_f0 := Tg.out.frozen 0
  have Tg_f1 := Tg.out.frozen 1
  have Tg_f2 := Tg.out.frozen 2
  have Tg_f3 := Tg.out.frozen 3
  have Tg_f4 := Tg.out.frozen 4
  have Tg_f5 := Tg.out.frozen 5
  simp at Tg_0 Tg_1 Tg_2 Tg_3 Tg_4 Tg_5
  have lt_C := C.out.lt
  have C_0 := C.out.cell 0
  have C_1 := C.out.cell 1
  have C_2 := C.out.cell 2
  have C_3 := C.out.cell 3
  have C_f0 := C.out.frozen 0
  have C_f1 := C.out.frozen 1
  have C_f2 := C.out.frozen 2
  have C_f3 := C.out.frozen 3
  simp at C_0 C_1 C_2 C_3
  have lt_X := X.out.lt
  have X_0 := X.out.cell 0
  have X_1 := X.out.cell 1
  have X_2 := X.out.cell 2
  have X_3 := X.out.cell 3
  have X_4 := X.out.cell 4
  have X_5 := X.out.cell 5
  have X_f0 := X.out.frozen 0
  have X_f1 := X.out.frozen 1
  have X_f2 := X.out.frozen 2
  have X_f3 := X.out.frozen 3
  have X_f4 := X.out.frozen 4
  have X_f5 := X.out.frozen 5
  simp at X_0 X_1 X_2 X_3 X_4 X_5
  have lt_Y := Y.out.lt
  have Y_0 := Y.out.cell 0
  have Y_1 := Y.out.cell 1
  have Y_2 := Y.out.cell 2
  have Y_3 := Y.out.cell 3
  have Y_4 := Y.out.cell 4
  have Y_5 := Y.out.cell 5
  have Y_f0 := Y.out.frozen 0
  have Y_f1 := Y.out.frozen 1
  have Y_f2 := Y.out.frozen 2
  have Y_f3 := Y.out.frozen 3
  have Y_f4 := Y.out.frozen 4
  have Y_f5 := Y.out.frozen 5
  simp at Y_0 Y_1 Y_2 Y_3 Y_4 Y_5
  have szB_w6 := SB10h.out.size
  go_wp2_with fail
  refine (new_any 2 1 cbk _).mono ?_
  rintro e w7 ⟨⟨pn, fn, zn, rfl, hok, hv⟩, bel7⟩
  clear lt_Tf Tf_0 Tf_1 Tf_2 Tf_3 Tf_4 Tf_5 Tf_f0 Tf_f1 Tf_f2 Tf_f3 Tf_f4 Tf_f5 lt_Tg Tg_0 Tg_1 Tg_2 Tg_3 Tg_4 Tg_5 Tg_f0 Tg_f1 Tg_f2 Tg_f3 Tg_f4 Tg_f5 lt_C C_0 C_1 C_2 C_3 C_f0 C_f1 C_f2 C_f3 lt_X X_0 X_1 X_2 X_3 X_4 X_5 X_f0 X_f1 X_f2 X_f3 X_f4 X_f5 lt_Y Y_0 Y_1 Y_2 Y_3 Y_4 Y_5 Y_f0 Y_f1 Y_f2 Y_f3 Y_f4 Y_f5
  have KXa := KX.out.below bel7
  clear KX
  have KX := Lib.hid KXa
  clear KXa
  have KYa := KY.out.below bel7
  clear KY
  have KY := Lib.hid KYa
  clear KYa
  obtain ⟨rfl, hf⟩ := new_two hv
  have KN := Lib.hid hok
  have HM := Lib.hid (show fn.May by rw [hf]; exact (two_new cbk).1)
  have HXa := Lib.hid (show ¬ (fn.In 2 0 ∧ SomeP 0 0 0) by rw [hf]; unfold FD.In FDnew; dsimp only; omega)
  have HXb := Lib.hid (show ¬ (fn.In 0 0 ∧ SomeP 70000 0 0) by unfold SomeP; omega)
  clear hok hv hf
  have t_Tf := Tf.out.below bel7
  clear Tf
  have Tf := Lib.hid t_Tf
  clear t_Tf
  have t_Tg := Tg.out.below bel7
  clear Tg
  have Tg := Lib.hid t_Tg
  clear t_Tg
  have t_C := C.out.below bel7
  clear C
  have C := Lib.hid t_C
  clear t_C
  have t_X := X.out.below bel7
  clear X
  have X := Lib.hid t_X
  clear t_X
  have t_Y := Y.out.below bel7
  clear Y
  have Y := Lib.hid t_Y
  clear t_Y
  have SB11 : Below w3.heap.size w3 w7 := SB10h.out.trans (bel7.mono SB10h.out.size)
  clear SB10h
  have SB11h := Lib.hid SB11
  clear SB11 bel7
  have lt_Tf := Tf.out.lt
  have Tf_0 := Tf.out.cell 0
  have Tf_1 := Tf.out.cell 1
  have Tf_2 := Tf.out.cell 2
  have Tf_3 := Tf.out.cell 3
  have Tf_4 := Tf.out.cell 4
  have Tf_5 := Tf.out.cell 5
  have Tf_f0 := Tf.out.frozen 0
  have Tf_f1 := Tf.out.frozen 1
  have Tf_f2 := Tf.out.frozen 2
  have Tf_f3 := Tf.out.frozen 3
  have Tf_f4 := Tf.out.frozen 4
  have Tf_f5 := Tf.out.frozen 5
  simp at Tf_0 Tf_1 Tf_2 Tf_3 Tf_4 Tf_5
  have lt_Tg := Tg.out.lt
  have Tg_0 := Tg.out.cell 0
  have Tg_1 := Tg.out.cell 1
  have Tg_2 := Tg.out.cell 2
  have Tg_3 := Tg.out.cell 3
  have Tg_4 := Tg.out.cell 4
  have Tg_5 := Tg.out.cell 5
  have Tg_f0 := Tg.out.frozen 0
  have Tg_f1 := Tg.out.frozen 1
  have Tg_f2 := Tg.out.frozen 2
  have Tg_f3 := Tg.out.frozen 3
  have Tg_f4 := Tg.out.frozen 4
  have Tg_f5 := Tg.out.frozen 5
  simp at Tg_0 Tg_1 Tg_2 Tg_3 Tg_4 Tg_5
  have lt_C := C.out.lt
  have C_0 := C.out.cell 0
  have C_1 := C.out.cell 1
  have C_2 := C.out.cell 2
  have C_3 := C.out.cell 3
  have C_f0 := C.out.frozen 0
  have C_f1 := C.out.frozen 1
  have C_f2 := C.out.frozen 2
  have C_f3 := C.out.frozen 3
  simp at C_0 C_1 C_2 C_3
  have lt_X := X.out.lt
  have X_0 := X.out.cell 0
  have X_1 := X.out.cell 1
  have X_2 := X.out.cell 2
  have X_3 := X.out.cell 3
  have X_4 := X.out.cell 4
  have X_5 := X.out.cell 5
  have X_f0 := X.out.frozen 0
  have X_f1 := X.out.frozen 1
  have X_f2 := X.out.frozen 2
  have X_f3 := X.out.frozen 3
  have X_f4 := X.out.frozen 4
  have X_f5 := X.out.frozen 5
  simp at X_0 X_1 X_2 X_3 X_4 X_5
  have lt_Y := Y.out.lt
  have Y_0 := Y.out.cell 0
  have Y_1 := Y.out.cell 1
  have Y_2 := Y.out.cell 2
  have Y_3 := Y.out.cell 3
  have Y_4 := Y.out.cell 4
  have Y_5 := Y.out.cell 5
  have Y_f0 := Y.out.frozen 0
  have Y_f1 := Y.out.frozen 1
  have Y_f2 := Y.out.frozen 2
  have Y_f3 := Y.out.frozen 3
  have Y_f4 := Y.out.frozen 4
  have Y_f5 := Y.out.frozen 5
  simp at Y_0 Y_1 Y_2 Y_3 Y_4 Y_5
  have szB_w7 := SB11h.out.size
  go_wp2_with fail
  have KXa := (KX.out.below ((Below.refl w7.heap.size w7).alloc (Nat.le_refl _) (.cells #[.int .i64 fn.W, .int .i64 fn.H, .slice pn.ac fn.nc pn.kc, .slice pn.ad fn.nd pn.kd, .slice pn.ai fn.ni pn.ki, .slice pn.a4 fn.nt pn.kt] 29)))
  clear KX
  have KYa := (KY.out.below ((Below.refl w7.heap.size w7).alloc (Nat.le_refl _) (.cells #[.int .i64 fn.W, .int .i64 fn.H, .slice pn.ac fn.nc pn.kc, .slice pn.ad fn.nd pn.kd, .slice pn.ai fn.ni pn.ki, .slice pn.a4 fn.nt pn.kt] 29)))
  clear KY
  have KNa := (KN.out.below ((Below.refl w7.heap.size w7).alloc (Nat.le_refl _) (.cells #[.int .i64 fn.W, .int .i64 fn.H, .slice pn.ac fn.nc pn.kc, .slice pn.ad fn.nd pn.kd, .slice pn.ai fn.ni pn.ki, .slice pn.a4 fn.nt pn.kt] 29)))
  clear KN
  have NE_Tf_Nn := Lib.hid (show w2.heap.size ≠ w7.heap.size by omega)
  have NE_Tg_Nn := Lib.hid (show w3.heap.size ≠ w7.heap.size by omega)
  have NE_C_Nn := Lib.hid (show w3.heap.size + 1 ≠ w7.heap.size by omega)
  have NE_X_Nn := Lib.hid (show w4.heap.size ≠ w7.heap.size by omega)
  have NE_Y_Nn := Lib.hid (show w5.heap.size ≠ w7.heap.size by omega)
  have s_Tf := Tf.out
  have s_Tg := Tg.out
  have s_C := C.out
  have s_X := X.out
  have s_Y := Y.out
  replace s_Tf := s_Tf.alloc (.cells #[.int .i64 fn.W, .int .i64 fn.H, .slice pn.ac fn.nc pn.kc, .slice pn.ad fn.nd pn.kd, .slice pn.ai fn.ni pn.ki, .slice pn.a4 fn.nt pn.kt] 29)
  replace s_Tg := s_Tg.alloc (.cells #[.int .i64 fn.W, .int .i64 fn.H, .slice pn.ac fn.nc pn.kc, .slice pn.ad fn.nd pn.kd, .slice pn.ai fn.ni pn.ki, .slice pn.a4 fn.nt pn.kt] 29)
  replace s_C := s_C.alloc (.cells #[.int .i64 fn.W, .int .i64 fn.H, .slice pn.ac fn.nc pn.kc, .slice pn.ad fn.nd pn.kd, .slice pn.ai fn.ni pn.ki, .slice pn.a4 fn.nt pn.kt] 29)
  replace s_X := s_X.alloc (.cells #[.int .i64 fn.W, .int .i64 fn.H, .slice pn.ac fn.nc pn.kc, .slice pn.ad fn.nd pn.kd, .slice pn.ai fn.ni pn.ki, .slice pn.a4 fn.nt pn.kt] 29)
  replace s_Y := s_Y.alloc (.cells #[.int .i64 fn.W, .int .i64 fn.H, .slice pn.ac fn.nc pn.kc, .slice pn.ad fn.nd pn.kd, .slice pn.ai fn.ni pn.ki, .slice pn.a4 fn.nt pn.kt] 29)
  have s_Nn : HasBlk (w7.alloc (.cells #[.int .i64 fn.W, .int .i64 fn.H, .slice pn.ac fn.nc pn.kc, .slice pn.ad fn.nd pn.kd, .slice pn.ai fn.ni pn.ki, .slice pn.a4 fn.nt pn.kt] 29)) (w7.heap.size) 29 #[.int .i64 fn.W, .int .i64 fn.H, .slice pn.ac fn.nc pn.kc, .slice pn.ad fn.nd pn.kd, .slice pn.ai fn.ni pn.ki, .slice pn.a4 fn.nt pn.kt] := by simpa using hasBlk_new w7 29 #[.int .i64 fn.W, .int .i64 fn.H, .slice pn.ac fn.nc pn.kc, .slice pn.ad fn.nd pn.kd, .slice pn.ai fn.ni pn.ki, .slice pn.a4 fn.nt pn.kt]
  have t_Tf : HasBlk (w7.alloc (.cells #[.int .i64 fn.W, .int .i64 fn.H, .slice pn.ac fn.nc pn.kc, .slice pn.ad fn.nd pn.kd, .slice pn.ai fn.ni pn.ki, .slice pn.a4 fn.nt pn.kt] 29)) (w2.heap.size) 29 #[.int .i64 f.W, .int .i64 f.H, .slice p.ac f.nc p.kc, .slice p.ad f.nd p.kd, .slice p.ai f.ni p.ki, .slice p.a4 f.nt p.kt] := by simpa using s_Tf
  clear s_Tf Tf
  have t_Tg : HasBlk (w7.alloc (.cells #[.int .i64 fn.W, .int .i64 fn.H, .slice pn.ac fn.nc pn.kc, .slice pn.ad fn.nd pn.kd, .slice pn.ai fn.ni pn.ki, .slice pn.a4 fn.nt pn.kt] 29)) (w3.heap.size) 29 #[.int .i64 g.W, .int .i64 g.H, .slice p'.ac g.nc p'.kc, .slice p'.ad g.nd p'.kd, .slice p'.ai g.ni p'.ki, .slice p'.a4 g.nt p'.kt] := by simpa using s_Tg
  clear s_Tg Tg
  have t_C : HasBlk (w7.alloc (.cells #[.int .i64 fn.W, .int .i64 fn.H, .slice pn.ac fn.nc pn.kc, .slice pn.ad fn.nd pn.kd, .slice pn.ai fn.ni pn.ki, .slice pn.a4 fn.nt pn.kt] 29)) (w3.heap.size + 1) 23 #[.int .u8 255, .int .u8 255, .int .u8 255, .int .u8 128] := by simpa using s_C
  clear s_C C
  have t_X : HasBlk (w7.alloc (.cells #[.int .i64 fn.W, .int .i64 fn.H, .slice pn.ac fn.nc pn.kc, .slice pn.ad fn.nd pn.kd, .slice pn.ai fn.ni pn.ki, .slice pn.a4 fn.nt pn.kt] 29)) (w4.heap.size) 29 #[.int .i64 x.W, .int .i64 x.H, .slice px.ac x.nc px.kc, .slice px.ad x.nd px.kd, .slice px.ai x.ni px.ki, .slice px.a4 x.nt px.kt] := by simpa using s_X
  clear s_X X
  have t_Y : HasBlk (w7.alloc (.cells #[.int .i64 fn.W, .int .i64 fn.H, .slice pn.ac fn.nc pn.kc, .slice pn.ad fn.nd pn.kd, .slice pn.ai fn.ni pn.ki, .slice pn.a4 fn.nt pn.kt] 29)) (w5.heap.size) 29 #[.int .i64 yW, .int .i64 yH, .slice ac 2 kc, .slice ad 2 kd, .slice ai yi ki, .slice a4 yt kt] := by simpa using s_Y
  clear s_Y Y
  have t_Nn : HasBlk (w7.alloc (.cells #[.int .i64 fn.W, .int .i64 fn.H, .slice pn.ac fn.nc pn.kc, .slice pn.ad fn.nd pn.kd, .slice pn.ai fn.ni pn.ki, .slice pn.a4 fn.nt pn.kt] 29)) (w7.heap.size) 29 #[.int .i64 fn.W, .int .i64 fn.H, .slice pn.ac fn.nc pn.kc, .slice pn.ad fn.nd pn.kd, .slice pn.ai fn.ni pn.ki, .slice pn.a4 fn.nt pn.kt] := by simpa using s_Nn
  clear s_Nn
  have SB12 : Below w3.heap.size w3 (w7.alloc (.cells #[.int .i64 fn.W, .int .i64 fn.H, .slice pn.ac fn.nc pn.kc, .slice pn.ad fn.nd pn.kd, .slice pn.ai fn.ni pn.ki, .slice pn.a4 fn.nt pn.kt] 29)) := by
    have bel0 := SB11h.out
    repeat' (first | exact Below.refl _ _ | assumption | apply Below.drew | refine Below.setCell ?_ (by first | omega | (simp; done) | (simp; omega)) _ | refine Below.alloc ?_ (by first | omega | (simp; done) | (simp; omega)) _)
  clear lt_Tf Tf_0 Tf_1 Tf_2 Tf_3 Tf_4 Tf_5 Tf_f0 Tf_f1 Tf_f2 Tf_f3 Tf_f4 Tf_f5 lt_Tg Tg_0 Tg_1 Tg_2 Tg_3 Tg_4 Tg_5 Tg_f0 Tg_f1 Tg_f2 Tg_f3 Tg_f4 Tg_f5 lt_C C_0 C_1 C_2 C_3 C_f0 C_f1 C_f2 C_f3 lt_X X_0 X_1 X_2 X_3 X_4 X_5 X_f0 X_f1 X_f2 X_f3 X_f4 X_f5 lt_Y Y_0 Y_1 Y_2 Y_3 Y_4 Y_5 Y_f0 Y_f1 Y_f2 Y_f3 Y_f4 Y_f5
  generalize gW_v5 : (w7.alloc (.cells #[.int .i64 fn.W, .int .i64 fn.H, .slice pn.ac fn.nc pn.kc, .slice pn.ad fn.nd pn.kd, .slice pn.ai fn.ni pn.ki, .slice pn.a4 fn.nt pn.kt] 29)) = v5 at *
  clear gW_v5
  have Tf := Lib.hid t_Tf
  clear t_Tf
  have Tg := Lib.hid t_Tg
  clear t_Tg
  have C := Lib.hid t_C
  clear t_C
  have X := Lib.hid t_X
  clear t_X
  have Y := Lib.hid t_Y
  clear t_Y
  have Nn := Lib.hid t_Nn
  clear t_Nn
  clear SB11h
  have SB12h := Lib.hid SB12
  clear SB12
  have KX := Lib.hid KXa
  clear KXa
  have KY := Lib.hid KYa
  clear KYa
  have KN := Lib.hid KNa
  clear KNa
  have lt_Tf := Tf.out.lt
  have Tf_0 := Tf.out.cell 0
  have Tf_1 := Tf.out.cell 1
  have Tf_2 := Tf.out.cell 2
  have Tf_3 := Tf.out.cell 3
  have Tf_4 := Tf.out.cell 4
  have Tf_5 := Tf.out.cell 5
  have Tf_f0 := Tf.out.frozen 0
  have Tf_f1 := Tf.out.frozen 1
  have Tf_f2 := Tf.out.frozen 2
  have Tf_f3 := Tf.out.frozen 3
  have Tf_f4 := Tf.out.frozen 4
  have Tf_f5 := Tf.out.frozen 5
  simp at Tf_0 Tf_1 Tf_2 Tf_3 Tf_4 Tf_5
  have lt_Tg := Tg.out.lt
  have Tg_0 := Tg.out.cell 0
  have Tg_1 := Tg.out.cell 1
  have Tg_2 := Tg.out.cell 2
  have Tg_3 := Tg.out.cell 3
  have Tg_4 := Tg.out.cell 4
  have Tg_5 := Tg.out.cell 5
  have Tg_f0 := Tg.out.frozen 0
  have Tg_f1 := Tg.out.frozen 1
  have Tg_f2 := Tg.out.frozen 2
  have Tg_f3 := Tg.out.frozen 3
  have Tg_f4 := Tg.out.frozen 4
  have Tg_f5 := Tg.out.frozen 5
  simp at Tg_0 Tg_1 Tg_2 Tg_3 Tg_4 Tg_5
  have lt_C := C.out.lt
  have C_0 := C.out.cell 0
  have C_1 := C.out.cell 1
  have C_2 := C.out.cell 2
  have C_3 := C.out.cell 3
  have C_f0 := C.out.frozen 0
  have C_f1 := C.out.frozen 1
  have C_f2 := C.out.frozen 2
  have C_f3 := C.out.frozen 3
  simp at C_0 C_1 C_2 C_3
  have lt_X := X.out.lt
  have X_0 := X.out.cell 0
  have X_1 := X.out.cell 1
  have X_2 := X.out.cell 2
  have X_3 := X.out.cell 3
  have X_4 := X.out.cell 4
  have X_5 := X.out.cell 5
  have X_f0 := X.out.frozen 0
  have X_f1 := X.out.frozen 1
  have X_f2 := X.out.frozen 2
  have X_f3 := X.out.frozen 3
  have X_f4 := X.out.frozen 4
  have X_f5 := X.out.frozen 5
  simp at X_0 X_1 X_2 X_3 X_4 X_5
  have lt_Y := Y.out.lt
  have Y_0 := Y.out.cell 0
  have Y_1 := Y.out.cell 1
  have Y_2 := Y.out.cell 2
  have Y_3 := Y.out.cell 3
  have Y_4 := Y.out.cell 4
  have Y_5 := Y.out.cell 5
  have Y_f0 := Y.out.frozen 0
  have Y_f1 := Y.out.frozen 1
  have Y_f2 := Y.out.frozen 2
  have Y_f3 := Y.out.frozen 3
  have Y_f4 := Y.out.frozen 4
  have Y_f5 := Y.out.frozen 5
  simp at Y_0 Y_1 Y_2 Y_3 Y_4 Y_5
  have lt_Nn := Nn.out.lt
  have Nn_0 := Nn.out.cell 0
  have Nn_1 := Nn.out.cell 1
  have Nn_2 := Nn.out.cell 2
  have Nn_3 := Nn.out.cell 3
  have Nn_4 := Nn.out.cell 4
  have Nn_5 := Nn.out.cell 5
  have Nn_f0 := Nn.out.frozen 0
  have Nn_f1 := Nn.out.frozen 1
  have Nn_f2 := Nn.out.frozen 2
  have Nn_f3 := Nn.out.frozen 3
  have Nn_f4 := Nn.out.frozen 4
  have Nn_f5 := Nn.out.frozen 5
  simp at Nn_0 Nn_1 Nn_2 Nn_3 Nn_4 Nn_5
  have szB_v5 := SB12h.out.size
  go_upto_region 10 with fail
  go_cut [12, 13] from 49 to 55 (fun s12 s13 wx => s13 = .int .i64 2 ∧ Below v5.heap.size v5 wx)
  case first =>
    clear lt_Tf Tf_0 Tf_1 Tf_2 Tf_3 Tf_4 Tf_5 Tf_f0 Tf_f1 Tf_f2 Tf_f3 Tf_f4 Tf_f5 lt_Tg Tg_0 Tg_1 Tg_2 Tg_3 Tg_4 Tg_5 Tg_f0 Tg_f1 Tg_f2 Tg_f3 Tg_f4 Tg_f5 lt_C C_0 C_1 C_2 C_3 C_f0 C_f1 C_f2 C_f3 lt_X X_0 X_1 X_2 X_3 X_4 X_5 X_f0 X_f1 X_f2 X_f3 X_f4 X_f5 lt_Y Y_0 Y_1 Y_2 Y_3 Y_4 Y_5 Y_f0 Y_f1 Y_f2 Y_f3 Y_f4 Y_f5 lt_Nn Nn_0 Nn_1 Nn_2 Nn_3 Nn_4 Nn_5 Nn_f0 Nn_f1 Nn_f2 Nn_f3 Nn_f4 Nn_f5 szB_w1 szB_w2 szB_v1 szB_w3 szB_v2 szB_w4 szB_v3 szB_w5 szB_v4 szB_w6 szB_w7 szB_v5 bel1 hy3 hy4 ltC2
    have hput := Lib.hid (fun W' (hb : Below v5.heap.size v5 W') => put_any pn fn 2 0 0 0 0 0 0 0 crd W' (KN.out.below hb))
    have HS := Lib.hid (show (fun Wo => HasBlk Wo (w7.heap.size) 29 #[.int .i64 fn.W, .int .i64 fn.H, .slice pn.ac fn.nc pn.kc, .slice pn.ad fn.nd pn.kd, .slice pn.ai fn.ni pn.ki, .slice pn.a4 fn.nt pn.kt]) v5.drew from Nn.out.drew)
    have BB := Lib.hid (show Below v5.heap.size v5 v5.drew from (Below.refl _ _).drew)
    refine wp_region_E (fun Wo => HasBlk Wo (w7.heap.size) 29 #[.int .i64 fn.W, .int .i64 fn.H, .slice pn.ac fn.nc pn.kc, .slice pn.ad fn.nd pn.kd, .slice pn.ai fn.ni pn.ki, .slice pn.a4 fn.nt pn.kt]) 9 (by kernel_rfl) ?_
    generalize gwd : v5.drew = u0 at *
    clear gwd
    refine wpAnyE_take (i := 0) (v := .agg #[.int .i64 fn.W, .int .i64 fn.H, .slice pn.ac fn.nc pn.kc, .slice pn.ad fn.nd pn.kd, .slice pn.ai fn.ni pn.ki, .slice pn.a4 fn.nt pn.kt]) rfl (by kernel_rfl) (fun _ _ _ h => h) (.inl ⟨by kernel_rfl, fun W hW => ?_⟩) HS.out ?_
    · have q0 := hW.cell 0
      have q1 := hW.cell 1
      have q2 := hW.cell 2
      have q3 := hW.cell 3
      have q4 := hW.cell 4
      have q5 := hW.cell 5
      simp at q0 q1 q2 q3 q4 q5
      go_simp
    simp only [Act.put, List.setIfInBounds_toArray]
    refine wpAnyE_take (i := 1) (v := .agg #[.int .i64 0, .int .i64 0, .int .i64 0, .int .i64 0, .int .i64 0, .int .i64 0]) rfl (by kernel_rfl) (fun _ _ _ h => h) (.inl ⟨by kernel_rfl, fun W hW => ?_⟩) HS.out ?_
    · have q0 := hW.cell 0
      have q1 := hW.cell 1
      have q2 := hW.cell 2
      have q3 := hW.cell 3
      have q4 := hW.cell 4
      have q5 := hW.cell 5
      simp at q0 q1 q2 q3 q4 q5
      go_simp
    simp only [Act.put]
    refine wpAnyE_two (i := 2) (j := 7) rfl rfl (by kernel_rfl) (fun KQ HK => ?_) (fun KQ HK => ?_)
    · go_wp2_with fail
      refine (red_any _).mono ?_
      rintro e u1 ⟨rfl, hbel⟩
      have BB' := Lib.hid (BB.out.trans (hbel.mono BB.out.size))
      clear BB
      have BB := Lib.hid BB'.out
      clear BB'
      have HS' := Lib.hid (HS.out.below hbel)
      clear HS
      have HS := Lib.hid HS'.out
      clear HS'
      clear hbel
      go_wp2
      refine HK _ _ (fun _ => HS.out) ?_
      clear HK
      refine wpAnyE_two (i := 3) (j := 7) rfl rfl (by kernel_rfl) (fun KQ HK => ?_) (fun KQ HK => ?_)
      · go_wp2_with fail
        refine (hput.out _ BB.out).mono ?_
        rintro e u2 ⟨⟨pz, fz, xz, rfl, ho, hv⟩, hbel⟩
        obtain ⟨rfl, hz⟩ := put_out HM.out HXa.out hv
        clear ho hv hz
        have BB' := Lib.hid (BB.out.trans (hbel.mono BB.out.size))
        clear BB
        have BB := Lib.hid BB'.out
        clear BB'
        have HS' := Lib.hid (HS.out.below hbel)
        clear HS
        have HS := Lib.hid HS'.out
        clear HS'
        clear hbel
        go_wp2
        refine HK _ _ (fun _ => HS.out) ?_
        clear HK
        refine wpAnyE_take (i := 4) (v := .tuple #[.agg #[.int .i64 fz.W, .int .i64 fz.H, .slice pz.ac fz.nc pz.kc, .slice pz.ad fz.nd pz.kd, .slice pz.ai fz.ni pz.ki, .slice pz.a4 fz.nt pz.kt], .int .i64 2]) rfl (by kernel_rfl) (fun _ _ _ h => h) (.inl ⟨by kernel_rfl, fun W hW => ?_⟩) HS.out ?_
        · have q0 := hW.cell 0
          have q1 := hW.cell 1
          have q2 := hW.cell 2
          have q3 := hW.cell 3
          have q4 := hW.cell 4
          have q5 := hW.cell 5
          simp at q0 q1 q2 q3 q4 q5
          go_simp
        simp only [Act.put, List.setIfInBounds_toArray]
        refine wpAnyE_take (i := 5) (v := .agg #[.int .i64 fz.W, .int .i64 fz.H, .slice pz.ac fz.nc pz.kc, .slice pz.ad fz.nd pz.kd, .slice pz.ai fz.ni pz.ki, .slice pz.a4 fz.nt pz.kt]) rfl (by kernel_rfl) (fun _ _ _ h => h) (.inl ⟨by kernel_rfl, fun W hW => ?_⟩) HS.out ?_
        · have q0 := hW.cell 0
          have q1 := hW.cell 1
          have q2 := hW.cell 2
          have q3 := hW.cell 3
          have q4 := hW.cell 4
          have q5 := hW.cell 5
          simp at q0 q1 q2 q3 q4 q5
          go_simp
        simp only [Act.put]
        refine wpAnyE_take (i := 6) (v := .int .i64 2) rfl (by kernel_rfl) (fun _ _ _ h => h) (.inl ⟨by kernel_rfl, fun W hW => ?_⟩) HS.out ?_
        · have q0 := hW.cell 0
          have q1 := hW.cell 1
          have q2 := hW.cell 2
          have q3 := hW.cell 3
          have q4 := hW.cell 4
          have q5 := hW.cell 5
          simp at q0 q1 q2 q3 q4 q5
          go_simp
        simp only [Act.put]
        refine wpAnyE_step (i := 7) rfl (by kernel_rfl) (fun KQ HK => ?_)
        go_wp2
        have hbel := (Below.refl u2.heap.size u2).alloc (Nat.le_refl _) (.cells #[.int .i64 0, .int .i64 0, .slice none 0 0, .slice none 0 0, .slice none 0 0, .slice none 0 0] 29)
        have ZX := Lib.hid (hasBlk_new u2 29 #[.int .i64 0, .int .i64 0, .slice none 0 0, .slice none 0 0, .slice none 0 0, .slice none 0 0])
        have zl := Lib.hid (show v5.heap.size ≤ u2.heap.size from BB.out.size)
        have BB' := Lib.hid (BB.out.trans (hbel.mono BB.out.size))
        clear BB
        have BB := Lib.hid BB'.out
        clear BB'
        have HS' := Lib.hid (HS.out.below hbel)
        clear HS
        have HS := Lib.hid HS'.out
        clear HS'
        clear hbel
        refine HK _ _ (fun _ => HS.out) ?_
        clear HK
        obtain ⟨zb, hzb⟩ : ∃ zb, zb = u2.heap.size := ⟨_, rfl⟩
        rw [← hzb] at ZX zl ⊢
        clear hzb
        generalize u2.alloc (.cells #[.int .i64 0, .int .i64 0, .slice none 0 0, .slice none 0 0, .slice none 0 0, .slice none 0 0] 29) = u3 at *
        refine wpAnyE_step (i := 8) rfl (by kernel_rfl) (fun KQ HK => ?_)
        go_wp2_with (have e := st6F (W := fz.W) (H := fz.H) (A1 := pz.ac) (A2 := pz.ad) (A3 := pz.ai) (A4 := pz.a4) (n1 := fz.nc) (n2 := fz.nd) (n3 := fz.ni) (n4 := fz.nt) (k1 := pz.kc) (k2 := pz.kd) (k3 := pz.ki) (k4 := pz.kt) ZX.out; simp [go_sem] at e; refine upon_store e ?_; clear e)
        have BB' := Lib.hid (show Below v5.heap.size v5 ((((((u3.setCell ⟨zb, 0, none⟩ (.int .i64 fz.W)).setCell ⟨zb, 1, none⟩ (.int .i64 fz.H)).setCell ⟨zb, 2, none⟩ (.slice pz.ac fz.nc pz.kc)).setCell ⟨zb, 3, none⟩ (.slice pz.ad fz.nd pz.kd)).setCell ⟨zb, 4, none⟩ (.slice pz.ai fz.ni pz.ki)).setCell ⟨zb, 5, none⟩ (.slice pz.a4 fz.nt pz.kt)) from (Below.setCell (p := ⟨zb, 5, none⟩) (Below.setCell (p := ⟨zb, 4, none⟩) (Below.setCell (p := ⟨zb, 3, none⟩) (Below.setCell (p := ⟨zb, 2, none⟩) (Below.setCell (p := ⟨zb, 1, none⟩) (Below.setCell (p := ⟨zb, 0, none⟩) BB.out zl.out _) zl.out _) zl.out _) zl.out _) zl.out _) zl.out _))
        clear BB ZX
        have BB := Lib.hid BB'.out
        clear BB'
        have hlt := Nn.out.lt
        have hzl := zl.out
        have HS' := Lib.hid (((((((HS.out.far (p := ⟨zb, 0, none⟩) (by simp; omega) (.int .i64 fz.W)).far (p := ⟨zb, 1, none⟩) (by simp; omega) (.int .i64 fz.H)).far (p := ⟨zb, 2, none⟩) (by simp; omega) (.slice pz.ac fz.nc pz.kc)).far (p := ⟨zb, 3, none⟩) (by simp; omega) (.slice pz.ad fz.nd pz.kd)).far (p := ⟨zb, 4, none⟩) (by simp; omega) (.slice pz.ai fz.ni pz.ki)).far (p := ⟨zb, 5, none⟩) (by simp; omega) (.slice pz.a4 fz.nt pz.kt)))
        clear HS hlt hzl
        have HS := Lib.hid HS'.out
        clear HS'
        refine HK _ _ (fun _ => HS.out) ?_
        clear HK
        generalize ((((((u3.setCell ⟨zb, 0, none⟩ (.int .i64 fz.W)).setCell ⟨zb, 1, none⟩ (.int .i64 fz.H)).setCell ⟨zb, 2, none⟩ (.slice pz.ac fz.nc pz.kc)).setCell ⟨zb, 3, none⟩ (.slice pz.ad fz.nd pz.kd)).setCell ⟨zb, 4, none⟩ (.slice pz.ai fz.ni pz.ki)).setCell ⟨zb, 5, none⟩ (.slice pz.a4 fz.nt pz.kt)) = u4 at *
        refine wpAnyE_step (i := 9) rfl (by kernel_rfl) (fun KQ HK => ?_)
        go_wp2
        refine HK _ _ (fun h => absurd rfl h) ?_
        clear HK
        refine wpAnyE_done (by kernel_rfl) ?_
        go_wp2_with fail
        go_meet
        exact ⟨rfl, BB.out⟩
      · go_wp2
        have hbel := (Below.refl u1.heap.size u1).alloc (Nat.le_refl _) (.cells #[.int .i64 0, .int .i64 0, .slice none 0 0, .slice none 0 0, .slice none 0 0, .slice none 0 0] 29)
        have ZX := Lib.hid (hasBlk_new u1 29 #[.int .i64 0, .int .i64 0, .slice none 0 0, .slice none 0 0, .slice none 0 0, .slice none 0 0])
        have zl := Lib.hid (show v5.heap.size ≤ u1.heap.size from BB.out.size)
        have BB' := Lib.hid (BB.out.trans (hbel.mono BB.out.size))
        clear BB
        have BB := Lib.hid BB'.out
        clear BB'
        have HS' := Lib.hid (HS.out.below hbel)
        clear HS
        have HS := Lib.hid HS'.out
        clear HS'
        clear hbel
        refine HK _ _ (fun _ => HS.out) ?_
        clear HK
        obtain ⟨zb, hzb⟩ : ∃ zb, zb = u1.heap.size := ⟨_, rfl⟩
        rw [← hzb] at ZX zl ⊢
        clear hzb
        generalize u1.alloc (.cells #[.int .i64 0, .int .i64 0, .slice none 0 0, .slice none 0 0, .slice none 0 0, .slice none 0 0] 29) = u6 at *
        refine wpAnyE_step (i := 3) rfl (by kernel_rfl) (fun KQ HK => ?_)
        go_wp2_with fail
        refine (hput.out _ BB.out).mono ?_
        rintro e u7 ⟨⟨pz, fz, xz, rfl, ho, hv⟩, hbel⟩
        obtain ⟨rfl, hz⟩ := put_out HM.out HXa.out hv
        clear ho hv hz
        have BB' := Lib.hid (BB.out.trans (hbel.mono BB.out.size))
        clear BB
        have BB := Lib.hid BB'.out
        clear BB'
        have HS' := Lib.hid (HS.out.below hbel)
        clear HS
        have HS := Lib.hid HS'.out
        clear HS'
        have ZX' := Lib.hid (ZX.out.below hbel)
        clear ZX
        have ZX := Lib.hid ZX'.out
        clear ZX'
        clear hbel
        go_wp2
        refine HK _ _ (fun _ => HS.out) ?_
        clear HK
        refine wpAnyE_take (i := 4) (v := .tuple #[.agg #[.int .i64 fz.W, .int .i64 fz.H, .slice pz.ac fz.nc pz.kc, .slice pz.ad fz.nd pz.kd, .slice pz.ai fz.ni pz.ki, .slice pz.a4 fz.nt pz.kt], .int .i64 2]) rfl (by kernel_rfl) (fun _ _ _ h => h) (.inl ⟨by kernel_rfl, fun W hW => ?_⟩) HS.out ?_
        · have q0 := hW.cell 0
          have q1 := hW.cell 1
          have q2 := hW.cell 2
          have q3 := hW.cell 3
          have q4 := hW.cell 4
          have q5 := hW.cell 5
          simp at q0 q1 q2 q3 q4 q5
          go_simp
        simp only [Act.put, List.setIfInBounds_toArray]
        refine wpAnyE_take (i := 5) (v := .agg #[.int .i64 fz.W, .int .i64 fz.H, .slice pz.ac fz.nc pz.kc, .slice pz.ad fz.nd pz.kd, .slice pz.ai fz.ni pz.ki, .slice pz.a4 fz.nt pz.kt]) rfl (by kernel_rfl) (fun _ _ _ h => h) (.inl ⟨by kernel_rfl, fun W hW => ?_⟩) HS.out ?_
        · have q0 := hW.cell 0
          have q1 := hW.cell 1
          have q2 := hW.cell 2
          have q3 := hW.cell 3
          have q4 := hW.cell 4
          have q5 := hW.cell 5
          simp at q0 q1 q2 q3 q4 q5
          go_simp
        simp only [Act.put]
        refine wpAnyE_take (i := 6) (v := .int .i64 2) rfl (by kernel_rfl) (fun _ _ _ h => h) (.inl ⟨by kernel_rfl, fun W hW => ?_⟩) HS.out ?_
        · have q0 := hW.cell 0
          have q1 := hW.cell 1
          have q2 := hW.cell 2
          have q3 := hW.cell 3
          have q4 := hW.cell 4
          have q5 := hW.cell 5
          simp at q0 q1 q2 q3 q4 q5
          go_simp
        simp only [Act.put]
        refine wpAnyE_step (i := 8) rfl (by kernel_rfl) (fun KQ HK => ?_)
        go_wp2_with (have e := st6F (W := fz.W) (H := fz.H) (A1 := pz.ac) (A2 := pz.ad) (A3 := pz.ai) (A4 := pz.a4) (n1 := fz.nc) (n2 := fz.nd) (n3 := fz.ni) (n4 := fz.nt) (k1 := pz.kc) (k2 := pz.kd) (k3 := pz.ki) (k4 := pz.kt) ZX.out; simp [go_sem] at e; refine upon_store e ?_; clear e)
        have BB' := Lib.hid (show Below v5.heap.size v5 ((((((u7.setCell ⟨zb, 0, none⟩ (.int .i64 fz.W)).setCell ⟨zb, 1, none⟩ (.int .i64 fz.H)).setCell ⟨zb, 2, none⟩ (.slice pz.ac fz.nc pz.kc)).setCell ⟨zb, 3, none⟩ (.slice pz.ad fz.nd pz.kd)).setCell ⟨zb, 4, none⟩ (.slice pz.ai fz.ni pz.ki)).setCell ⟨zb, 5, none⟩ (.slice pz.a4 fz.nt pz.kt)) from (Below.setCell (p := ⟨zb, 5, none⟩) (Below.setCell (p := ⟨zb, 4, none⟩) (Below.setCell (p := ⟨zb, 3, none⟩) (Below.setCell (p := ⟨zb, 2, none⟩) (Below.setCell (p := ⟨zb, 1, none⟩) (Below.setCell (p := ⟨zb, 0, none⟩) BB.out zl.out _) zl.out _) zl.out _) zl.out _) zl.out _) zl.out _))
        clear BB ZX
        have BB := Lib.hid BB'.out
        clear BB'
        have hlt := Nn.out.lt
        have hzl := zl.out
        have HS' := Lib.hid (((((((HS.out.far (p := ⟨zb, 0, none⟩) (by simp; omega) (.int .i64 fz.W)).far (p := ⟨zb, 1, none⟩) (by simp; omega) (.int .i64 fz.H)).far (p := ⟨zb, 2, none⟩) (by simp; omega) (.slice pz.ac fz.nc pz.kc)).far (p := ⟨zb, 3, none⟩) (by simp; omega) (.slice pz.ad fz.nd pz.kd)).far (p := ⟨zb, 4, none⟩) (by simp; omega) (.slice pz.ai fz.ni pz.ki)).far (p := ⟨zb, 5, none⟩) (by simp; omega) (.slice pz.a4 fz.nt pz.kt)))
        clear HS hlt hzl
        have HS := Lib.hid HS'.out
        clear HS'
        refine HK _ _ (fun _ => HS.out) ?_
        clear HK
        generalize ((((((u7.setCell ⟨zb, 0, none⟩ (.int .i64 fz.W)).setCell ⟨zb, 1, none⟩ (.int .i64 fz.H)).setCell ⟨zb, 2, none⟩ (.slice pz.ac fz.nc pz.kc)).setCell ⟨zb, 3, none⟩ (.slice pz.ad fz.nd pz.kd)).setCell ⟨zb, 4, none⟩ (.slice pz.ai fz.ni pz.ki)).setCell ⟨zb, 5, none⟩ (.slice pz.a4 fz.nt pz.kt)) = u8 at *
        refine wpAnyE_step (i := 9) rfl (by kernel_rfl) (fun KQ HK => ?_)
        go_wp2
        refine HK _ _ (fun h => absurd rfl h) ?_
        clear HK
        refine wpAnyE_done (by kernel_rfl) ?_
        go_wp2_with fail
        go_meet
        exact ⟨rfl, BB.out⟩
    · go_wp2
      have hbel := (Below.refl u0.heap.size u0).alloc (Nat.le_refl _) (.cells #[.int .i64 0, .int .i64 0, .slice none 0 0, .slice none 0 0, .slice none 0 0, .slice none 0 0] 29)
      have ZX := Lib.hid (hasBlk_new u0 29 #[.int .i64 0, .int .i64 0, .slice none 0 0, .slice none 0 0, .slice none 0 0, .slice none 0 0])
      have zl := Lib.hid (show v5.heap.size ≤ u0.heap.size from BB.out.size)
      have BB' := Lib.hid (BB.out.trans (hbel.mono BB.out.size))
      clear BB
      have BB := Lib.hid BB'.out
      clear BB'
      have HS' := Lib.hid (HS.out.below hbel)
      clear HS
      have HS := Lib.hid HS'.out
      clear HS'
      clear hbel
      refine HK _ _ (fun _ => HS.out) ?_
      clear HK
      obtain ⟨zb, hzb⟩ : ∃ zb, zb = u0.heap.size := ⟨_, rfl⟩
      rw [← hzb] at ZX zl ⊢
      clear hzb
      generalize u0.alloc (.cells #[.int .i64 0, .int .i64 0, .slice none 0 0, .slice none 0 0, .slice none 0 0, .slice none 0 0] 29) = u10 at *
      refine wpAnyE_step (i := 2) rfl (by kernel_rfl) (fun KQ HK => ?_)
      go_wp2_with fail
      refine (red_any _).mono ?_
      rintro e u11 ⟨rfl, hbel⟩
      have BB' := Lib.hid (BB.out.trans (hbel.mono BB.out.size))
      clear BB
      have BB := Lib.hid BB'.out
      clear BB'
      have HS' := Lib.hid (HS.out.below hbel)
      clear HS
      have HS := Lib.hid HS'.out
      clear HS'
      have ZX' := Lib.hid (ZX.out.below hbel)
      clear ZX
      have ZX := Lib.hid ZX'.out
      clear ZX'
      clear hbel
      go_wp2
      refine HK _ _ (fun _ => HS.out) ?_
      clear HK
      refine wpAnyE_step (i := 3) rfl (by kernel_rfl) (fun KQ HK => ?_)
      go_wp2_with fail
      refine (hput.out _ BB.out).mono ?_
      rintro e u12 ⟨⟨pz, fz, xz, rfl, ho, hv⟩, hbel⟩
      obtain ⟨rfl, hz⟩ := put_out HM.out HXa.out hv
      clear ho hv hz
      have BB' := Lib.hid (BB.out.trans (hbel.mono BB.out.size))
      clear BB
      have BB := Lib.hid BB'.out
      clear BB'
      have HS' := Lib.hid (HS.out.below hbel)
      clear HS
      have HS := Lib.hid HS'.out
      clear HS'
      have ZX' := Lib.hid (ZX.out.below hbel)
      clear ZX
      have ZX := Lib.hid ZX'.out
      clear ZX'
      clear hbel
      go_wp2
      refine HK _ _ (fun _ => HS.out) ?_
      clear HK
      refine wpAnyE_take (i := 4) (v := .tuple #[.agg #[.int .i64 fz.W, .int .i64 fz.H, .slice pz.ac fz.nc pz.kc, .slice pz.ad fz.nd pz.kd, .slice pz.ai fz.ni pz.ki, .slice pz.a4 fz.nt pz.kt], .int .i64 2]) rfl (by kernel_rfl) (fun _ _ _ h => h) (.inl ⟨by kernel_rfl, fun W hW => ?_⟩) HS.out ?_
      · have q0 := hW.cell 0
        have q1 := hW.cell 1
        have q2 := hW.cell 2
        have q3 := hW.cell 3
        have q4 := hW.cell 4
        have q5 := hW.cell 5
        simp at q0 q1 q2 q3 q4 q5
        go_simp
      simp only [Act.put, List.setIfInBounds_toArray]
      refine wpAnyE_take (i := 5) (v := .agg #[.int .i64 fz.W, .int .i64 fz.H, .slice pz.ac fz.nc pz.kc, .slice pz.ad fz.nd pz.kd, .slice pz.ai fz.ni pz.ki, .slice pz.a4 fz.nt pz.kt]) rfl (by kernel_rfl) (fun _ _ _ h => h) (.inl ⟨by kernel_rfl, fun W hW => ?_⟩) HS.out ?_
      · have q0 := hW.cell 0
        have q1 := hW.cell 1
        have q2 := hW.cell 2
        have q3 := hW.cell 3
        have q4 := hW.cell 4
        have q5 := hW.cell 5
        simp at q0 q1 q2 q3 q4 q5
        go_simp
      simp only [Act.put]
      refine wpAnyE_take (i := 6) (v := .int .i64 2) rfl (by kernel_rfl) (fun _ _ _ h => h) (.inl ⟨by kernel_rfl, fun W hW => ?_⟩) HS.out ?_
      · have q0 := hW.cell 0
        have q1 := hW.cell 1
        have q2 := hW.cell 2
        have q3 := hW.cell 3
        have q4 := hW.cell 4
        have q5 := hW.cell 5
        simp at q0 q1 q2 q3 q4 q5
        go_simp
      simp only [Act.put]
      refine wpAnyE_step (i := 8) rfl (by kernel_rfl) (fun KQ HK => ?_)
      go_wp2_with (have e := st6F (W := fz.W) (H := fz.H) (A1 := pz.ac) (A2 := pz.ad) (A3 := pz.ai) (A4 := pz.a4) (n1 := fz.nc) (n2 := fz.nd) (n3 := fz.ni) (n4 := fz.nt) (k1 := pz.kc) (k2 := pz.kd) (k3 := pz.ki) (k4 := pz.kt) ZX.out; simp [go_sem] at e; refine upon_store e ?_; clear e)
      have BB' := Lib.hid (show Below v5.heap.size v5 ((((((u12.setCell ⟨zb, 0, none⟩ (.int .i64 fz.W)).setCell ⟨zb, 1, none⟩ (.int .i64 fz.H)).setCell ⟨zb, 2, none⟩ (.slice pz.ac fz.nc pz.kc)).setCell ⟨zb, 3, none⟩ (.slice pz.ad fz.nd pz.kd)).setCell ⟨zb, 4, none⟩ (.slice pz.ai fz.ni pz.ki)).setCell ⟨zb, 5, none⟩ (.slice pz.a4 fz.nt pz.kt)) from (Below.setCell (p := ⟨zb, 5, none⟩) (Below.setCell (p := ⟨zb, 4, none⟩) (Below.setCell (p := ⟨zb, 3, none⟩) (Below.setCell (p := ⟨zb, 2, none⟩) (Below.setCell (p := ⟨zb, 1, none⟩) (Below.setCell (p := ⟨zb, 0, none⟩) BB.out zl.out _) zl.out _) zl.out _) zl.out _) zl.out _) zl.out _))
      clear BB ZX
      have BB := Lib.hid BB'.out
      clear BB'
      have hlt := Nn.out.lt
      have hzl := zl.out
      have HS' := Lib.hid (((((((HS.out.far (p := ⟨zb, 0, none⟩) (by simp; omega) (.int .i64 fz.W)).far (p := ⟨zb, 1, none⟩) (by simp; omega) (.int .i64 fz.H)).far (p := ⟨zb, 2, none⟩) (by simp; omega) (.slice pz.ac fz.nc pz.kc)).far (p := ⟨zb, 3, none⟩) (by simp; omega) (.slice pz.ad fz.nd pz.kd)).far (p := ⟨zb, 4, none⟩) (by simp; omega) (.slice pz.ai fz.ni pz.ki)).far (p := ⟨zb, 5, none⟩) (by simp; omega) (.slice pz.a4 fz.nt pz.kt)))
      clear HS hlt hzl
      have HS := Lib.hid HS'.out
      clear HS'
      refine HK _ _ (fun _ => HS.out) ?_
      clear HK
      generalize ((((((u12.setCell ⟨zb, 0, none⟩ (.int .i64 fz.W)).setCell ⟨zb, 1, none⟩ (.int .i64 fz.H)).setCell ⟨zb, 2, none⟩ (.slice pz.ac fz.nc pz.kc)).setCell ⟨zb, 3, none⟩ (.slice pz.ad fz.nd pz.kd)).setCell ⟨zb, 4, none⟩ (.slice pz.ai fz.ni pz.ki)).setCell ⟨zb, 5, none⟩ (.slice pz.a4 fz.nt pz.kt)) = u13 at *
      refine wpAnyE_step (i := 9) rfl (by kernel_rfl) (fun KQ HK => ?_)
      go_wp2
      refine HK _ _ (fun h => absurd rfl h) ?_
      clear HK
      refine wpAnyE_done (by kernel_rfl) ?_
      go_wp2_with fail
      go_meet
      exact ⟨rfl, BB.out⟩
  case rest =>
    obtain ⟨wza, rfl⟩ : ∃ wz : World, wz = wc := ⟨wc, rfl⟩
    obtain ⟨rfl, belza⟩ := hcut
    clear lt_Tf Tf_0 Tf_1 Tf_2 Tf_3 Tf_4 Tf_5 Tf_f0 Tf_f1 Tf_f2 Tf_f3 Tf_f4 Tf_f5 lt_Tg Tg_0 Tg_1 Tg_2 Tg_3 Tg_4 Tg_5 Tg_f0 Tg_f1 Tg_f2 Tg_f3 Tg_f4 Tg_f5 lt_C C_0 C_1 C_2 C_3 C_f0 C_f1 C_f2 C_f3 lt_X X_0 X_1 X_2 X_3 X_4 X_5 X_f0 X_f1 X_f2 X_f3 X_f4 X_f5 lt_Y Y_0 Y_1 Y_2 Y_3 Y_4 Y_5 Y_f0 Y_f1 Y_f2 Y_f3 Y_f4 Y_f5 lt_Nn Nn_0 Nn_1 Nn_2 Nn_3 Nn_4 Nn_5 Nn_f0 Nn_f1 Nn_f2 Nn_f3 Nn_f4 Nn_f5
    have KXa := KX.out.below belza
    clear KX
    have KX := Lib.hid KXa
    clear KXa
    have KYa := KY.out.below belza
    clear KY
    have KY := Lib.hid KYa
    clear KYa
    have KNa := KN.out.below belza
    clear KN
    have KN := Lib.hid KNa
    clear KNa
    have t_Tf := Tf.out.below belza
    clear Tf
    have Tf := Lib.hid t_Tf
    clear t_Tf
    have t_Tg := Tg.out.below belza
    clear Tg
    have Tg := Lib.hid t_Tg
    clear t_Tg
    have t_C := C.out.below belza
    clear C
    have C := Lib.hid t_C
    clear t_C
    have t_X := X.out.below belza
    clear X
    have X := Lib.hid t_X
    clear t_X
    have t_Y := Y.out.below belza
    clear Y
    have Y := Lib.hid t_Y
    clear t_Y
    have t_Nn := Nn.out.below belza
    clear Nn
    have Nn := Lib.hid t_Nn
    clear t_Nn
    have SB13 : Below w3.heap.size w3 wza := SB12h.out.trans (belza.mono SB12h.out.size)
    clear SB12h
    have SB13h := Lib.hid SB13
    clear SB13 belza
    have lt_Tf := Tf.out.lt
    have Tf_0 := Tf.out.cell 0
    have Tf_1 := Tf.out.cell 1
    have Tf_2 := Tf.out.cell 2
    have Tf_3 := Tf.out.cell 3
    have Tf_4 := Tf.out.cell 4
    have Tf_5 := Tf.out.cell 5
    have Tf_f0 := Tf.out.frozen 0
    have Tf_f1 := Tf.out.frozen 1
    have Tf_f2 := Tf.out.frozen 2
    have Tf_f3 := Tf.out.frozen 3
    have Tf_f4 := Tf.out.frozen 4
    have Tf_f5 := Tf.out.frozen 5
    simp at Tf_0 Tf_1 Tf_2 Tf_3 Tf_4 Tf_5
    have lt_Tg := Tg.out.lt
    have Tg_0 := Tg.out.cell 0
    have Tg_1 := Tg.out.cell 1
    have Tg_2 := Tg.out.cell 2
    have Tg_3 := Tg.out.cell 3
    have Tg_4 := Tg.out.cell 4
    have Tg_5 := Tg.out.cell 5
    have Tg_f0 := Tg.out.frozen 0
    have Tg_f1 := Tg.out.frozen 1
    have Tg_f2 := Tg.out.frozen 2
    have Tg_f3 := Tg.out.frozen 3
    have Tg_f4 := Tg.out.frozen 4
    have Tg_f5 := Tg.out.frozen 5
    simp at Tg_0 Tg_1 Tg_2 Tg_3 Tg_4 Tg_5
    have lt_C := C.out.lt
    have C_0 := C.out.cell 0
    have C_1 := C.out.cell 1
    have C_2 := C.out.cell 2
    have C_3 := C.out.cell 3
    have C_f0 := C.out.frozen 0
    have C_f1 := C.out.frozen 1
    have C_f2 := C.out.frozen 2
    have C_f3 := C.out.frozen 3
    simp at C_0 C_1 C_2 C_3
    have lt_X := X.out.lt
    have X_0 := X.out.cell 0
    have X_1 := X.out.cell 1
    have X_2 := X.out.cell 2
    have X_3 := X.out.cell 3
    have X_4 := X.out.cell 4
    have X_5 := X.out.cell 5
    have X_f0 := X.out.frozen 0
    have X_f1 := X.out.frozen 1
    have X_f2 := X.out.frozen 2
    have X_f3 := X.out.frozen 3
    have X_f4 := X.out.frozen 4
    have X_f5 := X.out.frozen 5
    simp at X_0 X_1 X_2 X_3 X_4 X_5
    have lt_Y := Y.out.lt
    have Y_0 := Y.out.cell 0
    have Y_1 := Y.out.cell 1
    have Y_2 := Y.out.cell 2
    have Y_3 := Y.out.cell 3
    have Y_4 := Y.out.cell 4
    have Y_5 := Y.out.cell 5
    have Y_f0 := Y.out.frozen 0
    have Y_f1 := Y.out.frozen 1
    have Y_f2 := Y.out.frozen 2
    have Y_f3 := Y.out.frozen 3
    have Y_f4 := Y.out.frozen 4
    have Y_f5 := Y.out.frozen 5
    simp at Y_0 Y_1 Y_2 Y_3 Y_4 Y_5
    have lt_Nn := Nn.out.lt
    have Nn_0 := Nn.out.cell 0
    have Nn_1 := Nn.out.cell 1
    have Nn_2 := Nn.out.cell 2
    have Nn_3 := Nn.out.cell 3
    have Nn_4 := Nn.out.cell 4
    have Nn_5 := Nn.out.cell 5
    have Nn_f0 := Nn.out.frozen 0
    have Nn_f1 := Nn.out.frozen 1
    have Nn_f2 := Nn.out.frozen 2
    have Nn_f3 := Nn.out.frozen 3
    have Nn_f4 := Nn.out.frozen 4
    have Nn_f5 := Nn.out.frozen 5
    simp at Nn_0 Nn_1 Nn_2 Nn_3 Nn_4 Nn_5
    have szB_wza := SB13h.out.size
    go_wp2_with fail
    refine (black_any _).mono ?_
    rintro e w8 ⟨rfl, bel8⟩
    clear lt_Tf Tf_0 Tf_1 Tf_2 Tf_3 Tf_4 Tf_5 Tf_f0 Tf_f1 Tf_f2 Tf_f3 Tf_f4 Tf_f5 lt_Tg Tg_0 Tg_1 Tg_2 Tg_3 Tg_4 Tg_5 Tg_f0 Tg_f1 Tg_f2 Tg_f3 Tg_f4 Tg_f5 lt_C C_0 C_1 C_2 C_3 C_f0 C_f1 C_f2 C_f3 lt_X X_0 X_1 X_2 X_3 X_4 X_5 X_f0 X_f1 X_f2 X_f3 X_f4 X_f5 lt_Y Y_0 Y_1 Y_2 Y_3 Y_4 Y_5 Y_f0 Y_f1 Y_f2 Y_f3 Y_f4 Y_f5 lt_Nn Nn_0 Nn_1 Nn_2 Nn_3 Nn_4 Nn_5 Nn_f0 Nn_f1 Nn_f2 Nn_f3 Nn_f4 Nn_f5
    have KXa := KX.out.below bel8
    clear KX
    have KX := Lib.hid KXa
    clear KXa
    have KYa := KY.out.below bel8
    clear KY
    have KY := Lib.hid KYa
    clear KYa
    have KNa := KN.out.below bel8
    clear KN
    have KN := Lib.hid KNa
    clear KNa
    have t_Tf := Tf.out.below bel8
    clear Tf
    have Tf := Lib.hid t_Tf
    clear t_Tf
    have t_Tg := Tg.out.below bel8
    clear Tg
    have Tg := Lib.hid t_Tg
    clear t_Tg
    have t_C := C.out.below bel8
    clear C
    have C := Lib.hid t_C
    clear t_C
    have t_X := X.out.below bel8
    clear X
    have X := Lib.hid t_X
    clear t_X
    have t_Y := Y.out.below bel8
    clear Y
    have Y := Lib.hid t_Y
    clear t_Y
    have t_Nn := Nn.out.below bel8
    clear Nn
    have Nn := Lib.hid t_Nn
    clear t_Nn
    have SB14 : Below w3.heap.size w3 w8 := SB13h.out.trans (bel8.mono SB13h.out.size)
    clear SB13h
    have SB14h := Lib.hid SB14
    clear SB14 bel8
    have lt_Tf := Tf.out.lt
    have Tf_0 := Tf.out.cell 0
    have Tf_1 := Tf.out.cell 1
    have Tf_2 := Tf.out.cell 2
    have Tf_3 := Tf.out.cell 3
    have Tf_4 := Tf.out.cell 4
    have Tf_5 := Tf.out.cell 5
    have Tf_f0 := Tf.out.frozen 0
    have Tf_f1 := Tf.out.frozen 1
    have Tf_f2 := Tf.out.frozen 2
    have Tf_f3 := Tf.out.frozen 3
    have Tf_f4 := Tf.out.frozen 4
    have Tf_f5 := Tf.out.frozen 5
    simp at Tf_0 Tf_1 Tf_2 Tf_3 Tf_4 Tf_5
    have lt_Tg := Tg.out.lt
    have Tg_0 := Tg.out.cell 0
    have Tg_1 := Tg.out.cell 1
    have Tg_2 := Tg.out.cell 2
    have Tg_3 := Tg.out.cell 3
    have Tg_4 := Tg.out.cell 4
    have Tg_5 := Tg.out.cell 5
    have Tg_f0 := Tg.out.frozen 0
    have Tg_f1 := Tg.out.frozen 1
    have Tg_f2 := Tg.out.frozen 2
    have Tg_f3 := Tg.out.frozen 3
    have Tg_f4 := Tg.out.frozen 4
    have Tg_f5 := Tg.out.frozen 5
    simp at Tg_0 Tg_1 Tg_2 Tg_3 Tg_4 Tg_5
    have lt_C := C.out.lt
    have C_0 := C.out.cell 0
    have C_1 := C.out.cell 1
    have C_2 := C.out.cell 2
    have C_3 := C.out.cell 3
    have C_f0 := C.out.frozen 0
    have C_f1 := C.out.frozen 1
    have C_f2 := C.out.frozen 2
    have C_f3 := C.out.frozen 3
    simp at C_0 C_1 C_2 C_3
    have lt_X := X.out.lt
    have X_0 := X.out.cell 0
    have X_1 := X.out.cell 1
    have X_2 := X.out.cell 2
    have X_3 := X.out.cell 3
    have X_4 := X.out.cell 4
    have X_5 := X.out.cell 5
    have X_f0 := X.out.frozen 0
    have X_f1 := X.out.frozen 1
    have X_f2 := X.out.frozen 2
    have X_f3 := X.out.frozen 3
    have X_f4 := X.out.frozen 4
    have X_f5 := X.out.frozen 5
    simp at X_0 X_1 X_2 X_3 X_4 X_5
    have lt_Y := Y.out.lt
    have Y_0 := Y.out.cell 0
    have Y_1 := Y.out.cell 1
    have Y_2 := Y.out.cell 2
    have Y_3 := Y.out.cell 3
    have Y_4 := Y.out.cell 4
    have Y_5 := Y.out.cell 5
    have Y_f0 := Y.out.frozen 0
    have Y_f1 := Y.out.frozen 1
    have Y_f2 := Y.out.frozen 2
    have Y_f3 := Y.out.frozen 3
    have Y_f4 := Y.out.frozen 4
    have Y_f5 := Y.out.frozen 5
    simp at Y_0 Y_1 Y_2 Y_3 Y_4 Y_5
    have lt_Nn := Nn.out.lt
    have Nn_0 := Nn.out.cell 0
    have Nn_1 := Nn.out.cell 1
    have Nn_2 := Nn.out.cell 2
    have Nn_3 := Nn.out.cell 3
    have Nn_4 := Nn.out.cell 4
    have Nn_5 := Nn.out.cell 5
    have Nn_f0 := Nn.out.frozen 0
    have Nn_f1 := Nn.out.frozen 1
    have Nn_f2 := Nn.out.frozen 2
    have Nn_f3 := Nn.out.frozen 3
    have Nn_f4 := Nn.out.frozen 4
    have Nn_f5 := Nn.out.frozen 5
    simp at Nn_0 Nn_1 Nn_2 Nn_3 Nn_4 Nn_5
    have szB_w8 := SB14h.out.size
    go_wp2_with fail
    refine (new_any 65 1 cbk _).mono ?_
    rintro e w9 ⟨⟨pq, fq, zq, rfl, hok, hv⟩, bel9⟩
    clear lt_Tf Tf_0 Tf_1 Tf_2 Tf_3 Tf_4 Tf_5 Tf_f0 Tf_f1 Tf_f2 Tf_f3 Tf_f4 Tf_f5 lt_Tg Tg_0 Tg_1 Tg_2 Tg_3 Tg_4 Tg_5 Tg_f0 Tg_f1 Tg_f2 Tg_f3 Tg_f4 Tg_f5 lt_C C_0 C_1 C_2 C_3 C_f0 C_f1 C_f2 C_f3 lt_X X_0 X_1 X_2 X_3 X_4 X_5 X_f0 X_f1 X_f2 X_f3 X_f4 X_f5 lt_Y Y_0 Y_1 Y_2 Y_3 Y_4 Y_5 Y_f0 Y_f1 Y_f2 Y_f3 Y_f4 Y_f5 lt_Nn Nn_0 Nn_1 Nn_2 Nn_3 Nn_4 Nn_5 Nn_f0 Nn_f1 Nn_f2 Nn_f3 Nn_f4 Nn_f5
    have KXa := KX.out.below bel9
    clear KX
    have KX := Lib.hid KXa
    clear KXa
    have KYa := KY.out.below bel9
    clear KY
    have KY := Lib.hid KYa
    clear KYa
    have KNa := KN.out.below bel9
    clear KN
    have KN := Lib.hid KNa
    clear KNa
    obtain rfl : zq = 2 := by rcases hv with ⟨h, _⟩ | ⟨_, h, _⟩; exact absurd h.2.1 (by decide); exact h
    clear hok hv
    have t_Tf := Tf.out.below bel9
    clear Tf
    have Tf := Lib.hid t_Tf
    clear t_Tf
    have t_Tg := Tg.out.below bel9
    clear Tg
    have Tg := Lib.hid t_Tg
    clear t_Tg
    have t_C := C.out.below bel9
    clear C
    have C := Lib.hid t_C
    clear t_C
    have t_X := X.out.below bel9
    clear X
    have X := Lib.hid t_X
    clear t_X
    have t_Y := Y.out.below bel9
    clear Y
    have Y := Lib.hid t_Y
    clear t_Y
    have t_Nn := Nn.out.below bel9
    clear Nn
    have Nn := Lib.hid t_Nn
    clear t_Nn
    have SB15 : Below w3.heap.size w3 w9 := SB14h.out.trans (bel9.mono SB14h.out.size)
    clear SB14h
    have SB15h := Lib.hid SB15
    clear SB15 bel9
    have lt_Tf := Tf.out.lt
    have Tf_0 := Tf.out.cell 0
    have Tf_1 := Tf.out.cell 1
    have Tf_2 := Tf.out.cell 2
    have Tf_3 := Tf.out.cell 3
    have Tf_4 := Tf.out.cell 4
    have Tf_5 := Tf.out.cell 5
    have Tf_f0 := Tf.out.frozen 0
    have Tf_f1 := Tf.out.frozen 1
    have Tf_f2 := Tf.out.frozen 2
    have Tf_f3 := Tf.out.frozen 3
    have Tf_f4 := Tf.out.frozen 4
    have Tf_f5 := Tf.out.frozen 5
    simp at Tf_0 Tf_1 Tf_2 Tf_3 Tf_4 Tf_5
    have lt_Tg := Tg.out.lt
    have Tg_0 := Tg.out.cell 0
    have Tg_1 := Tg.out.cell 1
    have Tg_2 := Tg.out.cell 2
    have Tg_3 := Tg.out.cell 3
    have Tg_4 := Tg.out.cell 4
    have Tg_5 := Tg.out.cell 5
    have Tg_f0 := Tg.out.frozen 0
    have Tg_f1 := Tg.out.frozen 1
    have Tg_f2 := Tg.out.frozen 2
    have Tg_f3 := Tg.out.frozen 3
    have Tg_f4 := Tg.out.frozen 4
    have Tg_f5 := Tg.out.frozen 5
    simp at Tg_0 Tg_1 Tg_2 Tg_3 Tg_4 Tg_5
    have lt_C := C.out.lt
    have C_0 := C.out.cell 0
    have C_1 := C.out.cell 1
    have C_2 := C.out.cell 2
    have C_3 := C.out.cell 3
    have C_f0 := C.out.frozen 0
    have C_f1 := C.out.frozen 1
    have C_f2 := C.out.frozen 2
    have C_f3 := C.out.frozen 3
    simp at C_0 C_1 C_2 C_3
    have lt_X := X.out.lt
    have X_0 := X.out.cell 0
    have X_1 := X.out.cell 1
    have X_2 := X.out.cell 2
    have X_3 := X.out.cell 3
    have X_4 := X.out.cell 4
    have X_5 := X.out.cell 5
    have X_f0 := X.out.frozen 0
    have X_f1 := X.out.frozen 1
    have X_f2 := X.out.frozen 2
    have X_f3 := X.out.frozen 3
    have X_f4 := X.out.frozen 4
    have X_f5 := X.out.frozen 5
    simp at X_0 X_1 X_2 X_3 X_4 X_5
    have lt_Y := Y.out.lt
    have Y_0 := Y.out.cell 0
    have Y_1 := Y.out.cell 1
    have Y_2 := Y.out.cell 2
    have Y_3 := Y.out.cell 3
    have Y_4 := Y.out.cell 4
    have Y_5 := Y.out.cell 5
    have Y_f0 := Y.out.frozen 0
    have Y_f1 := Y.out.frozen 1
    have Y_f2 := Y.out.frozen 2
    have Y_f3 := Y.out.frozen 3
    have Y_f4 := Y.out.frozen 4
    have Y_f5 := Y.out.frozen 5
    simp at Y_0 Y_1 Y_2 Y_3 Y_4 Y_5
    have lt_Nn := Nn.out.lt
    have Nn_0 := Nn.out.cell 0
    have Nn_1 := Nn.out.cell 1
    have Nn_2 := Nn.out.cell 2
    have Nn_3 := Nn.out.cell 3
    have Nn_4 := Nn.out.cell 4
    have Nn_5 := Nn.out.cell 5
    have Nn_f0 := Nn.out.frozen 0
    have Nn_f1 := Nn.out.frozen 1
    have Nn_f2 := Nn.out.frozen 2
    have Nn_f3 := Nn.out.frozen 3
    have Nn_f4 := Nn.out.frozen 4
    have Nn_f5 := Nn.out.frozen 5
    simp at Nn_0 Nn_1 Nn_2 Nn_3 Nn_4 Nn_5
    have szB_w9 := SB15h.out.size
    go_wp2_with fail
    have KXa := (KX.out.below ((Below.refl w9.heap.size w9).alloc (Nat.le_refl _) (.cells #[.int .i64 fq.W, .int .i64 fq.H, .slice pq.ac fq.nc pq.kc, .slice pq.ad fq.nd pq.kd, .slice pq.ai fq.ni pq.ki, .slice pq.a4 fq.nt pq.kt] 29)))
    clear KX
    have KYa := (KY.out.below ((Below.refl w9.heap.size w9).alloc (Nat.le_refl _) (.cells #[.int .i64 fq.W, .int .i64 fq.H, .slice pq.ac fq.nc pq.kc, .slice pq.ad fq.nd pq.kd, .slice pq.ai fq.ni pq.ki, .slice pq.a4 fq.nt pq.kt] 29)))
    clear KY
    have KNa := (KN.out.below ((Below.refl w9.heap.size w9).alloc (Nat.le_refl _) (.cells #[.int .i64 fq.W, .int .i64 fq.H, .slice pq.ac fq.nc pq.kc, .slice pq.ad fq.nd pq.kd, .slice pq.ai fq.ni pq.ki, .slice pq.a4 fq.nt pq.kt] 29)))
    clear KN
    have NE_Tf_Q := Lib.hid (show w2.heap.size ≠ w9.heap.size by omega)
    have NE_Tg_Q := Lib.hid (show w3.heap.size ≠ w9.heap.size by omega)
    have NE_C_Q := Lib.hid (show w3.heap.size + 1 ≠ w9.heap.size by omega)
    have NE_X_Q := Lib.hid (show w4.heap.size ≠ w9.heap.size by omega)
    have NE_Y_Q := Lib.hid (show w5.heap.size ≠ w9.heap.size by omega)
    have NE_Nn_Q := Lib.hid (show w7.heap.size ≠ w9.heap.size by omega)
    have s_Tf := Tf.out
    have s_Tg := Tg.out
    have s_C := C.out
    have s_X := X.out
    have s_Y := Y.out
    have s_Nn := Nn.out
    replace s_Tf := s_Tf.alloc (.cells #[.int .i64 fq.W, .int .i64 fq.H, .slice pq.ac fq.nc pq.kc, .slice pq.ad fq.nd pq.kd, .slice pq.ai fq.ni pq.ki, .slice pq.a4 fq.nt pq.kt] 29)
    replace s_Tg := s_Tg.alloc (.cells #[.int .i64 fq.W, .int .i64 fq.H, .slice pq.ac fq.nc pq.kc, .slice pq.ad fq.nd pq.kd, .slice pq.ai fq.ni pq.ki, .slice pq.a4 fq.nt pq.kt] 29)
    replace s_C := s_C.alloc (.cells #[.int .i64 fq.W, .int .i64 fq.H, .slice pq.ac fq.nc pq.kc, .slice pq.ad fq.nd pq.kd, .slice pq.ai fq.ni pq.ki, .slice pq.a4 fq.nt pq.kt] 29)
    replace s_X := s_X.alloc (.cells #[.int .i64 fq.W, .int .i64 fq.H, .slice pq.ac fq.nc pq.kc, .slice pq.ad fq.nd pq.kd, .slice pq.ai fq.ni pq.ki, .slice pq.a4 fq.nt pq.kt] 29)
    replace s_Y := s_Y.alloc (.cells #[.int .i64 fq.W, .int .i64 fq.H, .slice pq.ac fq.nc pq.kc, .slice pq.ad fq.nd pq.kd, .slice pq.ai fq.ni pq.ki, .slice pq.a4 fq.nt pq.kt] 29)
    replace s_Nn := s_Nn.alloc (.cells #[.int .i64 fq.W, .int .i64 fq.H, .slice pq.ac fq.nc pq.kc, .slice pq.ad fq.nd pq.kd, .slice pq.ai fq.ni pq.ki, .slice pq.a4 fq.nt pq.kt] 29)
    have s_Q : HasBlk (w9.alloc (.cells #[.int .i64 fq.W, .int .i64 fq.H, .slice pq.ac fq.nc pq.kc, .slice pq.ad fq.nd pq.kd, .slice pq.ai fq.ni pq.ki, .slice pq.a4 fq.nt pq.kt] 29)) (w9.heap.size) 29 #[.int .i64 fq.W, .int .i64 fq.H, .slice pq.ac fq.nc pq.kc, .slice pq.ad fq.nd pq.kd, .slice pq.ai fq.ni pq.ki, .slice pq.a4 fq.nt pq.kt] := by simpa using hasBlk_new w9 29 #[.int .i64 fq.W, .int .i64 fq.H, .slice pq.ac fq.nc pq.kc, .slice pq.ad fq.nd pq.kd, .slice pq.ai fq.ni pq.ki, .slice pq.a4 fq.nt pq.kt]
    have t_Tf : HasBlk (w9.alloc (.cells #[.int .i64 fq.W, .int .i64 fq.H, .slice pq.ac fq.nc pq.kc, .slice pq.ad fq.nd pq.kd, .slice pq.ai fq.ni pq.ki, .slice pq.a4 fq.nt pq.kt] 29)) (w2.heap.size) 29 #[.int .i64 f.W, .int .i64 f.H, .slice p.ac f.nc p.kc, .slice p.ad f.nd p.kd, .slice p.ai f.ni p.ki, .slice p.a4 f.nt p.kt] := by simpa using s_Tf
    clear s_Tf Tf
    have t_Tg : HasBlk (w9.alloc (.cells #[.int .i64 fq.W, .int .i64 fq.H, .slice pq.ac fq.nc pq.kc, .slice pq.ad fq.nd pq.kd, .slice pq.ai fq.ni pq.ki, .slice pq.a4 fq.nt pq.kt] 29)) (w3.heap.size) 29 #[.int .i64 g.W, .int .i64 g.H, .slice p'.ac g.nc p'.kc, .slice p'.ad g.nd p'.kd, .slice p'.ai g.ni p'.ki, .slice p'.a4 g.nt p'.kt] := by simpa using s_Tg
    clear s_Tg Tg
    have t_C : HasBlk (w9.alloc (.cells #[.int .i64 fq.W, .int .i64 fq.H, .slice pq.ac fq.nc pq.kc, .slice pq.ad fq.nd pq.kd, .slice pq.ai fq.ni pq.ki, .slice pq.a4 fq.nt pq.kt] 29)) (w3.heap.size + 1) 23 #[.int .u8 255, .int .u8 255, .int .u8 255, .int .u8 128] := by simpa using s_C
    clear s_C C
    have t_X : HasBlk (w9.alloc (.cells #[.int .i64 fq.W, .int .i64 fq.H, .slice pq.ac fq.nc pq.kc, .slice pq.ad fq.nd pq.kd, .slice pq.ai fq.ni pq.ki, .slice pq.a4 fq.nt pq.kt] 29)) (w4.heap.size) 29 #[.int .i64 x.W, .int .i64 x.H, .slice px.ac x.nc px.kc, .slice px.ad x.nd px.kd, .slice px.ai x.ni px.ki, .slice px.a4 x.nt px.kt] := by simpa using s_X
    clear s_X X
    have t_Y : HasBlk (w9.alloc (.cells #[.int .i64 fq.W, .int .i64 fq.H, .slice pq.ac fq.nc pq.kc, .slice pq.ad fq.nd pq.kd, .slice pq.ai fq.ni pq.ki, .slice pq.a4 fq.nt pq.kt] 29)) (w5.heap.size) 29 #[.int .i64 yW, .int .i64 yH, .slice ac 2 kc, .slice ad 2 kd, .slice ai yi ki, .slice a4 yt kt] := by simpa using s_Y
    clear s_Y Y
    have t_Nn : HasBlk (w9.alloc (.cells #[.int .i64 fq.W, .int .i64 fq.H, .slice pq.ac fq.nc pq.kc, .slice pq.ad fq.nd pq.kd, .slice pq.ai fq.ni pq.ki, .slice pq.a4 fq.nt pq.kt] 29)) (w7.heap.size) 29 #[.int .i64 fn.W, .int .i64 fn.H, .slice pn.ac fn.nc pn.kc, .slice pn.ad fn.nd pn.kd, .slice pn.ai fn.ni pn.ki, .slice pn.a4 fn.nt pn.kt] := by simpa using s_Nn
    clear s_Nn Nn
    have t_Q : HasBlk (w9.alloc (.cells #[.int .i64 fq.W, .int .i64 fq.H, .slice pq.ac fq.nc pq.kc, .slice pq.ad fq.nd pq.kd, .slice pq.ai fq.ni pq.ki, .slice pq.a4 fq.nt pq.kt] 29)) (w9.heap.size) 29 #[.int .i64 fq.W, .int .i64 fq.H, .slice pq.ac fq.nc pq.kc, .slice pq.ad fq.nd pq.kd, .slice pq.ai fq.ni pq.ki, .slice pq.a4 fq.nt pq.kt] := by simpa using s_Q
    clear s_Q
    have SB16 : Below w3.heap.size w3 (w9.alloc (.cells #[.int .i64 fq.W, .int .i64 fq.H, .slice pq.ac fq.nc pq.kc, .slice pq.ad fq.nd pq.kd, .slice pq.ai fq.ni pq.ki, .slice pq.a4 fq.nt pq.kt] 29)) := by
      have bel0 := SB15h.out
      repeat' (first | exact Below.refl _ _ | assumption | apply Below.drew | refine Below.setCell ?_ (by first | omega | (simp; done) | (simp; omega)) _ | refine Below.alloc ?_ (by first | omega | (simp; done) | (simp; omega)) _)
    clear lt_Tf Tf_0 Tf_1 Tf_2 Tf_3 Tf_4 Tf_5 Tf_f0 Tf_f1 Tf_f2 Tf_f3 Tf_f4 Tf_f5 lt_Tg Tg_0 Tg_1 Tg_2 Tg_3 Tg_4 Tg_5 Tg_f0 Tg_f1 Tg_f2 Tg_f3 Tg_f4 Tg_f5 lt_C C_0 C_1 C_2 C_3 C_f0 C_f1 C_f2 C_f3 lt_X X_0 X_1 X_2 X_3 X_4 X_5 X_f0 X_f1 X_f2 X_f3 X_f4 X_f5 lt_Y Y_0 Y_1 Y_2 Y_3 Y_4 Y_5 Y_f0 Y_f1 Y_f2 Y_f3 Y_f4 Y_f5 lt_Nn Nn_0 Nn_1 Nn_2 Nn_3 Nn_4 Nn_5 Nn_f0 Nn_f1 Nn_f2 Nn_f3 Nn_f4 Nn_f5
    generalize gW_v6 : (w9.alloc (.cells #[.int .i64 fq.W, .int .i64 fq.H, .slice pq.ac fq.nc pq.kc, .slice pq.ad fq.nd pq.kd, .slice pq.ai fq.ni pq.ki, .slice pq.a4 fq.nt pq.kt] 29)) = v6 at *
    clear gW_v6
    have Tf := Lib.hid t_Tf
    clear t_Tf
    have Tg := Lib.hid t_Tg
    clear t_Tg
    have C := Lib.hid t_C
    clear t_C
    have X := Lib.hid t_X
    clear t_X
    have Y := Lib.hid t_Y
    clear t_Y
    have Nn := Lib.hid t_Nn
    clear t_Nn
    have Q := Lib.hid t_Q
    clear t_Q
    clear SB15h
    have SB16h := Lib.hid SB16
    clear SB16
    have KX := Lib.hid KXa
    clear KXa
    have KY := Lib.hid KYa
    clear KYa
    have KN := Lib.hid KNa
    clear KNa
    have lt_Tf := Tf.out.lt
    have Tf_0 := Tf.out.cell 0
    have Tf_1 := Tf.out.cell 1
    have Tf_2 := Tf.out.cell 2
    have Tf_3 := Tf.out.cell 3
    have Tf_4 := Tf.out.cell 4
    have Tf_5 := Tf.out.cell 5
    have Tf_f0 := Tf.out.frozen 0
    have Tf_f1 := Tf.out.frozen 1
    have Tf_f2 := Tf.out.frozen 2
    have Tf_f3 := Tf.out.frozen 3
    have Tf_f4 := Tf.out.frozen 4
    have Tf_f5 := Tf.out.frozen 5
    simp at Tf_0 Tf_1 Tf_2 Tf_3 Tf_4 Tf_5
    have lt_Tg := Tg.out.lt
    have Tg_0 := Tg.out.cell 0
    have Tg_1 := Tg.out.cell 1
    have Tg_2 := Tg.out.cell 2
    have Tg_3 := Tg.out.cell 3
    have Tg_4 := Tg.out.cell 4
    have Tg_5 := Tg.out.cell 5
    have Tg_f0 := Tg.out.frozen 0
    have Tg_f1 := Tg.out.frozen 1
    have Tg_f2 := Tg.out.frozen 2
    have Tg_f3 := Tg.out.frozen 3
    have Tg_f4 := Tg.out.frozen 4
    have Tg_f5 := Tg.out.frozen 5
    simp at Tg_0 Tg_1 Tg_2 Tg_3 Tg_4 Tg_5
    have lt_C := C.out.lt
    have C_0 := C.out.cell 0
    have C_1 := C.out.cell 1
    have C_2 := C.out.cell 2
    have C_3 := C.out.cell 3
    have C_f0 := C.out.frozen 0
    have C_f1 := C.out.frozen 1
    have C_f2 := C.out.frozen 2
    have C_f3 := C.out.frozen 3
    simp at C_0 C_1 C_2 C_3
    have lt_X := X.out.lt
    have X_0 := X.out.cell 0
    have X_1 := X.out.cell 1
    have X_2 := X.out.cell 2
    have X_3 := X.out.cell 3
    have X_4 := X.out.cell 4
    have X_5 := X.out.cell 5
    have X_f0 := X.out.frozen 0
    have X_f1 := X.out.frozen 1
    have X_f2 := X.out.frozen 2
    have X_f3 := X.out.frozen 3
    have X_f4 := X.out.frozen 4
    have X_f5 := X.out.frozen 5
    simp at X_0 X_1 X_2 X_3 X_4 X_5
    have lt_Y := Y.out.lt
    have Y_0 := Y.out.cell 0
    have Y_1 := Y.out.cell 1
    have Y_2 := Y.out.cell 2
    have Y_3 := Y.out.cell 3
    have Y_4 := Y.out.cell 4
    have Y_5 := Y.out.cell 5
    have Y_f0 := Y.out.frozen 0
    have Y_f1 := Y.out.frozen 1
    have Y_f2 := Y.out.frozen 2
    have Y_f3 := Y.out.frozen 3
    have Y_f4 := Y.out.frozen 4
    have Y_f5 := Y.out.frozen 5
    simp at Y_0 Y_1 Y_2 Y_3 Y_4 Y_5
    have lt_Nn := Nn.out.lt
    have Nn_0 := Nn.out.cell 0
    have Nn_1 := Nn.out.cell 1
    have Nn_2 := Nn.out.cell 2
    have Nn_3 := Nn.out.cell 3
    have Nn_4 := Nn.out.cell 4
    have Nn_5 := Nn.out.cell 5
    have Nn_f0 := Nn.out.frozen 0
    have Nn_f1 := Nn.out.frozen 1
    have Nn_f2 := Nn.out.frozen 2
    have Nn_f3 := Nn.out.frozen 3
    have Nn_f4 := Nn.out.frozen 4
    have Nn_f5 := Nn.out.frozen 5
    simp at Nn_0 Nn_1 Nn_2 Nn_3 Nn_4 Nn_5
    have lt_Q := Q.out.lt
    have Q_0 := Q.out.cell 0
    have Q_1 := Q.out.cell 1
    have Q_2 := Q.out.cell 2
    have Q_3 := Q.out.cell 3
    have Q_4 := Q.out.cell 4
    have Q_5 := Q.out.cell 5
    have Q_f0 := Q.out.frozen 0
    have Q_f1 := Q.out.frozen 1
    have Q_f2 := Q.out.frozen 2
    have Q_f3 := Q.out.frozen 3
    have Q_f4 := Q.out.frozen 4
    have Q_f5 := Q.out.frozen 5
    simp at Q_0 Q_1 Q_2 Q_3 Q_4 Q_5
    have szB_v6 := SB16h.out.size
    clear Q lt_Q Q_0 Q_1 Q_2 Q_3 Q_4 Q_5 Q_f0 Q_f1 Q_f2 Q_f3 Q_f4 Q_f5
    clear NE_Tf_Q
    clear NE_Tg_Q
    clear NE_C_Q
    clear NE_X_Q
    clear NE_Y_Q
    clear NE_Nn_Q
    go_upto_region 12 with fail
    go_cut [16, 17] from 61 to 67 (fun s16 s17 wx => s17 = .int .i64 2 ∧ Below v6.heap.size v6 wx)
    case first =>
      clear lt_Tf Tf_0 Tf_1 Tf_2 Tf_3 Tf_4 Tf_5 Tf_f0 Tf_f1 Tf_f2 Tf_f3 Tf_f4 Tf_f5 lt_Tg Tg_0 Tg_1 Tg_2 Tg_3 Tg_4 Tg_5 Tg_f0 Tg_f1 Tg_f2 Tg_f3 Tg_f4 Tg_f5 lt_C C_0 C_1 C_2 C_3 C_f0 C_f1 C_f2 C_f3 lt_X X_0 X_1 X_2 X_3 X_4 X_5 X_f0 X_f1 X_f2 X_f3 X_f4 X_f5 lt_Y Y_0 Y_1 Y_2 Y_3 Y_4 Y_5 Y_f0 Y_f1 Y_f2 Y_f3 Y_f4 Y_f5 lt_Nn Nn_0 Nn_1 Nn_2 Nn_3 Nn_4 Nn_5 Nn_f0 Nn_f1 Nn_f2 Nn_f3 Nn_f4 Nn_f5 szB_w1 szB_w2 szB_v1 szB_w3 szB_v2 szB_w4 szB_v3 szB_w5 szB_v4 szB_w6 szB_w7 szB_v5 szB_wza szB_w8 szB_w9 szB_v6 bel1 hy3 hy4 ltC2
      have hput := Lib.hid (fun W' (hb : Below v6.heap.size v6 W') => put_any pn fn 0 0 70000 0 0 0 0 0 crd W' (KN.out.below hb))
      have HS := Lib.hid (show (fun Wo => HasBlk Wo (w7.heap.size) 29 #[.int .i64 fn.W, .int .i64 fn.H, .slice pn.ac fn.nc pn.kc, .slice pn.ad fn.nd pn.kd, .slice pn.ai fn.ni pn.ki, .slice pn.a4 fn.nt pn.kt]) v6.drew from Nn.out.drew)
      have BB := Lib.hid (show Below v6.heap.size v6 v6.drew from (Below.refl _ _).drew)
      refine wp_region_E (fun Wo => HasBlk Wo (w7.heap.size) 29 #[.int .i64 fn.W, .int .i64 fn.H, .slice pn.ac fn.nc pn.kc, .slice pn.ad fn.nd pn.kd, .slice pn.ai fn.ni pn.ki, .slice pn.a4 fn.nt pn.kt]) 9 (by kernel_rfl) ?_
      generalize gwd : v6.drew = u0 at *
      clear gwd
      refine wpAnyE_take (i := 0) (v := .agg #[.int .i64 fn.W, .int .i64 fn.H, .slice pn.ac fn.nc pn.kc, .slice pn.ad fn.nd pn.kd, .slice pn.ai fn.ni pn.ki, .slice pn.a4 fn.nt pn.kt]) rfl (by kernel_rfl) (fun _ _ _ h => h) (.inl ⟨by kernel_rfl, fun W hW => ?_⟩) HS.out ?_
      · have q0 := hW.cell 0
        have q1 := hW.cell 1
        have q2 := hW.cell 2
        have q3 := hW.cell 3
        have q4 := hW.cell 4
        have q5 := hW.cell 5
        simp at q0 q1 q2 q3 q4 q5
        go_simp
      simp only [Act.put, List.setIfInBounds_toArray]
      refine wpAnyE_take (i := 1) (v := .agg #[.int .i64 70000, .int .i64 0, .int .i64 0, .int .i64 0, .int .i64 0, .int .i64 0]) rfl (by kernel_rfl) (fun _ _ _ h => h) (.inl ⟨by kernel_rfl, fun W hW => ?_⟩) HS.out ?_
      · have q0 := hW.cell 0
        have q1 := hW.cell 1
        have q2 := hW.cell 2
        have q3 := hW.cell 3
        have q4 := hW.cell 4
        have q5 := hW.cell 5
        simp at q0 q1 q2 q3 q4 q5
        go_simp
      simp only [Act.put]
      refine wpAnyE_two (i := 2) (j := 7) rfl rfl (by kernel_rfl) (fun KQ HK => ?_) (fun KQ HK => ?_)
      · go_wp2_with fail
        refine (red_any _).mono ?_
        rintro e u1 ⟨rfl, hbel⟩
        have BB' := Lib.hid (BB.out.trans (hbel.mono BB.out.size))
        clear BB
        have BB := Lib.hid BB'.out
        clear BB'
        have HS' := Lib.hid (HS.out.below hbel)
        clear HS
        have HS := Lib.hid HS'.out
        clear HS'
        clear hbel
        go_wp2
        refine HK _ _ (fun _ => HS.out) ?_
        clear HK
        refine wpAnyE_two (i := 3) (j := 7) rfl rfl (by kernel_rfl) (fun KQ HK => ?_) (fun KQ HK => ?_)
        · go_wp2_with fail
          refine (hput.out _ BB.out).mono ?_
          rintro e u2 ⟨⟨pz, fz, xz, rfl, ho, hv⟩, hbel⟩
          obtain ⟨rfl, hz⟩ := put_out HM.out HXb.out hv
          clear ho hv hz
          have BB' := Lib.hid (BB.out.trans (hbel.mono BB.out.size))
          clear BB
          have BB := Lib.hid BB'.out
          clear BB'
          have HS' := Lib.hid (HS.out.below hbel)
          clear HS
          have HS := Lib.hid HS'.out
          clear HS'
          clear hbel
          go_wp2
          refine HK _ _ (fun _ => HS.out) ?_
          clear HK
          refine wpAnyE_take (i := 4) (v := .tuple #[.agg #[.int .i64 fz.W, .int .i64 fz.H, .slice pz.ac fz.nc pz.kc, .slice pz.ad fz.nd pz.kd, .slice pz.ai fz.ni pz.ki, .slice pz.a4 fz.nt pz.kt], .int .i64 2]) rfl (by kernel_rfl) (fun _ _ _ h => h) (.inl ⟨by kernel_rfl, fun W hW => ?_⟩) HS.out ?_
          · have q0 := hW.cell 0
            have q1 := hW.cell 1
            have q2 := hW.cell 2
            have q3 := hW.cell 3
            have q4 := hW.cell 4
            have q5 := hW.cell 5
            simp at q0 q1 q2 q3 q4 q5
            go_simp
          simp only [Act.put, List.setIfInBounds_toArray]
          refine wpAnyE_take (i := 5) (v := .agg #[.int .i64 fz.W, .int .i64 fz.H, .slice pz.ac fz.nc pz.kc, .slice pz.ad fz.nd pz.kd, .slice pz.ai fz.ni pz.ki, .slice pz.a4 fz.nt pz.kt]) rfl (by kernel_rfl) (fun _ _ _ h => h) (.inl ⟨by kernel_rfl, fun W hW => ?_⟩) HS.out ?_
          · have q0 := hW.cell 0
            have q1 := hW.cell 1
            have q2 := hW.cell 2
            have q3 := hW.cell 3
            have q4 := hW.cell 4
            have q5 := hW.cell 5
            simp at q0 q1 q2 q3 q4 q5
            go_simp
          simp only [Act.put]
          refine wpAnyE_take (i := 6) (v := .int .i64 2) rfl (by kernel_rfl) (fun _ _ _ h => h) (.inl ⟨by kernel_rfl, fun W hW => ?_⟩) HS.out ?_
          · have q0 := hW.cell 0
            have q1 := hW.cell 1
            have q2 := hW.cell 2
            have q3 := hW.cell 3
            have q4 := hW.cell 4
            have q5 := hW.cell 5
            simp at q0 q1 q2 q3 q4 q5
            go_simp
          simp only [Act.put]
          refine wpAnyE_step (i := 7) rfl (by kernel_rfl) (fun KQ HK => ?_)
          go_wp2
          have hbel := (Below.refl u2.heap.size u2).alloc (Nat.le_refl _) (.cells #[.int .i64 0, .int .i64 0, .slice none 0 0, .slice none 0 0, .slice none 0 0, .slice none 0 0] 29)
          have ZX := Lib.hid (hasBlk_new u2 29 #[.int .i64 0, .int .i64 0, .slice none 0 0, .slice none 0 0, .slice none 0 0, .slice none 0 0])
          have zl := Lib.hid (show v6.heap.size ≤ u2.heap.size from BB.out.size)
          have BB' := Lib.hid (BB.out.trans (hbel.mono BB.out.size))
          clear BB
          have BB := Lib.hid BB'.out
          clear BB'
          have HS' := Lib.hid (HS.out.below hbel)
          clear HS
          have HS := Lib.hid HS'.out
          clear HS'
          clear hbel
          refine HK _ _ (fun _ => HS.out) ?_
          clear HK
          obtain ⟨zb, hzb⟩ : ∃ zb, zb = u2.heap.size := ⟨_, rfl⟩
          rw [← hzb] at ZX zl ⊢
          clear hzb
          generalize u2.alloc (.cells #[.int .i64 0, .int .i64 0, .slice none 0 0, .slice none 0 0, .slice none 0 0, .slice none 0 0] 29) = u3 at *
          refine wpAnyE_step (i := 8) rfl (by kernel_rfl) (fun KQ HK => ?_)
          go_wp2_with (have e := st6F (W := fz.W) (H := fz.H) (A1 := pz.ac) (A2 := pz.ad) (A3 := pz.ai) (A4 := pz.a4) (n1 := fz.nc) (n2 := fz.nd) (n3 := fz.ni) (n4 := fz.nt) (k1 := pz.kc) (k2 := pz.kd) (k3 := pz.ki) (k4 := pz.kt) ZX.out; simp [go_sem] at e; refine upon_store e ?_; clear e)
          have BB' := Lib.hid (show Below v6.heap.size v6 ((((((u3.setCell ⟨zb, 0, none⟩ (.int .i64 fz.W)).setCell ⟨zb, 1, none⟩ (.int .i64 fz.H)).setCell ⟨zb, 2, none⟩ (.slice pz.ac fz.nc pz.kc)).setCell ⟨zb, 3, none⟩ (.slice pz.ad fz.nd pz.kd)).setCell ⟨zb, 4, none⟩ (.slice pz.ai fz.ni pz.ki)).setCell ⟨zb, 5, none⟩ (.slice pz.a4 fz.nt pz.kt)) from (Below.setCell (p := ⟨zb, 5, none⟩) (Below.setCell (p := ⟨zb, 4, none⟩) (Below.setCell (p := ⟨zb, 3, none⟩) (Below.setCell (p := ⟨zb, 2, none⟩) (Below.setCell (p := ⟨zb, 1, none⟩) (Below.setCell (p := ⟨zb, 0, none⟩) BB.out zl.out _) zl.out _) zl.out _) zl.out _) zl.out _) zl.out _))
          clear BB ZX
          have BB := Lib.hid BB'.out
          clear BB'
          have hlt := Nn.out.lt
          have hzl := zl.out
          have HS' := Lib.hid (((((((HS.out.far (p := ⟨zb, 0, none⟩) (by simp; omega) (.int .i64 fz.W)).far (p := ⟨zb, 1, none⟩) (by simp; omega) (.int .i64 fz.H)).far (p := ⟨zb, 2, none⟩) (by simp; omega) (.slice pz.ac fz.nc pz.kc)).far (p := ⟨zb, 3, none⟩) (by simp; omega) (.slice pz.ad fz.nd pz.kd)).far (p := ⟨zb, 4, none⟩) (by simp; omega) (.slice pz.ai fz.ni pz.ki)).far (p := ⟨zb, 5, none⟩) (by simp; omega) (.slice pz.a4 fz.nt pz.kt)))
          clear HS hlt hzl
          have HS := Lib.hid HS'.out
          clear HS'
          refine HK _ _ (fun _ => HS.out) ?_
          clear HK
          generalize ((((((u3.setCell ⟨zb, 0, none⟩ (.int .i64 fz.W)).setCell ⟨zb, 1, none⟩ (.int .i64 fz.H)).setCell ⟨zb, 2, none⟩ (.slice pz.ac fz.nc pz.kc)).setCell ⟨zb, 3, none⟩ (.slice pz.ad fz.nd pz.kd)).setCell ⟨zb, 4, none⟩ (.slice pz.ai fz.ni pz.ki)).setCell ⟨zb, 5, none⟩ (.slice pz.a4 fz.nt pz.kt)) = u4 at *
          refine wpAnyE_step (i := 9) rfl (by kernel_rfl) (fun KQ HK => ?_)
          go_wp2
          refine HK _ _ (fun h => absurd rfl h) ?_
          clear HK
          refine wpAnyE_done (by kernel_rfl) ?_
          go_wp2_with fail
          go_meet
          exact ⟨rfl, BB.out⟩
        · go_wp2
          have hbel := (Below.refl u1.heap.size u1).alloc (Nat.le_refl _) (.cells #[.int .i64 0, .int .i64 0, .slice none 0 0, .slice none 0 0, .slice none 0 0, .slice none 0 0] 29)
          have ZX := Lib.hid (hasBlk_new u1 29 #[.int .i64 0, .int .i64 0, .slice none 0 0, .slice none 0 0, .slice none 0 0, .slice none 0 0])
          have zl := Lib.hid (show v6.heap.size ≤ u1.heap.size from BB.out.size)
          have BB' := Lib.hid (BB.out.trans (hbel.mono BB.out.size))
          clear BB
          have BB := Lib.hid BB'.out
          clear BB'
          have HS' := Lib.hid (HS.out.below hbel)
          clear HS
          have HS := Lib.hid HS'.out
          clear HS'
          clear hbel
          refine HK _ _ (fun _ => HS.out) ?_
          clear HK
          obtain ⟨zb, hzb⟩ : ∃ zb, zb = u1.heap.size := ⟨_, rfl⟩
          rw [← hzb] at ZX zl ⊢
          clear hzb
          generalize u1.alloc (.cells #[.int .i64 0, .int .i64 0, .slice none 0 0, .slice none 0 0, .slice none 0 0, .slice none 0 0] 29) = u6 at *
          refine wpAnyE_step (i := 3) rfl (by kernel_rfl) (fun KQ HK => ?_)
          go_wp2_with fail
          refine (hput.out _ BB.out).mono ?_
          rintro e u7 ⟨⟨pz, fz, xz, rfl, ho, hv⟩, hbel⟩
          obtain ⟨rfl, hz⟩ := put_out HM.out HXb.out hv
          clear ho hv hz
          have BB' := Lib.hid (BB.out.trans (hbel.mono BB.out.size))
          clear BB
          have BB := Lib.hid BB'.out
          clear BB'
          have HS' := Lib.hid (HS.out.below hbel)
          clear HS
          have HS := Lib.hid HS'.out
          clear HS'
          have ZX' := Lib.hid (ZX.out.below hbel)
          clear ZX
          have ZX := Lib.hid ZX'.out
          clear ZX'
          clear hbel
          go_wp2
          refine HK _ _ (fun _ => HS.out) ?_
          clear HK
          refine wpAnyE_take (i := 4) (v := .tuple #[.agg #[.int .i64 fz.W, .int .i64 fz.H, .slice pz.ac fz.nc pz.kc, .slice pz.ad fz.nd pz.kd, .slice pz.ai fz.ni pz.ki, .slice pz.a4 fz.nt pz.kt], .int .i64 2]) rfl (by kernel_rfl) (fun _ _ _ h => h) (.inl ⟨by kernel_rfl, fun W hW => ?_⟩) HS.out ?_
          · have q0 := hW.cell 0
            have q1 := hW.cell 1
            have q2 := hW.cell 2
            have q3 := hW.cell 3
            have q4 := hW.cell 4
            have q5 := hW.cell 5
            simp at q0 q1 q2 q3 q4 q5
            go_simp
          simp only [Act.put, List.setIfInBounds_toArray]
          refine wpAnyE_take (i := 5) (v := .agg #[.int .i64 fz.W, .int .i64 fz.H, .slice pz.ac fz.nc pz.kc, .slice pz.ad fz.nd pz.kd, .slice pz.ai fz.ni pz.ki, .slice pz.a4 fz.nt pz.kt]) rfl (by kernel_rfl) (fun _ _ _ h => h) (.inl ⟨by kernel_rfl, fun W hW => ?_⟩) HS.out ?_
          · have q0 := hW.cell 0
            have q1 := hW.cell 1
            have q2 := hW.cell 2
            have q3 := hW.cell 3
            have q4 := hW.cell 4
            have q5 := hW.cell 5
            simp at q0 q1 q2 q3 q4 q5
            go_simp
          simp only [Act.put]
          refine wpAnyE_take (i := 6) (v := .int .i64 2) rfl (by kernel_rfl) (fun _ _ _ h => h) (.inl ⟨by kernel_rfl, fun W hW => ?_⟩) HS.out ?_
          · have q0 := hW.cell 0
            have q1 := hW.cell 1
            have q2 := hW.cell 2
            have q3 := hW.cell 3
            have q4 := hW.cell 4
            have q5 := hW.cell 5
            simp at q0 q1 q2 q3 q4 q5
            go_simp
          simp only [Act.put]
          refine wpAnyE_step (i := 8) rfl (by kernel_rfl) (fun KQ HK => ?_)
          go_wp2_with (have e := st6F (W := fz.W) (H := fz.H) (A1 := pz.ac) (A2 := pz.ad) (A3 := pz.ai) (A4 := pz.a4) (n1 := fz.nc) (n2 := fz.nd) (n3 := fz.ni) (n4 := fz.nt) (k1 := pz.kc) (k2 := pz.kd) (k3 := pz.ki) (k4 := pz.kt) ZX.out; simp [go_sem] at e; refine upon_store e ?_; clear e)
          have BB' := Lib.hid (show Below v6.heap.size v6 ((((((u7.setCell ⟨zb, 0, none⟩ (.int .i64 fz.W)).setCell ⟨zb, 1, none⟩ (.int .i64 fz.H)).setCell ⟨zb, 2, none⟩ (.slice pz.ac fz.nc pz.kc)).setCell ⟨zb, 3, none⟩ (.slice pz.ad fz.nd pz.kd)).setCell ⟨zb, 4, none⟩ (.slice pz.ai fz.ni pz.ki)).setCell ⟨zb, 5, none⟩ (.slice pz.a4 fz.nt pz.kt)) from (Below.setCell (p := ⟨zb, 5, none⟩) (Below.setCell (p := ⟨zb, 4, none⟩) (Below.setCell (p := ⟨zb, 3, none⟩) (Below.setCell (p := ⟨zb, 2, none⟩) (Below.setCell (p := ⟨zb, 1, none⟩) (Below.setCell (p := ⟨zb, 0, none⟩) BB.out zl.out _) zl.out _) zl.out _) zl.out _) zl.out _) zl.out _))
          clear BB ZX
          have BB := Lib.hid BB'.out
          clear BB'
          have hlt := Nn.out.lt
          have hzl := zl.out
          have HS' := Lib.hid (((((((HS.out.far (p := ⟨zb, 0, none⟩) (by simp; omega) (.int .i64 fz.W)).far (p := ⟨zb, 1, none⟩) (by simp; omega) (.int .i64 fz.H)).far (p := ⟨zb, 2, none⟩) (by simp; omega) (.slice pz.ac fz.nc pz.kc)).far (p := ⟨zb, 3, none⟩) (by simp; omega) (.slice pz.ad fz.nd pz.kd)).far (p := ⟨zb, 4, none⟩) (by simp; omega) (.slice pz.ai fz.ni pz.ki)).far (p := ⟨zb, 5, none⟩) (by simp; omega) (.slice pz.a4 fz.nt pz.kt)))
          clear HS hlt hzl
          have HS := Lib.hid HS'.out
          clear HS'
          refine HK _ _ (fun _ => HS.out) ?_
          clear HK
          generalize ((((((u7.setCell ⟨zb, 0, none⟩ (.int .i64 fz.W)).setCell ⟨zb, 1, none⟩ (.int .i64 fz.H)).setCell ⟨zb, 2, none⟩ (.slice pz.ac fz.nc pz.kc)).setCell ⟨zb, 3, none⟩ (.slice pz.ad fz.nd pz.kd)).setCell ⟨zb, 4, none⟩ (.slice pz.ai fz.ni pz.ki)).setCell ⟨zb, 5, none⟩ (.slice pz.a4 fz.nt pz.kt)) = u8 at *
          refine wpAnyE_step (i := 9) rfl (by kernel_rfl) (fun KQ HK => ?_)
          go_wp2
          refine HK _ _ (fun h => absurd rfl h) ?_
          clear HK
          refine wpAnyE_done (by kernel_rfl) ?_
          go_wp2_with fail
          go_meet
          exact ⟨rfl, BB.out⟩
      · go_wp2
        have hbel := (Below.refl u0.heap.size u0).alloc (Nat.le_refl _) (.cells #[.int .i64 0, .int .i64 0, .slice none 0 0, .slice none 0 0, .slice none 0 0, .slice none 0 0] 29)
        have ZX := Lib.hid (hasBlk_new u0 29 #[.int .i64 0, .int .i64 0, .slice none 0 0, .slice none 0 0, .slice none 0 0, .slice none 0 0])
        have zl := Lib.hid (show v6.heap.size ≤ u0.heap.size from BB.out.size)
        have BB' := Lib.hid (BB.out.trans (hbel.mono BB.out.size))
        clear BB
        have BB := Lib.hid BB'.out
        clear BB'
        have HS' := Lib.hid (HS.out.below hbel)
        clear HS
        have HS := Lib.hid HS'.out
        clear HS'
        clear hbel
        refine HK _ _ (fun _ => HS.out) ?_
        clear HK
        obtain ⟨zb, hzb⟩ : ∃ zb, zb = u0.heap.size := ⟨_, rfl⟩
        rw [← hzb] at ZX zl ⊢
        clear hzb
        generalize u0.alloc (.cells #[.int .i64 0, .int .i64 0, .slice none 0 0, .slice none 0 0, .slice none 0 0, .slice none 0 0] 29) = u10 at *
        refine wpAnyE_step (i := 2) rfl (by kernel_rfl) (fun KQ HK => ?_)
        go_wp2_with fail
        refine (red_any _).mono ?_
        rintro e u11 ⟨rfl, hbel⟩
        have BB' := Lib.hid (BB.out.trans (hbel.mono BB.out.size))
        clear BB
        have BB := Lib.hid BB'.out
        clear BB'
        have HS' := Lib.hid (HS.out.below hbel)
        clear HS
        have HS := Lib.hid HS'.out
        clear HS'
        have ZX' := Lib.hid (ZX.out.below hbel)
        clear ZX
        have ZX := Lib.hid ZX'.out
        clear ZX'
        clear hbel
        go_wp2
        refine HK _ _ (fun _ => HS.out) ?_
        clear HK
        refine wpAnyE_step (i := 3) rfl (by kernel_rfl) (fun KQ HK => ?_)
        go_wp2_with fail
        refine (hput.out _ BB.out).mono ?_
        rintro e u12 ⟨⟨pz, fz, xz, rfl, ho, hv⟩, hbel⟩
        obtain ⟨rfl, hz⟩ := put_out HM.out HXb.out hv
        clear ho hv hz
        have BB' := Lib.hid (BB.out.trans (hbel.mono BB.out.size))
        clear BB
        have BB := Lib.hid BB'.out
        clear BB'
        have HS' := Lib.hid (HS.out.below hbel)
        clear HS
        have HS := Lib.hid HS'.out
        clear HS'
        have ZX' := Lib.hid (ZX.out.below hbel)
        clear ZX
        have ZX := Lib.hid ZX'.out
        clear ZX'
        clear hbel
        go_wp2
        refine HK _ _ (fun _ => HS.out) ?_
        clear HK
        refine wpAnyE_take (i := 4) (v := .tuple #[.agg #[.int .i64 fz.W, .int .i64 fz.H, .slice pz.ac fz.nc pz.kc, .slice pz.ad fz.nd pz.kd, .slice pz.ai fz.ni pz.ki, .slice pz.a4 fz.nt pz.kt], .int .i64 2]) rfl (by kernel_rfl) (fun _ _ _ h => h) (.inl ⟨by kernel_rfl, fun W hW => ?_⟩) HS.out ?_
        · have q0 := hW.cell 0
          have q1 := hW.cell 1
          have q2 := hW.cell 2
          have q3 := hW.cell 3
          have q4 := hW.cell 4
          have q5 := hW.cell 5
          simp at q0 q1 q2 q3 q4 q5
          go_simp
        simp only [Act.put, List.setIfInBounds_toArray]
        refine wpAnyE_take (i := 5) (v := .agg #[.int .i64 fz.W, .int .i64 fz.H, .slice pz.ac fz.nc pz.kc, .slice pz.ad fz.nd pz.kd, .slice pz.ai fz.ni pz.ki, .slice pz.a4 fz.nt pz.kt]) rfl (by kernel_rfl) (fun _ _ _ h => h) (.inl ⟨by kernel_rfl, fun W hW => ?_⟩) HS.out ?_
        · have q0 := hW.cell 0
          have q1 := hW.cell 1
          have q2 := hW.cell 2
          have q3 := hW.cell 3
          have q4 := hW.cell 4
          have q5 := hW.cell 5
          simp at q0 q1 q2 q3 q4 q5
          go_simp
        simp only [Act.put]
        refine wpAnyE_take (i := 6) (v := .int .i64 2) rfl (by kernel_rfl) (fun _ _ _ h => h) (.inl ⟨by kernel_rfl, fun W hW => ?_⟩) HS.out ?_
        · have q0 := hW.cell 0
          have q1 := hW.cell 1
          have q2 := hW.cell 2
          have q3 := hW.cell 3
          have q4 := hW.cell 4
          have q5 := hW.cell 5
          simp at q0 q1 q2 q3 q4 q5
          go_simp
        simp only [Act.put]
        refine wpAnyE_step (i := 8) rfl (by kernel_rfl) (fun KQ HK => ?_)
        go_wp2_with (have e := st6F (W := fz.W) (H := fz.H) (A1 := pz.ac) (A2 := pz.ad) (A3 := pz.ai) (A4 := pz.a4) (n1 := fz.nc) (n2 := fz.nd) (n3 := fz.ni) (n4 := fz.nt) (k1 := pz.kc) (k2 := pz.kd) (k3 := pz.ki) (k4 := pz.kt) ZX.out; simp [go_sem] at e; refine upon_store e ?_; clear e)
        have BB' := Lib.hid (show Below v6.heap.size v6 ((((((u12.setCell ⟨zb, 0, none⟩ (.int .i64 fz.W)).setCell ⟨zb, 1, none⟩ (.int .i64 fz.H)).setCell ⟨zb, 2, none⟩ (.slice pz.ac fz.nc pz.kc)).setCell ⟨zb, 3, none⟩ (.slice pz.ad fz.nd pz.kd)).setCell ⟨zb, 4, none⟩ (.slice pz.ai fz.ni pz.ki)).setCell ⟨zb, 5, none⟩ (.slice pz.a4 fz.nt pz.kt)) from (Below.setCell (p := ⟨zb, 5, none⟩) (Below.setCell (p := ⟨zb, 4, none⟩) (Below.setCell (p := ⟨zb, 3, none⟩) (Below.setCell (p := ⟨zb, 2, none⟩) (Below.setCell (p := ⟨zb, 1, none⟩) (Below.setCell (p := ⟨zb, 0, none⟩) BB.out zl.out _) zl.out _) zl.out _) zl.out _) zl.out _) zl.out _))
        clear BB ZX
        have BB := Lib.hid BB'.out
        clear BB'
        have hlt := Nn.out.lt
        have hzl := zl.out
        have HS' := Lib.hid (((((((HS.out.far (p := ⟨zb, 0, none⟩) (by simp; omega) (.int .i64 fz.W)).far (p := ⟨zb, 1, none⟩) (by simp; omega) (.int .i64 fz.H)).far (p := ⟨zb, 2, none⟩) (by simp; omega) (.slice pz.ac fz.nc pz.kc)).far (p := ⟨zb, 3, none⟩) (by simp; omega) (.slice pz.ad fz.nd pz.kd)).far (p := ⟨zb, 4, none⟩) (by simp; omega) (.slice pz.ai fz.ni pz.ki)).far (p := ⟨zb, 5, none⟩) (by simp; omega) (.slice pz.a4 fz.nt pz.kt)))
        clear HS hlt hzl
        have HS := Lib.hid HS'.out
        clear HS'
        refine HK _ _ (fun _ => HS.out) ?_
        clear HK
        generalize ((((((u12.setCell ⟨zb, 0, none⟩ (.int .i64 fz.W)).setCell ⟨zb, 1, none⟩ (.int .i64 fz.H)).setCell ⟨zb, 2, none⟩ (.slice pz.ac fz.nc pz.kc)).setCell ⟨zb, 3, none⟩ (.slice pz.ad fz.nd pz.kd)).setCell ⟨zb, 4, none⟩ (.slice pz.ai fz.ni pz.ki)).setCell ⟨zb, 5, none⟩ (.slice pz.a4 fz.nt pz.kt)) = u13 at *
        refine wpAnyE_step (i := 9) rfl (by kernel_rfl) (fun KQ HK => ?_)
        go_wp2
        refine HK _ _ (fun h => absurd rfl h) ?_
        clear HK
        refine wpAnyE_done (by kernel_rfl) ?_
        go_wp2_with fail
        go_meet
        exact ⟨rfl, BB.out⟩
    case rest =>
      obtain ⟨wzb, rfl⟩ : ∃ wz : World, wz = wc := ⟨wc, rfl⟩
      obtain ⟨rfl, belzb⟩ := hcut
      clear lt_Tf Tf_0 Tf_1 Tf_2 Tf_3 Tf_4 Tf_5 Tf_f0 Tf_f1 Tf_f2 Tf_f3 Tf_f4 Tf_f5 lt_Tg Tg_0 Tg_1 Tg_2 Tg_3 Tg_4 Tg_5 Tg_f0 Tg_f1 Tg_f2 Tg_f3 Tg_f4 Tg_f5 lt_C C_0 C_1 C_2 C_3 C_f0 C_f1 C_f2 C_f3 lt_X X_0 X_1 X_2 X_3 X_4 X_5 X_f0 X_f1 X_f2 X_f3 X_f4 X_f5 lt_Y Y_0 Y_1 Y_2 Y_3 Y_4 Y_5 Y_f0 Y_f1 Y_f2 Y_f3 Y_f4 Y_f5 lt_Nn Nn_0 Nn_1 Nn_2 Nn_3 Nn_4 Nn_5 Nn_f0 Nn_f1 Nn_f2 Nn_f3 Nn_f4 Nn_f5
      have KXa := KX.out.below belzb
      clear KX
      have KX := Lib.hid KXa
      clear KXa
      have KYa := KY.out.below belzb
      clear KY
      have KY := Lib.hid KYa
      clear KYa
      have KNa := KN.out.below belzb
      clear KN
      have KN := Lib.hid KNa
      clear KNa
      have t_Tf := Tf.out.below belzb
      clear Tf
      have Tf := Lib.hid t_Tf
      clear t_Tf
      have t_Tg := Tg.out.below belzb
      clear Tg
      have Tg := Lib.hid t_Tg
      clear t_Tg
      have t_C := C.out.below belzb
      clear C
      have C := Lib.hid t_C
      clear t_C
      have t_X := X.out.below belzb
      clear X
      have X := Lib.hid t_X
      clear t_X
      have t_Y := Y.out.below belzb
      clear Y
      have Y := Lib.hid t_Y
      clear t_Y
      have t_Nn := Nn.out.below belzb
      clear Nn
      have Nn := Lib.hid t_Nn
      clear t_Nn
      have SB17 : Below w3.heap.size w3 wzb := SB16h.out.trans (belzb.mono SB16h.out.size)
      clear SB16h
      have SB17h := Lib.hid SB17
      clear SB17 belzb
      have lt_Tf := Tf.out.lt
      have Tf_0 := Tf.out.cell 0
      have Tf_1 := Tf.out.cell 1
      have Tf_2 := Tf.out.cell 2
      have Tf_3 := Tf.out.cell 3
      have Tf_4 := Tf.out.cell 4
      have Tf_5 := Tf.out.cell 5
      have Tf_f0 := Tf.out.frozen 0
      have Tf_f1 := Tf.out.frozen 1
      have Tf_f2 := Tf.out.frozen 2
      have Tf_f3 := Tf.out.frozen 3
      have Tf_f4 := Tf.out.frozen 4
      have Tf_f5 := Tf.out.frozen 5
      simp at Tf_0 Tf_1 Tf_2 Tf_3 Tf_4 Tf_5
      have lt_Tg := Tg.out.lt
      have Tg_0 := Tg.out.cell 0
      have Tg_1 := Tg.out.cell 1
      have Tg_2 := Tg.out.cell 2
      have Tg_3 := Tg.out.cell 3
      have Tg_4 := Tg.out.cell 4
      have Tg_5 := Tg.out.cell 5
      have Tg_f0 := Tg.out.frozen 0
      have Tg_f1 := Tg.out.frozen 1
      have Tg_f2 := Tg.out.frozen 2
      have Tg_f3 := Tg.out.frozen 3
      have Tg_f4 := Tg.out.frozen 4
      have Tg_f5 := Tg.out.frozen 5
      simp at Tg_0 Tg_1 Tg_2 Tg_3 Tg_4 Tg_5
      have lt_C := C.out.lt
      have C_0 := C.out.cell 0
      have C_1 := C.out.cell 1
      have C_2 := C.out.cell 2
      have C_3 := C.out.cell 3
      have C_f0 := C.out.frozen 0
      have C_f1 := C.out.frozen 1
      have C_f2 := C.out.frozen 2
      have C_f3 := C.out.frozen 3
      simp at C_0 C_1 C_2 C_3
      have lt_X := X.out.lt
      have X_0 := X.out.cell 0
      have X_1 := X.out.cell 1
      have X_2 := X.out.cell 2
      have X_3 := X.out.cell 3
      have X_4 := X.out.cell 4
      have X_5 := X.out.cell 5
      have X_f0 := X.out.frozen 0
      have X_f1 := X.out.frozen 1
      have X_f2 := X.out.frozen 2
      have X_f3 := X.out.frozen 3
      have X_f4 := X.out.frozen 4
      have X_f5 := X.out.frozen 5
      simp at X_0 X_1 X_2 X_3 X_4 X_5
      have lt_Y := Y.out.lt
      have Y_0 := Y.out.cell 0
      have Y_1 := Y.out.cell 1
      have Y_2 := Y.out.cell 2
      have Y_3 := Y.out.cell 3
      have Y_4 := Y.out.cell 4
      have Y_5 := Y.out.cell 5
      have Y_f0 := Y.out.frozen 0
      have Y_f1 := Y.out.frozen 1
      have Y_f2 := Y.out.frozen 2
      have Y_f3 := Y.out.frozen 3
      have Y_f4 := Y.out.frozen 4
      have Y_f5 := Y.out.frozen 5
      simp at Y_0 Y_1 Y_2 Y_3 Y_4 Y_5
      have lt_Nn := Nn.out.lt
      have Nn_0 := Nn.out.cell 0
      have Nn_1 := Nn.out.cell 1
      have Nn_2 := Nn.out.cell 2
      have Nn_3 := Nn.out.cell 3
      have Nn_4 := Nn.out.cell 4
      have Nn_5 := Nn.out.cell 5
      have Nn_f0 := Nn.out.frozen 0
      have Nn_f1 := Nn.out.frozen 1
      have Nn_f2 := Nn.out.frozen 2
      have Nn_f3 := Nn.out.frozen 3
      have Nn_f4 := Nn.out.frozen 4
      have Nn_f5 := Nn.out.frozen 5
      simp at Nn_0 Nn_1 Nn_2 Nn_3 Nn_4 Nn_5
      have szB_wzb := SB17h.out.size
      go_wp2_with fail
      refine (red_any _).mono ?_
      rintro e w10 ⟨rfl, bel10⟩
      clear lt_Tf Tf_0 Tf_1 Tf_2 Tf_3 Tf_4 Tf_5 Tf_f0 Tf_f1 Tf_f2 Tf_f3 Tf_f4 Tf_f5 lt_Tg Tg_0 Tg_1 Tg_2 Tg_3 Tg_4 Tg_5 Tg_f0 Tg_f1 Tg_f2 Tg_f3 Tg_f4 Tg_f5 lt_C C_0 C_1 C_2 C_3 C_f0 C_f1 C_f2 C_f3 lt_X X_0 X_1 X_2 X_3 X_4 X_5 X_f0 X_f1 X_f2 X_f3 X_f4 X_f5 lt_Y Y_0 Y_1 Y_2 Y_3 Y_4 Y_5 Y_f0 Y_f1 Y_f2 Y_f3 Y_f4 Y_f5 lt_Nn Nn_0 Nn_1 Nn_2 Nn_3 Nn_4 Nn_5 Nn_f0 Nn_f1 Nn_f2 Nn_f3 Nn_f4 Nn_f5
      have KXa := KX.out.below bel10
      clear KX
      have KX := Lib.hid KXa
      clear KXa
      have KYa := KY.out.below bel10
      clear KY
      have KY := Lib.hid KYa
      clear KYa
      have KNa := KN.out.below bel10
      clear KN
      have KN := Lib.hid KNa
      clear KNa
      have t_Tf := Tf.out.below bel10
      clear Tf
      have Tf := Lib.hid t_Tf
      clear t_Tf
      have t_Tg := Tg.out.below bel10
      clear Tg
      have Tg := Lib.hid t_Tg
      clear t_Tg
      have t_C := C.out.below bel10
      clear C
      have C := Lib.hid t_C
      clear t_C
      have t_X := X.out.below bel10
      clear X
      have X := Lib.hid t_X
      clear t_X
      have t_Y := Y.out.below bel10
      clear Y
      have Y := Lib.hid t_Y
      clear t_Y
      have t_Nn := Nn.out.below bel10
      clear Nn
      have Nn := Lib.hid t_Nn
      clear t_Nn
      have SB18 : Below w3.heap.size w3 w10 := SB17h.out.trans (bel10.mono SB17h.out.size)
      clear SB17h
      have SB18h := Lib.hid SB18
      clear SB18 bel10
      have lt_Tf := Tf.out.lt
      have Tf_0 := Tf.out.cell 0
      have Tf_1 := Tf.out.cell 1
      have Tf_2 := Tf.out.cell 2
      have Tf_3 := Tf.out.cell 3
      have Tf_4 := Tf.out.cell 4
      have Tf_5 := Tf.out.cell 5
      have Tf_f0 := Tf.out.frozen 0
      have Tf_f1 := Tf.out.frozen 1
      have Tf_f2 := Tf.out.frozen 2
      have Tf_f3 := Tf.out.frozen 3
      have Tf_f4 := Tf.out.frozen 4
      have Tf_f5 := Tf.out.frozen 5
      simp at Tf_0 Tf_1 Tf_2 Tf_3 Tf_4 Tf_5
      have lt_Tg := Tg.out.lt
      have Tg_0 := Tg.out.cell 0
      have Tg_1 := Tg.out.cell 1
      have Tg_2 := Tg.out.cell 2
      have Tg_3 := Tg.out.cell 3
      have Tg_4 := Tg.out.cell 4
      have Tg_5 := Tg.out.cell 5
      have Tg_f0 := Tg.out.frozen 0
      have Tg_f1 := Tg.out.frozen 1
      have Tg_f2 := Tg.out.frozen 2
      have Tg_f3 := Tg.out.frozen 3
      have Tg_f4 := Tg.out.frozen 4
      have Tg_f5 := Tg.out.frozen 5
      simp at Tg_0 Tg_1 Tg_2 Tg_3 Tg_4 Tg_5
      have lt_C := C.out.lt
      have C_0 := C.out.cell 0
      have C_1 := C.out.cell 1
      have C_2 := C.out.cell 2
      have C_3 := C.out.cell 3
      have C_f0 := C.out.frozen 0
      have C_f1 := C.out.frozen 1
      have C_f2 := C.out.frozen 2
      have C_f3 := C.out.frozen 3
      simp at C_0 C_1 C_2 C_3
      have lt_X := X.out.lt
      have X_0 := X.out.cell 0
      have X_1 := X.out.cell 1
      have X_2 := X.out.cell 2
      have X_3 := X.out.cell 3
      have X_4 := X.out.cell 4
      have X_5 := X.out.cell 5
      have X_f0 := X.out.frozen 0
      have X_f1 := X.out.frozen 1
      have X_f2 := X.out.frozen 2
      have X_f3 := X.out.frozen 3
      have X_f4 := X.out.frozen 4
      have X_f5 := X.out.frozen 5
      simp at X_0 X_1 X_2 X_3 X_4 X_5
      have lt_Y := Y.out.lt
      have Y_0 := Y.out.cell 0
      have Y_1 := Y.out.cell 1
      have Y_2 := Y.out.cell 2
      have Y_3 := Y.out.cell 3
      have Y_4 := Y.out.cell 4
      have Y_5 := Y.out.cell 5
      have Y_f0 := Y.out.frozen 0
      have Y_f1 := Y.out.frozen 1
      have Y_f2 := Y.out.frozen 2
      have Y_f3 := Y.out.frozen 3
      have Y_f4 := Y.out.frozen 4
      have Y_f5 := Y.out.frozen 5
      simp at Y_0 Y_1 Y_2 Y_3 Y_4 Y_5
      have lt_Nn := Nn.out.lt
      have Nn_0 := Nn.out.cell 0
      have Nn_1 := Nn.out.cell 1
      have Nn_2 := Nn.out.cell 2
      have Nn_3 := Nn.out.cell 3
      have Nn_4 := Nn.out.cell 4
      have Nn_5 := Nn.out.cell 5
      have Nn_f0 := Nn.out.frozen 0
      have Nn_f1 := Nn.out.frozen 1
      have Nn_f2 := Nn.out.frozen 2
      have Nn_f3 := Nn.out.frozen 3
      have Nn_f4 := Nn.out.frozen 4
      have Nn_f5 := Nn.out.frozen 5
      simp at Nn_0 Nn_1 Nn_2 Nn_3 Nn_4 Nn_5
      have szB_w10 := SB18h.out.size
      go_wp2_with fail
      refine (lay_frame FP0 FD0 0 0 0 crd _ (ok_zero _)).mono ?_
      rintro e w11 ⟨⟨pz, fz, zz, rfl, ho, hv⟩, bel11⟩
      clear lt_Tf Tf_0 Tf_1 Tf_2 Tf_3 Tf_4 Tf_5 Tf_f0 Tf_f1 Tf_f2 Tf_f3 Tf_f4 Tf_f5 lt_Tg Tg_0 Tg_1 Tg_2 Tg_3 Tg_4 Tg_5 Tg_f0 Tg_f1 Tg_f2 Tg_f3 Tg_f4 Tg_f5 lt_C C_0 C_1 C_2 C_3 C_f0 C_f1 C_f2 C_f3 lt_X X_0 X_1 X_2 X_3 X_4 X_5 X_f0 X_f1 X_f2 X_f3 X_f4 X_f5 lt_Y Y_0 Y_1 Y_2 Y_3 Y_4 Y_5 Y_f0 Y_f1 Y_f2 Y_f3 Y_f4 Y_f5 lt_Nn Nn_0 Nn_1 Nn_2 Nn_3 Nn_4 Nn_5 Nn_f0 Nn_f1 Nn_f2 Nn_f3 Nn_f4 Nn_f5
      have KXa := KX.out.below bel11
      clear KX
      have KX := Lib.hid KXa
      clear KXa
      have KYa := KY.out.below bel11
      clear KY
      have KY := Lib.hid KYa
      clear KYa
      have KNa := KN.out.below bel11
      clear KN
      have KN := Lib.hid KNa
      clear KNa
      obtain rfl : zz = 8 := by rcases hv with ⟨_, h, _⟩ | ⟨h, _⟩ | ⟨h, _⟩; exact h; exact absurd h.1.1 (by decide); exact absurd h.1.1 (by decide)
      clear ho hv
      have t_Tf := Tf.out.below bel11
      clear Tf
      have Tf := Lib.hid t_Tf
      clear t_Tf
      have t_Tg := Tg.out.below bel11
      clear Tg
      have Tg := Lib.hid t_Tg
      clear t_Tg
      have t_C := C.out.below bel11
      clear C
      have C := Lib.hid t_C
      clear t_C
      have t_X := X.out.below bel11
      clear X
      have X := Lib.hid t_X
      clear t_X
      have t_Y := Y.out.below bel11
      clear Y
      have Y := Lib.hid t_Y
      clear t_Y
      have t_Nn := Nn.out.below bel11
      clear Nn
      have Nn := Lib.hid t_Nn
      clear t_Nn
      have SB19 : Below w3.heap.size w3 w11 := SB18h.out.trans (bel11.mono SB18h.out.size)
      clear SB18h
      have SB19h := Lib.hid SB19
      clear SB19 bel11
      have lt_Tf := Tf.out.lt
      have Tf_0 := Tf.out.cell 0
      have Tf_1 := Tf.out.cell 1
      have Tf_2 := Tf.out.cell 2
      have Tf_3 := Tf.out.cell 3
      have Tf_4 := Tf.out.cell 4
      have Tf_5 := Tf.out.cell 5
      have Tf_f0 := Tf.out.frozen 0
      have Tf_f1 := Tf.out.frozen 1
      have Tf_f2 := Tf.out.frozen 2
      have Tf_f3 := Tf.out.frozen 3
      have Tf_f4 := Tf.out.frozen 4
      have Tf_f5 := Tf.out.frozen 5
      simp at Tf_0 Tf_1 Tf_2 Tf_3 Tf_4 Tf_5
      have lt_Tg := Tg.out.lt
      have Tg_0 := Tg.out.cell 0
      have Tg_1 := Tg.out.cell 1
      have Tg_2 := Tg.out.cell 2
      have Tg_3 := Tg.out.cell 3
      have Tg_4 := Tg.out.cell 4
      have Tg_5 := Tg.out.cell 5
      have Tg_f0 := Tg.out.frozen 0
      have Tg_f1 := Tg.out.frozen 1
      have Tg_f2 := Tg.out.frozen 2
      have Tg_f3 := Tg.out.frozen 3
      have Tg_f4 := Tg.out.frozen 4
      have Tg_f5 := Tg.out.frozen 5
      simp at Tg_0 Tg_1 Tg_2 Tg_3 Tg_4 Tg_5
      have lt_C := C.out.lt
      have C_0 := C.out.cell 0
      have C_1 := C.out.cell 1
      have C_2 := C.out.cell 2
      have C_3 := C.out.cell 3
      have C_f0 := C.out.frozen 0
      have C_f1 := C.out.frozen 1
      have C_f2 := C.out.frozen 2
      have C_f3 := C.out.frozen 3
      simp at C_0 C_1 C_2 C_3
      have lt_X := X.out.lt
      have X_0 := X.out.cell 0
      have X_1 := X.out.cell 1
      have X_2 := X.out.cell 2
      have X_3 := X.out.cell 3
      have X_4 := X.out.cell 4
      have X_5 := X.out.cell 5
      have X_f0 := X.out.frozen 0
      have X_f1 := X.out.frozen 1
      have X_f2 := X.out.frozen 2
      have X_f3 := X.out.frozen 3
      have X_f4 := X.out.frozen 4
      have X_f5 := X.out.frozen 5
      simp at X_0 X_1 X_2 X_3 X_4 X_5
      have lt_Y := Y.out.lt
      have Y_0 := Y.out.cell 0
      have Y_1 := Y.out.cell 1
      have Y_2 := Y.out.cell 2
      have Y_3 := Y.out.cell 3
      have Y_4 := Y.out.cell 4
      have Y_5 := Y.out.cell 5
      have Y_f0 := Y.out.frozen 0
      have Y_f1 := Y.out.frozen 1
      have Y_f2 := Y.out.frozen 2
      have Y_f3 := Y.out.frozen 3
      have Y_f4 := Y.out.frozen 4
      have Y_f5 := Y.out.frozen 5
      simp at Y_0 Y_1 Y_2 Y_3 Y_4 Y_5
      have lt_Nn := Nn.out.lt
      have Nn_0 := Nn.out.cell 0
      have Nn_1 := Nn.out.cell 1
      have Nn_2 := Nn.out.cell 2
      have Nn_3 := Nn.out.cell 3
      have Nn_4 := Nn.out.cell 4
      have Nn_5 := Nn.out.cell 5
      have Nn_f0 := Nn.out.frozen 0
      have Nn_f1 := Nn.out.frozen 1
      have Nn_f2 := Nn.out.frozen 2
      have Nn_f3 := Nn.out.frozen 3
      have Nn_f4 := Nn.out.frozen 4
      have Nn_f5 := Nn.out.frozen 5
      simp at Nn_0 Nn_1 Nn_2 Nn_3 Nn_4 Nn_5
      have szB_w11 := SB19h.out.size
      obtain ⟨hC, hD, _, _⟩ := KY.out
      dsimp only at hC hD
      obtain ⟨gc, oc, rfl, lc, rC⟩ := hC (by decide)
      obtain ⟨gd, od, rfl, ld, rD⟩ := hD (by decide)
      have y0 := rC 1 (by decide) 0 (by decide)
      have y1 := rC 1 (by decide) 1 (by decide)
      have y2 := rC 1 (by decide) 2 (by decide)
      have y3 := rC 1 (by decide) 3 (by decide)
      have yd1 := rD 1 (by decide)
      obtain ⟨hy4, hy5, hy6, hy7⟩ := hy4
      simp only [Nat.add_zero, Nat.one_mul, hy3, hy4, hy5, hy6, hy7] at y0 y1 y2 y3 yd1
      clear hC hD rC rD
      go_wp2_with fail
      have KXa := (KX.out.below ((Below.refl w11.heap.size w11).alloc (Nat.le_refl _) (.cells #[.int .i64 fz.W, .int .i64 fz.H, .slice pz.ac fz.nc pz.kc, .slice pz.ad fz.nd pz.kd, .slice pz.ai fz.ni pz.ki, .slice pz.a4 fz.nt pz.kt] 29)))
      clear KX
      have KYa := (KY.out.below ((Below.refl w11.heap.size w11).alloc (Nat.le_refl _) (.cells #[.int .i64 fz.W, .int .i64 fz.H, .slice pz.ac fz.nc pz.kc, .slice pz.ad fz.nd pz.kd, .slice pz.ai fz.ni pz.ki, .slice pz.a4 fz.nt pz.kt] 29)))
      clear KY
      have KNa := (KN.out.below ((Below.refl w11.heap.size w11).alloc (Nat.le_refl _) (.cells #[.int .i64 fz.W, .int .i64 fz.H, .slice pz.ac fz.nc pz.kc, .slice pz.ad fz.nd pz.kd, .slice pz.ai fz.ni pz.ki, .slice pz.a4 fz.nt pz.kt] 29)))
      clear KN
      have NE_Tf_Z := Lib.hid (show w2.heap.size ≠ w11.heap.size by omega)
      have NE_Tg_Z := Lib.hid (show w3.heap.size ≠ w11.heap.size by omega)
      have NE_C_Z := Lib.hid (show w3.heap.size + 1 ≠ w11.heap.size by omega)
      have NE_X_Z := Lib.hid (show w4.heap.size ≠ w11.heap.size by omega)
      have NE_Y_Z := Lib.hid (show w5.heap.size ≠ w11.heap.size by omega)
      have NE_Nn_Z := Lib.hid (show w7.heap.size ≠ w11.heap.size by omega)
      have s_Tf := Tf.out
      have s_Tg := Tg.out
      have s_C := C.out
      have s_X := X.out
      have s_Y := Y.out
      have s_Nn := Nn.out
      replace s_Tf := s_Tf.alloc (.cells #[.int .i64 fz.W, .int .i64 fz.H, .slice pz.ac fz.nc pz.kc, .slice pz.ad fz.nd pz.kd, .slice pz.ai fz.ni pz.ki, .slice pz.a4 fz.nt pz.kt] 29)
      replace s_Tg := s_Tg.alloc (.cells #[.int .i64 fz.W, .int .i64 fz.H, .slice pz.ac fz.nc pz.kc, .slice pz.ad fz.nd pz.kd, .slice pz.ai fz.ni pz.ki, .slice pz.a4 fz.nt pz.kt] 29)
      replace s_C := s_C.alloc (.cells #[.int .i64 fz.W, .int .i64 fz.H, .slice pz.ac fz.nc pz.kc, .slice pz.ad fz.nd pz.kd, .slice pz.ai fz.ni pz.ki, .slice pz.a4 fz.nt pz.kt] 29)
      replace s_X := s_X.alloc (.cells #[.int .i64 fz.W, .int .i64 fz.H, .slice pz.ac fz.nc pz.kc, .slice pz.ad fz.nd pz.kd, .slice pz.ai fz.ni pz.ki, .slice pz.a4 fz.nt pz.kt] 29)
      replace s_Y := s_Y.alloc (.cells #[.int .i64 fz.W, .int .i64 fz.H, .slice pz.ac fz.nc pz.kc, .slice pz.ad fz.nd pz.kd, .slice pz.ai fz.ni pz.ki, .slice pz.a4 fz.nt pz.kt] 29)
      replace s_Nn := s_Nn.alloc (.cells #[.int .i64 fz.W, .int .i64 fz.H, .slice pz.ac fz.nc pz.kc, .slice pz.ad fz.nd pz.kd, .slice pz.ai fz.ni pz.ki, .slice pz.a4 fz.nt pz.kt] 29)
      have s_Z : HasBlk (w11.alloc (.cells #[.int .i64 fz.W, .int .i64 fz.H, .slice pz.ac fz.nc pz.kc, .slice pz.ad fz.nd pz.kd, .slice pz.ai fz.ni pz.ki, .slice pz.a4 fz.nt pz.kt] 29)) (w11.heap.size) 29 #[.int .i64 fz.W, .int .i64 fz.H, .slice pz.ac fz.nc pz.kc, .slice pz.ad fz.nd pz.kd, .slice pz.ai fz.ni pz.ki, .slice pz.a4 fz.nt pz.kt] := by simpa using hasBlk_new w11 29 #[.int .i64 fz.W, .int .i64 fz.H, .slice pz.ac fz.nc pz.kc, .slice pz.ad fz.nd pz.kd, .slice pz.ai fz.ni pz.ki, .slice pz.a4 fz.nt pz.kt]
      have t_Tf : HasBlk (w11.alloc (.cells #[.int .i64 fz.W, .int .i64 fz.H, .slice pz.ac fz.nc pz.kc, .slice pz.ad fz.nd pz.kd, .slice pz.ai fz.ni pz.ki, .slice pz.a4 fz.nt pz.kt] 29)) (w2.heap.size) 29 #[.int .i64 f.W, .int .i64 f.H, .slice p.ac f.nc p.kc, .slice p.ad f.nd p.kd, .slice p.ai f.ni p.ki, .slice p.a4 f.nt p.kt] := by simpa using s_Tf
      clear s_Tf Tf
      have t_Tg : HasBlk (w11.alloc (.cells #[.int .i64 fz.W, .int .i64 fz.H, .slice pz.ac fz.nc pz.kc, .slice pz.ad fz.nd pz.kd, .slice pz.ai fz.ni pz.ki, .slice pz.a4 fz.nt pz.kt] 29)) (w3.heap.size) 29 #[.int .i64 g.W, .int .i64 g.H, .slice p'.ac g.nc p'.kc, .slice p'.ad g.nd p'.kd, .slice p'.ai g.ni p'.ki, .slice p'.a4 g.nt p'.kt] := by simpa using s_Tg
      clear s_Tg Tg
      have t_C : HasBlk (w11.alloc (.cells #[.int .i64 fz.W, .int .i64 fz.H, .slice pz.ac fz.nc pz.kc, .slice pz.ad fz.nd pz.kd, .slice pz.ai fz.ni pz.ki, .slice pz.a4 fz.nt pz.kt] 29)) (w3.heap.size + 1) 23 #[.int .u8 255, .int .u8 255, .int .u8 255, .int .u8 128] := by simpa using s_C
      clear s_C C
      have t_X : HasBlk (w11.alloc (.cells #[.int .i64 fz.W, .int .i64 fz.H, .slice pz.ac fz.nc pz.kc, .slice pz.ad fz.nd pz.kd, .slice pz.ai fz.ni pz.ki, .slice pz.a4 fz.nt pz.kt] 29)) (w4.heap.size) 29 #[.int .i64 x.W, .int .i64 x.H, .slice px.ac x.nc px.kc, .slice px.ad x.nd px.kd, .slice px.ai x.ni px.ki, .slice px.a4 x.nt px.kt] := by simpa using s_X
      clear s_X X
      have t_Y : HasBlk (w11.alloc (.cells #[.int .i64 fz.W, .int .i64 fz.H, .slice pz.ac fz.nc pz.kc, .slice pz.ad fz.nd pz.kd, .slice pz.ai fz.ni pz.ki, .slice pz.a4 fz.nt pz.kt] 29)) (w5.heap.size) 29 #[.int .i64 yW, .int .i64 yH, .slice (some ⟨gc, oc, none⟩) 2 kc, .slice (some ⟨gd, od, none⟩) 2 kd, .slice ai yi ki, .slice a4 yt kt] := by simpa using s_Y
      clear s_Y Y
      have t_Nn : HasBlk (w11.alloc (.cells #[.int .i64 fz.W, .int .i64 fz.H, .slice pz.ac fz.nc pz.kc, .slice pz.ad fz.nd pz.kd, .slice pz.ai fz.ni pz.ki, .slice pz.a4 fz.nt pz.kt] 29)) (w7.heap.size) 29 #[.int .i64 fn.W, .int .i64 fn.H, .slice pn.ac fn.nc pn.kc, .slice pn.ad fn.nd pn.kd, .slice pn.ai fn.ni pn.ki, .slice pn.a4 fn.nt pn.kt] := by simpa using s_Nn
      clear s_Nn Nn
      have t_Z : HasBlk (w11.alloc (.cells #[.int .i64 fz.W, .int .i64 fz.H, .slice pz.ac fz.nc pz.kc, .slice pz.ad fz.nd pz.kd, .slice pz.ai fz.ni pz.ki, .slice pz.a4 fz.nt pz.kt] 29)) (w11.heap.size) 29 #[.int .i64 fz.W, .int .i64 fz.H, .slice pz.ac fz.nc pz.kc, .slice pz.ad fz.nd pz.kd, .slice pz.ai fz.ni pz.ki, .slice pz.a4 fz.nt pz.kt] := by simpa using s_Z
      clear s_Z
      have SB20 : Below w3.heap.size w3 (w11.alloc (.cells #[.int .i64 fz.W, .int .i64 fz.H, .slice pz.ac fz.nc pz.kc, .slice pz.ad fz.nd pz.kd, .slice pz.ai fz.ni pz.ki, .slice pz.a4 fz.nt pz.kt] 29)) := by
        have bel0 := SB19h.out
        repeat' (first | exact Below.refl _ _ | assumption | apply Below.drew | refine Below.setCell ?_ (by first | omega | (simp; done) | (simp; omega)) _ | refine Below.alloc ?_ (by first | omega | (simp; done) | (simp; omega)) _)
      clear lt_Tf Tf_0 Tf_1 Tf_2 Tf_3 Tf_4 Tf_5 Tf_f0 Tf_f1 Tf_f2 Tf_f3 Tf_f4 Tf_f5 lt_Tg Tg_0 Tg_1 Tg_2 Tg_3 Tg_4 Tg_5 Tg_f0 Tg_f1 Tg_f2 Tg_f3 Tg_f4 Tg_f5 lt_C C_0 C_1 C_2 C_3 C_f0 C_f1 C_f2 C_f3 lt_X X_0 X_1 X_2 X_3 X_4 X_5 X_f0 X_f1 X_f2 X_f3 X_f4 X_f5 lt_Y Y_0 Y_1 Y_2 Y_3 Y_4 Y_5 Y_f0 Y_f1 Y_f2 Y_f3 Y_f4 Y_f5 lt_Nn Nn_0 Nn_1 Nn_2 Nn_3 Nn_4 Nn_5 Nn_f0 Nn_f1 Nn_f2 Nn_f3 Nn_f4 Nn_f5
      generalize gW_v7 : (w11.alloc (.cells #[.int .i64 fz.W, .int .i64 fz.H, .slice pz.ac fz.nc pz.kc, .slice pz.ad fz.nd pz.kd, .slice pz.ai fz.ni pz.ki, .slice pz.a4 fz.nt pz.kt] 29)) = v7 at *
      clear gW_v7
      have Tf := Lib.hid t_Tf
      clear t_Tf
      have Tg := Lib.hid t_Tg
      clear t_Tg
      have C := Lib.hid t_C
      clear t_C
      have X := Lib.hid t_X
      clear t_X
      have Y := Lib.hid t_Y
      clear t_Y
      have Nn := Lib.hid t_Nn
      clear t_Nn
      have Z := Lib.hid t_Z
      clear t_Z
      clear SB19h
      have SB20h := Lib.hid SB20
      clear SB20
      have KX := Lib.hid KXa
      clear KXa
      have KY := Lib.hid KYa
      clear KYa
      have KN := Lib.hid KNa
      clear KNa
      have lt_Tf := Tf.out.lt
      have Tf_0 := Tf.out.cell 0
      have Tf_1 := Tf.out.cell 1
      have Tf_2 := Tf.out.cell 2
      have Tf_3 := Tf.out.cell 3
      have Tf_4 := Tf.out.cell 4
      have Tf_5 := Tf.out.cell 5
      have Tf_f0 := Tf.out.frozen 0
      have Tf_f1 := Tf.out.frozen 1
      have Tf_f2 := Tf.out.frozen 2
      have Tf_f3 := Tf.out.frozen 3
      have Tf_f4 := Tf.out.frozen 4
      have Tf_f5 := Tf.out.frozen 5
      simp at Tf_0 Tf_1 Tf_2 Tf_3 Tf_4 Tf_5
      have lt_Tg := Tg.out.lt
      have Tg_0 := Tg.out.cell 0
      have Tg_1 := Tg.out.cell 1
      have Tg_2 := Tg.out.cell 2
      have Tg_3 := Tg.out.cell 3
      have Tg_4 := Tg.out.cell 4
      have Tg_5 := Tg.out.cell 5
      have Tg_f0 := Tg.out.frozen 0
      have Tg_f1 := Tg.out.frozen 1
      have Tg_f2 := Tg.out.frozen 2
      have Tg_f3 := Tg.out.frozen 3
      have Tg_f4 := Tg.out.frozen 4
      have Tg_f5 := Tg.out.frozen 5
      simp at Tg_0 Tg_1 Tg_2 Tg_3 Tg_4 Tg_5
      have lt_C := C.out.lt
      have C_0 := C.out.cell 0
      have C_1 := C.out.cell 1
      have C_2 := C.out.cell 2
      have C_3 := C.out.cell 3
      have C_f0 := C.out.frozen 0
      have C_f1 := C.out.frozen 1
      have C_f2 := C.out.frozen 2
      have C_f3 := C.out.frozen 3
      simp at C_0 C_1 C_2 C_3
      have lt_X := X.out.lt
      have X_0 := X.out.cell 0
      have X_1 := X.out.cell 1
      have X_2 := X.out.cell 2
      have X_3 := X.out.cell 3
      have X_4 := X.out.cell 4
      have X_5 := X.out.cell 5
      have X_f0 := X.out.frozen 0
      have X_f1 := X.out.frozen 1
      have X_f2 := X.out.frozen 2
      have X_f3 := X.out.frozen 3
      have X_f4 := X.out.frozen 4
      have X_f5 := X.out.frozen 5
      simp at X_0 X_1 X_2 X_3 X_4 X_5
      have lt_Y := Y.out.lt
      have Y_0 := Y.out.cell 0
      have Y_1 := Y.out.cell 1
      have Y_2 := Y.out.cell 2
      have Y_3 := Y.out.cell 3
      have Y_4 := Y.out.cell 4
      have Y_5 := Y.out.cell 5
      have Y_f0 := Y.out.frozen 0
      have Y_f1 := Y.out.frozen 1
      have Y_f2 := Y.out.frozen 2
      have Y_f3 := Y.out.frozen 3
      have Y_f4 := Y.out.frozen 4
      have Y_f5 := Y.out.frozen 5
      simp at Y_0 Y_1 Y_2 Y_3 Y_4 Y_5
      have lt_Nn := Nn.out.lt
      have Nn_0 := Nn.out.cell 0
      have Nn_1 := Nn.out.cell 1
      have Nn_2 := Nn.out.cell 2
      have Nn_3 := Nn.out.cell 3
      have Nn_4 := Nn.out.cell 4
      have Nn_5 := Nn.out.cell 5
      have Nn_f0 := Nn.out.frozen 0
      have Nn_f1 := Nn.out.frozen 1
      have Nn_f2 := Nn.out.frozen 2
      have Nn_f3 := Nn.out.frozen 3
      have Nn_f4 := Nn.out.frozen 4
      have Nn_f5 := Nn.out.frozen 5
      simp at Nn_0 Nn_1 Nn_2 Nn_3 Nn_4 Nn_5
      have lt_Z := Z.out.lt
      have Z_0 := Z.out.cell 0
      have Z_1 := Z.out.cell 1
      have Z_2 := Z.out.cell 2
      have Z_3 := Z.out.cell 3
      have Z_4 := Z.out.cell 4
      have Z_5 := Z.out.cell 5
      have Z_f0 := Z.out.frozen 0
      have Z_f1 := Z.out.frozen 1
      have Z_f2 := Z.out.frozen 2
      have Z_f3 := Z.out.frozen 3
      have Z_f4 := Z.out.frozen 4
      have Z_f5 := Z.out.frozen 5
      simp at Z_0 Z_1 Z_2 Z_3 Z_4 Z_5
      have szB_v7 := SB20h.out.size
      clear y0 y1 y2 y3 yd1 lc ld
      refine (same_any p p' f g _ (KF0.out.below SB20h.out) (KG0.out.below SB20h.out) (by have h := two_reads; rw [← HF.out] at h; omega)).mono ?_
      rintro e w12 ⟨⟨b, rfl, hb⟩, bel12⟩
      clear lt_Tf Tf_0 Tf_1 Tf_2 Tf_3 Tf_4 Tf_5 Tf_f0 Tf_f1 Tf_f2 Tf_f3 Tf_f4 Tf_f5 lt_Tg Tg_0 Tg_1 Tg_2 Tg_3 Tg_4 Tg_5 Tg_f0 Tg_f1 Tg_f2 Tg_f3 Tg_f4 Tg_f5 lt_C C_0 C_1 C_2 C_3 C_f0 C_f1 C_f2 C_f3 lt_X X_0 X_1 X_2 X_3 X_4 X_5 X_f0 X_f1 X_f2 X_f3 X_f4 X_f5 lt_Y Y_0 Y_1 Y_2 Y_3 Y_4 Y_5 Y_f0 Y_f1 Y_f2 Y_f3 Y_f4 Y_f5 lt_Nn Nn_0 Nn_1 Nn_2 Nn_3 Nn_4 Nn_5 Nn_f0 Nn_f1 Nn_f2 Nn_f3 Nn_f4 Nn_f5 lt_Z Z_0 Z_1 Z_2 Z_3 Z_4 Z_5 Z_f0 Z_f1 Z_f2 Z_f3 Z_f4 Z_f5
      have KXa := KX.out.below bel12
      clear KX
      have KX := Lib.hid KXa
      clear KXa
      have KYa := KY.out.below bel12
      clear KY
      have KY := Lib.hid KYa
      clear KYa
      have KNa := KN.out.below bel12
      clear KN
      have KN := Lib.hid KNa
      clear KNa
      obtain rfl : b = true := hb.mpr (by rw [HF.out, HG.out, two_eq]; exact FD.Same.refl _)
      clear hb
      have t_Tf := Tf.out.below bel12
      clear Tf
      have Tf := Lib.hid t_Tf
      clear t_Tf
      have t_Tg := Tg.out.below bel12
      clear Tg
      have Tg := Lib.hid t_Tg
      clear t_Tg
      have t_C := C.out.below bel12
      clear C
      have C := Lib.hid t_C
      clear t_C
      have t_X := X.out.below bel12
      clear X
      have X := Lib.hid t_X
      clear t_X
      have t_Y := Y.out.below bel12
      clear Y
      have Y := Lib.hid t_Y
      clear t_Y
      have t_Nn := Nn.out.below bel12
      clear Nn
      have Nn := Lib.hid t_Nn
      clear t_Nn
      have t_Z := Z.out.below bel12
      clear Z
      have Z := Lib.hid t_Z
      clear t_Z
      have SB21 : Below w3.heap.size w3 w12 := SB20h.out.trans (bel12.mono SB20h.out.size)
      clear SB20h
      have SB21h := Lib.hid SB21
      clear SB21 bel12
      have lt_Tf := Tf.out.lt
      have Tf_0 := Tf.out.cell 0
      have Tf_1 := Tf.out.cell 1
      have Tf_2 := Tf.out.cell 2
      have Tf_3 := Tf.out.cell 3
      have Tf_4 := Tf.out.cell 4
      have Tf_5 := Tf.out.cell 5
      have Tf_f0 := Tf.out.frozen 0
      have Tf_f1 := Tf.out.frozen 1
      have Tf_f2 := Tf.out.frozen 2
      have Tf_f3 := Tf.out.frozen 3
      have Tf_f4 := Tf.out.frozen 4
      have Tf_f5 := Tf.out.frozen 5
      simp at Tf_0 Tf_1 Tf_2 Tf_3 Tf_4 Tf_5
      have lt_Tg := Tg.out.lt
      have Tg_0 := Tg.out.cell 0
      have Tg_1 := Tg.out.cell 1
      have Tg_2 := Tg.out.cell 2
      have Tg_3 := Tg.out.cell 3
      have Tg_4 := Tg.out.cell 4
      have Tg_5 := Tg.out.cell 5
      have Tg_f0 := Tg.out.frozen 0
      have Tg_f1 := Tg.out.frozen 1
      have Tg_f2 := Tg.out.frozen 2
      have Tg_f3 := Tg.out.frozen 3
      have Tg_f4 := Tg.out.frozen 4
      have Tg_f5 := Tg.out.frozen 5
      simp at Tg_0 Tg_1 Tg_2 Tg_3 Tg_4 Tg_5
      have lt_C := C.out.lt
      have C_0 := C.out.cell 0
      have C_1 := C.out.cell 1
      have C_2 := C.out.cell 2
      have C_3 := C.out.cell 3
      have C_f0 := C.out.frozen 0
      have C_f1 := C.out.frozen 1
      have C_f2 := C.out.frozen 2
      have C_f3 := C.out.frozen 3
      simp at C_0 C_1 C_2 C_3
      have lt_X := X.out.lt
      have X_0 := X.out.cell 0
      have X_1 := X.out.cell 1
      have X_2 := X.out.cell 2
      have X_3 := X.out.cell 3
      have X_4 := X.out.cell 4
      have X_5 := X.out.cell 5
      have X_f0 := X.out.frozen 0
      have X_f1 := X.out.frozen 1
      have X_f2 := X.out.frozen 2
      have X_f3 := X.out.frozen 3
      have X_f4 := X.out.frozen 4
      have X_f5 := X.out.frozen 5
      simp at X_0 X_1 X_2 X_3 X_4 X_5
      have lt_Y := Y.out.lt
      have Y_0 := Y.out.cell 0
      have Y_1 := Y.out.cell 1
      have Y_2 := Y.out.cell 2
      have Y_3 := Y.out.cell 3
      have Y_4 := Y.out.cell 4
      have Y_5 := Y.out.cell 5
      have Y_f0 := Y.out.frozen 0
      have Y_f1 := Y.out.frozen 1
      have Y_f2 := Y.out.frozen 2
      have Y_f3 := Y.out.frozen 3
      have Y_f4 := Y.out.frozen 4
      have Y_f5 := Y.out.frozen 5
      simp at Y_0 Y_1 Y_2 Y_3 Y_4 Y_5
      have lt_Nn := Nn.out.lt
      have Nn_0 := Nn.out.cell 0
      have Nn_1 := Nn.out.cell 1
      have Nn_2 := Nn.out.cell 2
      have Nn_3 := Nn.out.cell 3
      have Nn_4 := Nn.out.cell 4
      have Nn_5 := Nn.out.cell 5
      have Nn_f0 := Nn.out.frozen 0
      have Nn_f1 := Nn.out.frozen 1
      have Nn_f2 := Nn.out.frozen 2
      have Nn_f3 := Nn.out.frozen 3
      have Nn_f4 := Nn.out.frozen 4
      have Nn_f5 := Nn.out.frozen 5
      simp at Nn_0 Nn_1 Nn_2 Nn_3 Nn_4 Nn_5
      have lt_Z := Z.out.lt
      have Z_0 := Z.out.cell 0
      have Z_1 := Z.out.cell 1
      have Z_2 := Z.out.cell 2
      have Z_3 := Z.out.cell 3
      have Z_4 := Z.out.cell 4
      have Z_5 := Z.out.cell 5
      have Z_f0 := Z.out.frozen 0
      have Z_f1 := Z.out.frozen 1
      have Z_f2 := Z.out.frozen 2
      have Z_f3 := Z.out.frozen 3
      have Z_f4 := Z.out.frozen 4
      have Z_f5 := Z.out.frozen 5
      simp at Z_0 Z_1 Z_2 Z_3 Z_4 Z_5
      have szB_w12 := SB21h.out.size
      go_wp2_with fail
      refine (same_any px p x f _ KX.out (KF0.out.below SB21h.out) (by have h := two_reads; rw [← HF.out] at h; rw [HXx.out]; omega)).mono ?_
      rintro e w13 ⟨⟨b, rfl, hb⟩, bel13⟩
      clear lt_Tf Tf_0 Tf_1 Tf_2 Tf_3 Tf_4 Tf_5 Tf_f0 Tf_f1 Tf_f2 Tf_f3 Tf_f4 Tf_f5 lt_Tg Tg_0 Tg_1 Tg_2 Tg_3 Tg_4 Tg_5 Tg_f0 Tg_f1 Tg_f2 Tg_f3 Tg_f4 Tg_f5 lt_C C_0 C_1 C_2 C_3 C_f0 C_f1 C_f2 C_f3 lt_X X_0 X_1 X_2 X_3 X_4 X_5 X_f0 X_f1 X_f2 X_f3 X_f4 X_f5 lt_Y Y_0 Y_1 Y_2 Y_3 Y_4 Y_5 Y_f0 Y_f1 Y_f2 Y_f3 Y_f4 Y_f5 lt_Nn Nn_0 Nn_1 Nn_2 Nn_3 Nn_4 Nn_5 Nn_f0 Nn_f1 Nn_f2 Nn_f3 Nn_f4 Nn_f5 lt_Z Z_0 Z_1 Z_2 Z_3 Z_4 Z_5 Z_f0 Z_f1 Z_f2 Z_f3 Z_f4 Z_f5
      have KXa := KX.out.below bel13
      clear KX
      have KX := Lib.hid KXa
      clear KXa
      have KYa := KY.out.below bel13
      clear KY
      have KY := Lib.hid KYa
      clear KYa
      have KNa := KN.out.below bel13
      clear KN
      have KN := Lib.hid KNa
      clear KNa
      obtain rfl : b = true := hb.mpr (by rw [HXx.out]; exact FD.Same.refl _)
      clear hb
      have t_Tf := Tf.out.below bel13
      clear Tf
      have Tf := Lib.hid t_Tf
      clear t_Tf
      have t_Tg := Tg.out.below bel13
      clear Tg
      have Tg := Lib.hid t_Tg
      clear t_Tg
      have t_C := C.out.below bel13
      clear C
      have C := Lib.hid t_C
      clear t_C
      have t_X := X.out.below bel13
      clear X
      have X := Lib.hid t_X
      clear t_X
      have t_Y := Y.out.below bel13
      clear Y
      have Y := Lib.hid t_Y
      clear t_Y
      have t_Nn := Nn.out.below bel13
      clear Nn
      have Nn := Lib.hid t_Nn
      clear t_Nn
      have t_Z := Z.out.below bel13
      clear Z
      have Z := Lib.hid t_Z
      clear t_Z
      have SB22 : Below w3.heap.size w3 w13 := SB21h.out.trans (bel13.mono SB21h.out.size)
      clear SB21h
      have SB22h := Lib.hid SB22
      clear SB22 bel13
      have lt_Tf := Tf.out.lt
      have Tf_0 := Tf.out.cell 0
      have Tf_1 := Tf.out.cell 1
      have Tf_2 := Tf.out.cell 2
      have Tf_3 := Tf.out.cell 3
      have Tf_4 := Tf.out.cell 4
      have Tf_5 := Tf.out.cell 5
      have Tf_f0 := Tf.out.frozen 0
      have Tf_f1 := Tf.out.frozen 1
      have Tf_f2 := Tf.out.frozen 2
      have Tf_f3 := Tf.out.frozen 3
      have Tf_f4 := Tf.out.frozen 4
      have Tf_f5 := Tf.out.frozen 5
      simp at Tf_0 Tf_1 Tf_2 Tf_3 Tf_4 Tf_5
      have lt_Tg := Tg.out.lt
      have Tg_0 := Tg.out.cell 0
      have Tg_1 := Tg.out.cell 1
      have Tg_2 := Tg.out.cell 2
      have Tg_3 := Tg.out.cell 3
      have Tg_4 := Tg.out.cell 4
      have Tg_5 := Tg.out.cell 5
      have Tg_f0 := Tg.out.frozen 0
      have Tg_f1 := Tg.out.frozen 1
      have Tg_f2 := Tg.out.frozen 2
      have Tg_f3 := Tg.out.frozen 3
      have Tg_f4 := Tg.out.frozen 4
      have Tg_f5 := Tg.out.frozen 5
      simp at Tg_0 Tg_1 Tg_2 Tg_3 Tg_4 Tg_5
      have lt_C := C.out.lt
      have C_0 := C.out.cell 0
      have C_1 := C.out.cell 1
      have C_2 := C.out.cell 2
      have C_3 := C.out.cell 3
      have C_f0 := C.out.frozen 0
      have C_f1 := C.out.frozen 1
      have C_f2 := C.out.frozen 2
      have C_f3 := C.out.frozen 3
      simp at C_0 C_1 C_2 C_3
      have lt_X := X.out.lt
      have X_0 := X.out.cell 0
      have X_1 := X.out.cell 1
      have X_2 := X.out.cell 2
      have X_3 := X.out.cell 3
      have X_4 := X.out.cell 4
      have X_5 := X.out.cell 5
      have X_f0 := X.out.frozen 0
      have X_f1 := X.out.frozen 1
      have X_f2 := X.out.frozen 2
      have X_f3 := X.out.frozen 3
      have X_f4 := X.out.frozen 4
      have X_f5 := X.out.frozen 5
      simp at X_0 X_1 X_2 X_3 X_4 X_5
      have lt_Y := Y.out.lt
      have Y_0 := Y.out.cell 0
      have Y_1 := Y.out.cell 1
      have Y_2 := Y.out.cell 2
      have Y_3 := Y.out.cell 3
      have Y_4 := Y.out.cell 4
      have Y_5 := Y.out.cell 5
      have Y_f0 := Y.out.frozen 0
      have Y_f1 := Y.out.frozen 1
      have Y_f2 := Y.out.frozen 2
      have Y_f3 := Y.out.frozen 3
      have Y_f4 := Y.out.frozen 4
      have Y_f5 := Y.out.frozen 5
      simp at Y_0 Y_1 Y_2 Y_3 Y_4 Y_5
      have lt_Nn := Nn.out.lt
      have Nn_0 := Nn.out.cell 0
      have Nn_1 := Nn.out.cell 1
      have Nn_2 := Nn.out.cell 2
      have Nn_3 := Nn.out.cell 3
      have Nn_4 := Nn.out.cell 4
      have Nn_5 := Nn.out.cell 5
      have Nn_f0 := Nn.out.frozen 0
      have Nn_f1 := Nn.out.frozen 1
      have Nn_f2 := Nn.out.frozen 2
      have Nn_f3 := Nn.out.frozen 3
      have Nn_f4 := Nn.out.frozen 4
      have Nn_f5 := Nn.out.frozen 5
      simp at Nn_0 Nn_1 Nn_2 Nn_3 Nn_4 Nn_5
      have lt_Z := Z.out.lt
      have Z_0 := Z.out.cell 0
      have Z_1 := Z.out.cell 1
      have Z_2 := Z.out.cell 2
      have Z_3 := Z.out.cell 3
      have Z_4 := Z.out.cell 4
      have Z_5 := Z.out.cell 5
      have Z_f0 := Z.out.frozen 0
      have Z_f1 := Z.out.frozen 1
      have Z_f2 := Z.out.frozen 2
      have Z_f3 := Z.out.frozen 3
      have Z_f4 := Z.out.frozen 4
      have Z_f5 := Z.out.frozen 5
      simp at Z_0 Z_1 Z_2 Z_3 Z_4 Z_5
      have szB_w13 := SB22h.out.size
      obtain ⟨hC, _, _, _⟩ := KY.out
      dsimp only at hC
      obtain ⟨gc', oc', e, lc, rC⟩ := hC (by decide)
      cases e
      have y0 := rC 1 (by decide) 0 (by decide)
      have y1 := rC 1 (by decide) 1 (by decide)
      have y2 := rC 1 (by decide) 2 (by decide)
      have y3 := rC 1 (by decide) 3 (by decide)
      simp only [Nat.add_zero, Nat.one_mul, hy4, hy5, hy6, hy7] at y0 y1 y2 y3
      clear hC rC
      have hq := fun W => equalIn_of_eql (eql_col 128 128 255 255 128 128 255 255 W)
      simp only [beq_self_eq_true, Bool.and_self] at hq
      go_wp2_with fail
      refine (check_any p f _ (KF0.out.below SB22h.out)).mono ?_
      rintro e w14 ⟨⟨z, rfl, hz⟩, bel14⟩
      clear lt_Tf Tf_0 Tf_1 Tf_2 Tf_3 Tf_4 Tf_5 Tf_f0 Tf_f1 Tf_f2 Tf_f3 Tf_f4 Tf_f5 lt_Tg Tg_0 Tg_1 Tg_2 Tg_3 Tg_4 Tg_5 Tg_f0 Tg_f1 Tg_f2 Tg_f3 Tg_f4 Tg_f5 lt_C C_0 C_1 C_2 C_3 C_f0 C_f1 C_f2 C_f3 lt_X X_0 X_1 X_2 X_3 X_4 X_5 X_f0 X_f1 X_f2 X_f3 X_f4 X_f5 lt_Y Y_0 Y_1 Y_2 Y_3 Y_4 Y_5 Y_f0 Y_f1 Y_f2 Y_f3 Y_f4 Y_f5 lt_Nn Nn_0 Nn_1 Nn_2 Nn_3 Nn_4 Nn_5 Nn_f0 Nn_f1 Nn_f2 Nn_f3 Nn_f4 Nn_f5 lt_Z Z_0 Z_1 Z_2 Z_3 Z_4 Z_5 Z_f0 Z_f1 Z_f2 Z_f3 Z_f4 Z_f5
      have KXa := KX.out.below bel14
      clear KX
      have KX := Lib.hid KXa
      clear KXa
      have KYa := KY.out.below bel14
      clear KY
      have KY := Lib.hid KYa
      clear KYa
      have KNa := KN.out.below bel14
      clear KN
      have KN := Lib.hid KNa
      clear KNa
      obtain rfl : z = 0 := by rcases hz with ⟨_, h⟩ | ⟨h, _⟩; exact h; exact absurd (by rw [HF.out]; exact (two_ok false).1) h
      clear hz
      have t_Tf := Tf.out.below bel14
      clear Tf
      have Tf := Lib.hid t_Tf
      clear t_Tf
      have t_Tg := Tg.out.below bel14
      clear Tg
      have Tg := Lib.hid t_Tg
      clear t_Tg
      have t_C := C.out.below bel14
      clear C
      have C := Lib.hid t_C
      clear t_C
      have t_X := X.out.below bel14
      clear X
      have X := Lib.hid t_X
      clear t_X
      have t_Y := Y.out.below bel14
      clear Y
      have Y := Lib.hid t_Y
      clear t_Y
      have t_Nn := Nn.out.below bel14
      clear Nn
      have Nn := Lib.hid t_Nn
      clear t_Nn
      have t_Z := Z.out.below bel14
      clear Z
      have Z := Lib.hid t_Z
      clear t_Z
      have SB23 : Below w3.heap.size w3 w14 := SB22h.out.trans (bel14.mono SB22h.out.size)
      clear SB22h
      have SB23h := Lib.hid SB23
      clear SB23 bel14
      have lt_Tf := Tf.out.lt
      have Tf_0 := Tf.out.cell 0
      have Tf_1 := Tf.out.cell 1
      have Tf_2 := Tf.out.cell 2
      have Tf_3 := Tf.out.cell 3
      have Tf_4 := Tf.out.cell 4
      have Tf_5 := Tf.out.cell 5
      have Tf_f0 := Tf.out.frozen 0
      have Tf_f1 := Tf.out.frozen 1
      have Tf_f2 := Tf.out.frozen 2
      have Tf_f3 := Tf.out.frozen 3
      have Tf_f4 := Tf.out.frozen 4
      have Tf_f5 := Tf.out.frozen 5
      simp at Tf_0 Tf_1 Tf_2 Tf_3 Tf_4 Tf_5
      have lt_Tg := Tg.out.lt
      have Tg_0 := Tg.out.cell 0
      have Tg_1 := Tg.out.cell 1
      have Tg_2 := Tg.out.cell 2
      have Tg_3 := Tg.out.cell 3
      have Tg_4 := Tg.out.cell 4
      have Tg_5 := Tg.out.cell 5
      have Tg_f0 := Tg.out.frozen 0
      have Tg_f1 := Tg.out.frozen 1
      have Tg_f2 := Tg.out.frozen 2
      have Tg_f3 := Tg.out.frozen 3
      have Tg_f4 := Tg.out.frozen 4
      have Tg_f5 := Tg.out.frozen 5
      simp at Tg_0 Tg_1 Tg_2 Tg_3 Tg_4 Tg_5
      have lt_C := C.out.lt
      have C_0 := C.out.cell 0
      have C_1 := C.out.cell 1
      have C_2 := C.out.cell 2
      have C_3 := C.out.cell 3
      have C_f0 := C.out.frozen 0
      have C_f1 := C.out.frozen 1
      have C_f2 := C.out.frozen 2
      have C_f3 := C.out.frozen 3
      simp at C_0 C_1 C_2 C_3
      have lt_X := X.out.lt
      have X_0 := X.out.cell 0
      have X_1 := X.out.cell 1
      have X_2 := X.out.cell 2
      have X_3 := X.out.cell 3
      have X_4 := X.out.cell 4
      have X_5 := X.out.cell 5
      have X_f0 := X.out.frozen 0
      have X_f1 := X.out.frozen 1
      have X_f2 := X.out.frozen 2
      have X_f3 := X.out.frozen 3
      have X_f4 := X.out.frozen 4
      have X_f5 := X.out.frozen 5
      simp at X_0 X_1 X_2 X_3 X_4 X_5
      have lt_Y := Y.out.lt
      have Y_0 := Y.out.cell 0
      have Y_1 := Y.out.cell 1
      have Y_2 := Y.out.cell 2
      have Y_3 := Y.out.cell 3
      have Y_4 := Y.out.cell 4
      have Y_5 := Y.out.cell 5
      have Y_f0 := Y.out.frozen 0
      have Y_f1 := Y.out.frozen 1
      have Y_f2 := Y.out.frozen 2
      have Y_f3 := Y.out.frozen 3
      have Y_f4 := Y.out.frozen 4
      have Y_f5 := Y.out.frozen 5
      simp at Y_0 Y_1 Y_2 Y_3 Y_4 Y_5
      have lt_Nn := Nn.out.lt
      have Nn_0 := Nn.out.cell 0
      have Nn_1 := Nn.out.cell 1
      have Nn_2 := Nn.out.cell 2
      have Nn_3 := Nn.out.cell 3
      have Nn_4 := Nn.out.cell 4
      have Nn_5 := Nn.out.cell 5
      have Nn_f0 := Nn.out.frozen 0
      have Nn_f1 := Nn.out.frozen 1
      have Nn_f2 := Nn.out.frozen 2
      have Nn_f3 := Nn.out.frozen 3
      have Nn_f4 := Nn.out.frozen 4
      have Nn_f5 := Nn.out.frozen 5
      simp at Nn_0 Nn_1 Nn_2 Nn_3 Nn_4 Nn_5
      have lt_Z := Z.out.lt
      have Z_0 := Z.out.cell 0
      have Z_1 := Z.out.cell 1
      have Z_2 := Z.out.cell 2
      have Z_3 := Z.out.cell 3
      have Z_4 := Z.out.cell 4
      have Z_5 := Z.out.cell 5
      have Z_f0 := Z.out.frozen 0
      have Z_f1 := Z.out.frozen 1
      have Z_f2 := Z.out.frozen 2
      have Z_f3 := Z.out.frozen 3
      have Z_f4 := Z.out.frozen 4
      have Z_f5 := Z.out.frozen 5
      simp at Z_0 Z_1 Z_2 Z_3 Z_4 Z_5
      have szB_w14 := SB23h.out.size
      go_wp2
      go_ret
      exact ⟨rfl, HB0.out.trans (SB23h.out.mono HB0.out.size)⟩
end Go.Proofs.Ytibeoeooajelgaa
