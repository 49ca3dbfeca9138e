/- the reference's Twin. -/
import Derived.Test.YtibeoeooajelgaaFO
import Derived.Deep.AppendLies
import Derived.Deep.CutRange
import Derived.Deep.DeepCutAuto
namespace Go.Proofs.Ytibeoeooajelgaa
open Go.RowKit
set_option linter.unusedVariables false
def FD.Fits (f : FD) : Prop := f.nc ≤ 5000 ∧ f.nd ≤ 5000 ∧ f.ni ≤ 5000 ∧ f.nt ≤ 5000

set_option maxRecDepth 100000 in
set_option maxHeartbeats 8000000 in
theorem reftwin_any (p : FP) (f : FD) (w : World) (h : FOk w p f) (hfit : f.Fits) : Calls Try.prog 19 #[.agg #[.int .i64 f.W, .int .i64 f.H, .slice p.ac f.nc p.kc, .slice p.ad f.nd p.kd, .slice p.ai f.ni p.ki, .slice p.a4 f.nt p.kt]] w fun e w' => (∃ q, e = .returned (.agg #[.int .i64 f.W, .int .i64 f.H, .slice q.ac f.nc q.kc, .slice q.ad f.nd q.kd, .slice q.ai f.ni q.ki, .slice q.a4 f.nt q.kt]) ∧ FOwn w.heap.size w' q f) ∧ Below w.heap.size w w' := by
  have HF := Lib.hid h
  obtain ⟨n1, n2, n3, n4⟩ := hfit
  obtain ⟨i0, hi0, hz0, hz1, hz2⟩ := info_parts int_info
  obtain ⟨j0, hj0, hy0, hy1, hy2⟩ := info_parts col_info
  clear h
  go_enter Try.func19, Try.ntmps19
  go_upto_region 2 with fail
  have NE_P_R := Lib.hid (show w.heap.size ≠ w.heap.size + 1 by omega)
  have NE_P_U := Lib.hid (show w.heap.size ≠ w.heap.size + 1 + 1 by omega)
  have NE_R_U := Lib.hid (show w.heap.size + 1 ≠ w.heap.size + 1 + 1 by omega)
  have s_P : HasBlk (w.alloc (.cells #[.int .i64 f.W, .int .i64 f.H, .slice p.ac f.nc p.kc, .slice p.ad f.nd p.kd, .slice p.ai f.ni p.ki, .slice p.a4 f.nt p.kt] 29)) (w.heap.size) 29 #[.int .i64 f.W, .int .i64 f.H, .slice p.ac f.nc p.kc, .slice p.ad f.nd p.kd, .slice p.ai f.ni p.ki, .slice p.a4 f.nt p.kt] := by simpa using hasBlk_new w 29 #[.int .i64 f.W, .int .i64 f.H, .slice p.ac f.nc p.kc, .slice p.ad f.nd p.kd, .slice p.ai f.ni p.ki, .slice p.a4 f.nt p.kt]
  replace s_P := s_P.alloc (.cells #[.int .i64 0, .int .i64 0, .slice none 0 0, .slice none 0 0, .slice none 0 0, .slice none 0 0] 29)
  have s_R : HasBlk ((w.alloc (.cells #[.int .i64 f.W, .int .i64 f.H, .slice p.ac f.nc p.kc, .slice p.ad f.nd p.kd, .slice p.ai f.ni p.ki, .slice p.a4 f.nt p.kt] 29)).alloc (.cells #[.int .i64 0, .int .i64 0, .slice none 0 0, .slice none 0 0, .slice none 0 0, .slice none 0 0] 29)) (w.heap.size + 1) 29 #[.int .i64 0, .int .i64 0, .slice none 0 0, .slice none 0 0, .slice none 0 0, .slice none 0 0] := by simpa using hasBlk_new (w.alloc (.cells #[.int .i64 f.W, .int .i64 f.H, .slice p.ac f.nc p.kc, .slice p.ad f.nd p.kd, .slice p.ai f.ni p.ki, .slice p.a4 f.nt p.kt] 29)) 29 #[.int .i64 0, .int .i64 0, .slice none 0 0, .slice none 0 0, .slice none 0 0, .slice none 0 0]
  replace s_P := s_P.alloc (.cells #[.int .i64 f.W, .int .i64 f.H, .slice none 0 0, .slice none 0 0, .slice none 0 0, .slice none 0 0] 29)
  replace s_R := s_R.alloc (.cells #[.int .i64 f.W, .int .i64 f.H, .slice none 0 0, .slice none 0 0, .slice none 0 0, .slice none 0 0] 29)
  have s_U : HasBlk (((w.alloc (.cells #[.int .i64 f.W, .int .i64 f.H, .slice p.ac f.nc p.kc, .slice p.ad f.nd p.kd, .slice p.ai f.ni p.ki, .slice p.a4 f.nt p.kt] 29)).alloc (.cells #[.int .i64 0, .int .i64 0, .slice none 0 0, .slice none 0 0, .slice none 0 0, .slice none 0 0] 29)).alloc (.cells #[.int .i64 f.W, .int .i64 f.H, .slice none 0 0, .slice none 0 0, .slice none 0 0, .slice none 0 0] 29)) (w.heap.size + 1 + 1) 29 #[.int .i64 f.W, .int .i64 f.H, .slice none 0 0, .slice none 0 0, .slice none 0 0, .slice none 0 0] := by simpa using hasBlk_new ((w.alloc (.cells #[.int .i64 f.W, .int .i64 f.H, .slice p.ac f.nc p.kc, .slice p.ad f.nd p.kd, .slice p.ai f.ni p.ki, .slice p.a4 f.nt p.kt] 29)).alloc (.cells #[.int .i64 0, .int .i64 0, .slice none 0 0, .slice none 0 0, .slice none 0 0, .slice none 0 0] 29)) 29 #[.int .i64 f.W, .int .i64 f.H, .slice none 0 0, .slice none 0 0, .slice none 0 0, .slice none 0 0]
  have t_P : HasBlk (((w.alloc (.cells #[.int .i64 f.W, .int .i64 f.H, .slice p.ac f.nc p.kc, .slice p.ad f.nd p.kd, .slice p.ai f.ni p.ki, .slice p.a4 f.nt p.kt] 29)).alloc (.cells #[.int .i64 0, .int .i64 0, .slice none 0 0, .slice none 0 0, .slice none 0 0, .slice none 0 0] 29)).alloc (.cells #[.int .i64 f.W, .int .i64 f.H, .slice none 0 0, .slice none 0 0, .slice none 0 0, .slice none 0 0] 29)) (w.heap.size) 29 #[.int .i64 f.W, .int .i64 f.H, .slice p.ac f.nc p.kc, .slice p.ad f.nd p.kd, .slice p.ai f.ni p.ki, .slice p.a4 f.nt p.kt] := by simpa using s_P
  clear s_P
  have t_R : HasBlk (((w.alloc (.cells #[.int .i64 f.W, .int .i64 f.H, .slice p.ac f.nc p.kc, .slice p.ad f.nd p.kd, .slice p.ai f.ni p.ki, .slice p.a4 f.nt p.kt] 29)).alloc (.cells #[.int .i64 0, .int .i64 0, .slice none 0 0, .slice none 0 0, .slice none 0 0, .slice none 0 0] 29)).alloc (.cells #[.int .i64 f.W, .int .i64 f.H, .slice none 0 0, .slice none 0 0, .slice none 0 0, .slice none 0 0] 29)) (w.heap.size + 1) 29 #[.int .i64 0, .int .i64 0, .slice none 0 0, .slice none 0 0, .slice none 0 0, .slice none 0 0] := by simpa using s_R
  clear s_R
  have t_U : HasBlk (((w.alloc (.cells #[.int .i64 f.W, .int .i64 f.H, .slice p.ac f.nc p.kc, .slice p.ad f.nd p.kd, .slice p.ai f.ni p.ki, .slice p.a4 f.nt p.kt] 29)).alloc (.cells #[.int .i64 0, .int .i64 0, .slice none 0 0, .slice none 0 0, .slice none 0 0, .slice none 0 0] 29)).alloc (.cells #[.int .i64 f.W, .int .i64 f.H, .slice none 0 0, .slice none 0 0, .slice none 0 0, .slice none 0 0] 29)) (w.heap.size + 1 + 1) 29 #[.int .i64 f.W, .int .i64 f.H, .slice none 0 0, .slice none 0 0, .slice none 0 0, .slice none 0 0] := by simpa using s_U
  clear s_U
  have SB1 : Below w.heap.size w (((w.alloc (.cells #[.int .i64 f.W, .int .i64 f.H, .slice p.ac f.nc p.kc, .slice p.ad f.nd p.kd, .slice p.ai f.ni p.ki, .slice p.a4 f.nt p.kt] 29)).alloc (.cells #[.int .i64 0, .int .i64 0, .slice none 0 0, .slice none 0 0, .slice none 0 0, .slice none 0 0] 29)).alloc (.cells #[.int .i64 f.W, .int .i64 f.H, .slice none 0 0, .slice none 0 0, .slice none 0 0, .slice none 0 0] 29)) := by
    repeat' (first | exact Below.refl _ _ | assumption | apply Below.drew | refine Below.setCell ?_ (by first | omega | (simp; done) | (simp; omega)) _ | refine Below.alloc ?_ (by first | omega | (simp; done) | (simp; omega)) _)
  generalize gW_v0 : (((w.alloc (.cells #[.int .i64 f.W, .int .i64 f.H, .slice p.ac f.nc p.kc, .slice p.ad f.nd p.kd, .slice p.ai f.ni p.ki, .slice p.a4 f.nt p.kt] 29)).alloc (.cells #[.int .i64 0, .int .i64 0, .slice none 0 0, .slice none 0 0, .slice none 0 0, .slice none 0 0] 29)).alloc (.cells #[.int .i64 f.W, .int .i64 f.H, .slice none 0 0, .slice none 0 0, .slice none 0 0, .slice none 0 0] 29)) = v0 at *
  clear gW_v0
  have P := Lib.hid t_P
  clear t_P
  have R := Lib.hid t_R
  clear t_R
  have U := Lib.hid t_U
  clear t_U
  have SB1h := Lib.hid SB1
  clear SB1
  have lt_P := P.out.lt
  have P_0 := P.out.cell 0
  have P_1 := P.out.cell 1
  have P_2 := P.out.cell 2
  have P_3 := P.out.cell 3
  have P_4 := P.out.cell 4
  have P_5 := P.out.cell 5
  simp at P_0 P_1 P_2 P_3 P_4 P_5
  have lt_R := R.out.lt
  have R_0 := R.out.cell 0
  have R_1 := R.out.cell 1
  have R_2 := R.out.cell 2
  have R_3 := R.out.cell 3
  have R_4 := R.out.cell 4
  have R_5 := R.out.cell 5
  have R_f0 := R.out.frozen 0
  have R_f1 := R.out.frozen 1
  have R_f2 := R.out.frozen 2
  have R_f3 := R.out.frozen 3
  have R_f4 := R.out.frozen 4
  have R_f5 := R.out.frozen 5
  simp at R_0 R_1 R_2 R_3 R_4 R_5
  have lt_U := U.out.lt
  have U_0 := U.out.cell 0
  have U_1 := U.out.cell 1
  have U_2 := U.out.cell 2
  have U_3 := U.out.cell 3
  have U_4 := U.out.cell 4
  have U_5 := U.out.cell 5
  have U_f0 := U.out.frozen 0
  have U_f1 := U.out.frozen 1
  have U_f2 := U.out.frozen 2
  have U_f3 := U.out.frozen 3
  have U_f4 := U.out.frozen 4
  have U_f5 := U.out.frozen 5
  simp at U_0 U_1 U_2 U_3 U_4 U_5
  have szB_v0 := SB1h.out.size
  have hnews := (HF.out.1.below SB1h.out).news (by omega)
  go_upto_region 3 with (at_builtin; refine wpList_app rfl (.tmp 10) (.tmp 12) 26 rfl v0.heap.size 23 j0 _ 4 4 Try.underlying26 hj0 hy0 hy1 hy2 rfl (by omega) none 0 0 [] rfl (own_nil _ _ 23 4) p.ac f.nc p.kc (cellsR 4 (fun i j => .int .u8 (f.C i j)) f.nc) rfl (cellsR_len 4 _ f.nc) hnews (cellsR_one (fun _ _ => rfl) f.nc) (by unfold maxLen; omega) (by omega) (Nat.le_refl _) ?_; intro A0 c0 w1 hown hgr; simp only [Nat.zero_add, List.nil_append] at hown ⊢; have bel0 : Below v0.heap.size v0 w1 := below_grown (v := .slice none 0 0) (base := v0.heap.size) (Below.refl _ _) hgr (own_nil _ _ 23 4) (Nat.le_refl _) (by simp); clear hgr; have ZU := U.out.below bel0; have ZR := R.out.below bel0; have hxU := ZU.lt; have hxR := ZR.lt; have yU2 := ZU.cell 2; have yfU2 := ZU.frozen 2; simp at yU2)
  clear ZU ZR hxU hxR yU2 yfU2
  have OC := Lib.hid hown
  have LT0 := Lib.hid (fun x (e : (Value.slice A0 f.nc c0).ownBlock = some x) => (hown.lt x e).2)
  have sz0 := bel0.size
  clear hnews hown lt_P P_0 P_1 P_2 P_3 P_4 P_5 lt_R R_0 R_1 R_2 R_3 R_4 R_5 R_f0 R_f1 R_f2 R_f3 R_f4 R_f5 lt_U U_0 U_1 U_2 U_3 U_4 U_5 U_f0 U_f1 U_f2 U_f3 U_f4 U_f5
  have t_P := P.out.below bel0
  clear P
  have P := Lib.hid t_P
  clear t_P
  have t_R := R.out.below bel0
  clear R
  have R := Lib.hid t_R
  clear t_R
  have t_U := U.out.below bel0
  clear U
  have U := Lib.hid t_U
  clear t_U
  have SB2 : Below w.heap.size w w1 := SB1h.out.trans (bel0.mono SB1h.out.size)
  have zb0 := SB1h.out.size
  clear SB1h
  have SB2h := Lib.hid SB2
  clear SB2 bel0
  have zv1 : w1.heap.size ≤ (w1.setCell ⟨w.heap.size + 1 + 1, 2, none⟩ (.slice A0 f.nc c0)).heap.size := by simp
  have s_P := P.out
  have s_R := R.out
  have s_U := U.out
  have s_OC := OC.out
  replace s_OC := ownsRow_setCell_other (a := ⟨w.heap.size + 1 + 1, 2, none⟩) s_OC (by have := s_U.ne_own s_OC (by decide); simpa using this) (.slice A0 f.nc c0)
  replace s_U := s_U.set 2 (.slice A0 f.nc c0)
  replace s_P := s_P.far (p := ⟨w.heap.size + 1 + 1, 2, none⟩) (by first | exact NE_P_U.out | exact Ne.symm NE_P_U.out | (simp; done) | (simp; omega) | omega) (.slice A0 f.nc c0)
  replace s_R := s_R.far (p := ⟨w.heap.size + 1 + 1, 2, none⟩) (by first | exact NE_R_U.out | exact Ne.symm NE_R_U.out | (simp; done) | (simp; omega) | omega) (.slice A0 f.nc c0)
  have t_P : HasBlk (w1.setCell ⟨w.heap.size + 1 + 1, 2, none⟩ (.slice A0 f.nc c0)) (w.heap.size) 29 #[.int .i64 f.W, .int .i64 f.H, .slice p.ac f.nc p.kc, .slice p.ad f.nd p.kd, .slice p.ai f.ni p.ki, .slice p.a4 f.nt p.kt] := s_P
  clear s_P P
  have t_R : HasBlk (w1.setCell ⟨w.heap.size + 1 + 1, 2, none⟩ (.slice A0 f.nc c0)) (w.heap.size + 1) 29 #[.int .i64 0, .int .i64 0, .slice none 0 0, .slice none 0 0, .slice none 0 0, .slice none 0 0] := s_R
  clear s_R R
  have t_U : HasBlk (w1.setCell ⟨w.heap.size + 1 + 1, 2, none⟩ (.slice A0 f.nc c0)) (w.heap.size + 1 + 1) 29 #[.int .i64 f.W, .int .i64 f.H, .slice A0 f.nc c0, .slice none 0 0, .slice none 0 0, .slice none 0 0] := by simp only [List.setIfInBounds_toArray, List.set_cons_zero, List.set_cons_succ] at s_U; exact s_U
  clear s_U U
  have t_OC : ((w1.setCell ⟨w.heap.size + 1 + 1, 2, none⟩ (.slice A0 f.nc c0))).ownsRow (v0.heap.size) 23 4 (.slice A0 (f.nc) (c0)) (f.nc) (cellsR 4 (fun i j => .int .u8 (f.C i j)) f.nc) := s_OC
  clear s_OC OC
  have LE_U : w.heap.size ≤ w.heap.size + 1 + 1 := by omega
  have SB3 : Below w.heap.size w (w1.setCell ⟨w.heap.size + 1 + 1, 2, none⟩ (.slice A0 f.nc c0)) := (Below.setCell (p := ⟨w.heap.size + 1 + 1, 2, none⟩) SB2h.out LE_U _)
  generalize gW_v1 : (w1.setCell ⟨w.heap.size + 1 + 1, 2, none⟩ (.slice A0 f.nc c0)) = v1 at *
  clear gW_v1
  have P := Lib.hid t_P
  clear t_P
  have R := Lib.hid t_R
  clear t_R
  have U := Lib.hid t_U
  clear t_U
  have OC := Lib.hid t_OC
  clear t_OC
  clear SB2h
  have SB3h := Lib.hid SB3
  clear SB3
  have lt_P := P.out.lt
  have P_0 := P.out.cell 0
  have P_1 := P.out.cell 1
  have P_2 := P.out.cell 2
  have P_3 := P.out.cell 3
  have P_4 := P.out.cell 4
  have P_5 := P.out.cell 5
  simp at P_0 P_1 P_2 P_3 P_4 P_5
  have lt_R := R.out.lt
  have R_0 := R.out.cell 0
  have R_1 := R.out.cell 1
  have R_2 := R.out.cell 2
  have R_3 := R.out.cell 3
  have R_4 := R.out.cell 4
  have R_5 := R.out.cell 5
  have R_f0 := R.out.frozen 0
  have R_f1 := R.out.frozen 1
  have R_f2 := R.out.frozen 2
  have R_f3 := R.out.frozen 3
  have R_f4 := R.out.frozen 4
  have R_f5 := R.out.frozen 5
  simp at R_0 R_1 R_2 R_3 R_4 R_5
  have lt_U := U.out.lt
  have U_0 := U.out.cell 0
  have U_1 := U.out.cell 1
  have U_2 := U.out.cell 2
  have U_3 := U.out.cell 3
  have U_4 := U.out.cell 4
  have U_5 := U.out.cell 5
  have U_f0 := U.out.frozen 0
  have U_f1 := U.out.frozen 1
  have U_f2 := U.out.frozen 2
  have U_f3 := U.out.frozen 3
  have U_f4 := U.out.frozen 4
  have U_f5 := U.out.frozen 5
  simp at U_0 U_1 U_2 U_3 U_4 U_5
  have szB_v1 := SB3h.out.size
  have hnews := (HF.out.2.1.row.below SB3h.out).news (by omega)
  go_upto_region 4 with (at_builtin; refine wpList_app rfl (.tmp 16) (.tmp 18) 27 rfl v1.heap.size 3 i0 _ 1 8 Try.underlying27 hi0 hz0 hz1 hz2 rfl (by omega) none 0 0 [] rfl (own_nil _ _ 3 1) p.ad f.nd p.kd (cellsR 1 (fun i _ => .int .i64 (f.D i)) f.nd) rfl (cellsR_len 1 _ f.nd) hnews (cellsR_one (fun _ _ => rfl) f.nd) (by unfold maxLen; omega) (by omega) (Nat.le_refl _) ?_; intro A1 c1 w2 hown hgr; simp only [Nat.zero_add, List.nil_append] at hown ⊢; have bel1 : Below v1.heap.size v1 w2 := below_grown (v := .slice none 0 0) (base := v1.heap.size) (Below.refl _ _) hgr (own_nil _ _ 3 1) (Nat.le_refl _) (by simp); clear hgr; have ZU := U.out.below bel1; have ZR := R.out.below bel1; have hxU := ZU.lt; have hxR := ZR.lt; have yU3 := ZU.cell 3; have yfU3 := ZU.frozen 3; simp at yU3)
  clear ZU ZR hxU hxR yU3 yfU3
  have OD := Lib.hid hown
  have LT1 := Lib.hid (fun x (e : (Value.slice A1 f.nd c1).ownBlock = some x) => (hown.lt x e).2)
  have sz1 := bel1.size
  clear hnews hown lt_P P_0 P_1 P_2 P_3 P_4 P_5 lt_R R_0 R_1 R_2 R_3 R_4 R_5 R_f0 R_f1 R_f2 R_f3 R_f4 R_f5 lt_U U_0 U_1 U_2 U_3 U_4 U_5 U_f0 U_f1 U_f2 U_f3 U_f4 U_f5
  have t_P := P.out.below bel1
  clear P
  have P := Lib.hid t_P
  clear t_P
  have t_R := R.out.below bel1
  clear R
  have R := Lib.hid t_R
  clear t_R
  have t_U := U.out.below bel1
  clear U
  have U := Lib.hid t_U
  clear t_U
  have t_OC := own_below OC.out bel1
  clear OC
  have OC := Lib.hid t_OC
  clear t_OC
  have SB4 : Below w.heap.size w w2 := SB3h.out.trans (bel1.mono SB3h.out.size)
  have zb1 := SB3h.out.size
  clear SB3h
  have SB4h := Lib.hid SB4
  clear SB4 bel1
  have zv2 : w2.heap.size ≤ (w2.setCell ⟨w.heap.size + 1 + 1, 3, none⟩ (.slice A1 f.nd c1)).heap.size := by simp
  have s_P := P.out
  have s_R := R.out
  have s_U := U.out
  have s_OC := OC.out
  have s_OD := OD.out
  replace s_OC := ownsRow_setCell_other (a := ⟨w.heap.size + 1 + 1, 3, none⟩) s_OC (by have := s_U.ne_own s_OC (by decide); simpa using this) (.slice A1 f.nd c1)
  replace s_OD := ownsRow_setCell_other (a := ⟨w.heap.size + 1 + 1, 3, none⟩) s_OD (by have := s_U.ne_own s_OD (by decide); simpa using this) (.slice A1 f.nd c1)
  replace s_U := s_U.set 3 (.slice A1 f.nd c1)
  replace s_P := s_P.far (p := ⟨w.heap.size + 1 + 1, 3, none⟩) (by first | exact NE_P_U.out | exact Ne.symm NE_P_U.out | (simp; done) | (simp; omega) | omega) (.slice A1 f.nd c1)
  replace s_R := s_R.far (p := ⟨w.heap.size + 1 + 1, 3, none⟩) (by first | exact NE_R_U.out | exact Ne.symm NE_R_U.out | (simp; done) | (simp; omega) | omega) (.slice A1 f.nd c1)
  have t_P : HasBlk (w2.setCell ⟨w.heap.size + 1 + 1, 3, none⟩ (.slice A1 f.nd c1)) (w.heap.size) 29 #[.int .i64 f.W, .int .i64 f.H, .slice p.ac f.nc p.kc, .slice p.ad f.nd p.kd, .slice p.ai f.ni p.ki, .slice p.a4 f.nt p.kt] := s_P
  clear s_P P
  have t_R : HasBlk (w2.setCell ⟨w.heap.size + 1 + 1, 3, none⟩ (.slice A1 f.nd c1)) (w.heap.size + 1) 29 #[.int .i64 0, .int .i64 0, .slice none 0 0, .slice none 0 0, .slice none 0 0, .slice none 0 0] := s_R
  clear s_R R
  have t_U : HasBlk (w2.setCell ⟨w.heap.size + 1 + 1, 3, none⟩ (.slice A1 f.nd c1)) (w.heap.size + 1 + 1) 29 #[.int .i64 f.W, .int .i64 f.H, .slice A0 f.nc c0, .slice A1 f.nd c1, .slice none 0 0, .slice none 0 0] := by simp only [List.setIfInBounds_toArray, List.set_cons_zero, List.set_cons_succ] at s_U; exact s_U
  clear s_U U
  have t_OC : ((w2.setCell ⟨w.heap.size + 1 + 1, 3, none⟩ (.slice A1 f.nd c1))).ownsRow (v0.heap.size) 23 4 (.slice A0 (f.nc) (c0)) (f.nc) (cellsR 4 (fun i j => .int .u8 (f.C i j)) f.nc) := s_OC
  clear s_OC OC
  have t_OD : ((w2.setCell ⟨w.heap.size + 1 + 1, 3, none⟩ (.slice A1 f.nd c1))).ownsRow (v1.heap.size) 3 1 (.slice A1 (f.nd) (c1)) (f.nd) (cellsR 1 (fun i _ => .int .i64 (f.D i)) f.nd) := s_OD
  clear s_OD OD
  have LE_U : w.heap.size ≤ w.heap.size + 1 + 1 := by omega
  have SB5 : Below w.heap.size w (w2.setCell ⟨w.heap.size + 1 + 1, 3, none⟩ (.slice A1 f.nd c1)) := (Below.setCell (p := ⟨w.heap.size + 1 + 1, 3, none⟩) SB4h.out LE_U _)
  generalize gW_v2 : (w2.setCell ⟨w.heap.size + 1 + 1, 3, none⟩ (.slice A1 f.nd c1)) = v2 at *
  clear gW_v2
  have P := Lib.hid t_P
  clear t_P
  have R := Lib.hid t_R
  clear t_R
  have U := Lib.hid t_U
  clear t_U
  have OC := Lib.hid t_OC
  clear t_OC
  have OD := Lib.hid t_OD
  clear t_OD
  clear SB4h
  have SB5h := Lib.hid SB5
  clear SB5
  have lt_P := P.out.lt
  have P_0 := P.out.cell 0
  have P_1 := P.out.cell 1
  have P_2 := P.out.cell 2
  have P_3 := P.out.cell 3
  have P_4 := P.out.cell 4
  have P_5 := P.out.cell 5
  simp at P_0 P_1 P_2 P_3 P_4 P_5
  have lt_R := R.out.lt
  have R_0 := R.out.cell 0
  have R_1 := R.out.cell 1
  have R_2 := R.out.cell 2
  have R_3 := R.out.cell 3
  have R_4 := R.out.cell 4
  have R_5 := R.out.cell 5
  have R_f0 := R.out.frozen 0
  have R_f1 := R.out.frozen 1
  have R_f2 := R.out.frozen 2
  have R_f3 := R.out.frozen 3
  have R_f4 := R.out.frozen 4
  have R_f5 := R.out.frozen 5
  simp at R_0 R_1 R_2 R_3 R_4 R_5
  have lt_U := U.out.lt
  have U_0 := U.out.cell 0
  have U_1 := U.out.cell 1
  have U_2 := U.out.cell 2
  have U_3 := U.out.cell 3
  have U_4 := U.out.cell 4
  have U_5 := U.out.cell 5
  have U_f0 := U.out.frozen 0
  have U_f1 := U.out.frozen 1
  have U_f2 := U.out.frozen 2
  have U_f3 := U.out.frozen 3
  have U_f4 := U.out.frozen 4
  have U_f5 := U.out.frozen 5
  simp at U_0 U_1 U_2 U_3 U_4 U_5
  have szB_v2 := SB5h.out.size
  have hnews := (HF.out.2.2.1.row.below SB5h.out).news (by omega)
  go_upto_region 5 with (at_builtin; refine wpList_app rfl (.tmp 22) (.tmp 24) 27 rfl v2.heap.size 3 i0 _ 1 8 Try.underlying27 hi0 hz0 hz1 hz2 rfl (by omega) none 0 0 [] rfl (own_nil _ _ 3 1) p.ai f.ni p.ki (cellsR 1 (fun i _ => .int .i64 (f.I i)) f.ni) rfl (cellsR_len 1 _ f.ni) hnews (cellsR_one (fun _ _ => rfl) f.ni) (by unfold maxLen; omega) (by omega) (Nat.le_refl _) ?_; intro A2 c2 w3 hown hgr; simp only [Nat.zero_add, List.nil_append] at hown ⊢; have bel2 : Below v2.heap.size v2 w3 := below_grown (v := .slice none 0 0) (base := v2.heap.size) (Below.refl _ _) hgr (own_nil _ _ 3 1) (Nat.le_refl _) (by simp); clear hgr; have ZU := U.out.below bel2; have ZR := R.out.below bel2; have hxU := ZU.lt; have hxR := ZR.lt; have yU4 := ZU.cell 4; have yfU4 := ZU.frozen 4; simp at yU4)
  clear ZU ZR hxU hxR yU4 yfU4
  have OI := Lib.hid hown
  have LT2 := Lib.hid (fun x (e : (Value.slice A2 f.ni c2).ownBlock = some x) => (hown.lt x e).2)
  have sz2 := bel2.size
  clear hnews hown lt_P P_0 P_1 P_2 P_3 P_4 P_5 lt_R R_0 R_1 R_2 R_3 R_4 R_5 R_f0 R_f1 R_f2 R_f3 R_f4 R_f5 lt_U U_0 U_1 U_2 U_3 U_4 U_5 U_f0 U_f1 U_f2 U_f3 U_f4 U_f5
  have t_P := P.out.below bel2
  clear P
  have P := Lib.hid t_P
  clear t_P
  have t_R := R.out.below bel2
  clear R
  have R := Lib.hid t_R
  clear t_R
  have t_U := U.out.below bel2
  clear U
  have U := Lib.hid t_U
  clear t_U
  have t_OC := own_below OC.out bel2
  clear OC
  have OC := Lib.hid t_OC
  clear t_OC
  have t_OD := own_below OD.out bel2
  clear OD
  have OD := Lib.hid t_OD
  clear t_OD
  have SB6 : Below w.heap.size w w3 := SB5h.out.trans (bel2.mono SB5h.out.size)
  have zb2 := SB5h.out.size
  clear SB5h
  have SB6h := Lib.hid SB6
  clear SB6 bel2
  have zv3 : w3.heap.size ≤ (w3.setCell ⟨w.heap.size + 1 + 1, 4, none⟩ (.slice A2 f.ni c2)).heap.size := by simp
  have s_P := P.out
  have s_R := R.out
  have s_U := U.out
  have s_OC := OC.out
  have s_OD := OD.out
  have s_OI := OI.out
  replace s_OC := ownsRow_setCell_other (a := ⟨w.heap.size + 1 + 1, 4, none⟩) s_OC (by have := s_U.ne_own s_OC (by decide); simpa using this) (.slice A2 f.ni c2)
  replace s_OD := ownsRow_setCell_other (a := ⟨w.heap.size + 1 + 1, 4, none⟩) s_OD (by have := s_U.ne_own s_OD (by decide); simpa using this) (.slice A2 f.ni c2)
  replace s_OI := ownsRow_setCell_other (a := ⟨w.heap.size + 1 + 1, 4, none⟩) s_OI (by have := s_U.ne_own s_OI (by decide); simpa using this) (.slice A2 f.ni c2)
  replace s_U := s_U.set 4 (.slice A2 f.ni c2)
  replace s_P := s_P.far (p := ⟨w.heap.size + 1 + 1, 4, none⟩) (by first | exact NE_P_U.out | exact Ne.symm NE_P_U.out | (simp; done) | (simp; omega) | omega) (.slice A2 f.ni c2)
  replace s_R := s_R.far (p := ⟨w.heap.size + 1 + 1, 4, none⟩) (by first | exact NE_R_U.out | exact Ne.symm NE_R_U.out | (simp; done) | (simp; omega) | omega) (.slice A2 f.ni c2)
  have t_P : HasBlk (w3.setCell ⟨w.heap.size + 1 + 1, 4, none⟩ (.slice A2 f.ni c2)) (w.heap.size) 29 #[.int .i64 f.W, .int .i64 f.H, .slice p.ac f.nc p.kc, .slice p.ad f.nd p.kd, .slice p.ai f.ni p.ki, .slice p.a4 f.nt p.kt] := s_P
  clear s_P P
  have t_R : HasBlk (w3.setCell ⟨w.heap.size + 1 + 1, 4, none⟩ (.slice A2 f.ni c2)) (w.heap.size + 1) 29 #[.int .i64 0, .int .i64 0, .slice none 0 0, .slice none 0 0, .slice none 0 0, .slice none 0 0] := s_R
  clear s_R R
  have t_U : HasBlk (w3.setCell ⟨w.heap.size + 1 + 1, 4, none⟩ (.slice A2 f.ni c2)) (w.heap.size + 1 + 1) 29 #[.int .i64 f.W, .int .i64 f.H, .slice A0 f.nc c0, .slice A1 f.nd c1, .slice A2 f.ni c2, .slice none 0 0] := by simp only [List.setIfInBounds_toArray, List.set_cons_zero, List.set_cons_succ] at s_U; exact s_U
  clear s_U U
  have t_OC : ((w3.setCell ⟨w.heap.size + 1 + 1, 4, none⟩ (.slice A2 f.ni c2))).ownsRow (v0.heap.size) 23 4 (.slice A0 (f.nc) (c0)) (f.nc) (cellsR 4 (fun i j => .int .u8 (f.C i j)) f.nc) := s_OC
  clear s_OC OC
  have t_OD : ((w3.setCell ⟨w.heap.size + 1 + 1, 4, none⟩ (.slice A2 f.ni c2))).ownsRow (v1.heap.size) 3 1 (.slice A1 (f.nd) (c1)) (f.nd) (cellsR 1 (fun i _ => .int .i64 (f.D i)) f.nd) := s_OD
  clear s_OD OD
  have t_OI : ((w3.setCell ⟨w.heap.size + 1 + 1, 4, none⟩ (.slice A2 f.ni c2))).ownsRow (v2.heap.size) 3 1 (.slice A2 (f.ni) (c2)) (f.ni) (cellsR 1 (fun i _ => .int .i64 (f.I i)) f.ni) := s_OI
  clear s_OI OI
  have LE_U : w.heap.size ≤ w.heap.size + 1 + 1 := by omega
  have SB7 : Below w.heap.size w (w3.setCell ⟨w.heap.size + 1 + 1, 4, none⟩ (.slice A2 f.ni c2)) := (Below.setCell (p := ⟨w.heap.size + 1 + 1, 4, none⟩) SB6h.out LE_U _)
  generalize gW_v3 : (w3.setCell ⟨w.heap.size + 1 + 1, 4, none⟩ (.slice A2 f.ni c2)) = v3 at *
  clear gW_v3
  have P := Lib.hid t_P
  clear t_P
  have R := Lib.hid t_R
  clear t_R
  have U := Lib.hid t_U
  clear t_U
  have OC := Lib.hid t_OC
  clear t_OC
  have OD := Lib.hid t_OD
  clear t_OD
  have OI := Lib.hid t_OI
  clear t_OI
  clear SB6h
  have SB7h := Lib.hid SB7
  clear SB7
  have lt_P := P.out.lt
  have P_0 := P.out.cell 0
  have P_1 := P.out.cell 1
  have P_2 := P.out.cell 2
  have P_3 := P.out.cell 3
  have P_4 := P.out.cell 4
  have P_5 := P.out.cell 5
  simp at P_0 P_1 P_2 P_3 P_4 P_5
  have lt_R := R.out.lt
  have R_0 := R.out.cell 0
  have R_1 := R.out.cell 1
  have R_2 := R.out.cell 2
  have R_3 := R.out.cell 3
  have R_4 := R.out.cell 4
  have R_5 := R.out.cell 5
  have R_f0 := R.out.frozen 0
  have R_f1 := R.out.frozen 1
  have R_f2 := R.out.frozen 2
  have R_f3 := R.out.frozen 3
  have R_f4 := R.out.frozen 4
  have R_f5 := R.out.frozen 5
  simp at R_0 R_1 R_2 R_3 R_4 R_5
  have lt_U := U.out.lt
  have U_0 := U.out.cell 0
  have U_1 := U.out.cell 1
  have U_2 := U.out.cell 2
  have U_3 := U.out.cell 3
  have U_4 := U.out.cell 4
  have U_5 := U.out.cell 5
  have U_f0 := U.out.frozen 0
  have U_f1 := U.out.frozen 1
  have U_f2 := U.out.frozen 2
  have U_f3 := U.out.frozen 3
  have U_f4 := U.out.frozen 4
  have U_f5 := U.out.frozen 5
  simp at U_0 U_1 U_2 U_3 U_4 U_5
  have szB_v3 := SB7h.out.size
  have hnews := (HF.out.2.2.2.row.below SB7h.out).news (by omega)
  go_wp2_with (at_builtin; refine wpList_app rfl (.tmp 28) (.tmp 30) 27 rfl v3.heap.size 3 i0 _ 1 8 Try.underlying27 hi0 hz0 hz1 hz2 rfl (by omega) none 0 0 [] rfl (own_nil _ _ 3 1) p.a4 f.nt p.kt (cellsR 1 (fun i _ => .int .i64 (f.T i)) f.nt) rfl (cellsR_len 1 _ f.nt) hnews (cellsR_one (fun _ _ => rfl) f.nt) (by unfold maxLen; omega) (by omega) (Nat.le_refl _) ?_; intro A3 c3 w4 hown hgr; simp only [Nat.zero_add, List.nil_append] at hown ⊢; have bel3 : Below v3.heap.size v3 w4 := below_grown (v := .slice none 0 0) (base := v3.heap.size) (Below.refl _ _) hgr (own_nil _ _ 3 1) (Nat.le_refl _) (by simp); clear hgr; have ZU := U.out.below bel3; have ZR := R.out.below bel3; have hxU := ZU.lt; have hxR := ZR.lt; have yU0 := ZU.cell 0; have yfU0 := ZU.frozen 0; have yU1 := ZU.cell 1; have yfU1 := ZU.frozen 1; have yU2 := ZU.cell 2; have yfU2 := ZU.frozen 2; have yU3 := ZU.cell 3; have yfU3 := ZU.frozen 3; have yU4 := ZU.cell 4; have yfU4 := ZU.frozen 4; have yU5 := ZU.cell 5; have yfU5 := ZU.frozen 5; have yR0 := ZR.cell 0; have yfR0 := ZR.frozen 0; have yR1 := ZR.cell 1; have yfR1 := ZR.frozen 1; have yR2 := ZR.cell 2; have yfR2 := ZR.frozen 2; have yR3 := ZR.cell 3; have yfR3 := ZR.frozen 3; have yR4 := ZR.cell 4; have yfR4 := ZR.frozen 4; have yR5 := ZR.cell 5; have yfR5 := ZR.frozen 5; simp at yU0 yU1 yU2 yU3 yU4 yU5 yR0 yR1 yR2 yR3 yR4 yR5)
  clear ZU ZR hxU
  have OT := Lib.hid hown
  have LT3 := Lib.hid (fun x (e : (Value.slice A3 f.nt c3).ownBlock = some x) => (hown.lt x e).2)
  have sz3 := bel3.size
  clear hnews hown lt_P P_0 P_1 P_2 P_3 P_4 P_5 lt_R R_0 R_1 R_2 R_3 R_4 R_5 R_f0 R_f1 R_f2 R_f3 R_f4 R_f5 lt_U U_0 U_1 U_2 U_3 U_4 U_5 U_f0 U_f1 U_f2 U_f3 U_f4 U_f5
  have t_P := P.out.below bel3
  clear P
  have P := Lib.hid t_P
  clear t_P
  have t_R := R.out.below bel3
  clear R
  have R := Lib.hid t_R
  clear t_R
  have t_U := U.out.below bel3
  clear U
  have U := Lib.hid t_U
  clear t_U
  have t_OC := own_below OC.out bel3
  clear OC
  have OC := Lib.hid t_OC
  clear t_OC
  have t_OD := own_below OD.out bel3
  clear OD
  have OD := Lib.hid t_OD
  clear t_OD
  have t_OI := own_below OI.out bel3
  clear OI
  have OI := Lib.hid t_OI
  clear t_OI
  have SB8 : Below w.heap.size w w4 := SB7h.out.trans (bel3.mono SB7h.out.size)
  have zb3 := SB7h.out.size
  clear SB7h
  have SB8h := Lib.hid SB8
  clear SB8 bel3
  have s_C := OC.out
  have s_D := OD.out
  have s_I := OI.out
  have s_T := OT.out
  have s_U := U.out
  have s_R := R.out
  have nUR : w.heap.size + 1 ≠ w.heap.size + 1 + 1 := by omega
  have LE_R : w.heap.size ≤ w.heap.size + 1 := by omega
  have LE_U : w.heap.size ≤ w.heap.size + 1 + 1 := by omega
  have bl := SB8h.out
  replace s_C := ownsRow_setCell_other (a := ⟨w.heap.size + 1 + 1, 5, none⟩) s_C (by have := s_U.ne_own s_C (by decide); simpa using this) (.slice A3 f.nt c3)
  replace s_D := ownsRow_setCell_other (a := ⟨w.heap.size + 1 + 1, 5, none⟩) s_D (by have := s_U.ne_own s_D (by decide); simpa using this) (.slice A3 f.nt c3)
  replace s_I := ownsRow_setCell_other (a := ⟨w.heap.size + 1 + 1, 5, none⟩) s_I (by have := s_U.ne_own s_I (by decide); simpa using this) (.slice A3 f.nt c3)
  replace s_T := ownsRow_setCell_other (a := ⟨w.heap.size + 1 + 1, 5, none⟩) s_T (by have := s_U.ne_own s_T (by decide); simpa using this) (.slice A3 f.nt c3)
  replace s_U := s_U.set 5 (.slice A3 f.nt c3)
  replace s_R := s_R.far (p := ⟨w.heap.size + 1 + 1, 5, none⟩) (Ne.symm nUR) (.slice A3 f.nt c3)
  replace bl := Below.setCell (p := ⟨w.heap.size + 1 + 1, 5, none⟩) bl LE_U (.slice A3 f.nt c3)
  replace s_C := ownsRow_setCell_other (a := ⟨w.heap.size + 1, 0, none⟩) s_C (by have := s_R.ne_own s_C (by decide); simpa using this) (.int .i64 f.W)
  replace s_D := ownsRow_setCell_other (a := ⟨w.heap.size + 1, 0, none⟩) s_D (by have := s_R.ne_own s_D (by decide); simpa using this) (.int .i64 f.W)
  replace s_I := ownsRow_setCell_other (a := ⟨w.heap.size + 1, 0, none⟩) s_I (by have := s_R.ne_own s_I (by decide); simpa using this) (.int .i64 f.W)
  replace s_T := ownsRow_setCell_other (a := ⟨w.heap.size + 1, 0, none⟩) s_T (by have := s_R.ne_own s_T (by decide); simpa using this) (.int .i64 f.W)
  replace s_R := s_R.set 0 (.int .i64 f.W)
  replace s_U := s_U.far (p := ⟨w.heap.size + 1, 0, none⟩) nUR (.int .i64 f.W)
  replace bl := Below.setCell (p := ⟨w.heap.size + 1, 0, none⟩) bl LE_R (.int .i64 f.W)
  replace s_C := ownsRow_setCell_other (a := ⟨w.heap.size + 1, 1, none⟩) s_C (by have := s_R.ne_own s_C (by decide); simpa using this) (.int .i64 f.H)
  replace s_D := ownsRow_setCell_other (a := ⟨w.heap.size + 1, 1, none⟩) s_D (by have := s_R.ne_own s_D (by decide); simpa using this) (.int .i64 f.H)
  replace s_I := ownsRow_setCell_other (a := ⟨w.heap.size + 1, 1, none⟩) s_I (by have := s_R.ne_own s_I (by decide); simpa using this) (.int .i64 f.H)
  replace s_T := ownsRow_setCell_other (a := ⟨w.heap.size + 1, 1, none⟩) s_T (by have := s_R.ne_own s_T (by decide); simpa using this) (.int .i64 f.H)
  replace s_R := s_R.set 1 (.int .i64 f.H)
  replace s_U := s_U.far (p := ⟨w.heap.size + 1, 1, none⟩) nUR (.int .i64 f.H)
  replace bl := Below.setCell (p := ⟨w.heap.size + 1, 1, none⟩) bl LE_R (.int .i64 f.H)
  replace s_C := ownsRow_setCell_other (a := ⟨w.heap.size + 1, 2, none⟩) s_C (by have := s_R.ne_own s_C (by decide); simpa using this) (.slice A0 f.nc c0)
  replace s_D := ownsRow_setCell_other (a := ⟨w.heap.size + 1, 2, none⟩) s_D (by have := s_R.ne_own s_D (by decide); simpa using this) (.slice A0 f.nc c0)
  replace s_I := ownsRow_setCell_other (a := ⟨w.heap.size + 1, 2, none⟩) s_I (by have := s_R.ne_own s_I (by decide); simpa using this) (.slice A0 f.nc c0)
  replace s_T := ownsRow_setCell_other (a := ⟨w.heap.size + 1, 2, none⟩) s_T (by have := s_R.ne_own s_T (by decide); simpa using this) (.slice A0 f.nc c0)
  replace s_R := s_R.set 2 (.slice A0 f.nc c0)
  replace s_U := s_U.far (p := ⟨w.heap.size + 1, 2, none⟩) nUR (.slice A0 f.nc c0)
  replace bl := Below.setCell (p := ⟨w.heap.size + 1, 2, none⟩) bl LE_R (.slice A0 f.nc c0)
  replace s_C := ownsRow_setCell_other (a := ⟨w.heap.size + 1, 3, none⟩) s_C (by have := s_R.ne_own s_C (by decide); simpa using this) (.slice A1 f.nd c1)
  replace s_D := ownsRow_setCell_other (a := ⟨w.heap.size + 1, 3, none⟩) s_D (by have := s_R.ne_own s_D (by decide); simpa using this) (.slice A1 f.nd c1)
  replace s_I := ownsRow_setCell_other (a := ⟨w.heap.size + 1, 3, none⟩) s_I (by have := s_R.ne_own s_I (by decide); simpa using this) (.slice A1 f.nd c1)
  replace s_T := ownsRow_setCell_other (a := ⟨w.heap.size + 1, 3, none⟩) s_T (by have := s_R.ne_own s_T (by decide); simpa using this) (.slice A1 f.nd c1)
  replace s_R := s_R.set 3 (.slice A1 f.nd c1)
  replace s_U := s_U.far (p := ⟨w.heap.size + 1, 3, none⟩) nUR (.slice A1 f.nd c1)
  replace bl := Below.setCell (p := ⟨w.heap.size + 1, 3, none⟩) bl LE_R (.slice A1 f.nd c1)
  replace s_C := ownsRow_setCell_other (a := ⟨w.heap.size + 1, 4, none⟩) s_C (by have := s_R.ne_own s_C (by decide); simpa using this) (.slice A2 f.ni c2)
  replace s_D := ownsRow_setCell_other (a := ⟨w.heap.size + 1, 4, none⟩) s_D (by have := s_R.ne_own s_D (by decide); simpa using this) (.slice A2 f.ni c2)
  replace s_I := ownsRow_setCell_other (a := ⟨w.heap.size + 1, 4, none⟩) s_I (by have := s_R.ne_own s_I (by decide); simpa using this) (.slice A2 f.ni c2)
  replace s_T := ownsRow_setCell_other (a := ⟨w.heap.size + 1, 4, none⟩) s_T (by have := s_R.ne_own s_T (by decide); simpa using this) (.slice A2 f.ni c2)
  replace s_R := s_R.set 4 (.slice A2 f.ni c2)
  replace s_U := s_U.far (p := ⟨w.heap.size + 1, 4, none⟩) nUR (.slice A2 f.ni c2)
  replace bl := Below.setCell (p := ⟨w.heap.size + 1, 4, none⟩) bl LE_R (.slice A2 f.ni c2)
  replace s_C := ownsRow_setCell_other (a := ⟨w.heap.size + 1, 5, none⟩) s_C (by have := s_R.ne_own s_C (by decide); simpa using this) (.slice A3 f.nt c3)
  replace s_D := ownsRow_setCell_other (a := ⟨w.heap.size + 1, 5, none⟩) s_D (by have := s_R.ne_own s_D (by decide); simpa using this) (.slice A3 f.nt c3)
  replace s_I := ownsRow_setCell_other (a := ⟨w.heap.size + 1, 5, none⟩) s_I (by have := s_R.ne_own s_I (by decide); simpa using this) (.slice A3 f.nt c3)
  replace s_T := ownsRow_setCell_other (a := ⟨w.heap.size + 1, 5, none⟩) s_T (by have := s_R.ne_own s_T (by decide); simpa using this) (.slice A3 f.nt c3)
  replace s_R := s_R.set 5 (.slice A3 f.nt c3)
  replace s_U := s_U.far (p := ⟨w.heap.size + 1, 5, none⟩) nUR (.slice A3 f.nt c3)
  replace bl := Below.setCell (p := ⟨w.heap.size + 1, 5, none⟩) bl LE_R (.slice A3 f.nt c3)
  refine bodyPost_ret (v := .agg #[.int .i64 f.W, .int .i64 f.H, .slice A0 f.nc c0, .slice A1 f.nd c1, .slice A2 f.ni c2, .slice A3 f.nt c3]) (by simp [results, Try.results19, go_sem, *]) rfl ⟨⟨⟨A0, A1, A2, A3, c0, c1, c2, c3⟩, rfl, own_base s_C (by omega), own_base s_D (by omega), own_base s_I (by omega), own_base s_T (by omega), ?_, ?_, ?_⟩, bl⟩
  · exact ne_rows (fun x e => Nat.lt_of_lt_of_le (LT1.out x e) (by omega)) s_I
  · exact ne_rows (fun x e => Nat.lt_of_lt_of_le (LT1.out x e) (by omega)) s_T
  · exact ne_rows (fun x e => Nat.lt_of_lt_of_le (LT2.out x e) (by omega)) s_T
end Go.Proofs.Ytibeoeooajelgaa
