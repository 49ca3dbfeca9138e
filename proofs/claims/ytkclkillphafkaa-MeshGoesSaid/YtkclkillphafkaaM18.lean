/- mesh: the reference's Twin. -/
import Derived.Test.YtkclkillphafkaaM17
import Derived.Test.YtkclkillphafkaaStep
import Derived.Deep.AppendLies
import Derived.Deep.RegionHeld
import Derived.Deep.RegionLaw
import Derived.Deep.CutRange
import Derived.Deep.DeepCutAuto
namespace Go.Proofs.Ytkclkillphafkaa
open Go.RowKit
set_option linter.unusedVariables false
/-- What Twin answers: the same mesh, in memory of the call's own. -/
def MTwin (n1 n2 m : Nat) (V U : Nat → Nat → Int) (D : Nat → PrimD) (B : Nat) (e : Ending) (w' : World) : Prop :=
  ∃ B1 B2 B3 d1 d2 d3 a c, e = .returned (.agg #[.slice B1 n1 d1, .slice B2 n2 d2, .slice B3 m d3]) ∧ MOwn B w' B1 B2 B3 d1 d2 d3 n1 n2 m V U (reD D a c)
theorem MOwn.set {B c1 c2 c3 n1 n2 m : Nat} {w : World} {A1 A2 A3 : Option Addr} {V U : Nat → Nat → Int} {D : Nat → PrimD} (h : MOwn B w A1 A2 A3 c1 c2 c3 n1 n2 m V U D) {g : Nat} {cs : Array Value} (hg : HasBlk w g 42 cs) (i : Nat) (x : Value) : MOwn B (w.setCell ⟨g, i, none⟩ x) A1 A2 A3 c1 c2 c3 n1 n2 m V U D := by
  have far : ∀ {e s n : Nat} {v : Value} {xs : List Value}, w.ownsRow B e s v n xs → e ≠ 42 → (w.setCell ⟨g, i, none⟩ x).ownsRow B e s v n xs :=
    fun ho hne => ownsRow_setCell_other (a := ⟨g, i, none⟩) ho (by have := hg.ne_own ho hne; simpa using this) _
  exact ⟨far h.v (by decide), far h.u (by decide), ⟨far h.p.row (by decide), fun i hi => far (h.p.ints i hi) (by decide)⟩⟩

set_option maxRecDepth 100000 in
set_option maxHeartbeats 4000000 in
theorem twin18_any (A1 A2 A3 : Option Addr) (n1 n2 m c1 c2 c3 : Nat) (V U : Nat → Nat → Int) (D : Nat → PrimD) (w : World) (hV : Row w A1 n1 3 (fun i j => .int .i64 (V i j))) (hU : Row w A2 n2 2 (fun i j => .int .i64 (U i j))) (hp : PL w A3 m D) (hfit : n1 ≤ 1000 ∧ n2 ≤ 1000 ∧ m ≤ 100) (hn : ∀ i, i < m → (D i).n ≤ 1000) :
    Calls Try.prog 18 #[.agg #[.slice A1 n1 c1, .slice A2 n2 c2, .slice A3 m c3]] w fun e w' => MTwin n1 n2 m V U D w.heap.size e w' ∧ Below w.heap.size w w' := by
  have HV := Lib.hid hV
  have HU := Lib.hid hU
  have HP := Lib.hid hp
  have HN := Lib.hid hn
  obtain ⟨n1f, n2f, mf⟩ := hfit
  obtain ⟨i0, hi0, hz0, hz1, hz2⟩ := info_parts int_info
  obtain ⟨iv0, hv0, vz0, vz1, vz2⟩ := info_parts vec_info
  obtain ⟨iu0, hu0, uz0, uz1, uz2⟩ := info_parts uv_info
  obtain ⟨ip0, hp0, pz0, pz1, pz2⟩ := info_parts prim_info
  clear hV hU hp hn
  go_enter Try.func18, Try.ntmps18
  go_upto_region 2 with fail
  have NE_Pb_Rb := Lib.hid (show w.heap.size ≠ w.heap.size + 1 by omega)
  have NE_Pb_Ub := Lib.hid (show w.heap.size ≠ w.heap.size + 1 + 1 by omega)
  have NE_Rb_Ub := Lib.hid (show w.heap.size + 1 ≠ w.heap.size + 1 + 1 by omega)
  have s_Pb : HasBlk (w.alloc (.cells #[.slice A1 n1 c1, .slice A2 n2 c2, .slice A3 m c3] 42)) (w.heap.size) 42 #[.slice A1 n1 c1, .slice A2 n2 c2, .slice A3 m c3] := by simpa using hasBlk_new w 42 #[.slice A1 n1 c1, .slice A2 n2 c2, .slice A3 m c3]
  replace s_Pb := s_Pb.alloc (.cells #[.slice none 0 0, .slice none 0 0, .slice none 0 0] 42)
  have s_Rb : HasBlk ((w.alloc (.cells #[.slice A1 n1 c1, .slice A2 n2 c2, .slice A3 m c3] 42)).alloc (.cells #[.slice none 0 0, .slice none 0 0, .slice none 0 0] 42)) (w.heap.size + 1) 42 #[.slice none 0 0, .slice none 0 0, .slice none 0 0] := by simpa using hasBlk_new (w.alloc (.cells #[.slice A1 n1 c1, .slice A2 n2 c2, .slice A3 m c3] 42)) 42 #[.slice none 0 0, .slice none 0 0, .slice none 0 0]
  replace s_Pb := s_Pb.alloc (.cells #[.slice none 0 0, .slice none 0 0, .slice none 0 0] 42)
  replace s_Rb := s_Rb.alloc (.cells #[.slice none 0 0, .slice none 0 0, .slice none 0 0] 42)
  have s_Ub : HasBlk (((w.alloc (.cells #[.slice A1 n1 c1, .slice A2 n2 c2, .slice A3 m c3] 42)).alloc (.cells #[.slice none 0 0, .slice none 0 0, .slice none 0 0] 42)).alloc (.cells #[.slice none 0 0, .slice none 0 0, .slice none 0 0] 42)) (w.heap.size + 1 + 1) 42 #[.slice none 0 0, .slice none 0 0, .slice none 0 0] := by simpa using hasBlk_new ((w.alloc (.cells #[.slice A1 n1 c1, .slice A2 n2 c2, .slice A3 m c3] 42)).alloc (.cells #[.slice none 0 0, .slice none 0 0, .slice none 0 0] 42)) 42 #[.slice none 0 0, .slice none 0 0, .slice none 0 0]
  have t_Pb : HasBlk (((w.alloc (.cells #[.slice A1 n1 c1, .slice A2 n2 c2, .slice A3 m c3] 42)).alloc (.cells #[.slice none 0 0, .slice none 0 0, .slice none 0 0] 42)).alloc (.cells #[.slice none 0 0, .slice none 0 0, .slice none 0 0] 42)) (w.heap.size) 42 #[.slice A1 n1 c1, .slice A2 n2 c2, .slice A3 m c3] := by simpa using s_Pb
  clear s_Pb
  have t_Rb : HasBlk (((w.alloc (.cells #[.slice A1 n1 c1, .slice A2 n2 c2, .slice A3 m c3] 42)).alloc (.cells #[.slice none 0 0, .slice none 0 0, .slice none 0 0] 42)).alloc (.cells #[.slice none 0 0, .slice none 0 0, .slice none 0 0] 42)) (w.heap.size + 1) 42 #[.slice none 0 0, .slice none 0 0, .slice none 0 0] := by simpa using s_Rb
  clear s_Rb
  have t_Ub : HasBlk (((w.alloc (.cells #[.slice A1 n1 c1, .slice A2 n2 c2, .slice A3 m c3] 42)).alloc (.cells #[.slice none 0 0, .slice none 0 0, .slice none 0 0] 42)).alloc (.cells #[.slice none 0 0, .slice none 0 0, .slice none 0 0] 42)) (w.heap.size + 1 + 1) 42 #[.slice none 0 0, .slice none 0 0, .slice none 0 0] := by simpa using s_Ub
  clear s_Ub
  have SB1 : Below w.heap.size w (((w.alloc (.cells #[.slice A1 n1 c1, .slice A2 n2 c2, .slice A3 m c3] 42)).alloc (.cells #[.slice none 0 0, .slice none 0 0, .slice none 0 0] 42)).alloc (.cells #[.slice none 0 0, .slice none 0 0, .slice none 0 0] 42)) := by
    repeat' (first | exact Below.refl _ _ | assumption | apply Below.drew | refine Below.setCell ?_ (by first | omega | (simp; done) | (simp; omega)) _ | refine Below.alloc ?_ (by first | omega | (simp; done) | (simp; omega)) _)
  generalize gW_v0 : (((w.alloc (.cells #[.slice A1 n1 c1, .slice A2 n2 c2, .slice A3 m c3] 42)).alloc (.cells #[.slice none 0 0, .slice none 0 0, .slice none 0 0] 42)).alloc (.cells #[.slice none 0 0, .slice none 0 0, .slice none 0 0] 42)) = v0 at *
  clear gW_v0
  have Pb := Lib.hid t_Pb
  clear t_Pb
  have Rb := Lib.hid t_Rb
  clear t_Rb
  have Ub := Lib.hid t_Ub
  clear t_Ub
  have SB1h := Lib.hid SB1
  clear SB1
  have lt_Pb := Pb.out.lt
  have Pb_0 := Pb.out.cell 0
  have Pb_1 := Pb.out.cell 1
  have Pb_2 := Pb.out.cell 2
  simp at Pb_0 Pb_1 Pb_2
  have lt_Rb := Rb.out.lt
  have Rb_0 := Rb.out.cell 0
  have Rb_1 := Rb.out.cell 1
  have Rb_2 := Rb.out.cell 2
  have Rb_f0 := Rb.out.frozen 0
  have Rb_f1 := Rb.out.frozen 1
  have Rb_f2 := Rb.out.frozen 2
  simp at Rb_0 Rb_1 Rb_2
  have lt_Ub := Ub.out.lt
  have Ub_0 := Ub.out.cell 0
  have Ub_1 := Ub.out.cell 1
  have Ub_2 := Ub.out.cell 2
  have Ub_f0 := Ub.out.frozen 0
  have Ub_f1 := Ub.out.frozen 1
  have Ub_f2 := Ub.out.frozen 2
  simp at Ub_0 Ub_1 Ub_2
  have szB_v0 := SB1h.out.size
  have hnews := (HV.out.below SB1h.out).news (by omega)
  go_upto_region 3 with (at_builtin; refine wpList_app rfl (.tmp 7) (.tmp 9) 38 rfl w.heap.size 51 iv0 _ 3 24 Try.underlying38 hv0 vz0 vz1 vz2 rfl (by omega) none 0 0 [] rfl (own_nil _ _ 51 3) A1 n1 c1 (cellsR 3 (fun i j => .int .i64 (V i j)) n1) rfl (cellsR_len 3 _ n1) hnews (cellsR_one (fun _ _ => rfl) n1) (by unfold maxLen; omega) (by omega) (by omega) ?_; intro B1 d1 w1 hown hgr; simp only [Nat.zero_add, List.nil_append] at hown ⊢; have bel0 : Below v0.heap.size v0 w1 := below_grown (v := .slice none 0 0) (base := v0.heap.size) (Below.refl _ _) hgr (own_nil _ _ 51 3) (Nat.le_refl _) (by simp); clear hgr; have ZUb := Ub.out.below bel0; have hxU := ZUb.lt; have yUb0 := ZUb.cell 0; have yfUb0 := ZUb.frozen 0; simp at yUb0)
  clear ZUb hxU yUb0 yfUb0
  have OV := Lib.hid hown
  clear hnews hown lt_Pb Pb_0 Pb_1 Pb_2 lt_Rb Rb_0 Rb_1 Rb_2 Rb_f0 Rb_f1 Rb_f2 lt_Ub Ub_0 Ub_1 Ub_2 Ub_f0 Ub_f1 Ub_f2
  have t_Pb := Pb.out.below bel0
  clear Pb
  have Pb := Lib.hid t_Pb
  clear t_Pb
  have t_Rb := Rb.out.below bel0
  clear Rb
  have Rb := Lib.hid t_Rb
  clear t_Rb
  have t_Ub := Ub.out.below bel0
  clear Ub
  have Ub := Lib.hid t_Ub
  clear t_Ub
  have SB2 : Below w.heap.size w w1 := SB1h.out.trans (bel0.mono SB1h.out.size)
  have zb0 := SB1h.out.size
  clear SB1h
  have SB2h := Lib.hid SB2
  clear SB2 bel0
  have s_Pb := Pb.out
  have s_Rb := Rb.out
  have s_Ub := Ub.out
  have s_OV := OV.out
  replace s_OV := ownsRow_setCell_other (a := ⟨w.heap.size + 1 + 1, 0, none⟩) s_OV (by have := s_Ub.ne_own s_OV (by decide); simpa using this) (.slice B1 n1 d1)
  replace s_Ub := s_Ub.set 0 (.slice B1 n1 d1)
  replace s_Pb := s_Pb.far (p := ⟨w.heap.size + 1 + 1, 0, none⟩) (by first | exact NE_Pb_Ub.out | exact Ne.symm NE_Pb_Ub.out | (simp; done) | (simp; omega) | omega) (.slice B1 n1 d1)
  replace s_Rb := s_Rb.far (p := ⟨w.heap.size + 1 + 1, 0, none⟩) (by first | exact NE_Rb_Ub.out | exact Ne.symm NE_Rb_Ub.out | (simp; done) | (simp; omega) | omega) (.slice B1 n1 d1)
  have t_Pb : HasBlk (w1.setCell ⟨w.heap.size + 1 + 1, 0, none⟩ (.slice B1 n1 d1)) (w.heap.size) 42 #[.slice A1 n1 c1, .slice A2 n2 c2, .slice A3 m c3] := s_Pb
  clear s_Pb Pb
  have t_Rb : HasBlk (w1.setCell ⟨w.heap.size + 1 + 1, 0, none⟩ (.slice B1 n1 d1)) (w.heap.size + 1) 42 #[.slice none 0 0, .slice none 0 0, .slice none 0 0] := s_Rb
  clear s_Rb Rb
  have t_Ub : HasBlk (w1.setCell ⟨w.heap.size + 1 + 1, 0, none⟩ (.slice B1 n1 d1)) (w.heap.size + 1 + 1) 42 #[.slice B1 n1 d1, .slice none 0 0, .slice none 0 0] := by simp only [List.setIfInBounds_toArray, List.set_cons_zero, List.set_cons_succ] at s_Ub; exact s_Ub
  clear s_Ub Ub
  have t_OV : ((w1.setCell ⟨w.heap.size + 1 + 1, 0, none⟩ (.slice B1 n1 d1))).ownsRow (w.heap.size) 51 3 (.slice B1 (n1) (d1)) (n1) (cellsR 3 (fun i j => .int .i64 (V i j)) n1) := s_OV
  clear s_OV OV
  have LE_Ub : w.heap.size ≤ w.heap.size + 1 + 1 := by omega
  have SB3 : Below w.heap.size w (w1.setCell ⟨w.heap.size + 1 + 1, 0, none⟩ (.slice B1 n1 d1)) := (Below.setCell (p := ⟨w.heap.size + 1 + 1, 0, none⟩) SB2h.out LE_Ub _)
  generalize gW_v1 : (w1.setCell ⟨w.heap.size + 1 + 1, 0, none⟩ (.slice B1 n1 d1)) = v1 at *
  clear gW_v1
  have Pb := Lib.hid t_Pb
  clear t_Pb
  have Rb := Lib.hid t_Rb
  clear t_Rb
  have Ub := Lib.hid t_Ub
  clear t_Ub
  have OV := Lib.hid t_OV
  clear t_OV
  clear SB2h
  have SB3h := Lib.hid SB3
  clear SB3
  have lt_Pb := Pb.out.lt
  have Pb_0 := Pb.out.cell 0
  have Pb_1 := Pb.out.cell 1
  have Pb_2 := Pb.out.cell 2
  simp at Pb_0 Pb_1 Pb_2
  have lt_Rb := Rb.out.lt
  have Rb_0 := Rb.out.cell 0
  have Rb_1 := Rb.out.cell 1
  have Rb_2 := Rb.out.cell 2
  have Rb_f0 := Rb.out.frozen 0
  have Rb_f1 := Rb.out.frozen 1
  have Rb_f2 := Rb.out.frozen 2
  simp at Rb_0 Rb_1 Rb_2
  have lt_Ub := Ub.out.lt
  have Ub_0 := Ub.out.cell 0
  have Ub_1 := Ub.out.cell 1
  have Ub_2 := Ub.out.cell 2
  have Ub_f0 := Ub.out.frozen 0
  have Ub_f1 := Ub.out.frozen 1
  have Ub_f2 := Ub.out.frozen 2
  simp at Ub_0 Ub_1 Ub_2
  have szB_v1 := SB3h.out.size
  have hnews := (HU.out.below SB3h.out).news (by omega)
  go_upto_region 4 with (at_builtin; refine wpList_app rfl (.tmp 13) (.tmp 15) 39 rfl w.heap.size 52 iu0 _ 2 16 Try.underlying39 hu0 uz0 uz1 uz2 rfl (by omega) none 0 0 [] rfl (own_nil _ _ 52 2) A2 n2 c2 (cellsR 2 (fun i j => .int .i64 (U i j)) n2) rfl (cellsR_len 2 _ n2) hnews (cellsR_one (fun _ _ => rfl) n2) (by unfold maxLen; omega) (by omega) (by omega) ?_; intro B2 d2 w2 hown hgr; simp only [Nat.zero_add, List.nil_append] at hown ⊢; have bel1 : Below v1.heap.size v1 w2 := below_grown (v := .slice none 0 0) (base := v1.heap.size) (Below.refl _ _) hgr (own_nil _ _ 52 2) (Nat.le_refl _) (by simp); clear hgr; have ZUb := Ub.out.below bel1; have hxU := ZUb.lt; have yUb1 := ZUb.cell 1; have yfUb1 := ZUb.frozen 1; simp at yUb1)
  clear ZUb hxU yUb1 yfUb1
  have OW := Lib.hid hown
  clear hnews hown lt_Pb Pb_0 Pb_1 Pb_2 lt_Rb Rb_0 Rb_1 Rb_2 Rb_f0 Rb_f1 Rb_f2 lt_Ub Ub_0 Ub_1 Ub_2 Ub_f0 Ub_f1 Ub_f2
  have t_Pb := Pb.out.below bel1
  clear Pb
  have Pb := Lib.hid t_Pb
  clear t_Pb
  have t_Rb := Rb.out.below bel1
  clear Rb
  have Rb := Lib.hid t_Rb
  clear t_Rb
  have t_Ub := Ub.out.below bel1
  clear Ub
  have Ub := Lib.hid t_Ub
  clear t_Ub
  have t_OV := own_below OV.out bel1
  clear OV
  have OV := Lib.hid t_OV
  clear t_OV
  have SB4 : Below w.heap.size w w2 := SB3h.out.trans (bel1.mono SB3h.out.size)
  have zb1 := SB3h.out.size
  clear SB3h
  have SB4h := Lib.hid SB4
  clear SB4 bel1
  have s_Pb := Pb.out
  have s_Rb := Rb.out
  have s_Ub := Ub.out
  have s_OV := OV.out
  have s_OW := OW.out
  replace s_OV := ownsRow_setCell_other (a := ⟨w.heap.size + 1 + 1, 1, none⟩) s_OV (by have := s_Ub.ne_own s_OV (by decide); simpa using this) (.slice B2 n2 d2)
  replace s_OW := ownsRow_setCell_other (a := ⟨w.heap.size + 1 + 1, 1, none⟩) s_OW (by have := s_Ub.ne_own s_OW (by decide); simpa using this) (.slice B2 n2 d2)
  replace s_Ub := s_Ub.set 1 (.slice B2 n2 d2)
  replace s_Pb := s_Pb.far (p := ⟨w.heap.size + 1 + 1, 1, none⟩) (by first | exact NE_Pb_Ub.out | exact Ne.symm NE_Pb_Ub.out | (simp; done) | (simp; omega) | omega) (.slice B2 n2 d2)
  replace s_Rb := s_Rb.far (p := ⟨w.heap.size + 1 + 1, 1, none⟩) (by first | exact NE_Rb_Ub.out | exact Ne.symm NE_Rb_Ub.out | (simp; done) | (simp; omega) | omega) (.slice B2 n2 d2)
  have t_Pb : HasBlk (w2.setCell ⟨w.heap.size + 1 + 1, 1, none⟩ (.slice B2 n2 d2)) (w.heap.size) 42 #[.slice A1 n1 c1, .slice A2 n2 c2, .slice A3 m c3] := s_Pb
  clear s_Pb Pb
  have t_Rb : HasBlk (w2.setCell ⟨w.heap.size + 1 + 1, 1, none⟩ (.slice B2 n2 d2)) (w.heap.size + 1) 42 #[.slice none 0 0, .slice none 0 0, .slice none 0 0] := s_Rb
  clear s_Rb Rb
  have t_Ub : HasBlk (w2.setCell ⟨w.heap.size + 1 + 1, 1, none⟩ (.slice B2 n2 d2)) (w.heap.size + 1 + 1) 42 #[.slice B1 n1 d1, .slice B2 n2 d2, .slice none 0 0] := by simp only [List.setIfInBounds_toArray, List.set_cons_zero, List.set_cons_succ] at s_Ub; exact s_Ub
  clear s_Ub Ub
  have t_OV : ((w2.setCell ⟨w.heap.size + 1 + 1, 1, none⟩ (.slice B2 n2 d2))).ownsRow (w.heap.size) 51 3 (.slice B1 (n1) (d1)) (n1) (cellsR 3 (fun i j => .int .i64 (V i j)) n1) := s_OV
  clear s_OV OV
  have t_OW : ((w2.setCell ⟨w.heap.size + 1 + 1, 1, none⟩ (.slice B2 n2 d2))).ownsRow (w.heap.size) 52 2 (.slice B2 (n2) (d2)) (n2) (cellsR 2 (fun i j => .int .i64 (U i j)) n2) := s_OW
  clear s_OW OW
  have LE_Ub : w.heap.size ≤ w.heap.size + 1 + 1 := by omega
  have SB5 : Below w.heap.size w (w2.setCell ⟨w.heap.size + 1 + 1, 1, none⟩ (.slice B2 n2 d2)) := (Below.setCell (p := ⟨w.heap.size + 1 + 1, 1, none⟩) SB4h.out LE_Ub _)
  generalize gW_v2 : (w2.setCell ⟨w.heap.size + 1 + 1, 1, none⟩ (.slice B2 n2 d2)) = v2 at *
  clear gW_v2
  have Pb := Lib.hid t_Pb
  clear t_Pb
  have Rb := Lib.hid t_Rb
  clear t_Rb
  have Ub := Lib.hid t_Ub
  clear t_Ub
  have OV := Lib.hid t_OV
  clear t_OV
  have OW := Lib.hid t_OW
  clear t_OW
  clear SB4h
  have SB5h := Lib.hid SB5
  clear SB5
  have lt_Pb := Pb.out.lt
  have Pb_0 := Pb.out.cell 0
  have Pb_1 := Pb.out.cell 1
  have Pb_2 := Pb.out.cell 2
  simp at Pb_0 Pb_1 Pb_2
  have lt_Rb := Rb.out.lt
  have Rb_0 := Rb.out.cell 0
  have Rb_1 := Rb.out.cell 1
  have Rb_2 := Rb.out.cell 2
  have Rb_f0 := Rb.out.frozen 0
  have Rb_f1 := Rb.out.frozen 1
  have Rb_f2 := Rb.out.frozen 2
  simp at Rb_0 Rb_1 Rb_2
  have lt_Ub := Ub.out.lt
  have Ub_0 := Ub.out.cell 0
  have Ub_1 := Ub.out.cell 1
  have Ub_2 := Ub.out.cell 2
  have Ub_f0 := Ub.out.frozen 0
  have Ub_f1 := Ub.out.frozen 1
  have Ub_f2 := Ub.out.frozen 2
  simp at Ub_0 Ub_1 Ub_2
  have szB_v2 := SB5h.out.size
  have HT0 : TwI w.heap.size w v2 w.heap.size (w.heap.size + 1) (w.heap.size + 1 + 1) #[.slice A1 n1 c1, .slice A2 n2 c2, .slice A3 m c3] #[.slice none 0 0, .slice none 0 0, .slice none 0 0] #[.slice B1 n1 d1, .slice B2 n2 d2, .slice none 0 0] B1 B2 none d1 d2 0 n1 n2 0 V U (reD D (fun _ => none) (fun _ => 0)) := ⟨SB5h.out, Pb.out, Rb.out, Ub.out, ⟨OV.out, OW.out, ⟨own_nil _ _ _ _, fun i hi => absurd hi (by omega)⟩⟩⟩
  have HT1 := Lib.hid HT0
  have hv2 := SB5h.out.size
  clear HT0 Pb Rb Ub OV OW SB5h lt_Pb Pb_0 Pb_1 Pb_2 lt_Rb Rb_0 Rb_1 Rb_2 Rb_f0 Rb_f1 Rb_f2 lt_Ub Ub_0 Ub_1 Ub_2 Ub_f0 Ub_f1 Ub_f2
  go_wp2
  go_loopw [4] (fun i wr => ∃ k : Nat, k ≤ m ∧ i = .int .i64 k ∧ ∃ B3 d3 a c, TwI w.heap.size w wr w.heap.size (w.heap.size + 1) (w.heap.size + 1 + 1) #[.slice A1 n1 c1, .slice A2 n2 c2, .slice A3 m c3] #[.slice none 0 0, .slice none 0 0, .slice none 0 0] #[.slice B1 n1 d1, .slice B2 n2 d2, .slice B3 k d3] B1 B2 B3 d1 d2 d3 n1 n2 k V U (reD D a c)) (fun i wr => m - (intOf i).toNat)
  case atStart => exact ⟨0, Nat.zero_le _, rfl, none, 0, _, _, HT1.out⟩
  case round =>
    obtain ⟨k, hk, rfl, B3, d3, a, c, hT⟩ := hrel
    have HT := Lib.hid hT
    have zb := hT.bel.size
    have p2 := hT.p.cell 2
    have u0 := hT.u.cell 0
    have u1 := hT.u.cell 1
    have u2 := hT.u.cell 2
    have ltU := hT.u.lt
    simp at p2 u0 u1 u2
    by_cases hkm : k < m
    · obtain ⟨b, off, rfl, hbl, hc, hin⟩ := HP.out (by omega)
      have d0 := (hT.bel.cell (p := ⟨b, off + k * 2, none⟩) hbl).trans (hc k hkm).1
      have d1' := (hT.bel.cell (p := ⟨b, off + k * 2 + 1, none⟩) hbl).trans (hc k hkm).2
      have Hin := Lib.hid ((hin k hkm).below' hT.bel)
      have hkn := HN.out k hkm
      have hi0' : (0 : Int) ≤ (k : Int) := by omega
      have hi1' : (k : Int) < (m : Int) := by omega
      have hbr : b < wr.heap.size := by omega
      have hLr := hT.o.p.row.lt
      clear hc hin hT hLr
      go_upto_region 8 with fail
      have bX : Below wr.heap.size wr (wr.alloc (.cells #[.int .u8 (D k).k, .slice none 0 0] 24)) := (Below.refl _ _).alloc (Nat.le_refl _) _
      have X0 := hasBlk_new wr 24 #[.int .u8 (D k).k, .slice none 0 0]
      have p2a := (bX.cell (p := ⟨w.heap.size, 2, none⟩) (show w.heap.size < wr.heap.size by omega)).trans p2
      have d1a := (bX.cell (p := ⟨b, off + k * 2 + 1, none⟩) hbr).trans d1'
      have hnews := (is_row (Hin.out.below bX)).news (by omega)
      have zx : wr.heap.size < (wr.alloc (.cells #[.int .u8 (D k).k, .slice none 0 0] 24)).heap.size := by simp
      generalize wr.alloc (.cells #[.int .u8 (D k).k, .slice none 0 0] 24) = v at *
      have x0 := X0.cell 0
      have x1 := X0.cell 1
      have xf := X0.frozen 1
      simp at x0 x1
      have neP : wr.heap.size ≠ w.heap.size := by omega
      have neB : wr.heap.size ≠ b := by omega
      have HX := Lib.hid X0
      have HbX := Lib.hid bX
      clear X0 bX p2 d0 d1' u0 u1 u2
      go_cut [5] from 32 to 41 (fun s5 wx => s5 = .pointer (some ⟨wr.heap.size, 0, none⟩) ∧ ∃ A' c', Below wr.heap.size wr wx ∧ HasBlk wx wr.heap.size 24 #[.int .u8 (D k).k, .slice A' (D k).n c'] ∧ wx.ownsRow w.heap.size 3 1 (.slice A' (D k).n c') (D k).n (cellsR 1 (ivR (D k).l) (D k).n))
      case first =>
        clear HT Hin
        go_region_law ((refine step_app (by rfl) _ _ _ (by rfl) w.heap.size 3 i0 _ 1 8 Try.underlying22 hi0 hz0 hz1 hz2 rfl (by omega) none 0 0 [] (by rfl) (own_nil _ _ _ _) (D k).a (D k).n (D k).c (cellsR 1 (ivR (D k).l) (D k).n) (by rfl) (cellsR_len 1 _ _) hnews (cellsR_one (fun _ _ => rfl) _) (by unfold maxLen; omega) (by omega) (by simp; omega) ?_; intro A' c' w1 hown hgr; simp only [Nat.zero_add, List.nil_append] at hown ⊢; have b1 : Below v.heap.size v w1 := below_grown (v := .slice none 0 0) (base := v.heap.size) (Below.refl _ _).drew hgr (own_nil _ _ 3 1) (Nat.le_refl _) (by simp); clear hgr; have HO := Lib.hid hown; clear hown; have X1 := HX.out.below b1; have x0' := X1.cell 0; have x1' := X1.cell 1; have xf' := X1.frozen 1; simp at x0' x1'))
        all_goals
          go_wp2_with fail
          go_meet
          have Xs := X1.set 1 (.slice A' (D k).n c')
          simp at Xs
          exact ⟨rfl, A', c', (HbX.out.trans (b1.mono (by omega))).setCell (p := ⟨wr.heap.size, 1, none⟩) (Nat.le_refl _) _, Xs, ownsRow_setCell_other (a := ⟨wr.heap.size, 1, none⟩) HO.out (by have := X1.ne_own HO.out (by decide); simpa using this) (.slice A' (D k).n c')⟩
      case rest =>
      obtain ⟨v1, rfl⟩ : ∃ v1 : World, v1 = wc := ⟨wc, rfl⟩
      obtain ⟨rfl, A', c', bS, Xs, hOI⟩ := hcut
      have HI := Lib.hid hOI
      clear x0 x1 xf HX HbX p2a d1a hnews hOI
      have T1 := HT.out.below (by omega) bS
      have zv := bS.size
      have HT2 := Lib.hid T1
      have u2 := T1.u.cell 2
      have uf := T1.u.frozen 2
      have x0 := Xs.cell 0
      have x1 := Xs.cell 1
      have ltU1 := T1.u.lt
      have ltX := Xs.lt
      simp at u2 x0 x1
      clear T1 HT Xs bS
      have hk100 : k + 1 ≤ 101 := by omega
      go_wp2_with (at_builtin; refine wpList_append_lies _ rfl (.tmp 43) (.tmp 45) _ rfl w.heap.size 24 ip0 _ 2 32 Try.underlying40 hp0 pz0 pz1 pz2 rfl (by omega) (.slice B3 k d3) (k) (cellsR 2 (pv (reD D a c)) k) rfl (HT2.out.o.p.row.alloc _) ⟨v1.heap.size, 0, none⟩ 1 1 [.int .u8 (D k).k, .slice A' (D k).n c'] (by rfl) rfl (World.news_of_block (cs := #[.int .u8 (D k).k, .slice A' (D k).n c']) (t := 24) (fr := (0, 0)) (heap_alloc_new v1 _)) (by simp [Value.oneCell']) (by omega) (by unfold maxLen; omega) (by omega) (by simp; omega) (v1.heap.size + 1) (by simp) ?_; intro g' cap w3 hown3 hgrow hat hlt; have bY : Below v1.heap.size v1 (v1.alloc (.cells #[.int .u8 (D k).k, .slice A' (D k).n c'] 24)) := (Below.refl _ _).alloc (Nat.le_refl _) _; have T3 := HT2.out.below (by omega) bY; have U3 := T3.u.grown hgrow (T3.u.ne_own T3.o.p.row (by decide)); have u23 := U3.cell 2; have uf23 := U3.frozen 2; simp at u23; have HO3 := Lib.hid hown3; have HG3 := Lib.hid hgrow; have HT3 := Lib.hid T3; have HI3 := Lib.hid (own_below HI.out bY); clear T3 U3 bY hown3 hgrow)
      go_roundw
      case rel =>
        refine ⟨k + 1, by omega, by go_num, some ⟨g', 0, none⟩, cap, updF a k A', updF c k c', ?_⟩
        have := HT3.out.push (by simp; omega) (by omega) (by omega) (by omega) HI3.out HG3.out HO3.out
        simpa using this
      case measure => simp [intOf]; omega
    · obtain rfl : k = m := by omega
      have r0 := hT.r.cell 0
      have r1 := hT.r.cell 1
      have r2 := hT.r.cell 2
      have rf0 := hT.r.frozen 0
      have rf1 := hT.r.frozen 1
      have rf2 := hT.r.frozen 2
      have ltR := hT.r.lt
      simp at r0 r1 r2
      clear hT
      go_wp2
      refine bodyPost_ret (v := .agg #[.slice B1 n1 d1, .slice B2 n2 d2, .slice B3 k d3]) (by simp [results, Try.results18, go_sem, *]) rfl ⟨⟨B1, B2, B3, d1, d2, d3, a, c, rfl, ?_⟩, ?_⟩
      · have hR := HT.out.r
        have h0 := HT.out.o.set hR 0 (.slice B1 n1 d1)
        have h1 := h0.set (hR.set 0 (.slice B1 n1 d1)) 1 (.slice B2 n2 d2)
        exact h1.set ((hR.set 0 (.slice B1 n1 d1)).set 1 (.slice B2 n2 d2)) 2 (.slice B3 k d3)
      · have hl : w.heap.size ≤ w.heap.size + 1 := by omega
        exact ((HT.out.bel.setCell (p := ⟨w.heap.size + 1, 0, none⟩) hl _).setCell (p := ⟨w.heap.size + 1, 1, none⟩) hl _).setCell (p := ⟨w.heap.size + 1, 2, none⟩) hl _
end Go.Proofs.Ytkclkillphafkaa
