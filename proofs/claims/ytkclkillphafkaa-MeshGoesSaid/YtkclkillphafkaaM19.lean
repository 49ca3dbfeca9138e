/- mesh.Twin. -/
import Derived.Test.YtkclkillphafkaaM18
namespace Go.Proofs.Ytkclkillphafkaa
open Go.RowKit
set_option linter.unusedVariables false

set_option maxRecDepth 100000 in
set_option maxHeartbeats 4000000 in
theorem twin20_any (A1 A2 A3 : Option Addr) (n1 n2 m c1 c2 c3 : Nat) (V U : Nat → Nat → Int) (D : Nat → PrimD) (w : World) (hV : Row w A1 n1 3 (fun i j => .int .i64 (V i j))) (hU : Row w A2 n2 2 (fun i j => .int .i64 (U i j))) (hp : PL w A3 m D) (hfit : n1 ≤ 1000 ∧ n2 ≤ 1000 ∧ m ≤ 100) (hn : ∀ i, i < m → (D i).n ≤ 1000) :
    Calls Try.prog 20 #[.agg #[.slice A1 n1 c1, .slice A2 n2 c2, .slice A3 m c3]] w fun e w' => MTwin n1 n2 m V U D w.heap.size e w' ∧ Below w.heap.size w w' := by
  have HP := Lib.hid hp
  have HN := Lib.hid hn
  obtain ⟨n1f, n2f, mf⟩ := hfit
  obtain ⟨ip0, hp0, pz0, pz1, pz2⟩ := info_parts prim_info
  have hcV := Lib.hid (fun W' (hb : Below w.heap.size w W') => cloneVec A1 n1 c1 (fun i j => .int .i64 (V i j)) W' (hV.below hb) (fun _ _ => rfl) (by omega))
  have hcU := Lib.hid (fun W' (hb : Below w.heap.size w W') => cloneUV A2 n2 c2 (fun i j => .int .i64 (U i j)) W' (hU.below hb) (fun _ _ => rfl) (by omega))
  clear hV hU hp hn
  go_enter Try.func20, Try.ntmps20
  go_upto_region 2 with fail
  have NE_Pb_Rb := Lib.hid (show w.heap.size ≠ w.heap.size + 1 by omega)
  have s_Pb : HasBlk (w.alloc (.cells #[.slice A1 n1 c1, .slice A2 n2 c2, .slice A3 m c3] 42)) (w.heap.size) 42 #[.slice A1 n1 c1, .slice A2 n2 c2, .slice A3 m c3] := by simpa using hasBlk_new w 42 #[.slice A1 n1 c1, .slice A2 n2 c2, .slice A3 m c3]
  replace s_Pb := s_Pb.alloc (.cells #[.slice none 0 0, .slice none 0 0, .slice none 0 0] 42)
  have s_Rb : HasBlk ((w.alloc (.cells #[.slice A1 n1 c1, .slice A2 n2 c2, .slice A3 m c3] 42)).alloc (.cells #[.slice none 0 0, .slice none 0 0, .slice none 0 0] 42)) (w.heap.size + 1) 42 #[.slice none 0 0, .slice none 0 0, .slice none 0 0] := by simpa using hasBlk_new (w.alloc (.cells #[.slice A1 n1 c1, .slice A2 n2 c2, .slice A3 m c3] 42)) 42 #[.slice none 0 0, .slice none 0 0, .slice none 0 0]
  have t_Pb : HasBlk ((w.alloc (.cells #[.slice A1 n1 c1, .slice A2 n2 c2, .slice A3 m c3] 42)).alloc (.cells #[.slice none 0 0, .slice none 0 0, .slice none 0 0] 42)) (w.heap.size) 42 #[.slice A1 n1 c1, .slice A2 n2 c2, .slice A3 m c3] := by simpa using s_Pb
  clear s_Pb
  have t_Rb : HasBlk ((w.alloc (.cells #[.slice A1 n1 c1, .slice A2 n2 c2, .slice A3 m c3] 42)).alloc (.cells #[.slice none 0 0, .slice none 0 0, .slice none 0 0] 42)) (w.heap.size + 1) 42 #[.slice none 0 0, .slice none 0 0, .slice none 0 0] := by simpa using s_Rb
  clear s_Rb
  have SB1 : Below w.heap.size w ((w.alloc (.cells #[.slice A1 n1 c1, .slice A2 n2 c2, .slice A3 m c3] 42)).alloc (.cells #[.slice none 0 0, .slice none 0 0, .slice none 0 0] 42)) := by
    repeat' (first | exact Below.refl _ _ | assumption | apply Below.drew | refine Below.setCell ?_ (by first | omega | (simp; done) | (simp; omega)) _ | refine Below.alloc ?_ (by first | omega | (simp; done) | (simp; omega)) _)
  generalize gW_v : ((w.alloc (.cells #[.slice A1 n1 c1, .slice A2 n2 c2, .slice A3 m c3] 42)).alloc (.cells #[.slice none 0 0, .slice none 0 0, .slice none 0 0] 42)) = v at *
  clear gW_v
  have Pb := Lib.hid t_Pb
  clear t_Pb
  have Rb := Lib.hid t_Rb
  clear t_Rb
  have SB1h := Lib.hid SB1
  clear SB1
  have lt_Pb := Pb.out.lt
  have Pb_0 := Pb.out.cell 0
  have Pb_1 := Pb.out.cell 1
  have Pb_2 := Pb.out.cell 2
  have Pb_f0 := Pb.out.frozen 0
  have Pb_f1 := Pb.out.frozen 1
  have Pb_f2 := Pb.out.frozen 2
  simp at Pb_0 Pb_1 Pb_2
  have lt_Rb := Rb.out.lt
  have Rb_0 := Rb.out.cell 0
  have Rb_1 := Rb.out.cell 1
  have Rb_2 := Rb.out.cell 2
  have Rb_f0 := Rb.out.frozen 0
  have Rb_f1 := Rb.out.frozen 1
  have Rb_f2 := Rb.out.frozen 2
  simp at Rb_0 Rb_1 Rb_2
  have szB_v := SB1h.out.size
  have pb0 := Pb.out.drew
  have rb0 := Rb.out.drew
  have bl0 := SB1h.out.drew
  have zv0 : w.heap.size ≤ v.drew.heap.size := bl0.size
  clear Pb Rb SB1h
  go_cut [3] from 8 to 16 (fun s3 wx => s3 = .slice A3 m c3 ∧ ∃ B1 B2 d1 d2, TwI w.heap.size w wx (w.heap.size + 1) (w.heap.size + 1) w.heap.size #[.slice none 0 0, .slice none 0 0, .slice none 0 0] #[.slice none 0 0, .slice none 0 0, .slice none 0 0] #[.slice B1 n1 d1, .slice B2 n2 d2, .slice none 0 0] B1 B2 none d1 d2 0 n1 n2 0 V U (reD D (fun _ => none) (fun _ => 0)))
  case first =>
    clear HP HN
    go_region_with ((first | (go_at_call 32; (with_reducible refine (hcV.out _ ?_).mono ?_); (first | with_reducible exact BLu.out | with_reducible exact bl0); rintro e wa ⟨⟨B1, d1, rfl, ho⟩, hbel⟩; have Ov := Lib.hid ho; clear ho; (first | (have PBv := Lib.hid (PBu.out.below hbel); have RBv := Lib.hid (RBu.out.below hbel); have BLv := Lib.hid (BLu.out.trans (hbel.mono BLu.out.size)); have Ou' := Lib.hid (own_below Ou.out hbel)) | (have PBv := Lib.hid (pb0.below hbel); have RBv := Lib.hid (rb0.below hbel); have BLv := Lib.hid (bl0.trans (hbel.mono bl0.size)))); clear hbel; have cv0 := PBv.out.cell 0; have cv1 := PBv.out.cell 1; have cv2 := PBv.out.cell 2; have fv0 := PBv.out.frozen 0; have fv1 := PBv.out.frozen 1; have fv2 := PBv.out.frozen 2; simp at cv0 cv1 cv2) | (go_at_call 33; (with_reducible refine (hcU.out _ ?_).mono ?_); (first | with_reducible exact BLv.out | with_reducible exact bl0); rintro e wb ⟨⟨B2, d2, rfl, ho⟩, hbel⟩; have Ou := Lib.hid ho; clear ho; (first | (have PBu := Lib.hid (PBv.out.below hbel); have RBu := Lib.hid (RBv.out.below hbel); have BLu := Lib.hid (BLv.out.trans (hbel.mono BLv.out.size)); have Ov' := Lib.hid (own_below Ov.out hbel)) | (have PBu := Lib.hid (pb0.below hbel); have RBu := Lib.hid (rb0.below hbel); have BLu := Lib.hid (bl0.trans (hbel.mono bl0.size)))); clear hbel; have cu0 := PBu.out.cell 0; have cu1 := PBu.out.cell 1; have cu2 := PBu.out.cell 2; have fu0 := PBu.out.frozen 0; have fu1 := PBu.out.frozen 1; have fu2 := PBu.out.frozen 2; simp at cu0 cu1 cu2)))
    all_goals (go_wp2_with fail; go_meet; first | (have _ := Ov'; have BLz := BLv.out.size; exact ⟨rfl, B1, B2, d1, d2, (Below.setCell (p := ⟨w.heap.size, 2, none⟩) (Below.setCell (p := ⟨w.heap.size, 1, none⟩) (Below.setCell (p := ⟨w.heap.size, 0, none⟩) BLu.out (Nat.le_refl _) (.slice B1 n1 d1)) (Nat.le_refl _) (.slice B2 n2 d2)) (Nat.le_refl _) (.slice none 0 0)), (HasBlk.far (p := ⟨w.heap.size, 2, none⟩) (HasBlk.far (p := ⟨w.heap.size, 1, none⟩) (HasBlk.far (p := ⟨w.heap.size, 0, none⟩) RBu.out (show w.heap.size ≠ w.heap.size + 1 by omega) (.slice B1 n1 d1)) (show w.heap.size ≠ w.heap.size + 1 by omega) (.slice B2 n2 d2)) (show w.heap.size ≠ w.heap.size + 1 by omega) (.slice none 0 0)), (HasBlk.far (p := ⟨w.heap.size, 2, none⟩) (HasBlk.far (p := ⟨w.heap.size, 1, none⟩) (HasBlk.far (p := ⟨w.heap.size, 0, none⟩) RBu.out (show w.heap.size ≠ w.heap.size + 1 by omega) (.slice B1 n1 d1)) (show w.heap.size ≠ w.heap.size + 1 by omega) (.slice B2 n2 d2)) (show w.heap.size ≠ w.heap.size + 1 by omega) (.slice none 0 0)), (by have := (HasBlk.set (HasBlk.set (HasBlk.set PBu.out 0 (.slice B1 n1 d1)) 1 (.slice B2 n2 d2)) 2 (.slice none 0 0)); simpa using this), ⟨own_base (ownsRow_setCell_other (a := ⟨w.heap.size, 2, none⟩) (ownsRow_setCell_other (a := ⟨w.heap.size, 1, none⟩) (ownsRow_setCell_other (a := ⟨w.heap.size, 0, none⟩) Ov'.out (by have := (PBu.out).ne_own Ov'.out (by decide); simpa using this) (.slice B1 n1 d1)) (by have := ((HasBlk.set PBu.out 0 (.slice B1 n1 d1))).ne_own (ownsRow_setCell_other (a := ⟨w.heap.size, 0, none⟩) Ov'.out (by have := (PBu.out).ne_own Ov'.out (by decide); simpa using this) (.slice B1 n1 d1)) (by decide); simpa using this) (.slice B2 n2 d2)) (by have := ((HasBlk.set (HasBlk.set PBu.out 0 (.slice B1 n1 d1)) 1 (.slice B2 n2 d2))).ne_own (ownsRow_setCell_other (a := ⟨w.heap.size, 1, none⟩) (ownsRow_setCell_other (a := ⟨w.heap.size, 0, none⟩) Ov'.out (by have := (PBu.out).ne_own Ov'.out (by decide); simpa using this) (.slice B1 n1 d1)) (by have := ((HasBlk.set PBu.out 0 (.slice B1 n1 d1))).ne_own (ownsRow_setCell_other (a := ⟨w.heap.size, 0, none⟩) Ov'.out (by have := (PBu.out).ne_own Ov'.out (by decide); simpa using this) (.slice B1 n1 d1)) (by decide); simpa using this) (.slice B2 n2 d2)) (by decide); simpa using this) (.slice none 0 0)) (by omega), own_base (ownsRow_setCell_other (a := ⟨w.heap.size, 2, none⟩) (ownsRow_setCell_other (a := ⟨w.heap.size, 1, none⟩) (ownsRow_setCell_other (a := ⟨w.heap.size, 0, none⟩) Ou.out (by have := (PBu.out).ne_own Ou.out (by decide); simpa using this) (.slice B1 n1 d1)) (by have := ((HasBlk.set PBu.out 0 (.slice B1 n1 d1))).ne_own (ownsRow_setCell_other (a := ⟨w.heap.size, 0, none⟩) Ou.out (by have := (PBu.out).ne_own Ou.out (by decide); simpa using this) (.slice B1 n1 d1)) (by decide); simpa using this) (.slice B2 n2 d2)) (by have := ((HasBlk.set (HasBlk.set PBu.out 0 (.slice B1 n1 d1)) 1 (.slice B2 n2 d2))).ne_own (ownsRow_setCell_other (a := ⟨w.heap.size, 1, none⟩) (ownsRow_setCell_other (a := ⟨w.heap.size, 0, none⟩) Ou.out (by have := (PBu.out).ne_own Ou.out (by decide); simpa using this) (.slice B1 n1 d1)) (by have := ((HasBlk.set PBu.out 0 (.slice B1 n1 d1))).ne_own (ownsRow_setCell_other (a := ⟨w.heap.size, 0, none⟩) Ou.out (by have := (PBu.out).ne_own Ou.out (by decide); simpa using this) (.slice B1 n1 d1)) (by decide); simpa using this) (.slice B2 n2 d2)) (by decide); simpa using this) (.slice none 0 0)) (by omega), ⟨own_nil _ _ _ _, fun i hi => absurd hi (by omega)⟩⟩⟩) | (have _ := Ou'; have BLz := BLu.out.size; exact ⟨rfl, B1, B2, d1, d2, (Below.setCell (p := ⟨w.heap.size, 2, none⟩) (Below.setCell (p := ⟨w.heap.size, 1, none⟩) (Below.setCell (p := ⟨w.heap.size, 0, none⟩) BLv.out (Nat.le_refl _) (.slice B1 n1 d1)) (Nat.le_refl _) (.slice B2 n2 d2)) (Nat.le_refl _) (.slice none 0 0)), (HasBlk.far (p := ⟨w.heap.size, 2, none⟩) (HasBlk.far (p := ⟨w.heap.size, 1, none⟩) (HasBlk.far (p := ⟨w.heap.size, 0, none⟩) RBv.out (show w.heap.size ≠ w.heap.size + 1 by omega) (.slice B1 n1 d1)) (show w.heap.size ≠ w.heap.size + 1 by omega) (.slice B2 n2 d2)) (show w.heap.size ≠ w.heap.size + 1 by omega) (.slice none 0 0)), (HasBlk.far (p := ⟨w.heap.size, 2, none⟩) (HasBlk.far (p := ⟨w.heap.size, 1, none⟩) (HasBlk.far (p := ⟨w.heap.size, 0, none⟩) RBv.out (show w.heap.size ≠ w.heap.size + 1 by omega) (.slice B1 n1 d1)) (show w.heap.size ≠ w.heap.size + 1 by omega) (.slice B2 n2 d2)) (show w.heap.size ≠ w.heap.size + 1 by omega) (.slice none 0 0)), (by have := (HasBlk.set (HasBlk.set (HasBlk.set PBv.out 0 (.slice B1 n1 d1)) 1 (.slice B2 n2 d2)) 2 (.slice none 0 0)); simpa using this), ⟨own_base (ownsRow_setCell_other (a := ⟨w.heap.size, 2, none⟩) (ownsRow_setCell_other (a := ⟨w.heap.size, 1, none⟩) (ownsRow_setCell_other (a := ⟨w.heap.size, 0, none⟩) Ov.out (by have := (PBv.out).ne_own Ov.out (by decide); simpa using this) (.slice B1 n1 d1)) (by have := ((HasBlk.set PBv.out 0 (.slice B1 n1 d1))).ne_own (ownsRow_setCell_other (a := ⟨w.heap.size, 0, none⟩) Ov.out (by have := (PBv.out).ne_own Ov.out (by decide); simpa using this) (.slice B1 n1 d1)) (by decide); simpa using this) (.slice B2 n2 d2)) (by have := ((HasBlk.set (HasBlk.set PBv.out 0 (.slice B1 n1 d1)) 1 (.slice B2 n2 d2))).ne_own (ownsRow_setCell_other (a := ⟨w.heap.size, 1, none⟩) (ownsRow_setCell_other (a := ⟨w.heap.size, 0, none⟩) Ov.out (by have := (PBv.out).ne_own Ov.out (by decide); simpa using this) (.slice B1 n1 d1)) (by have := ((HasBlk.set PBv.out 0 (.slice B1 n1 d1))).ne_own (ownsRow_setCell_other (a := ⟨w.heap.size, 0, none⟩) Ov.out (by have := (PBv.out).ne_own Ov.out (by decide); simpa using this) (.slice B1 n1 d1)) (by decide); simpa using this) (.slice B2 n2 d2)) (by decide); simpa using this) (.slice none 0 0)) (by omega), own_base (ownsRow_setCell_other (a := ⟨w.heap.size, 2, none⟩) (ownsRow_setCell_other (a := ⟨w.heap.size, 1, none⟩) (ownsRow_setCell_other (a := ⟨w.heap.size, 0, none⟩) Ou'.out (by have := (PBv.out).ne_own Ou'.out (by decide); simpa using this) (.slice B1 n1 d1)) (by have := ((HasBlk.set PBv.out 0 (.slice B1 n1 d1))).ne_own (ownsRow_setCell_other (a := ⟨w.heap.size, 0, none⟩) Ou'.out (by have := (PBv.out).ne_own Ou'.out (by decide); simpa using this) (.slice B1 n1 d1)) (by decide); simpa using this) (.slice B2 n2 d2)) (by have := ((HasBlk.set (HasBlk.set PBv.out 0 (.slice B1 n1 d1)) 1 (.slice B2 n2 d2))).ne_own (ownsRow_setCell_other (a := ⟨w.heap.size, 1, none⟩) (ownsRow_setCell_other (a := ⟨w.heap.size, 0, none⟩) Ou'.out (by have := (PBv.out).ne_own Ou'.out (by decide); simpa using this) (.slice B1 n1 d1)) (by have := ((HasBlk.set PBv.out 0 (.slice B1 n1 d1))).ne_own (ownsRow_setCell_other (a := ⟨w.heap.size, 0, none⟩) Ou'.out (by have := (PBv.out).ne_own Ou'.out (by decide); simpa using this) (.slice B1 n1 d1)) (by decide); simpa using this) (.slice B2 n2 d2)) (by decide); simpa using this) (.slice none 0 0)) (by omega), ⟨own_nil _ _ _ _, fun i hi => absurd hi (by omega)⟩⟩⟩))
  case rest =>
    obtain ⟨w2, rfl⟩ : ∃ w2 : World, w2 = wc := ⟨wc, rfl⟩
    obtain ⟨rfl, B1, B2, d1, d2, hT0⟩ := hcut
    have HT1 := Lib.hid hT0
    clear hT0 pb0 rb0 bl0 zv0 hcV hcU lt_Pb Pb_0 Pb_1 Pb_2 Pb_f0 Pb_f1 Pb_f2 lt_Rb Rb_0 Rb_1 Rb_2 Rb_f0 Rb_f1 Rb_f2
    go_wp2
    go_loopw [19] (fun i wr => ∃ k : Nat, k ≤ m ∧ i = .int .i64 k ∧ ∃ B3 d3 a c, TwI w.heap.size w wr (w.heap.size + 1) (w.heap.size + 1) w.heap.size #[.slice none 0 0, .slice none 0 0, .slice none 0 0] #[.slice none 0 0, .slice none 0 0, .slice none 0 0] #[.slice B1 n1 d1, .slice B2 n2 d2, .slice B3 k d3] B1 B2 B3 d1 d2 d3 n1 n2 k V U (reD D a c)) (fun i wr => m - (intOf i).toNat)
    case atStart => exact ⟨0, Nat.zero_le _, rfl, none, 0, _, _, HT1.out⟩
    case round =>
      obtain ⟨k, hk, rfl, B3, d3, a, c, hT⟩ := hrel
      have HT := Lib.hid hT
      have zb := hT.bel.size
      by_cases hkm : k < m
      · obtain ⟨b, off, rfl, hbl, hc, hin⟩ := HP.out (by omega)
        have d0 := (hT.bel.cell (p := ⟨b, off + k * 2, none⟩) hbl).trans (hc k hkm).1
        have d1' := (hT.bel.cell (p := ⟨b, off + k * 2 + 1, none⟩) hbl).trans (hc k hkm).2
        have Hin := Lib.hid ((hin k hkm).below' hT.bel)
        have hkn := HN.out k hkm
        have hi0' : (0 : Int) ≤ (k : Int) := by omega
        have hi1' : (k : Int) < (m : Int) := by omega
        have ltU := hT.u.lt
        have ltR := hT.r.lt
        have HL := Lib.hid hT.o.p.row.lt
        clear hc hin hT
        go_wp2_with fail
        have bX : Below wr.heap.size wr (wr.alloc (.cells #[.int .u8 (D k).k, .slice (D k).a (D k).n (D k).c] 24)) := (Below.refl _ _).alloc (Nat.le_refl _) _
        have X0 := hasBlk_new wr 24 #[.int .u8 (D k).k, .slice (D k).a (D k).n (D k).c]
        have hrow := is_row (Hin.out.below bX)
        generalize wr.alloc (.cells #[.int .u8 (D k).k, .slice (D k).a (D k).n (D k).c] 24) = v1 at *
        refine (cloneInt (D k).a (D k).n (D k).c (ivR (D k).l) v1 hrow (fun _ _ => rfl) (by omega)).mono ?_
        rintro e w1 ⟨⟨A', c', rfl, hown⟩, b1⟩
        have X1 := X0.below b1
        have x0 := X1.cell 0
        have x1 := X1.cell 1
        have xf := X1.frozen 1
        simp at x0 x1
        have bS0 := bX.trans (b1.mono bX.size)
        have HO := Lib.hid (own_base hown (Nat.le_trans zb bX.size))
        have T1 := HT.out.below (by omega) bS0
        have zv := bS0.size
        have ltX := X1.lt
        have HT2 := Lib.hid T1
        have HX1 := Lib.hid X1
        have HbS := Lib.hid bS0
        have u2 := T1.u.cell 2
        have uf := T1.u.frozen 2
        simp at u2
        have neP : wr.heap.size ≠ w.heap.size := by omega
        have neP' : w.heap.size ≠ wr.heap.size := by omega
        clear hrow X0 hown bX b1 X1 bS0 T1 d0 d1' HT Hin
        go_upto_region 7 with fail
        have Xs := HX1.out.set 1 (.slice A' (D k).n c')
        simp at Xs
        have bS : Below wr.heap.size wr (w1.setCell ⟨wr.heap.size, 1, none⟩ (.slice A' (D k).n c')) := HbS.out.setCell (p := ⟨wr.heap.size, 1, none⟩) (Nat.le_refl _) _
        have HI := Lib.hid (ownsRow_setCell_other (a := ⟨wr.heap.size, 1, none⟩) HO.out (by have := HX1.out.ne_own HO.out (by decide); simpa using this) (.slice A' (D k).n c'))
        have T2 : TwI w.heap.size w (w1.setCell ⟨wr.heap.size, 1, none⟩ (.slice A' (D k).n c')) (w.heap.size + 1) (w.heap.size + 1) w.heap.size #[.slice none 0 0, .slice none 0 0, .slice none 0 0] #[.slice none 0 0, .slice none 0 0, .slice none 0 0] #[.slice B1 n1 d1, .slice B2 n2 d2, .slice B3 k d3] B1 B2 B3 d1 d2 d3 n1 n2 k V U (reD D a c) := by
          have h := HT2.out
          have hne : ∀ {e s n : Nat} {v : Value} {xs : List Value}, w1.ownsRow w.heap.size e s v n xs → e ≠ 24 → (w1.setCell ⟨wr.heap.size, 1, none⟩ (.slice A' (D k).n c')).ownsRow w.heap.size e s v n xs :=
            fun ho hx => ownsRow_setCell_other (a := ⟨wr.heap.size, 1, none⟩) ho (by have := HX1.out.ne_own ho hx; simpa using this) _
          refine ⟨h.bel.setCell (p := ⟨wr.heap.size, 1, none⟩) (by omega) _, h.p.far (p := ⟨wr.heap.size, 1, none⟩) (by simp; omega) _, h.r.far (p := ⟨wr.heap.size, 1, none⟩) (by simp; omega) _, h.u.far (p := ⟨wr.heap.size, 1, none⟩) neP _, ⟨hne h.o.v (by decide), hne h.o.u (by decide), ⟨ownsRow_setCell_other (a := ⟨wr.heap.size, 1, none⟩) h.o.p.row ?_ _, fun i hi => hne (h.o.p.ints i hi) (by decide)⟩⟩⟩
          intro he
          have := (HL.out _ he).2
          simp at this
        clear HX1 HbS HO HT2 u2 uf x0 x1 xf
        generalize w1.setCell ⟨wr.heap.size, 1, none⟩ (.slice A' (D k).n c') = v2 at *
        have HT3 := Lib.hid T2
        have zv2 := bS.size
        have u2 := T2.u.cell 2
        have uf := T2.u.frozen 2
        have x0 := Xs.cell 0
        have x1 := Xs.cell 1
        have ltU1 := T2.u.lt
        have ltX1 := Xs.lt
        simp at u2 x0 x1
        clear T2 Xs bS
        have hk100 : k + 1 ≤ 101 := by omega
        go_wp2_with (at_builtin; refine wpList_append_lies _ rfl (.tmp 28) (.tmp 30) _ rfl w.heap.size 24 ip0 _ 2 32 Try.underlying40 hp0 pz0 pz1 pz2 rfl (by omega) (.slice B3 k d3) (k) (cellsR 2 (pv (reD D a c)) k) rfl (HT3.out.o.p.row.alloc _) ⟨v2.heap.size, 0, none⟩ 1 1 [.int .u8 (D k).k, .slice A' (D k).n c'] (by rfl) rfl (World.news_of_block (cs := #[.int .u8 (D k).k, .slice A' (D k).n c']) (t := 24) (fr := (0, 0)) (heap_alloc_new v2 _)) (by simp [Value.oneCell']) (by omega) (by unfold maxLen; omega) (by omega) (by simp; omega) (v2.heap.size + 1) (by simp) ?_; intro g' cap w3 hown3 hgrow hat hlt; have bY : Below v2.heap.size v2 (v2.alloc (.cells #[.int .u8 (D k).k, .slice A' (D k).n c'] 24)) := (Below.refl _ _).alloc (Nat.le_refl _) _; have T4 := HT3.out.below (by omega) bY; have U3 := T4.u.grown hgrow (T4.u.ne_own T4.o.p.row (by decide)); have u23 := U3.cell 2; have uf23 := U3.frozen 2; simp at u23; have HO3 := Lib.hid hown3; have HG3 := Lib.hid hgrow; have HT4 := Lib.hid T4; have HI3 := Lib.hid (own_below HI.out bY); clear T4 U3 bY hown3 hgrow)
        go_roundw
        case rel =>
          refine ⟨k + 1, by omega, by go_num, some ⟨g', 0, none⟩, cap, updF a k A', updF c k c', ?_⟩
          have := HT4.out.push (by simp; omega) (by omega) (by omega) (by omega) HI3.out HG3.out HO3.out
          simpa using this
        case measure => simp [intOf]; omega
      · obtain rfl : k = m := by omega
        have r0 := hT.r.cell 0
        have r1 := hT.r.cell 1
        have r2 := hT.r.cell 2
        have rf0 := hT.r.frozen 0
        have rf1 := hT.r.frozen 1
        have rf2 := hT.r.frozen 2
        have u0 := hT.u.cell 0
        have u1 := hT.u.cell 1
        have u2 := hT.u.cell 2
        have ltR := hT.r.lt
        simp at r0 r1 r2 u0 u1 u2
        clear hT
        go_wp2
        refine bodyPost_ret (v := .agg #[.slice B1 n1 d1, .slice B2 n2 d2, .slice B3 k d3]) (by simp [results, Try.results20, go_sem, *]) rfl ⟨⟨B1, B2, B3, d1, d2, d3, a, c, rfl, ?_⟩, ?_⟩
        · have hR := HT.out.r
          have h0 := HT.out.o.set hR 0 (.slice B1 n1 d1)
          have h1 := h0.set (hR.set 0 (.slice B1 n1 d1)) 1 (.slice B2 n2 d2)
          exact h1.set ((hR.set 0 (.slice B1 n1 d1)).set 1 (.slice B2 n2 d2)) 2 (.slice B3 k d3)
        · have hl : w.heap.size ≤ w.heap.size + 1 := by omega
          exact ((HT.out.bel.setCell (p := ⟨w.heap.size + 1, 0, none⟩) hl _).setCell (p := ⟨w.heap.size + 1, 1, none⟩) hl _).setCell (p := ⟨w.heap.size + 1, 2, none⟩) hl _
end Go.Proofs.Ytkclkillphafkaa
