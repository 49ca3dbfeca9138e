/- TextureTells. -/
import Derived.Test.YtgcappooiecaiaaW23
import Derived.StillTailTactics
namespace Go.Proofs.Ytgcappooiecaiaa
open Go.RowKit
set_option linter.unusedVariables false
attribute [local go_sem ↓] Go.wp_at_zero Go.wp_at_succ
theorem Stay.drew {w wr : World} {W H : Int} {A A1 A2 : Option Addr} {n c c1 c2 b9 b14 : Nat} {f : Nat → Nat → Int} (h : Stay w wr W H A A1 A2 n c c1 c2 b9 b14 f) : Stay w wr.drew W H A A1 A2 n c c1 c2 b9 b14 f := ⟨h.bel.drew, h.p5, h.p9, h.p14, h.r1⟩
theorem Spoil.drew {wr : World} {A2 A1 : Option Addr} {n b5 b9 b14 : Nat} (h : Spoil wr A2 n b5 b9 b14 A1) : Spoil wr.drew A2 n b5 b9 b14 A1 := h

set_option maxRecDepth 100000 in
set_option maxHeartbeats 8000000 in
theorem textureTells_walk (L : Option Addr) (m lc : Nat) (D : Nat → TexD) (W H : Int) (A : Option Addr) (n c : Nat) (f : Nat → Nat → Int) (u v : Int) (w : World) (hl : TL w L m D) (hp : Px w A n f) (hm : (m : Int) ≤ 9223372036854775807) (hn : (n : Int) ≤ 9223372036854775807) (hD : ∀ i, ((D i).n : Int) ≤ 9223372036854775807) (hB : ∀ p, p < n → ∀ j, j < 4 → Byte (f p j)) : Calls Try.prog 9 #[.slice L m lc, .agg #[.int .i64 W, .int .i64 H, .slice A n c], .int .i64 u, .int .i64 v] w fun e w' => e = .returned (.bool true) ∧ Below w.heap.size w w' := by
  have Hl := Lib.hid hl
  have Hp := Lib.hid hp
  have HD := Lib.hid hD
  have HB := Lib.hid hB
  have hq := eql_col
  have hq2 := fun (a0 a1 a2 a3 b0 b1 b2 b3 : Int) (w : World) => equalIn_of_eql (eql_col a0 a1 a2 a3 b0 b1 b2 b3 w)
  clear hl hp hD hB hq
  go_enter Try.func9, Try.ntmps9
  go_wp2_with fail
  refine (great_any L m lc D _ (Hl.out.below (by repeat' (first | exact Below.refl _ _ | assumption | apply Below.drew | refine Below.setCell ?_ (by first | omega | (simp; done) | (simp; omega)) _ | refine Below.alloc ?_ (by first | omega | (simp; done) | (simp; omega)) _))) hm HD.out).mono ?_
  rintro e w1 ⟨hg, rfl⟩
  rcases hg with rfl | ⟨rfl, hm40, hD20⟩
  · go_wp2
    go_ret
    exact ⟨rfl, by repeat' (first | exact Below.refl _ _ | assumption | apply Below.drew | refine Below.setCell ?_ (by first | omega | (simp; done) | (simp; omega)) _ | refine Below.alloc ?_ (by first | omega | (simp; done) | (simp; omega)) _)⟩
  clear hD20
  by_cases h10 : 10000 < n
  · have g10 : decide ((10000 : Int) < (n : Int)) = true := decide_eq_true (by omega)
    go_wp2
    go_ret
    exact ⟨rfl, by repeat' (first | exact Below.refl _ _ | assumption | apply Below.drew | refine Below.setCell ?_ (by first | omega | (simp; done) | (simp; omega)) _ | refine Below.alloc ?_ (by first | omega | (simp; done) | (simp; omega)) _)⟩
  have g10 : decide ((10000 : Int) < (n : Int)) = false := decide_eq_false (by omega)
  go_wp2_with fail
  refine (twin25 W H A n c (fun p j => .int .u8 (f p j)) _ (Row.below Hp.out (by repeat' (first | exact Below.refl _ _ | assumption | apply Below.drew | refine Below.setCell ?_ (by first | omega | (simp; done) | (simp; omega)) _ | refine Below.alloc ?_ (by first | omega | (simp; done) | (simp; omega)) _))) (fun _ _ => rfl) (by omega)).mono ?_
  rintro e w2 ⟨⟨A1, c1, rfl, hown⟩, bel2⟩
  simp only [World.size_alloc] at hown
  have zz := bel2.size
  simp at zz
  have lA1 := Lib.hid (hown.lt)
  have R1 := Lib.hid (Row.of_cells hown)
  clear hown
  have BB1 : Below w.heap.size w w2 := by
    skip
    refine Below.trans ?_ (bel2.mono (by first | omega | (simp; done) | (simp; omega)))
    repeat' (first | exact Below.refl _ _ | assumption | apply Below.drew | refine Below.setCell ?_ (by first | omega | (simp; done) | (simp; omega)) _ | refine Below.alloc ?_ (by first | omega | (simp; done) | (simp; omega)) _)
  have P : Hid (HasBlk w2 (w.heap.size) 30 #[.int .i64 W, .int .i64 H, .slice A n c]) := Lib.hid (by have := (hasBlk_new w 30 #[.int .i64 W, .int .i64 H, .slice A n c]).below bel2; simpa using this)
  have BB1s := BB1.size
  have HBB1 := Lib.hid BB1
  clear BB1
  have lt_P := P.out.lt
  have P_0 := P.out.cell 0
  have P_1 := P.out.cell 1
  have P_2 := P.out.cell 2
  simp at P_0 P_1 P_2
  go_wp2_with fail
  refine (at21_any W H u v A1 n c1 f _ (Row.below R1.out (by repeat' (first | exact Below.refl _ _ | assumption | apply Below.drew | refine Below.setCell ?_ (by first | omega | (simp; done) | (simp; omega)) _ | refine Below.alloc ?_ (by first | omega | (simp; done) | (simp; omega)) _)))).mono ?_
  rintro e w3 ⟨rfl, bel3⟩
  have z3 := bel3.size
  simp at z3
  have b23 := Below.trans (Below.alloc (Below.refl w2.heap.size w2) (Nat.le_refl _) (.cells #[.int .i64 W, .int .i64 H, .slice A1 n c1] 30)) (bel3.mono (by simp))
  clear lt_P P_0 P_1 P_2
  have BB2 : Below w.heap.size w w3 := by
    have bel0 := HBB1.out
    refine Below.trans ?_ (bel3.mono (by first | omega | (simp; done) | (simp; omega)))
    repeat' (first | exact Below.refl _ _ | assumption | apply Below.drew | refine Below.setCell ?_ (by first | omega | (simp; done) | (simp; omega)) _ | refine Below.alloc ?_ (by first | omega | (simp; done) | (simp; omega)) _)
  have t_P : HasBlk w3 (w.heap.size) 30 #[.int .i64 W, .int .i64 H, .slice A n c] := by first | exact P.out.below bel3 | exact (P.out.alloc _).below bel3 | exact ((P.out.alloc _).alloc _).below bel3 | exact (((P.out.alloc _).alloc _).alloc _).below bel3
  clear P
  have P := Lib.hid t_P
  clear t_P
  have Q : Hid (HasBlk w3 (w2.heap.size) 30 #[.int .i64 W, .int .i64 H, .slice A1 n c1]) := Lib.hid (by have := (hasBlk_new w2 30 #[.int .i64 W, .int .i64 H, .slice A1 n c1]).below bel3; simpa using this)
  clear HBB1
  have BB2s := BB2.size
  have HBB2 := Lib.hid BB2
  clear BB2
  clear bel2
  have lt_P := P.out.lt
  have P_0 := P.out.cell 0
  have P_1 := P.out.cell 1
  have P_2 := P.out.cell 2
  simp at P_0 P_1 P_2
  have lt_Q := Q.out.lt
  have Q_0 := Q.out.cell 0
  have Q_1 := Q.out.cell 1
  have Q_2 := Q.out.cell 2
  simp at Q_0 Q_1 Q_2
  go_wp2_with fail
  refine (at26_any W H u v A n c f _ (Px.below Hp.out (by have bel0 := HBB2.out; repeat' (first | exact Below.refl _ _ | assumption | apply Below.drew | refine Below.setCell ?_ (by first | omega | (simp; done) | (simp; omega)) _ | refine Below.alloc ?_ (by first | omega | (simp; done) | (simp; omega)) _)))).mono ?_
  rintro e w4 ⟨rfl, bel4⟩
  have z4 := bel4.size
  simp at z4
  have b24 := b23.trans (Below.trans (Below.alloc (Below.refl w3.heap.size w3) (Nat.le_refl _) (.cells #[.int .u8 (AtC W H n f u v 0), .int .u8 (AtC W H n f u v 1), .int .u8 (AtC W H n f u v 2), .int .u8 (AtC W H n f u v 3)] 23)) (bel4.mono (by simp)) |>.mono (by omega))
  clear lt_P P_0 P_1 P_2 lt_Q Q_0 Q_1 Q_2
  have BB3 : Below w.heap.size w w4 := by
    have bel0 := HBB2.out
    refine Below.trans ?_ (bel4.mono (by first | omega | (simp; done) | (simp; omega)))
    repeat' (first | exact Below.refl _ _ | assumption | apply Below.drew | refine Below.setCell ?_ (by first | omega | (simp; done) | (simp; omega)) _ | refine Below.alloc ?_ (by first | omega | (simp; done) | (simp; omega)) _)
  have t_P : HasBlk w4 (w.heap.size) 30 #[.int .i64 W, .int .i64 H, .slice A n c] := by first | exact P.out.below bel4 | exact (P.out.alloc _).below bel4 | exact ((P.out.alloc _).alloc _).below bel4 | exact (((P.out.alloc _).alloc _).alloc _).below bel4
  clear P
  have P := Lib.hid t_P
  clear t_P
  have t_Q : HasBlk w4 (w2.heap.size) 30 #[.int .i64 W, .int .i64 H, .slice A1 n c1] := by first | exact Q.out.below bel4 | exact (Q.out.alloc _).below bel4 | exact ((Q.out.alloc _).alloc _).below bel4 | exact (((Q.out.alloc _).alloc _).alloc _).below bel4
  clear Q
  have Q := Lib.hid t_Q
  clear t_Q
  have C1 : Hid (HasBlk w4 (w3.heap.size) 23 #[.int .u8 (AtC W H n f u v 0), .int .u8 (AtC W H n f u v 1), .int .u8 (AtC W H n f u v 2), .int .u8 (AtC W H n f u v 3)]) := Lib.hid (by have := (hasBlk_new w3 23 #[.int .u8 (AtC W H n f u v 0), .int .u8 (AtC W H n f u v 1), .int .u8 (AtC W H n f u v 2), .int .u8 (AtC W H n f u v 3)]).below bel4; simpa using this)
  clear HBB2
  have BB3s := BB3.size
  have HBB3 := Lib.hid BB3
  clear BB3
  clear bel3 b23
  have lt_P := P.out.lt
  have P_0 := P.out.cell 0
  have P_1 := P.out.cell 1
  have P_2 := P.out.cell 2
  simp at P_0 P_1 P_2
  have lt_Q := Q.out.lt
  have Q_0 := Q.out.cell 0
  have Q_1 := Q.out.cell 1
  have Q_2 := Q.out.cell 2
  simp at Q_0 Q_1 Q_2
  have lt_C1 := C1.out.lt
  have C1_0 := C1.out.cell 0
  have C1_1 := C1.out.cell 1
  have C1_2 := C1.out.cell 2
  have C1_3 := C1.out.cell 3
  simp at C1_0 C1_1 C1_2 C1_3
  go_wp2_with fail
  refine (twin27 W H A1 n c1 (fun p j => .int .u8 (f p j)) _ (Row.below (R1.out.below b24) (by repeat' (first | exact Below.refl _ _ | assumption | apply Below.drew | refine Below.setCell ?_ (by first | omega | (simp; done) | (simp; omega)) _ | refine Below.alloc ?_ (by first | omega | (simp; done) | (simp; omega)) _))) (fun _ _ => rfl) (by omega)).mono ?_
  rintro e w5 ⟨⟨A2, c2, rfl, hown⟩, bel5⟩
  simp only [World.size_alloc] at hown
  have z5 := bel5.size
  simp at z5
  have b25 := b24.trans (Below.trans (Below.alloc (Below.refl w4.heap.size w4) (Nat.le_refl _) (.cells #[.int .u8 (AtC W H n f u v 0), .int .u8 (AtC W H n f u v 1), .int .u8 (AtC W H n f u v 2), .int .u8 (AtC W H n f u v 3)] 23)) (bel5.mono (by simp)) |>.mono (by omega))
  have O2 := Lib.hid hown
  have R2 := Lib.hid (Row.of_cells hown)
  clear hown
  clear lt_P P_0 P_1 P_2 lt_Q Q_0 Q_1 Q_2 lt_C1 C1_0 C1_1 C1_2 C1_3
  have BB4 : Below w.heap.size w w5 := by
    have bel0 := HBB3.out
    refine Below.trans ?_ (bel5.mono (by first | omega | (simp; done) | (simp; omega)))
    repeat' (first | exact Below.refl _ _ | assumption | apply Below.drew | refine Below.setCell ?_ (by first | omega | (simp; done) | (simp; omega)) _ | refine Below.alloc ?_ (by first | omega | (simp; done) | (simp; omega)) _)
  have t_P : HasBlk w5 (w.heap.size) 30 #[.int .i64 W, .int .i64 H, .slice A n c] := by first | exact P.out.below bel5 | exact (P.out.alloc _).below bel5 | exact ((P.out.alloc _).alloc _).below bel5 | exact (((P.out.alloc _).alloc _).alloc _).below bel5
  clear P
  have P := Lib.hid t_P
  clear t_P
  have t_Q : HasBlk w5 (w2.heap.size) 30 #[.int .i64 W, .int .i64 H, .slice A1 n c1] := by first | exact Q.out.below bel5 | exact (Q.out.alloc _).below bel5 | exact ((Q.out.alloc _).alloc _).below bel5 | exact (((Q.out.alloc _).alloc _).alloc _).below bel5
  clear Q
  have Q := Lib.hid t_Q
  clear t_Q
  have t_C1 : HasBlk w5 (w3.heap.size) 23 #[.int .u8 (AtC W H n f u v 0), .int .u8 (AtC W H n f u v 1), .int .u8 (AtC W H n f u v 2), .int .u8 (AtC W H n f u v 3)] := by first | exact C1.out.below bel5 | exact (C1.out.alloc _).below bel5 | exact ((C1.out.alloc _).alloc _).below bel5 | exact (((C1.out.alloc _).alloc _).alloc _).below bel5
  clear C1
  have C1 := Lib.hid t_C1
  clear t_C1
  have C2 : Hid (HasBlk w5 (w4.heap.size) 23 #[.int .u8 (AtC W H n f u v 0), .int .u8 (AtC W H n f u v 1), .int .u8 (AtC W H n f u v 2), .int .u8 (AtC W H n f u v 3)]) := Lib.hid (by have := (hasBlk_new w4 23 #[.int .u8 (AtC W H n f u v 0), .int .u8 (AtC W H n f u v 1), .int .u8 (AtC W H n f u v 2), .int .u8 (AtC W H n f u v 3)]).below bel5; simpa using this)
  clear HBB3
  have BB4s := BB4.size
  have HBB4 := Lib.hid BB4
  clear BB4
  clear bel4 b24
  have lt_P := P.out.lt
  have P_0 := P.out.cell 0
  have P_1 := P.out.cell 1
  have P_2 := P.out.cell 2
  simp at P_0 P_1 P_2
  have lt_Q := Q.out.lt
  have Q_0 := Q.out.cell 0
  have Q_1 := Q.out.cell 1
  have Q_2 := Q.out.cell 2
  simp at Q_0 Q_1 Q_2
  have lt_C1 := C1.out.lt
  have C1_0 := C1.out.cell 0
  have C1_1 := C1.out.cell 1
  have C1_2 := C1.out.cell 2
  have C1_3 := C1.out.cell 3
  simp at C1_0 C1_1 C1_2 C1_3
  have lt_C2 := C2.out.lt
  have C2_0 := C2.out.cell 0
  have C2_1 := C2.out.cell 1
  have C2_2 := C2.out.cell 2
  have C2_3 := C2.out.cell 3
  simp at C2_0 C2_1 C2_2 C2_3
  have hr2 : Px w5 A2 n f := R2.out
  have hr1 : Px w5 A1 n f := Row.below R1.out b25
  have h28 := Lib.hid (fun W' (h : Below w5.heap.size w5 W') => same28_true W W H H A2 A n n c2 c f f W' (hr2.below h) ((Hp.out.below (HBB4.out)).below h) hn hn (sameT_refl W H n f))
  have h23 := Lib.hid (fun W' (h : Below w5.heap.size w5 W') => checks_any L m lc D W' ((Hl.out.below (HBB4.out)).below h))
  have h29 := Lib.hid (fun W' (h : Below w5.heap.size w5 W') => refchecks_any L m lc D W' ((Hl.out.below (HBB4.out)).below h))
  have hck : ((∀ W', Calls Try.prog 20 #[.agg #[.int .i64 W, .int .i64 H, .slice A1 n c1]] W' fun e w' => e = .returned (.int .i64 0) ∧ Below W'.heap.size W' w') ∧ (∀ W', Calls Try.prog 30 #[.agg #[.int .i64 W, .int .i64 H, .slice A n c]] W' fun e w' => e = .returned (.bool true) ∧ Below W'.heap.size W' w')) ∨
      ((∀ W', Calls Try.prog 20 #[.agg #[.int .i64 W, .int .i64 H, .slice A1 n c1]] W' fun e w' => e = .returned (.int .i64 8) ∧ Below W'.heap.size W' w') ∧ (∀ W', Calls Try.prog 30 #[.agg #[.int .i64 W, .int .i64 H, .slice A n c]] W' fun e w' => e = .returned (.bool false) ∧ Below W'.heap.size W' w')) := by
    by_cases hM : May W H n
    · exact .inl ⟨fun W' => check_ok W H A1 n c1 W' hM, fun W' => may_yes W H A n c W' hM⟩
    · exact .inr ⟨fun W' => check_bad W H A1 n c1 W' hM, fun W' => may_no W H A n c W' hM⟩
  have Hck := Lib.hid hck
  clear hck
  have hkp : Keeps (fun Wo => (Below w5.heap.size w5 Wo ∧ w5.heap.size ≤ Wo.heap.size) ∧ w5.heap.size < Wo.heap.size ∧ Wo.cell? ⟨w.heap.size, 0, none⟩ = some (.int .i64 W) ∧ Wo.cell? ⟨w.heap.size, 1, none⟩ = some (.int .i64 H) ∧ Wo.cell? ⟨w.heap.size, 2, none⟩ = some (.slice A n c) ∧ Wo.cell? ⟨w2.heap.size, 0, none⟩ = some (.int .i64 W) ∧ Wo.cell? ⟨w2.heap.size, 1, none⟩ = some (.int .i64 H) ∧ Wo.cell? ⟨w2.heap.size, 2, none⟩ = some (.slice A1 n c1) ∧ Wo.cell? ⟨w3.heap.size, 0, none⟩ = some (.int .u8 (AtC W H n f u v 0)) ∧ Wo.cell? ⟨w3.heap.size, 1, none⟩ = some (.int .u8 (AtC W H n f u v 1)) ∧ Wo.cell? ⟨w3.heap.size, 2, none⟩ = some (.int .u8 (AtC W H n f u v 2)) ∧ Wo.cell? ⟨w3.heap.size, 3, none⟩ = some (.int .u8 (AtC W H n f u v 3)) ∧ Wo.cell? ⟨w4.heap.size, 0, none⟩ = some (.int .u8 (AtC W H n f u v 0)) ∧ Wo.cell? ⟨w4.heap.size, 1, none⟩ = some (.int .u8 (AtC W H n f u v 1)) ∧ Wo.cell? ⟨w4.heap.size, 2, none⟩ = some (.int .u8 (AtC W H n f u v 2)) ∧ Wo.cell? ⟨w4.heap.size, 3, none⟩ = some (.int .u8 (AtC W H n f u v 3)) ∧ Wo.cell? ⟨w5.heap.size, 0, none⟩ = some (.int .i64 W) ∧ Wo.cell? ⟨w5.heap.size, 1, none⟩ = some (.int .i64 H) ∧ Wo.cell? ⟨w5.heap.size, 2, none⟩ = some (.slice A2 n c2) ∧ HasBlk Wo w5.heap.size 30 #[.int .i64 W, .int .i64 H, .slice A2 n c2]) := by
    repeat' (first | exact Keeps.below _ | exact Keeps.hasblk _ _ _ | exact Keeps.size _ | exact Keeps.cell _ _ | apply Keeps.and)
  have HR2 := Lib.hid hr2
  have HR1 := Lib.hid hr1
  have HB5 := Lib.hid (HBB4.out)
  have PP := P
  have QQ := Q
  clear hr1 hr2 bel5 b25
  go_wp2_with fail
  rcases Hck.out with ⟨h20, h30⟩ | ⟨h20, h30⟩
  all_goals
    have H20 := Lib.hid h20
    have H30 := Lib.hid h30
    clear h20 h30
    go_region_held3 (fun Wo => (Below w5.heap.size w5 Wo ∧ w5.heap.size ≤ Wo.heap.size) ∧ w5.heap.size < Wo.heap.size ∧ Wo.cell? ⟨w.heap.size, 0, none⟩ = some (.int .i64 W) ∧ Wo.cell? ⟨w.heap.size, 1, none⟩ = some (.int .i64 H) ∧ Wo.cell? ⟨w.heap.size, 2, none⟩ = some (.slice A n c) ∧ Wo.cell? ⟨w2.heap.size, 0, none⟩ = some (.int .i64 W) ∧ Wo.cell? ⟨w2.heap.size, 1, none⟩ = some (.int .i64 H) ∧ Wo.cell? ⟨w2.heap.size, 2, none⟩ = some (.slice A1 n c1) ∧ Wo.cell? ⟨w3.heap.size, 0, none⟩ = some (.int .u8 (AtC W H n f u v 0)) ∧ Wo.cell? ⟨w3.heap.size, 1, none⟩ = some (.int .u8 (AtC W H n f u v 1)) ∧ Wo.cell? ⟨w3.heap.size, 2, none⟩ = some (.int .u8 (AtC W H n f u v 2)) ∧ Wo.cell? ⟨w3.heap.size, 3, none⟩ = some (.int .u8 (AtC W H n f u v 3)) ∧ Wo.cell? ⟨w4.heap.size, 0, none⟩ = some (.int .u8 (AtC W H n f u v 0)) ∧ Wo.cell? ⟨w4.heap.size, 1, none⟩ = some (.int .u8 (AtC W H n f u v 1)) ∧ Wo.cell? ⟨w4.heap.size, 2, none⟩ = some (.int .u8 (AtC W H n f u v 2)) ∧ Wo.cell? ⟨w4.heap.size, 3, none⟩ = some (.int .u8 (AtC W H n f u v 3)) ∧ Wo.cell? ⟨w5.heap.size, 0, none⟩ = some (.int .i64 W) ∧ Wo.cell? ⟨w5.heap.size, 1, none⟩ = some (.int .i64 H) ∧ Wo.cell? ⟨w5.heap.size, 2, none⟩ = some (.slice A2 n c2) ∧ HasBlk Wo w5.heap.size 30 #[.int .i64 W, .int .i64 H, .slice A2 n c2])
      (first | exact hkp _ _ hbel (by assumption) | (refine ⟨⟨?_, by first | omega | (simp; done) | (simp; omega)⟩, by first | omega | (simp; done) | (simp; omega), by simp [go_sem, *], by simp [go_sem, *], by simp [go_sem, *], by simp [go_sem, *], by simp [go_sem, *], by simp [go_sem, *], by simp [go_sem, *], by simp [go_sem, *], by simp [go_sem, *], by simp [go_sem, *], by simp [go_sem, *], by simp [go_sem, *], by simp [go_sem, *], by simp [go_sem, *], by simp [go_sem, *], by simp [go_sem, *], by simp [go_sem, *], (hasBlk_new _ _ _).drew⟩; repeat' (first | exact Below.refl _ _ | assumption | apply Below.drew | refine Below.setCell ?_ (by first | omega | (simp; done) | (simp; omega)) _ | refine Below.alloc ?_ (by first | omega | (simp; done) | (simp; omega)) _)) | fail "keep")
      (first
        | (go_at_call 28; (with_reducible refine (h28.out _ ?_).mono ?_); (first | exact (‹(Below w5.heap.size w5 _ ∧ _) ∧ _›).1.1 | (repeat' (first | exact Below.refl _ _ | assumption | apply Below.drew | refine Below.setCell ?_ (by first | omega | (simp; done) | (simp; omega)) _ | refine Below.alloc ?_ (by first | omega | (simp; done) | (simp; omega)) _))); rintro e w' ⟨rfl, hbel⟩)
        | (go_at_call 23; (with_reducible refine (h23.out _ ?_).mono ?_); (first | exact (‹(Below w5.heap.size w5 _ ∧ _) ∧ _›).1.1 | (repeat' (first | exact Below.refl _ _ | assumption | apply Below.drew | refine Below.setCell ?_ (by first | omega | (simp; done) | (simp; omega)) _ | refine Below.alloc ?_ (by first | omega | (simp; done) | (simp; omega)) _))); rintro e w' ⟨rfl, hbel⟩)
        | (go_at_call 29; (with_reducible refine (h29.out _ ?_).mono ?_); (first | exact (‹(Below w5.heap.size w5 _ ∧ _) ∧ _›).1.1 | (repeat' (first | exact Below.refl _ _ | assumption | apply Below.drew | refine Below.setCell ?_ (by first | omega | (simp; done) | (simp; omega)) _ | refine Below.alloc ?_ (by first | omega | (simp; done) | (simp; omega)) _))); rintro e w' ⟨rfl, hbel⟩)
        | (go_at_call 20; (with_reducible refine (H20.out _).mono ?_); rintro e w' ⟨rfl, hbel⟩)
        | (go_at_call 30; (with_reducible refine (H30.out _).mono ?_); rintro e w' ⟨rfl, hbel⟩))
    go_wp2
    obtain ⟨⟨bS, zS⟩, hS2⟩ := (‹(Below w5.heap.size w5 w' ∧ _) ∧ _›)
    have st : Stay w w' W H A A1 A2 n c c1 c2 w2.heap.size w5.heap.size f := ⟨HB5.out.trans (bS.mono HB5.out.size), PP.out.below bS, QQ.out.below bS, hS2.2.2.2.2.2.2.2.2.2.2.2.2.2.2.2.2.2.2, HR1.out.below bS⟩
    have sp : Spoil w' A2 n w.heap.size w2.heap.size w5.heap.size A1 := (spoil_of_own O2.out (by omega) (by omega) (Nat.le_refl _) (fun a ha => by
      subst ha
      have := (lA1.out a.block rfl).2
      omega)).below bS
    clear hS2 H20 H30
    go_loopw [15] (fun i wr => ∃ k : Nat, k ≤ m ∧ i = .int .i64 k ∧ Stay w wr W H A A1 A2 n c c1 c2 w2.heap.size w5.heap.size f ∧ Spoil wr A2 n w.heap.size w2.heap.size w5.heap.size A1) (fun i wr => m - (intOf i).toNat)
    case atStart => exact ⟨0, Nat.zero_le _, rfl, st, sp⟩
    case round =>
      clear st sp
      obtain ⟨k, hk, rfl, st, sp⟩ := hrel
      have hi0 : (0 : Int) ≤ (k : Int) := by omega
      by_cases hkm : k < m
      · obtain ⟨g, o, rfl, hg, hc, hpx⟩ := Hl.out.below st.bel (by omega)
        obtain ⟨e0, e1, e2⟩ := hc k hkm
        obtain ⟨b, hb⟩ := bool_of (SameT W (D k).W H (D k).H n (D k).n f (D k).f)
        have h31 := Lib.hid (fun W' (h : Below wr.heap.size wr W') => same31_at b W (D k).W H (D k).H A1 (D k).a n (D k).n c1 (D k).c f (D k).f W' (st.r1.below h) ((hpx k hkm).below h) hn (HD.out k) hb)
        have h28 := Lib.hid (fun W' (h : Below wr.heap.size wr W') => same28_at b W (D k).W H (D k).H A (D k).a n (D k).n c (D k).c f (D k).f W' ((Hp.out.below st.bel).below h) ((hpx k hkm).below h) hn (HD.out k) hb)
        have ST := Lib.hid st
        have SP := Lib.hid sp
        have a0 := st.p5.cell 0
        have a1 := st.p5.cell 1
        have a2 := st.p5.cell 2
        have q0 := st.p9.cell 0
        have q1 := st.p9.cell 1
        have q2 := st.p9.cell 2
        simp at a0 a1 a2 q0 q1 q2
        have la := st.p5.lt
        have lq := st.p9.lt
        have hi1 : (k : Int) < (m : Int) := by omega
        have hkp2 : Keeps (fun Wo => (Below wr.heap.size wr Wo ∧ wr.heap.size ≤ Wo.heap.size) ∧ Wo.cell? ⟨w.heap.size, 0, none⟩ = some (.int .i64 W) ∧ Wo.cell? ⟨w.heap.size, 1, none⟩ = some (.int .i64 H) ∧ Wo.cell? ⟨w.heap.size, 2, none⟩ = some (.slice A n c) ∧ Wo.cell? ⟨w2.heap.size, 0, none⟩ = some (.int .i64 W) ∧ Wo.cell? ⟨w2.heap.size, 1, none⟩ = some (.int .i64 H) ∧ Wo.cell? ⟨w2.heap.size, 2, none⟩ = some (.slice A1 n c1) ∧ Wo.cell? ⟨g, o + k * 3, none⟩ = some (.int .i64 (D k).W) ∧ Wo.cell? ⟨g, o + k * 3 + 1, none⟩ = some (.int .i64 (D k).H) ∧ Wo.cell? ⟨g, o + k * 3 + 2, none⟩ = some (.slice (D k).a (D k).n (D k).c)) := by
          repeat' (first | exact Keeps.below _ | exact Keeps.size _ | exact Keeps.cell _ _ | apply Keeps.and)
        clear hc hpx hb st sp
        go_wp2_with fail
        go_region_held3 (fun Wo => (Below wr.heap.size wr Wo ∧ wr.heap.size ≤ Wo.heap.size) ∧ Wo.cell? ⟨w.heap.size, 0, none⟩ = some (.int .i64 W) ∧ Wo.cell? ⟨w.heap.size, 1, none⟩ = some (.int .i64 H) ∧ Wo.cell? ⟨w.heap.size, 2, none⟩ = some (.slice A n c) ∧ Wo.cell? ⟨w2.heap.size, 0, none⟩ = some (.int .i64 W) ∧ Wo.cell? ⟨w2.heap.size, 1, none⟩ = some (.int .i64 H) ∧ Wo.cell? ⟨w2.heap.size, 2, none⟩ = some (.slice A1 n c1) ∧ Wo.cell? ⟨g, o + k * 3, none⟩ = some (.int .i64 (D k).W) ∧ Wo.cell? ⟨g, o + k * 3 + 1, none⟩ = some (.int .i64 (D k).H) ∧ Wo.cell? ⟨g, o + k * 3 + 2, none⟩ = some (.slice (D k).a (D k).n (D k).c))
          (first | exact hkp2 _ _ hbel2 (by assumption) | (refine ⟨⟨?_, by first | omega | (simp; done) | (simp; omega)⟩, by simp [go_sem, *], by simp [go_sem, *], by simp [go_sem, *], by simp [go_sem, *], by simp [go_sem, *], by simp [go_sem, *], by simp [go_sem, *], by simp [go_sem, *], by simp [go_sem, *]⟩; repeat' (first | exact Below.refl _ _ | assumption | apply Below.drew | refine Below.setCell ?_ (by first | omega | (simp; done) | (simp; omega)) _ | refine Below.alloc ?_ (by first | omega | (simp; done) | (simp; omega)) _)) | fail "keep")
          (first
            | (go_at_call 31; (with_reducible refine (h31.out _ ?_).mono ?_); (first | exact (‹(Below wr.heap.size wr _ ∧ _) ∧ _›).1.1 | (repeat' (first | exact Below.refl _ _ | assumption | apply Below.drew | refine Below.setCell ?_ (by first | omega | (simp; done) | (simp; omega)) _ | refine Below.alloc ?_ (by first | omega | (simp; done) | (simp; omega)) _))); rintro e w' ⟨rfl, hbel2⟩)
            | (go_at_call 28; (with_reducible refine (h28.out _ ?_).mono ?_); (first | exact (‹(Below wr.heap.size wr _ ∧ _) ∧ _›).1.1 | (repeat' (first | exact Below.refl _ _ | assumption | apply Below.drew | refine Below.setCell ?_ (by first | omega | (simp; done) | (simp; omega)) _ | refine Below.alloc ?_ (by first | omega | (simp; done) | (simp; omega)) _))); rintro e w' ⟨rfl, hbel2⟩))
        all_goals
          go_wp2
          go_roundw
          case rel => exact ⟨k + 1, by omega, by go_num, ST.out.below (‹(Below wr.heap.size wr _ ∧ _) ∧ _›).1.1, SP.out.below (‹(Below wr.heap.size wr _ ∧ _) ∧ _›).1.1⟩
          case measure => simp [intOf]; omega
      · obtain rfl : k = m := by omega
        go_wp2
        go_loopw [16] (fun i wr => ∃ k : Nat, k ≤ n ∧ i = .int .i64 k ∧ Stay w wr W H A A1 A2 n c c1 c2 w2.heap.size w5.heap.size f ∧ Spoil wr A2 n w.heap.size w2.heap.size w5.heap.size A1) (fun i wr => n - (intOf i).toNat)
        case atStart => exact ⟨0, Nat.zero_le _, rfl, st, sp⟩
        case round =>
          clear st sp
          obtain ⟨q, hq', rfl, st, sp⟩ := hrel
          have hi0 : (0 : Int) ≤ (q : Int) := by omega
          have ST := Lib.hid st
          have SP := Lib.hid sp
          have x2 := st.p14.cell 2
          simp at x2
          by_cases hqn : q < n
          · obtain ⟨g, cs, hA2, hg, hxs, n5, n9, n14, n1, l5⟩ := sp (by omega)
            obtain ⟨x, hx⟩ := hxs q hqn
            have c0 := hg.cell (q * 4)
            rw [hx] at c0
            have cf := hg.frozen (q * 4)
            have lg := hg.lt
            have hi1 : (q : Int) < (n : Int) := by omega
            have N1 := Lib.hid n1
            clear st sp hxs hx n1 hg
            subst hA2
            go_wp2_with fail
            go_still_tail 12, (by kernel_rfl)
            change wpList _ _ _ _ _ wr.drew
            go_wp2
            go_roundw
            case rel => exact ⟨q + 1, by omega, by go_num, (ST.out.set n5 n9 n14 N1.out l5).drew, (SP.out.set rfl q _).drew⟩
            case measure => simp [intOf]; omega
          · obtain rfl : q = n := by omega
            have a0 := st.p5.cell 0
            have a1 := st.p5.cell 1
            have a2 := st.p5.cell 2
            have q0 := st.p9.cell 0
            have q1 := st.p9.cell 1
            have q2 := st.p9.cell 2
            simp at a0 a1 a2 q0 q1 q2
            have h28 := Lib.hid (same28_true W W H H A1 A q q c1 c f f wr st.r1 (Hp.out.below st.bel) hn hn (sameT_refl W H q f))
            clear st sp
            go_wp2_with fail
            refine h28.out.mono ?_
            rintro e w7 ⟨rfl, bel7⟩
            have st := ST.out.below bel7
            have ST7 := Lib.hid st
            have h31 := Lib.hid (same31_at true W W H H A1 A q q c1 c f f w7 st.r1 (Hp.out.below st.bel) hn hn ⟨fun _ => sameT_refl W H q f, fun _ => rfl⟩)
            clear a0 a1 a2 q0 q1 q2
            have a0 := st.p5.cell 0
            have a1 := st.p5.cell 1
            have a2 := st.p5.cell 2
            have q0 := st.p9.cell 0
            have q1 := st.p9.cell 1
            have q2 := st.p9.cell 2
            simp at a0 a1 a2 q0 q1 q2
            clear st
            go_wp2_with fail
            refine h31.out.mono ?_
            rintro e w8 ⟨rfl, bel8⟩
            go_wp2
            go_ret
            exact ⟨rfl, (ST7.out.below bel8).bel⟩
end Go.Proofs.Ytgcappooiecaiaa
