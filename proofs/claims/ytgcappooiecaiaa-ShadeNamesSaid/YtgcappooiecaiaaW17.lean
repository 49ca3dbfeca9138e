/- ShadeNames. -/
import Derived.Test.YtgcappooiecaiaaW16
import Derived.Test.YtgcappooiecaiaaW10
namespace Go.Proofs.Ytgcappooiecaiaa
open Go.RowKit
set_option linter.unusedVariables false

theorem paintE_zero {D : Nat → TexD} {m : Nat} {tx cu bi bn u v : Int} (h1 : checksE D m = 0) (h2 : lookE tx cu bi bn m = 0) (h3 : (0 ≤ u ∧ u ≤ 255) ∧ (0 ≤ v ∧ v ≤ 255)) : paintE D m tx cu bi bn u v = 0 := by
  unfold paintE; rw [if_neg (by simpa using h1), if_neg (by simpa using h2), if_pos h3]
theorem paintE_arg {D : Nat → TexD} {m : Nat} {tx cu bi bn u v : Int} (h1 : checksE D m = 0) (h2 : lookE tx cu bi bn m = 0) (h3 : ¬ ((0 ≤ u ∧ u ≤ 255) ∧ (0 ≤ v ∧ v ≤ 255))) : paintE D m tx cu bi bn u v = 2 := by
  unfold paintE; rw [if_neg (by simpa using h1), if_neg (by simpa using h2), if_neg h3]
theorem paintE_look {D : Nat → TexD} {m : Nat} {tx cu bi bn u v : Int} (h1 : checksE D m = 0) (h2 : lookE tx cu bi bn m = 8) : paintE D m tx cu bi bn u v = 8 := by
  unfold paintE; rw [if_neg (by simpa using h1), if_pos (by rw [h2]; decide), h2]
theorem paintE_many {D : Nat → TexD} {m : Nat} {tx cu bi bn u v : Int} (h : 16 < m) : paintE D m tx cu bi bn u v = 4 := by
  unfold paintE; rw [if_pos (by rw [checksE_many h]; decide), checksE_many h]
def nine (i j : Nat) : Int := if j = 0 then 9 else if j = 1 then 8 else if j = 2 then 7 else if j = 3 then 6 else 0
def dOne (b : Nat) : TexD := { W := 1, H := 1, a := some ⟨b, 0, none⟩, n := 1, c := 1, f := nine }
def dNone : TexD := { W := 0, H := 0, a := none, n := 0, c := 0, f := fun _ _ => 0 }
theorem nine_byte (i j : Nat) : Byte (nine i j) := by
  unfold nine Byte; repeat' split
  all_goals omega
theorem may_one (b : Nat) : (dOne b).may := by unfold TexD.may May dOne; dsimp only; omega
theorem tl_one {w : World} {b1 b2 : Nat} (h1 : HasBlk w b1 23 #[.int .u8 9, .int .u8 8, .int .u8 7, .int .u8 6]) (h2 : HasBlk w b2 30 #[.int .i64 1, .int .i64 1, .slice (some ⟨b1, 0, none⟩) 1 1]) : TL w (some ⟨b2, 0, none⟩) 1 (fun _ => dOne b1) := by
  intro _
  refine ⟨b2, 0, rfl, h2.lt, fun i hi => ?_, fun i hi => ?_⟩
  · obtain rfl : i = 0 := by omega
    exact ⟨h2.cell 0, h2.cell 1, h2.cell 2⟩
  · intro _
    refine ⟨b1, 0, rfl, h1.lt, fun p hp j hj => ?_⟩
    have hp' : p < 1 := hp
    obtain rfl : p = 0 := by omega
    have e := h1.cell j
    obtain rfl | rfl | rfl | rfl : j = 0 ∨ j = 1 ∨ j = 2 ∨ j = 3 := by omega
    all_goals exact e
theorem tl_zero (w : World) : TL w none 0 (fun _ => dNone) := fun h => absurd h (by decide)

theorem pn_tex (b1 b2 : Nat) (w : World) (h1 : HasBlk w b1 23 #[.int .u8 9, .int .u8 8, .int .u8 7, .int .u8 6]) (h2 : HasBlk w b2 30 #[.int .i64 1, .int .i64 1, .slice (some ⟨b1, 0, none⟩) 1 1]) : Calls Try.prog 32 #[.agg #[.int .u8 255, .int .u8 255, .int .u8 255, .int .u8 255, .int .i64 0, .int .u8 0, .int .i64 0, .bool false, .int .i64 0], .slice (some ⟨b2, 0, none⟩) 1 1, .int .i64 5, .int .i64 5] w fun e w' => e = .returned (.tuple #[.agg #[.int .u8 9, .int .u8 8, .int .u8 7, .int .u8 6], .int .i64 0]) ∧ Below w.heap.size w w' := by
  have h := paint_any (some ⟨b2, 0, none⟩) 1 1 (fun _ => dOne b1) (fun _ => 255) 0 0 0 false 0 5 5 w (tl_one h1 h2) (fun _ => byte_lit 255 (by decide)) (fun i _ p _ j _ => nine_byte p j)
  rw [paintE_zero (checksE_ok (by decide) (fun i _ => may_one b1)) (by decide) (by decide)] at h
  exact h

theorem pn_plain (b1 b2 : Nat) (w : World) (h1 : HasBlk w b1 23 #[.int .u8 9, .int .u8 8, .int .u8 7, .int .u8 6]) (h2 : HasBlk w b2 30 #[.int .i64 1, .int .i64 1, .slice (some ⟨b1, 0, none⟩) 1 1]) : Calls Try.prog 32 #[.agg #[.int .u8 255, .int .u8 255, .int .u8 255, .int .u8 255, .int .i64 (-1), .int .u8 0, .int .i64 0, .bool false, .int .i64 0], .slice (some ⟨b2, 0, none⟩) 1 1, .int .i64 5, .int .i64 5] w fun e w' => e = .returned (.tuple #[.agg #[.int .u8 255, .int .u8 255, .int .u8 255, .int .u8 255], .int .i64 0]) ∧ Below w.heap.size w w' := by
  have h := paint_any (some ⟨b2, 0, none⟩) 1 1 (fun _ => dOne b1) (fun _ => 255) (-1) 0 0 false 0 5 5 w (tl_one h1 h2) (fun _ => byte_lit 255 (by decide)) (fun i _ p _ j _ => nine_byte p j)
  rw [paintE_zero (checksE_ok (by decide) (fun i _ => may_one b1)) (by decide) (by decide)] at h
  exact h

theorem pn_look  (w : World)  : Calls Try.prog 32 #[.agg #[.int .u8 0, .int .u8 0, .int .u8 0, .int .u8 0, .int .i64 0, .int .u8 0, .int .i64 0, .bool false, .int .i64 0], .slice none 0 0, .int .i64 5, .int .i64 5] w fun e w' => e = .returned (.tuple #[.agg #[.int .u8 0, .int .u8 0, .int .u8 0, .int .u8 0], .int .i64 8]) ∧ Below w.heap.size w w' := by
  have h := paint_any none 0 0 (fun _ => dNone) (fun _ => 0) 0 0 0 false 0 5 5 w (tl_zero w) (fun _ => byte_lit 0 (by decide)) (fun i hi => absurd hi (by omega))
  rw [paintE_look (checksE_ok (by decide) (fun i hi => absurd hi (by omega))) (by decide)] at h
  exact h

theorem pn_arg  (w : World)  : Calls Try.prog 32 #[.agg #[.int .u8 0, .int .u8 0, .int .u8 0, .int .u8 0, .int .i64 (-1), .int .u8 0, .int .i64 0, .bool false, .int .i64 0], .slice none 0 0, .int .i64 256, .int .i64 5] w fun e w' => e = .returned (.tuple #[.agg #[.int .u8 0, .int .u8 0, .int .u8 0, .int .u8 0], .int .i64 2]) ∧ Below w.heap.size w w' := by
  have h := paint_any none 0 0 (fun _ => dNone) (fun _ => 0) (-1) 0 0 false 0 256 5 w (tl_zero w) (fun _ => byte_lit 0 (by decide)) (fun i hi => absurd hi (by omega))
  rw [paintE_arg (checksE_ok (by decide) (fun i hi => absurd hi (by omega))) (by decide) (by decide)] at h
  exact h

set_option maxRecDepth 100000 in
set_option maxHeartbeats 2000000 in
theorem pn_many (A : Option Addr) (w : World) : Calls Try.prog 32 #[.agg #[.int .u8 0, .int .u8 0, .int .u8 0, .int .u8 0, .int .i64 0, .int .u8 0, .int .i64 0, .bool false, .int .i64 0], .slice A 17 17, .int .i64 5, .int .i64 5] w fun e w' => e = .returned (.tuple #[.agg #[.int .u8 0, .int .u8 0, .int .u8 0, .int .u8 0], .int .i64 4]) ∧ Below w.heap.size w w' := by
  go_enter Try.func32, Try.ntmps32
  go_wp2_with fail
  refine (checks_17 _ _).mono ?_
  rintro e w1 ⟨rfl, bel1⟩
  have hR := (hasBlk_new (w.alloc (.cells #[.int .u8 0, .int .u8 0, .int .u8 0, .int .u8 0, .int .i64 0, .int .u8 0, .int .i64 0, .bool false, .int .i64 0] 49)) 23 #[.int .u8 0, .int .u8 0, .int .u8 0, .int .u8 0]).below bel1
  simp only [World.size_alloc] at hR
  have B1 : Below w.heap.size w w1 := (by repeat' (first | exact Below.refl _ _ | assumption | apply Below.drew | refine Below.setCell ?_ (by first | omega | (simp; done) | (simp; omega)) _ | refine Below.alloc ?_ (by first | omega | (simp; done) | (simp; omega)) _) : Below w.heap.size w ((w.alloc (.cells #[.int .u8 0, .int .u8 0, .int .u8 0, .int .u8 0, .int .i64 0, .int .u8 0, .int .i64 0, .bool false, .int .i64 0] 49)).alloc (.cells #[.int .u8 0, .int .u8 0, .int .u8 0, .int .u8 0] 23))).trans (bel1.mono (by simp; omega))
  have z1 := hR.lt
  have r0 := hR.cell 0
  have r1 := hR.cell 1
  have r2 := hR.cell 2
  have r3 := hR.cell 3
  have rf0 := hR.frozen 0
  have rf1 := hR.frozen 1
  have rf2 := hR.frozen 2
  have rf3 := hR.frozen 3
  simp at r0 r1 r2 r3
  go_wp2
  refine bodyPost_ret (v := .tuple #[.agg #[_, _, _, _], _]) (by simp [results, Try.results32, go_sem, *]) rfl ⟨rfl, ?_⟩
  have bel0 := B1
  repeat' (first | exact Below.refl _ _ | assumption | apply Below.drew | refine Below.setCell ?_ (by first | omega | (simp; done) | (simp; omega)) _ | refine Below.alloc ?_ (by first | omega | (simp; done) | (simp; omega)) _)

theorem cl_0 (w : World) : Calls Try.prog 34 #[.agg #[.int .u8 0, .int .u8 0, .int .u8 0, .int .u8 0, .int .i64 1, .int .u8 0, .int .i64 0, .bool false, .int .i64 0], .int .i64 1] w fun e w' => e = .returned (.int .i64 8) ∧ Below w.heap.size w w' := by
  have h := checklook_any 0 0 0 0 1 0 0 false 0 1 w
  rw [show lookE 1 0 0 0 1 = 8 by decide] at h
  exact h

theorem cl_1 (w : World) : Calls Try.prog 34 #[.agg #[.int .u8 0, .int .u8 0, .int .u8 0, .int .u8 0, .int .i64 0, .int .u8 3, .int .i64 0, .bool false, .int .i64 0], .int .i64 1] w fun e w' => e = .returned (.int .i64 8) ∧ Below w.heap.size w w' := by
  have h := checklook_any 0 0 0 0 0 3 0 false 0 1 w
  rw [show lookE 0 3 0 0 1 = 8 by decide] at h
  exact h

theorem cl_2 (w : World) : Calls Try.prog 34 #[.agg #[.int .u8 0, .int .u8 0, .int .u8 0, .int .u8 0, .int .i64 0, .int .u8 0, .int .i64 1025, .bool false, .int .i64 0], .int .i64 1] w fun e w' => e = .returned (.int .i64 8) ∧ Below w.heap.size w w' := by
  have h := checklook_any 0 0 0 0 0 0 1025 false 0 1 w
  rw [show lookE 0 0 1025 0 1 = 8 by decide] at h
  exact h

theorem cl_3 (w : World) : Calls Try.prog 34 #[.agg #[.int .u8 0, .int .u8 0, .int .u8 0, .int .u8 0, .int .i64 0, .int .u8 0, .int .i64 0, .bool false, .int .i64 16], .int .i64 1] w fun e w' => e = .returned (.int .i64 8) ∧ Below w.heap.size w w' := by
  have h := checklook_any 0 0 0 0 0 0 0 false 16 1 w
  rw [show lookE 0 0 0 16 1 = 8 by decide] at h
  exact h

theorem cl_4 (w : World) : Calls Try.prog 34 #[.agg #[.int .u8 0, .int .u8 0, .int .u8 0, .int .u8 0, .int .i64 0, .int .u8 0, .int .i64 0, .bool false, .int .i64 0], .int .i64 17] w fun e w' => e = .returned (.int .i64 2) ∧ Below w.heap.size w w' := by
  have h := checklook_any 0 0 0 0 0 0 0 false 0 17 w
  rw [show lookE 0 0 0 0 17 = 2 by decide] at h
  exact h

theorem cl_5 (w : World) : Calls Try.prog 34 #[.agg #[.int .u8 0, .int .u8 0, .int .u8 0, .int .u8 0, .int .i64 0, .int .u8 0, .int .i64 0, .bool false, .int .i64 0], .int .i64 1] w fun e w' => e = .returned (.int .i64 0) ∧ Below w.heap.size w w' := by
  have h := checklook_any 0 0 0 0 0 0 0 false 0 1 w
  rw [show lookE 0 0 0 0 1 = 0 by decide] at h
  exact h

set_option maxRecDepth 100000 in
set_option maxHeartbeats 4000000 in
theorem shadeNames_walk (w : World) : Calls Try.prog 11 #[] w fun e w' => e = .returned (.bool true) ∧ Below w.heap.size w w' := by
  have hq := eql_col
  obtain ⟨i0, hi0, hz0, hz1, hz2⟩ := info_parts tex_info
  have hmk : ∀ W : World, (Instr.makeSlice 39 (.int .i64 17) (.int .i64 17)).run Try.prog W = .ok (.slice (some ⟨W.heap.size, 0, none⟩) 17 17) (W.alloc (.cells (madeCells (Value.agg #[.int .i64 0, .int .i64 0, .slice none 0 0]).cells (17 * i0.size)) 30)) :=
    fun W => make_full Try.underlying39 hi0 hz0 17 (by rw [hz2]; omega) (by omega) W
  go_enter Try.func11, Try.ntmps11
  go_wp2_with fail
  refine (white_any _).mono ?_
  rintro e w1 ⟨rfl, bel1⟩
  have BB1 : Below w.heap.size w w1 := by
    skip
    refine Below.trans ?_ (bel1.mono (by first | omega | (simp; done) | (simp; omega)))
    repeat' (first | exact Below.refl _ _ | assumption | apply Below.drew | refine Below.setCell ?_ (by first | omega | (simp; done) | (simp; omega)) _ | refine Below.alloc ?_ (by first | omega | (simp; done) | (simp; omega)) _)
  have T1 : Hid (HasBlk w1 (w.heap.size) 23 #[.int .u8 9, .int .u8 8, .int .u8 7, .int .u8 6]) := Lib.hid (by have := ((hasBlk_new w 23 #[.int .u8 9, .int .u8 8, .int .u8 7, .int .u8 6]).alloc (.cells #[.int .i64 1, .int .i64 1, .slice (some ⟨w.heap.size, 0, none⟩) 1 1] 30)).below bel1; simpa using this)
  have T2 : Hid (HasBlk w1 (w.heap.size + 1) 30 #[.int .i64 1, .int .i64 1, .slice (some ⟨w.heap.size, 0, none⟩) 1 1]) := Lib.hid (by have := (hasBlk_new (w.alloc (.cells #[.int .u8 9, .int .u8 8, .int .u8 7, .int .u8 6] 23)) 30 #[.int .i64 1, .int .i64 1, .slice (some ⟨w.heap.size, 0, none⟩) 1 1]).below bel1; simpa using this)
  have BB1s := BB1.size
  have HBB1 := Lib.hid BB1
  clear BB1
  have lt_T1 := T1.out.lt
  have T1_0 := T1.out.cell 0
  have T1_1 := T1.out.cell 1
  have T1_2 := T1.out.cell 2
  have T1_3 := T1.out.cell 3
  simp at T1_0 T1_1 T1_2 T1_3
  have lt_T2 := T2.out.lt
  have T2_0 := T2.out.cell 0
  have T2_1 := T2.out.cell 1
  have T2_2 := T2.out.cell 2
  simp at T2_0 T2_1 T2_2
  go_wp2_with fail
  refine (pn_tex _ _ _ T1.out T2.out).mono ?_
  rintro e w2 ⟨rfl, bel2⟩
  clear lt_T1 T1_0 T1_1 T1_2 T1_3 lt_T2 T2_0 T2_1 T2_2
  have BB2 : Below w.heap.size w w2 := by
    have bel0 := HBB1.out
    refine Below.trans ?_ (bel2.mono (by first | omega | (simp; done) | (simp; omega)))
    repeat' (first | exact Below.refl _ _ | assumption | apply Below.drew | refine Below.setCell ?_ (by first | omega | (simp; done) | (simp; omega)) _ | refine Below.alloc ?_ (by first | omega | (simp; done) | (simp; omega)) _)
  have t_T1 : HasBlk w2 (w.heap.size) 23 #[.int .u8 9, .int .u8 8, .int .u8 7, .int .u8 6] := by first | exact T1.out.below bel2 | exact (T1.out.alloc _).below bel2 | exact ((T1.out.alloc _).alloc _).below bel2 | exact (((T1.out.alloc _).alloc _).alloc _).below bel2
  clear T1
  have T1 := Lib.hid t_T1
  clear t_T1
  have t_T2 : HasBlk w2 (w.heap.size + 1) 30 #[.int .i64 1, .int .i64 1, .slice (some ⟨w.heap.size, 0, none⟩) 1 1] := by first | exact T2.out.below bel2 | exact (T2.out.alloc _).below bel2 | exact ((T2.out.alloc _).alloc _).below bel2 | exact (((T2.out.alloc _).alloc _).alloc _).below bel2
  clear T2
  have T2 := Lib.hid t_T2
  clear t_T2
  clear HBB1
  have BB2s := BB2.size
  have HBB2 := Lib.hid BB2
  clear BB2
  clear bel1
  have lt_T1 := T1.out.lt
  have T1_0 := T1.out.cell 0
  have T1_1 := T1.out.cell 1
  have T1_2 := T1.out.cell 2
  have T1_3 := T1.out.cell 3
  simp at T1_0 T1_1 T1_2 T1_3
  have lt_T2 := T2.out.lt
  have T2_0 := T2.out.cell 0
  have T2_1 := T2.out.cell 1
  have T2_2 := T2.out.cell 2
  simp at T2_0 T2_1 T2_2
  go_wp2_with fail
  refine (white_any _).mono ?_
  rintro e w3 ⟨rfl, bel3⟩
  clear lt_T1 T1_0 T1_1 T1_2 T1_3 lt_T2 T2_0 T2_1 T2_2
  have BB3 : Below w.heap.size w w3 := by
    have bel0 := HBB2.out
    refine Below.trans ?_ (bel3.mono (by first | omega | (simp; done) | (simp; omega)))
    repeat' (first | exact Below.refl _ _ | assumption | apply Below.drew | refine Below.setCell ?_ (by first | omega | (simp; done) | (simp; omega)) _ | refine Below.alloc ?_ (by first | omega | (simp; done) | (simp; omega)) _)
  have t_T1 : HasBlk w3 (w.heap.size) 23 #[.int .u8 9, .int .u8 8, .int .u8 7, .int .u8 6] := by first | exact T1.out.below bel3 | exact (T1.out.alloc _).below bel3 | exact ((T1.out.alloc _).alloc _).below bel3 | exact (((T1.out.alloc _).alloc _).alloc _).below bel3
  clear T1
  have T1 := Lib.hid t_T1
  clear t_T1
  have t_T2 : HasBlk w3 (w.heap.size + 1) 30 #[.int .i64 1, .int .i64 1, .slice (some ⟨w.heap.size, 0, none⟩) 1 1] := by first | exact T2.out.below bel3 | exact (T2.out.alloc _).below bel3 | exact ((T2.out.alloc _).alloc _).below bel3 | exact (((T2.out.alloc _).alloc _).alloc _).below bel3
  clear T2
  have T2 := Lib.hid t_T2
  clear t_T2
  have C1 : Hid (HasBlk w3 (w2.heap.size) 23 #[.int .u8 9, .int .u8 8, .int .u8 7, .int .u8 6]) := Lib.hid (by have := (hasBlk_new w2 23 #[.int .u8 9, .int .u8 8, .int .u8 7, .int .u8 6]).below bel3; simpa using this)
  clear HBB2
  have BB3s := BB3.size
  have HBB3 := Lib.hid BB3
  clear BB3
  clear bel2
  have lt_T1 := T1.out.lt
  have T1_0 := T1.out.cell 0
  have T1_1 := T1.out.cell 1
  have T1_2 := T1.out.cell 2
  have T1_3 := T1.out.cell 3
  simp at T1_0 T1_1 T1_2 T1_3
  have lt_T2 := T2.out.lt
  have T2_0 := T2.out.cell 0
  have T2_1 := T2.out.cell 1
  have T2_2 := T2.out.cell 2
  simp at T2_0 T2_1 T2_2
  have lt_C1 := C1.out.lt
  have C1_0 := C1.out.cell 0
  have C1_1 := C1.out.cell 1
  have C1_2 := C1.out.cell 2
  have C1_3 := C1.out.cell 3
  simp at C1_0 C1_1 C1_2 C1_3
  go_wp2_with fail
  refine (pn_plain _ _ _ T1.out T2.out).mono ?_
  rintro e w4 ⟨rfl, bel4⟩
  clear lt_T1 T1_0 T1_1 T1_2 T1_3 lt_T2 T2_0 T2_1 T2_2 lt_C1 C1_0 C1_1 C1_2 C1_3
  clear T1
  clear T2
  have BB4 : Below w.heap.size w w4 := by
    have bel0 := HBB3.out
    refine Below.trans ?_ (bel4.mono (by first | omega | (simp; done) | (simp; omega)))
    repeat' (first | exact Below.refl _ _ | assumption | apply Below.drew | refine Below.setCell ?_ (by first | omega | (simp; done) | (simp; omega)) _ | refine Below.alloc ?_ (by first | omega | (simp; done) | (simp; omega)) _)
  have t_C1 : HasBlk w4 (w2.heap.size) 23 #[.int .u8 9, .int .u8 8, .int .u8 7, .int .u8 6] := by first | exact C1.out.below bel4 | exact (C1.out.alloc _).below bel4 | exact ((C1.out.alloc _).alloc _).below bel4 | exact (((C1.out.alloc _).alloc _).alloc _).below bel4
  clear C1
  have C1 := Lib.hid t_C1
  clear t_C1
  clear HBB3
  have BB4s := BB4.size
  have HBB4 := Lib.hid BB4
  clear BB4
  clear bel3
  have lt_C1 := C1.out.lt
  have C1_0 := C1.out.cell 0
  have C1_1 := C1.out.cell 1
  have C1_2 := C1.out.cell 2
  have C1_3 := C1.out.cell 3
  simp at C1_0 C1_1 C1_2 C1_3
  go_wp2_with fail
  refine (pn_look _).mono ?_
  rintro e w5 ⟨rfl, bel5⟩
  clear lt_C1 C1_0 C1_1 C1_2 C1_3
  have BB5 : Below w.heap.size w w5 := by
    have bel0 := HBB4.out
    refine Below.trans ?_ (bel5.mono (by first | omega | (simp; done) | (simp; omega)))
    repeat' (first | exact Below.refl _ _ | assumption | apply Below.drew | refine Below.setCell ?_ (by first | omega | (simp; done) | (simp; omega)) _ | refine Below.alloc ?_ (by first | omega | (simp; done) | (simp; omega)) _)
  have t_C1 : HasBlk w5 (w2.heap.size) 23 #[.int .u8 9, .int .u8 8, .int .u8 7, .int .u8 6] := by first | exact C1.out.below bel5 | exact (C1.out.alloc _).below bel5 | exact ((C1.out.alloc _).alloc _).below bel5 | exact (((C1.out.alloc _).alloc _).alloc _).below bel5
  clear C1
  have C1 := Lib.hid t_C1
  clear t_C1
  have C2 : Hid (HasBlk w5 (w4.heap.size) 23 #[.int .u8 255, .int .u8 255, .int .u8 255, .int .u8 255]) := Lib.hid (by have := (hasBlk_new w4 23 #[.int .u8 255, .int .u8 255, .int .u8 255, .int .u8 255]).below bel5; simpa using this)
  clear HBB4
  have BB5s := BB5.size
  have HBB5 := Lib.hid BB5
  clear BB5
  clear bel4
  have lt_C1 := C1.out.lt
  have C1_0 := C1.out.cell 0
  have C1_1 := C1.out.cell 1
  have C1_2 := C1.out.cell 2
  have C1_3 := C1.out.cell 3
  simp at C1_0 C1_1 C1_2 C1_3
  have lt_C2 := C2.out.lt
  have C2_0 := C2.out.cell 0
  have C2_1 := C2.out.cell 1
  have C2_2 := C2.out.cell 2
  have C2_3 := C2.out.cell 3
  simp at C2_0 C2_1 C2_2 C2_3
  go_wp2_with fail
  refine (pn_arg _).mono ?_
  rintro e w6 ⟨rfl, bel6⟩
  clear lt_C1 C1_0 C1_1 C1_2 C1_3 lt_C2 C2_0 C2_1 C2_2 C2_3
  have BB6 : Below w.heap.size w w6 := by
    have bel0 := HBB5.out
    refine Below.trans ?_ (bel6.mono (by first | omega | (simp; done) | (simp; omega)))
    repeat' (first | exact Below.refl _ _ | assumption | apply Below.drew | refine Below.setCell ?_ (by first | omega | (simp; done) | (simp; omega)) _ | refine Below.alloc ?_ (by first | omega | (simp; done) | (simp; omega)) _)
  have t_C1 : HasBlk w6 (w2.heap.size) 23 #[.int .u8 9, .int .u8 8, .int .u8 7, .int .u8 6] := by first | exact C1.out.below bel6 | exact (C1.out.alloc _).below bel6 | exact ((C1.out.alloc _).alloc _).below bel6 | exact (((C1.out.alloc _).alloc _).alloc _).below bel6
  clear C1
  have C1 := Lib.hid t_C1
  clear t_C1
  have t_C2 : HasBlk w6 (w4.heap.size) 23 #[.int .u8 255, .int .u8 255, .int .u8 255, .int .u8 255] := by first | exact C2.out.below bel6 | exact (C2.out.alloc _).below bel6 | exact ((C2.out.alloc _).alloc _).below bel6 | exact (((C2.out.alloc _).alloc _).alloc _).below bel6
  clear C2
  have C2 := Lib.hid t_C2
  clear t_C2
  clear HBB5
  have BB6s := BB6.size
  have HBB6 := Lib.hid BB6
  clear BB6
  clear bel5
  have lt_C1 := C1.out.lt
  have C1_0 := C1.out.cell 0
  have C1_1 := C1.out.cell 1
  have C1_2 := C1.out.cell 2
  have C1_3 := C1.out.cell 3
  simp at C1_0 C1_1 C1_2 C1_3
  have lt_C2 := C2.out.lt
  have C2_0 := C2.out.cell 0
  have C2_1 := C2.out.cell 1
  have C2_2 := C2.out.cell 2
  have C2_3 := C2.out.cell 3
  simp at C2_0 C2_1 C2_2 C2_3
  go_wp2_with fail
  refine (pn_many _ _).mono ?_
  rintro e w7 ⟨rfl, bel7⟩
  clear lt_C1 C1_0 C1_1 C1_2 C1_3 lt_C2 C2_0 C2_1 C2_2 C2_3
  have BB7 : Below w.heap.size w w7 := by
    have bel0 := HBB6.out
    refine Below.trans ?_ (bel7.mono (by first | omega | (simp; done) | (simp; omega)))
    repeat' (first | exact Below.refl _ _ | assumption | apply Below.drew | refine Below.setCell ?_ (by first | omega | (simp; done) | (simp; omega)) _ | refine Below.alloc ?_ (by first | omega | (simp; done) | (simp; omega)) _)
  have t_C1 : HasBlk w7 (w2.heap.size) 23 #[.int .u8 9, .int .u8 8, .int .u8 7, .int .u8 6] := by first | exact C1.out.below bel7 | exact (C1.out.alloc _).below bel7 | exact ((C1.out.alloc _).alloc _).below bel7 | exact (((C1.out.alloc _).alloc _).alloc _).below bel7
  clear C1
  have C1 := Lib.hid t_C1
  clear t_C1
  have t_C2 : HasBlk w7 (w4.heap.size) 23 #[.int .u8 255, .int .u8 255, .int .u8 255, .int .u8 255] := by first | exact C2.out.below bel7 | exact (C2.out.alloc _).below bel7 | exact ((C2.out.alloc _).alloc _).below bel7 | exact (((C2.out.alloc _).alloc _).alloc _).below bel7
  clear C2
  have C2 := Lib.hid t_C2
  clear t_C2
  clear HBB6
  have BB7s := BB7.size
  have HBB7 := Lib.hid BB7
  clear BB7
  clear bel6 hmk
  have lt_C1 := C1.out.lt
  have C1_0 := C1.out.cell 0
  have C1_1 := C1.out.cell 1
  have C1_2 := C1.out.cell 2
  have C1_3 := C1.out.cell 3
  simp at C1_0 C1_1 C1_2 C1_3
  have lt_C2 := C2.out.lt
  have C2_0 := C2.out.cell 0
  have C2_1 := C2.out.cell 1
  have C2_2 := C2.out.cell 2
  have C2_3 := C2.out.cell 3
  simp at C2_0 C2_1 C2_2 C2_3
  go_wp2_with fail
  refine (cl_0 _).mono ?_
  rintro e w8 ⟨rfl, bel8⟩
  clear lt_C1 C1_0 C1_1 C1_2 C1_3 lt_C2 C2_0 C2_1 C2_2 C2_3
  have BB8 : Below w.heap.size w w8 := by
    have bel0 := HBB7.out
    refine Below.trans ?_ (bel8.mono (by first | omega | (simp; done) | (simp; omega)))
    repeat' (first | exact Below.refl _ _ | assumption | apply Below.drew | refine Below.setCell ?_ (by first | omega | (simp; done) | (simp; omega)) _ | refine Below.alloc ?_ (by first | omega | (simp; done) | (simp; omega)) _)
  have t_C1 : HasBlk w8 (w2.heap.size) 23 #[.int .u8 9, .int .u8 8, .int .u8 7, .int .u8 6] := by first | exact C1.out.below bel8 | exact (C1.out.alloc _).below bel8 | exact ((C1.out.alloc _).alloc _).below bel8 | exact (((C1.out.alloc _).alloc _).alloc _).below bel8
  clear C1
  have C1 := Lib.hid t_C1
  clear t_C1
  have t_C2 : HasBlk w8 (w4.heap.size) 23 #[.int .u8 255, .int .u8 255, .int .u8 255, .int .u8 255] := by first | exact C2.out.below bel8 | exact (C2.out.alloc _).below bel8 | exact ((C2.out.alloc _).alloc _).below bel8 | exact (((C2.out.alloc _).alloc _).alloc _).below bel8
  clear C2
  have C2 := Lib.hid t_C2
  clear t_C2
  clear HBB7
  have BB8s := BB8.size
  have HBB8 := Lib.hid BB8
  clear BB8
  clear bel7
  have lt_C1 := C1.out.lt
  have C1_0 := C1.out.cell 0
  have C1_1 := C1.out.cell 1
  have C1_2 := C1.out.cell 2
  have C1_3 := C1.out.cell 3
  simp at C1_0 C1_1 C1_2 C1_3
  have lt_C2 := C2.out.lt
  have C2_0 := C2.out.cell 0
  have C2_1 := C2.out.cell 1
  have C2_2 := C2.out.cell 2
  have C2_3 := C2.out.cell 3
  simp at C2_0 C2_1 C2_2 C2_3
  go_wp2_with fail
  refine (cl_1 _).mono ?_
  rintro e w9 ⟨rfl, bel9⟩
  clear lt_C1 C1_0 C1_1 C1_2 C1_3 lt_C2 C2_0 C2_1 C2_2 C2_3
  have BB9 : Below w.heap.size w w9 := by
    have bel0 := HBB8.out
    refine Below.trans ?_ (bel9.mono (by first | omega | (simp; done) | (simp; omega)))
    repeat' (first | exact Below.refl _ _ | assumption | apply Below.drew | refine Below.setCell ?_ (by first | omega | (simp; done) | (simp; omega)) _ | refine Below.alloc ?_ (by first | omega | (simp; done) | (simp; omega)) _)
  have t_C1 : HasBlk w9 (w2.heap.size) 23 #[.int .u8 9, .int .u8 8, .int .u8 7, .int .u8 6] := by first | exact C1.out.below bel9 | exact (C1.out.alloc _).below bel9 | exact ((C1.out.alloc _).alloc _).below bel9 | exact (((C1.out.alloc _).alloc _).alloc _).below bel9
  clear C1
  have C1 := Lib.hid t_C1
  clear t_C1
  have t_C2 : HasBlk w9 (w4.heap.size) 23 #[.int .u8 255, .int .u8 255, .int .u8 255, .int .u8 255] := by first | exact C2.out.below bel9 | exact (C2.out.alloc _).below bel9 | exact ((C2.out.alloc _).alloc _).below bel9 | exact (((C2.out.alloc _).alloc _).alloc _).below bel9
  clear C2
  have C2 := Lib.hid t_C2
  clear t_C2
  clear HBB8
  have BB9s := BB9.size
  have HBB9 := Lib.hid BB9
  clear BB9
  clear bel8
  have lt_C1 := C1.out.lt
  have C1_0 := C1.out.cell 0
  have C1_1 := C1.out.cell 1
  have C1_2 := C1.out.cell 2
  have C1_3 := C1.out.cell 3
  simp at C1_0 C1_1 C1_2 C1_3
  have lt_C2 := C2.out.lt
  have C2_0 := C2.out.cell 0
  have C2_1 := C2.out.cell 1
  have C2_2 := C2.out.cell 2
  have C2_3 := C2.out.cell 3
  simp at C2_0 C2_1 C2_2 C2_3
  go_wp2_with fail
  refine (cl_2 _).mono ?_
  rintro e w10 ⟨rfl, bel10⟩
  clear lt_C1 C1_0 C1_1 C1_2 C1_3 lt_C2 C2_0 C2_1 C2_2 C2_3
  have BB10 : Below w.heap.size w w10 := by
    have bel0 := HBB9.out
    refine Below.trans ?_ (bel10.mono (by first | omega | (simp; done) | (simp; omega)))
    repeat' (first | exact Below.refl _ _ | assumption | apply Below.drew | refine Below.setCell ?_ (by first | omega | (simp; done) | (simp; omega)) _ | refine Below.alloc ?_ (by first | omega | (simp; done) | (simp; omega)) _)
  have t_C1 : HasBlk w10 (w2.heap.size) 23 #[.int .u8 9, .int .u8 8, .int .u8 7, .int .u8 6] := by first | exact C1.out.below bel10 | exact (C1.out.alloc _).below bel10 | exact ((C1.out.alloc _).alloc _).below bel10 | exact (((C1.out.alloc _).alloc _).alloc _).below bel10
  clear C1
  have C1 := Lib.hid t_C1
  clear t_C1
  have t_C2 : HasBlk w10 (w4.heap.size) 23 #[.int .u8 255, .int .u8 255, .int .u8 255, .int .u8 255] := by first | exact C2.out.below bel10 | exact (C2.out.alloc _).below bel10 | exact ((C2.out.alloc _).alloc _).below bel10 | exact (((C2.out.alloc _).alloc _).alloc _).below bel10
  clear C2
  have C2 := Lib.hid t_C2
  clear t_C2
  clear HBB9
  have BB10s := BB10.size
  have HBB10 := Lib.hid BB10
  clear BB10
  clear bel9
  have lt_C1 := C1.out.lt
  have C1_0 := C1.out.cell 0
  have C1_1 := C1.out.cell 1
  have C1_2 := C1.out.cell 2
  have C1_3 := C1.out.cell 3
  simp at C1_0 C1_1 C1_2 C1_3
  have lt_C2 := C2.out.lt
  have C2_0 := C2.out.cell 0
  have C2_1 := C2.out.cell 1
  have C2_2 := C2.out.cell 2
  have C2_3 := C2.out.cell 3
  simp at C2_0 C2_1 C2_2 C2_3
  go_wp2_with fail
  refine (cl_3 _).mono ?_
  rintro e w11 ⟨rfl, bel11⟩
  clear lt_C1 C1_0 C1_1 C1_2 C1_3 lt_C2 C2_0 C2_1 C2_2 C2_3
  have BB11 : Below w.heap.size w w11 := by
    have bel0 := HBB10.out
    refine Below.trans ?_ (bel11.mono (by first | omega | (simp; done) | (simp; omega)))
    repeat' (first | exact Below.refl _ _ | assumption | apply Below.drew | refine Below.setCell ?_ (by first | omega | (simp; done) | (simp; omega)) _ | refine Below.alloc ?_ (by first | omega | (simp; done) | (simp; omega)) _)
  have t_C1 : HasBlk w11 (w2.heap.size) 23 #[.int .u8 9, .int .u8 8, .int .u8 7, .int .u8 6] := by first | exact C1.out.below bel11 | exact (C1.out.alloc _).below bel11 | exact ((C1.out.alloc _).alloc _).below bel11 | exact (((C1.out.alloc _).alloc _).alloc _).below bel11
  clear C1
  have C1 := Lib.hid t_C1
  clear t_C1
  have t_C2 : HasBlk w11 (w4.heap.size) 23 #[.int .u8 255, .int .u8 255, .int .u8 255, .int .u8 255] := by first | exact C2.out.below bel11 | exact (C2.out.alloc _).below bel11 | exact ((C2.out.alloc _).alloc _).below bel11 | exact (((C2.out.alloc _).alloc _).alloc _).below bel11
  clear C2
  have C2 := Lib.hid t_C2
  clear t_C2
  clear HBB10
  have BB11s := BB11.size
  have HBB11 := Lib.hid BB11
  clear BB11
  clear bel10
  have lt_C1 := C1.out.lt
  have C1_0 := C1.out.cell 0
  have C1_1 := C1.out.cell 1
  have C1_2 := C1.out.cell 2
  have C1_3 := C1.out.cell 3
  simp at C1_0 C1_1 C1_2 C1_3
  have lt_C2 := C2.out.lt
  have C2_0 := C2.out.cell 0
  have C2_1 := C2.out.cell 1
  have C2_2 := C2.out.cell 2
  have C2_3 := C2.out.cell 3
  simp at C2_0 C2_1 C2_2 C2_3
  go_wp2_with fail
  refine (cl_4 _).mono ?_
  rintro e w12 ⟨rfl, bel12⟩
  clear lt_C1 C1_0 C1_1 C1_2 C1_3 lt_C2 C2_0 C2_1 C2_2 C2_3
  have BB12 : Below w.heap.size w w12 := by
    have bel0 := HBB11.out
    refine Below.trans ?_ (bel12.mono (by first | omega | (simp; done) | (simp; omega)))
    repeat' (first | exact Below.refl _ _ | assumption | apply Below.drew | refine Below.setCell ?_ (by first | omega | (simp; done) | (simp; omega)) _ | refine Below.alloc ?_ (by first | omega | (simp; done) | (simp; omega)) _)
  have t_C1 : HasBlk w12 (w2.heap.size) 23 #[.int .u8 9, .int .u8 8, .int .u8 7, .int .u8 6] := by first | exact C1.out.below bel12 | exact (C1.out.alloc _).below bel12 | exact ((C1.out.alloc _).alloc _).below bel12 | exact (((C1.out.alloc _).alloc _).alloc _).below bel12
  clear C1
  have C1 := Lib.hid t_C1
  clear t_C1
  have t_C2 : HasBlk w12 (w4.heap.size) 23 #[.int .u8 255, .int .u8 255, .int .u8 255, .int .u8 255] := by first | exact C2.out.below bel12 | exact (C2.out.alloc _).below bel12 | exact ((C2.out.alloc _).alloc _).below bel12 | exact (((C2.out.alloc _).alloc _).alloc _).below bel12
  clear C2
  have C2 := Lib.hid t_C2
  clear t_C2
  clear HBB11
  have BB12s := BB12.size
  have HBB12 := Lib.hid BB12
  clear BB12
  clear bel11
  have lt_C1 := C1.out.lt
  have C1_0 := C1.out.cell 0
  have C1_1 := C1.out.cell 1
  have C1_2 := C1.out.cell 2
  have C1_3 := C1.out.cell 3
  simp at C1_0 C1_1 C1_2 C1_3
  have lt_C2 := C2.out.lt
  have C2_0 := C2.out.cell 0
  have C2_1 := C2.out.cell 1
  have C2_2 := C2.out.cell 2
  have C2_3 := C2.out.cell 3
  simp at C2_0 C2_1 C2_2 C2_3
  go_wp2_with fail
  refine (cl_5 _).mono ?_
  rintro e w13 ⟨rfl, bel13⟩
  clear lt_C1 C1_0 C1_1 C1_2 C1_3 lt_C2 C2_0 C2_1 C2_2 C2_3
  have BB13 : Below w.heap.size w w13 := by
    have bel0 := HBB12.out
    refine Below.trans ?_ (bel13.mono (by first | omega | (simp; done) | (simp; omega)))
    repeat' (first | exact Below.refl _ _ | assumption | apply Below.drew | refine Below.setCell ?_ (by first | omega | (simp; done) | (simp; omega)) _ | refine Below.alloc ?_ (by first | omega | (simp; done) | (simp; omega)) _)
  have t_C1 : HasBlk w13 (w2.heap.size) 23 #[.int .u8 9, .int .u8 8, .int .u8 7, .int .u8 6] := by first | exact C1.out.below bel13 | exact (C1.out.alloc _).below bel13 | exact ((C1.out.alloc _).alloc _).below bel13 | exact (((C1.out.alloc _).alloc _).alloc _).below bel13
  clear C1
  have C1 := Lib.hid t_C1
  clear t_C1
  have t_C2 : HasBlk w13 (w4.heap.size) 23 #[.int .u8 255, .int .u8 255, .int .u8 255, .int .u8 255] := by first | exact C2.out.below bel13 | exact (C2.out.alloc _).below bel13 | exact ((C2.out.alloc _).alloc _).below bel13 | exact (((C2.out.alloc _).alloc _).alloc _).below bel13
  clear C2
  have C2 := Lib.hid t_C2
  clear t_C2
  clear HBB12
  have BB13s := BB13.size
  have HBB13 := Lib.hid BB13
  clear BB13
  clear bel12
  have lt_C1 := C1.out.lt
  have C1_0 := C1.out.cell 0
  have C1_1 := C1.out.cell 1
  have C1_2 := C1.out.cell 2
  have C1_3 := C1.out.cell 3
  simp at C1_0 C1_1 C1_2 C1_3
  have lt_C2 := C2.out.lt
  have C2_0 := C2.out.cell 0
  have C2_1 := C2.out.cell 1
  have C2_2 := C2.out.cell 2
  have C2_3 := C2.out.cell 3
  simp at C2_0 C2_1 C2_2 C2_3
  have hkp : Keeps (fun Wo => (Below w.heap.size w Wo ∧ w.heap.size ≤ Wo.heap.size) ∧ Wo.cell? ⟨w2.heap.size, 0, none⟩ = some (.int .u8 9) ∧ Wo.cell? ⟨w2.heap.size, 1, none⟩ = some (.int .u8 8) ∧ Wo.cell? ⟨w2.heap.size, 2, none⟩ = some (.int .u8 7) ∧ Wo.cell? ⟨w2.heap.size, 3, none⟩ = some (.int .u8 6) ∧ Wo.cell? ⟨w4.heap.size, 0, none⟩ = some (.int .u8 255) ∧ Wo.cell? ⟨w4.heap.size, 1, none⟩ = some (.int .u8 255) ∧ Wo.cell? ⟨w4.heap.size, 2, none⟩ = some (.int .u8 255) ∧ Wo.cell? ⟨w4.heap.size, 3, none⟩ = some (.int .u8 255)) := by
    repeat' (first | exact Keeps.below _ | exact Keeps.size _ | exact Keeps.cell _ _ | apply Keeps.and)
  have hBB := HBB13.out
  go_wp2_with fail
  go_region_held3 (fun Wo => (Below w.heap.size w Wo ∧ w.heap.size ≤ Wo.heap.size) ∧ Wo.cell? ⟨w2.heap.size, 0, none⟩ = some (.int .u8 9) ∧ Wo.cell? ⟨w2.heap.size, 1, none⟩ = some (.int .u8 8) ∧ Wo.cell? ⟨w2.heap.size, 2, none⟩ = some (.int .u8 7) ∧ Wo.cell? ⟨w2.heap.size, 3, none⟩ = some (.int .u8 6) ∧ Wo.cell? ⟨w4.heap.size, 0, none⟩ = some (.int .u8 255) ∧ Wo.cell? ⟨w4.heap.size, 1, none⟩ = some (.int .u8 255) ∧ Wo.cell? ⟨w4.heap.size, 2, none⟩ = some (.int .u8 255) ∧ Wo.cell? ⟨w4.heap.size, 3, none⟩ = some (.int .u8 255))
    (first | exact hkp _ _ hbel (by assumption) | (refine ⟨⟨?_, by first | omega | (simp; done) | (simp; omega)⟩, by simp [go_sem, *], by simp [go_sem, *], by simp [go_sem, *], by simp [go_sem, *], by simp [go_sem, *], by simp [go_sem, *], by simp [go_sem, *], by simp [go_sem, *]⟩; repeat' (first | exact Below.refl _ _ | assumption | apply Below.drew | refine Below.setCell ?_ (by first | omega | (simp; done) | (simp; omega)) _ | refine Below.alloc ?_ (by first | omega | (simp; done) | (simp; omega)) _)) | fail "keep")
    (first | (go_at_call 17; (with_reducible refine (alive_any _).mono ?_); rintro e w' ⟨rfl, hbel⟩) | (go_at_call 18; (with_reducible refine (white_any _).mono ?_); rintro e w' ⟨rfl, hbel⟩))
  go_wp2
  go_ret
  exact ⟨rfl, (‹(Below w.heap.size w _ ∧ _) ∧ _›).1.1⟩
theorem shadeNames_arg (w : World) : Calls Try.prog 11 #[] w fun e w' => e = .returned (.bool true) ∧ Below w.heap.size w w' := shadeNames_walk w
end Go.Proofs.Ytgcappooiecaiaa
