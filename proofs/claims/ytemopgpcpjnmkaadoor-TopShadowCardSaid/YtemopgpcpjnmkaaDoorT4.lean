/- top: a box of three spans. -/
import Derived.Test.YtemopgpcpjnmkaaDoorT3
namespace Go.Proofs.YtemopgpcpjnmkaaDoor
open Go.RowKit
set_option linter.unusedVariables false

set_option maxRecDepth 100000 in
set_option maxHeartbeats 8000000 in
theorem setb0_any (g : Nat) (lo hi : Int) (c0 c1 c2 c3 c4 c5 : Value) (w : World) (hb : HasBlk w g 50 #[c0, c1, c2, c3, c4, c5]) : Calls Tryd.prog 61 #[.int .i64 lo, .int .i64 hi, .pointer (some ⟨g, 0, none⟩)] w fun e w' => e = .returned (.tuple #[]) ∧ w' = (w.setCell ⟨g, 0, none⟩ (.int .i64 lo)).setCell ⟨g, 3, none⟩ (.int .i64 hi) := by
  have HB := Lib.hid hb
  clear hb
  have hb_ := HB.out.f6
  go_enter Tryd.func61, Tryd.ntmps61
  go_wp2
  go_end0
  exact ⟨rfl, rfl⟩

set_option maxRecDepth 100000 in
set_option maxHeartbeats 8000000 in
theorem setb1_any (g : Nat) (lo hi : Int) (c0 c1 c2 c3 c4 c5 : Value) (w : World) (hb : HasBlk w g 50 #[c0, c1, c2, c3, c4, c5]) : Calls Tryd.prog 62 #[.int .i64 lo, .int .i64 hi, .pointer (some ⟨g, 0, none⟩)] w fun e w' => e = .returned (.tuple #[]) ∧ w' = (w.setCell ⟨g, 1, none⟩ (.int .i64 lo)).setCell ⟨g, 4, none⟩ (.int .i64 hi) := by
  have HB := Lib.hid hb
  clear hb
  have hb_ := HB.out.f6
  go_enter Tryd.func62, Tryd.ntmps62
  go_wp2
  go_end0
  exact ⟨rfl, rfl⟩

set_option maxRecDepth 100000 in
set_option maxHeartbeats 8000000 in
theorem setb2_any (g : Nat) (lo hi : Int) (c0 c1 c2 c3 c4 c5 : Value) (w : World) (hb : HasBlk w g 50 #[c0, c1, c2, c3, c4, c5]) : Calls Tryd.prog 63 #[.int .i64 lo, .int .i64 hi, .pointer (some ⟨g, 0, none⟩)] w fun e w' => e = .returned (.tuple #[]) ∧ w' = (w.setCell ⟨g, 2, none⟩ (.int .i64 lo)).setCell ⟨g, 5, none⟩ (.int .i64 hi) := by
  have HB := Lib.hid hb
  clear hb
  have hb_ := HB.out.f6
  go_enter Tryd.func63, Tryd.ntmps63
  go_wp2
  go_end0
  exact ⟨rfl, rfl⟩

set_option maxRecDepth 100000 in
set_option maxHeartbeats 16000000 in
theorem boxed_any (a0 b0 a1 b1 a2 b2 : Int) (w : World) : Calls Tryd.prog 42 #[.agg #[.int .i64 a0, .int .i64 b0, .int .i64 a1, .int .i64 b1, .int .i64 a2, .int .i64 b2]] w fun e w' => e = .returned (.agg #[.int .i64 a0, .int .i64 a1, .int .i64 a2, .int .i64 b0, .int .i64 b1, .int .i64 b2]) ∧ Below w.heap.size w w' := by
  have hz9 := zero_sp3
  have HB := Lib.hid (show Below w.heap.size w (((w.alloc (.cells #[.int .i64 a0, .int .i64 b0, .int .i64 a1, .int .i64 b1, .int .i64 a2, .int .i64 b2] 110)).alloc (.cells #[.int .i64 0, .int .i64 0, .int .i64 0, .int .i64 0, .int .i64 0, .int .i64 0] 50)).alloc (.cells #[.func (.func 61) #[] #[.pointer (some ⟨(w.heap.size + 1), 0, none⟩)], .func (.func 62) #[] #[.pointer (some ⟨(w.heap.size + 1), 0, none⟩)], .func (.func 63) #[] #[.pointer (some ⟨(w.heap.size + 1), 0, none⟩)]] 145)) by
    repeat' (first | exact Below.refl _ _ | refine Below.alloc ?_ (by first | omega | (simp; done) | (simp; omega)) _))
  have P1 := Lib.hid (((hasBlk_new w 110 #[.int .i64 a0, .int .i64 b0, .int .i64 a1, .int .i64 b1, .int .i64 a2, .int .i64 b2]).alloc (.cells #[.int .i64 0, .int .i64 0, .int .i64 0, .int .i64 0, .int .i64 0, .int .i64 0] 50)).alloc (.cells #[.func (.func 61) #[] #[.pointer (some ⟨(w.heap.size + 1), 0, none⟩)], .func (.func 62) #[] #[.pointer (some ⟨(w.heap.size + 1), 0, none⟩)], .func (.func 63) #[] #[.pointer (some ⟨(w.heap.size + 1), 0, none⟩)]] 145))
  have P2 := Lib.hid (show HasBlk (((w.alloc (.cells #[.int .i64 a0, .int .i64 b0, .int .i64 a1, .int .i64 b1, .int .i64 a2, .int .i64 b2] 110)).alloc (.cells #[.int .i64 0, .int .i64 0, .int .i64 0, .int .i64 0, .int .i64 0, .int .i64 0] 50)).alloc (.cells #[.func (.func 61) #[] #[.pointer (some ⟨(w.heap.size + 1), 0, none⟩)], .func (.func 62) #[] #[.pointer (some ⟨(w.heap.size + 1), 0, none⟩)], .func (.func 63) #[] #[.pointer (some ⟨(w.heap.size + 1), 0, none⟩)]] 145)) (w.heap.size + 1) 50 #[.int .i64 0, .int .i64 0, .int .i64 0, .int .i64 0, .int .i64 0, .int .i64 0] by simpa using (hasBlk_new (w.alloc (.cells #[.int .i64 a0, .int .i64 b0, .int .i64 a1, .int .i64 b1, .int .i64 a2, .int .i64 b2] 110)) 50 #[.int .i64 0, .int .i64 0, .int .i64 0, .int .i64 0, .int .i64 0, .int .i64 0]).alloc (.cells #[.func (.func 61) #[] #[.pointer (some ⟨(w.heap.size + 1), 0, none⟩)], .func (.func 62) #[] #[.pointer (some ⟨(w.heap.size + 1), 0, none⟩)], .func (.func 63) #[] #[.pointer (some ⟨(w.heap.size + 1), 0, none⟩)]] 145))
  have P3 := Lib.hid (show HasBlk (((w.alloc (.cells #[.int .i64 a0, .int .i64 b0, .int .i64 a1, .int .i64 b1, .int .i64 a2, .int .i64 b2] 110)).alloc (.cells #[.int .i64 0, .int .i64 0, .int .i64 0, .int .i64 0, .int .i64 0, .int .i64 0] 50)).alloc (.cells #[.func (.func 61) #[] #[.pointer (some ⟨(w.heap.size + 1), 0, none⟩)], .func (.func 62) #[] #[.pointer (some ⟨(w.heap.size + 1), 0, none⟩)], .func (.func 63) #[] #[.pointer (some ⟨(w.heap.size + 1), 0, none⟩)]] 145)) (w.heap.size + 1 + 1) 145 #[.func (.func 61) #[] #[.pointer (some ⟨(w.heap.size + 1), 0, none⟩)], .func (.func 62) #[] #[.pointer (some ⟨(w.heap.size + 1), 0, none⟩)], .func (.func 63) #[] #[.pointer (some ⟨(w.heap.size + 1), 0, none⟩)]] by simpa using hasBlk_new ((w.alloc (.cells #[.int .i64 a0, .int .i64 b0, .int .i64 a1, .int .i64 b1, .int .i64 a2, .int .i64 b2] 110)).alloc (.cells #[.int .i64 0, .int .i64 0, .int .i64 0, .int .i64 0, .int .i64 0, .int .i64 0] 50)) 145 #[.func (.func 61) #[] #[.pointer (some ⟨(w.heap.size + 1), 0, none⟩)], .func (.func 62) #[] #[.pointer (some ⟨(w.heap.size + 1), 0, none⟩)], .func (.func 63) #[] #[.pointer (some ⟨(w.heap.size + 1), 0, none⟩)]])
  go_enter Tryd.func42, Tryd.ntmps42
  go_wp2
  clear hz9
  generalize (((w.alloc (.cells #[.int .i64 a0, .int .i64 b0, .int .i64 a1, .int .i64 b1, .int .i64 a2, .int .i64 b2] 110)).alloc (.cells #[.int .i64 0, .int .i64 0, .int .i64 0, .int .i64 0, .int .i64 0, .int .i64 0] 50)).alloc (.cells #[.func (.func 61) #[] #[.pointer (some ⟨(w.heap.size + 1), 0, none⟩)], .func (.func 62) #[] #[.pointer (some ⟨(w.heap.size + 1), 0, none⟩)], .func (.func 63) #[] #[.pointer (some ⟨(w.heap.size + 1), 0, none⟩)]] 145)) = v0 at *
  go_loopw [10] (fun s10 wr => (s10 = .int .i64 (0 : Nat) ∧ HasBlk wr (w.heap.size + 1) 50 #[.int .i64 0, .int .i64 0, .int .i64 0, .int .i64 0, .int .i64 0, .int .i64 0] ∧ HasBlk wr w.heap.size 110 #[.int .i64 a0, .int .i64 b0, .int .i64 a1, .int .i64 b1, .int .i64 a2, .int .i64 b2] ∧ HasBlk wr (w.heap.size + 1 + 1) 145 #[.func (.func 61) #[] #[.pointer (some ⟨(w.heap.size + 1), 0, none⟩)], .func (.func 62) #[] #[.pointer (some ⟨(w.heap.size + 1), 0, none⟩)], .func (.func 63) #[] #[.pointer (some ⟨(w.heap.size + 1), 0, none⟩)]] ∧ Below w.heap.size w wr) ∨ ((s10 = .int .i64 (1 : Nat) ∧ HasBlk wr (w.heap.size + 1) 50 #[.int .i64 a0, .int .i64 0, .int .i64 0, .int .i64 b0, .int .i64 0, .int .i64 0] ∧ HasBlk wr w.heap.size 110 #[.int .i64 a0, .int .i64 b0, .int .i64 a1, .int .i64 b1, .int .i64 a2, .int .i64 b2] ∧ HasBlk wr (w.heap.size + 1 + 1) 145 #[.func (.func 61) #[] #[.pointer (some ⟨(w.heap.size + 1), 0, none⟩)], .func (.func 62) #[] #[.pointer (some ⟨(w.heap.size + 1), 0, none⟩)], .func (.func 63) #[] #[.pointer (some ⟨(w.heap.size + 1), 0, none⟩)]] ∧ Below w.heap.size w wr) ∨ ((s10 = .int .i64 (2 : Nat) ∧ HasBlk wr (w.heap.size + 1) 50 #[.int .i64 a0, .int .i64 a1, .int .i64 0, .int .i64 b0, .int .i64 b1, .int .i64 0] ∧ HasBlk wr w.heap.size 110 #[.int .i64 a0, .int .i64 b0, .int .i64 a1, .int .i64 b1, .int .i64 a2, .int .i64 b2] ∧ HasBlk wr (w.heap.size + 1 + 1) 145 #[.func (.func 61) #[] #[.pointer (some ⟨(w.heap.size + 1), 0, none⟩)], .func (.func 62) #[] #[.pointer (some ⟨(w.heap.size + 1), 0, none⟩)], .func (.func 63) #[] #[.pointer (some ⟨(w.heap.size + 1), 0, none⟩)]] ∧ Below w.heap.size w wr) ∨ (s10 = .int .i64 (3 : Nat) ∧ HasBlk wr (w.heap.size + 1) 50 #[.int .i64 a0, .int .i64 a1, .int .i64 a2, .int .i64 b0, .int .i64 b1, .int .i64 b2] ∧ HasBlk wr w.heap.size 110 #[.int .i64 a0, .int .i64 b0, .int .i64 a1, .int .i64 b1, .int .i64 a2, .int .i64 b2] ∧ HasBlk wr (w.heap.size + 1 + 1) 145 #[.func (.func 61) #[] #[.pointer (some ⟨(w.heap.size + 1), 0, none⟩)], .func (.func 62) #[] #[.pointer (some ⟨(w.heap.size + 1), 0, none⟩)], .func (.func 63) #[] #[.pointer (some ⟨(w.heap.size + 1), 0, none⟩)]] ∧ Below w.heap.size w wr)))) (fun s10 wr => 3 - (intOf s10).toNat)
  case atStart => exact .inl ⟨rfl, P2.out, P1.out, P3.out, HB.out⟩
  case round =>
    clear P1 P2 P3 HB
    rcases hrel with ⟨rfl, h2, h1, h3, h4⟩ | ⟨rfl, h2, h1, h3, h4⟩ | ⟨rfl, h2, h1, h3, h4⟩ | ⟨rfl, h2, h1, h3, h4⟩
    · have P1 := Lib.hid h1
      have P2 := Lib.hid h2
      have P3 := Lib.hid h3
      have HB := Lib.hid h4
      clear h1 h2 h3 h4
      have p3_ := P3.out.c3
      go_upto_region 4 with fail
      clear p3_
      have bd := (Below.refl wr.heap.size wr).drew
      have HS := Lib.hid (show (fun Wo => HasBlk Wo w.heap.size 110 #[.int .i64 a0, .int .i64 b0, .int .i64 a1, .int .i64 b1, .int .i64 a2, .int .i64 b2] ∧ HasBlk Wo w.heap.size 110 #[.int .i64 a0, .int .i64 b0, .int .i64 a1, .int .i64 b1, .int .i64 a2, .int .i64 b2]) wr.drew from ⟨P1.out.drew, P1.out.drew⟩)
      have Q1 := Lib.hid P1.out.drew
      have Q2 := Lib.hid P2.out.drew
      have Q3 := Lib.hid P3.out.drew
      have HD := Lib.hid HB.out.drew
      clear P1 P2 P3 HB bd
      refine wp_region_E (fun Wo => HasBlk Wo w.heap.size 110 #[.int .i64 a0, .int .i64 b0, .int .i64 a1, .int .i64 b1, .int .i64 a2, .int .i64 b2] ∧ HasBlk Wo w.heap.size 110 #[.int .i64 a0, .int .i64 b0, .int .i64 a1, .int .i64 b1, .int .i64 a2, .int .i64 b2]) 99 (by kernel_rfl) ?_
      generalize wr.drew = u1 at *
      refine wpAnyE_takeA (i := 0) (v := .func (.func 61) #[] #[.pointer (some ⟨(w.heap.size + 1), 0, none⟩)]) rfl (by kernel_rfl) (fun _ _ _ h => h) (.inl ⟨by first | kernel_rfl | rfl, fun W hW => by go_simp⟩) HS.out ?_
      simp only [Act.put, List.setIfInBounds_toArray]
      refine wpAnyE_takeA (i := 1) (v := .int .i64 0) rfl (by kernel_rfl) (fun _ _ _ h => h) (.inl ⟨by first | kernel_rfl | rfl, fun W hW => by go_simp⟩) HS.out ?_
      simp only [Act.put]
      refine wpAnyE_takeA (i := 2) (v := .pointer (some ⟨w.heap.size, 0, none⟩)) rfl (by kernel_rfl) (fun _ _ _ h => h) (.inl ⟨by first | kernel_rfl | rfl, fun W hW => by go_simp⟩) HS.out ?_
      simp only [Act.put]
      refine wpAnyE_takeA (i := 3) (v := .pointer (some ⟨w.heap.size, 0, none⟩)) rfl (by kernel_rfl) (fun _ _ _ h => h) (.inl ⟨by first | kernel_rfl | rfl, fun W hW => by go_simp⟩) HS.out ?_
      simp only [Act.put]
      refine wpAnyE_takeA (i := 4) (v := .int .i64 a0) rfl (by kernel_rfl) (fun _ _ _ h => h) (.inl ⟨by first | kernel_rfl | rfl, fun W hW => ?_⟩) HS.out ?_
      · have q0 := hW.1.cell 0
        have q1 := hW.1.cell 1
        have q2 := hW.1.cell 2
        have q3 := hW.1.cell 3
        have q4 := hW.1.cell 4
        have q5 := hW.1.cell 5
        have qz := hW.1.lt
        simp at q0 q1 q2 q3 q4 q5
        go_simp
      simp only [Act.put]
      refine wpAnyE_takeA (i := 5) (v := .int .i64 0) rfl (by kernel_rfl) (fun _ _ _ h => h) (.inl ⟨by first | kernel_rfl | rfl, fun W hW => by go_simp⟩) HS.out ?_
      simp only [Act.put]
      refine wpAnyE_takeA (i := 6) (v := .pointer (some ⟨w.heap.size, 0, none⟩)) rfl (by kernel_rfl) (fun _ _ _ h => h) (.inl ⟨by first | kernel_rfl | rfl, fun W hW => by go_simp⟩) HS.out ?_
      simp only [Act.put]
      refine wpAnyE_takeA (i := 7) (v := .pointer (some ⟨w.heap.size, 1, none⟩)) rfl (by kernel_rfl) (fun _ _ _ h => h) (.inl ⟨by first | kernel_rfl | rfl, fun W hW => by go_simp⟩) HS.out ?_
      simp only [Act.put]
      refine wpAnyE_takeA (i := 8) (v := .int .i64 b0) rfl (by kernel_rfl) (fun _ _ _ h => h) (.inl ⟨by first | kernel_rfl | rfl, fun W hW => ?_⟩) HS.out ?_
      · have q0 := hW.1.cell 0
        have q1 := hW.1.cell 1
        have q2 := hW.1.cell 2
        have q3 := hW.1.cell 3
        have q4 := hW.1.cell 4
        have q5 := hW.1.cell 5
        have qz := hW.1.lt
        simp at q0 q1 q2 q3 q4 q5
        go_simp
      simp only [Act.put]
      refine wpAnyE_step (i := 9) rfl (by kernel_rfl) (fun KQ HK => ?_)
      have KX := Lib.hid (setb0_any (w.heap.size + 1) a0 b0 (.int .i64 0) (.int .i64 0) (.int .i64 0) (.int .i64 0) (.int .i64 0) (.int .i64 0) u1 Q2.out)
      go_wp2_with fail
      refine KX.out.mono ?_
      rintro e u2 ⟨rfl, rfl⟩
      clear KX HS
      have R1 := Lib.hid (show HasBlk ((u1.setCell ⟨(w.heap.size + 1), 0, none⟩ (.int .i64 a0)).setCell ⟨(w.heap.size + 1), 3, none⟩ (.int .i64 b0)) w.heap.size 110 #[.int .i64 a0, .int .i64 b0, .int .i64 a1, .int .i64 b1, .int .i64 a2, .int .i64 b2] from ((Q1.out.far (p := ⟨(w.heap.size + 1), 0, none⟩) (by simp) (.int .i64 a0)).far (p := ⟨(w.heap.size + 1), 3, none⟩) (by simp) (.int .i64 b0)))
      have R3 := Lib.hid (show HasBlk ((u1.setCell ⟨(w.heap.size + 1), 0, none⟩ (.int .i64 a0)).setCell ⟨(w.heap.size + 1), 3, none⟩ (.int .i64 b0)) (w.heap.size + 1 + 1) 145 #[.func (.func 61) #[] #[.pointer (some ⟨(w.heap.size + 1), 0, none⟩)], .func (.func 62) #[] #[.pointer (some ⟨(w.heap.size + 1), 0, none⟩)], .func (.func 63) #[] #[.pointer (some ⟨(w.heap.size + 1), 0, none⟩)]] from ((Q3.out.far (p := ⟨(w.heap.size + 1), 0, none⟩) (by simp) (.int .i64 a0)).far (p := ⟨(w.heap.size + 1), 3, none⟩) (by simp) (.int .i64 b0)))
      have R2 := Lib.hid (show HasBlk ((u1.setCell ⟨(w.heap.size + 1), 0, none⟩ (.int .i64 a0)).setCell ⟨(w.heap.size + 1), 3, none⟩ (.int .i64 b0)) (w.heap.size + 1) 50 #[.int .i64 a0, .int .i64 0, .int .i64 0, .int .i64 b0, .int .i64 0, .int .i64 0] by simpa using (Q2.out.set 0 (.int .i64 a0)).set 3 (.int .i64 b0))
      have HC := Lib.hid (show Below w.heap.size w ((u1.setCell ⟨(w.heap.size + 1), 0, none⟩ (.int .i64 a0)).setCell ⟨(w.heap.size + 1), 3, none⟩ (.int .i64 b0)) from Below.setCell (Below.setCell HD.out (by simp) _) (by simp) _)
      have HS := Lib.hid (show (fun Wo => HasBlk Wo w.heap.size 110 #[.int .i64 a0, .int .i64 b0, .int .i64 a1, .int .i64 b1, .int .i64 a2, .int .i64 b2] ∧ HasBlk Wo w.heap.size 110 #[.int .i64 a0, .int .i64 b0, .int .i64 a1, .int .i64 b1, .int .i64 a2, .int .i64 b2]) ((u1.setCell ⟨(w.heap.size + 1), 0, none⟩ (.int .i64 a0)).setCell ⟨(w.heap.size + 1), 3, none⟩ (.int .i64 b0)) from ⟨R1.out, R1.out⟩)
      clear Q1 Q2 Q3 HD
      go_wp2
      refine HK _ _ (fun _ => HS.out) ?_
      clear HK
      generalize ((u1.setCell ⟨(w.heap.size + 1), 0, none⟩ (.int .i64 a0)).setCell ⟨(w.heap.size + 1), 3, none⟩ (.int .i64 b0)) = u3 at *
      refine wpAnyE_done (by kernel_rfl) ?_
      go_wp2
      go_roundw
      case rel => exact .inr (.inl ⟨by go_num, R2.out, R1.out, R3.out, HC.out⟩)
      case measure => simp [intOf]
    · have P1 := Lib.hid h1
      have P2 := Lib.hid h2
      have P3 := Lib.hid h3
      have HB := Lib.hid h4
      clear h1 h2 h3 h4
      have p3_ := P3.out.c3
      go_upto_region 4 with fail
      clear p3_
      have bd := (Below.refl wr.heap.size wr).drew
      have HS := Lib.hid (show (fun Wo => HasBlk Wo w.heap.size 110 #[.int .i64 a0, .int .i64 b0, .int .i64 a1, .int .i64 b1, .int .i64 a2, .int .i64 b2] ∧ HasBlk Wo w.heap.size 110 #[.int .i64 a0, .int .i64 b0, .int .i64 a1, .int .i64 b1, .int .i64 a2, .int .i64 b2]) wr.drew from ⟨P1.out.drew, P1.out.drew⟩)
      have Q1 := Lib.hid P1.out.drew
      have Q2 := Lib.hid P2.out.drew
      have Q3 := Lib.hid P3.out.drew
      have HD := Lib.hid HB.out.drew
      clear P1 P2 P3 HB bd
      refine wp_region_E (fun Wo => HasBlk Wo w.heap.size 110 #[.int .i64 a0, .int .i64 b0, .int .i64 a1, .int .i64 b1, .int .i64 a2, .int .i64 b2] ∧ HasBlk Wo w.heap.size 110 #[.int .i64 a0, .int .i64 b0, .int .i64 a1, .int .i64 b1, .int .i64 a2, .int .i64 b2]) 99 (by kernel_rfl) ?_
      generalize wr.drew = u1 at *
      refine wpAnyE_takeA (i := 0) (v := .func (.func 62) #[] #[.pointer (some ⟨(w.heap.size + 1), 0, none⟩)]) rfl (by kernel_rfl) (fun _ _ _ h => h) (.inl ⟨by first | kernel_rfl | rfl, fun W hW => by go_simp⟩) HS.out ?_
      simp only [Act.put, List.setIfInBounds_toArray]
      refine wpAnyE_takeA (i := 1) (v := .int .i64 1) rfl (by kernel_rfl) (fun _ _ _ h => h) (.inl ⟨by first | kernel_rfl | rfl, fun W hW => by go_simp⟩) HS.out ?_
      simp only [Act.put]
      refine wpAnyE_takeA (i := 2) (v := .pointer (some ⟨w.heap.size, 2, none⟩)) rfl (by kernel_rfl) (fun _ _ _ h => h) (.inl ⟨by first | kernel_rfl | rfl, fun W hW => by go_simp⟩) HS.out ?_
      simp only [Act.put]
      refine wpAnyE_takeA (i := 3) (v := .pointer (some ⟨w.heap.size, 2, none⟩)) rfl (by kernel_rfl) (fun _ _ _ h => h) (.inl ⟨by first | kernel_rfl | rfl, fun W hW => by go_simp⟩) HS.out ?_
      simp only [Act.put]
      refine wpAnyE_takeA (i := 4) (v := .int .i64 a1) rfl (by kernel_rfl) (fun _ _ _ h => h) (.inl ⟨by first | kernel_rfl | rfl, fun W hW => ?_⟩) HS.out ?_
      · have q0 := hW.1.cell 0
        have q1 := hW.1.cell 1
        have q2 := hW.1.cell 2
        have q3 := hW.1.cell 3
        have q4 := hW.1.cell 4
        have q5 := hW.1.cell 5
        have qz := hW.1.lt
        simp at q0 q1 q2 q3 q4 q5
        go_simp
      simp only [Act.put]
      refine wpAnyE_takeA (i := 5) (v := .int .i64 1) rfl (by kernel_rfl) (fun _ _ _ h => h) (.inl ⟨by first | kernel_rfl | rfl, fun W hW => by go_simp⟩) HS.out ?_
      simp only [Act.put]
      refine wpAnyE_takeA (i := 6) (v := .pointer (some ⟨w.heap.size, 2, none⟩)) rfl (by kernel_rfl) (fun _ _ _ h => h) (.inl ⟨by first | kernel_rfl | rfl, fun W hW => by go_simp⟩) HS.out ?_
      simp only [Act.put]
      refine wpAnyE_takeA (i := 7) (v := .pointer (some ⟨w.heap.size, 3, none⟩)) rfl (by kernel_rfl) (fun _ _ _ h => h) (.inl ⟨by first | kernel_rfl | rfl, fun W hW => by go_simp⟩) HS.out ?_
      simp only [Act.put]
      refine wpAnyE_takeA (i := 8) (v := .int .i64 b1) rfl (by kernel_rfl) (fun _ _ _ h => h) (.inl ⟨by first | kernel_rfl | rfl, fun W hW => ?_⟩) HS.out ?_
      · have q0 := hW.1.cell 0
        have q1 := hW.1.cell 1
        have q2 := hW.1.cell 2
        have q3 := hW.1.cell 3
        have q4 := hW.1.cell 4
        have q5 := hW.1.cell 5
        have qz := hW.1.lt
        simp at q0 q1 q2 q3 q4 q5
        go_simp
      simp only [Act.put]
      refine wpAnyE_step (i := 9) rfl (by kernel_rfl) (fun KQ HK => ?_)
      have KX := Lib.hid (setb1_any (w.heap.size + 1) a1 b1 (.int .i64 a0) (.int .i64 0) (.int .i64 0) (.int .i64 b0) (.int .i64 0) (.int .i64 0) u1 Q2.out)
      go_wp2_with fail
      refine KX.out.mono ?_
      rintro e u2 ⟨rfl, rfl⟩
      clear KX HS
      have R1 := Lib.hid (show HasBlk ((u1.setCell ⟨(w.heap.size + 1), 1, none⟩ (.int .i64 a1)).setCell ⟨(w.heap.size + 1), 4, none⟩ (.int .i64 b1)) w.heap.size 110 #[.int .i64 a0, .int .i64 b0, .int .i64 a1, .int .i64 b1, .int .i64 a2, .int .i64 b2] from ((Q1.out.far (p := ⟨(w.heap.size + 1), 1, none⟩) (by simp) (.int .i64 a1)).far (p := ⟨(w.heap.size + 1), 4, none⟩) (by simp) (.int .i64 b1)))
      have R3 := Lib.hid (show HasBlk ((u1.setCell ⟨(w.heap.size + 1), 1, none⟩ (.int .i64 a1)).setCell ⟨(w.heap.size + 1), 4, none⟩ (.int .i64 b1)) (w.heap.size + 1 + 1) 145 #[.func (.func 61) #[] #[.pointer (some ⟨(w.heap.size + 1), 0, none⟩)], .func (.func 62) #[] #[.pointer (some ⟨(w.heap.size + 1), 0, none⟩)], .func (.func 63) #[] #[.pointer (some ⟨(w.heap.size + 1), 0, none⟩)]] from ((Q3.out.far (p := ⟨(w.heap.size + 1), 1, none⟩) (by simp) (.int .i64 a1)).far (p := ⟨(w.heap.size + 1), 4, none⟩) (by simp) (.int .i64 b1)))
      have R2 := Lib.hid (show HasBlk ((u1.setCell ⟨(w.heap.size + 1), 1, none⟩ (.int .i64 a1)).setCell ⟨(w.heap.size + 1), 4, none⟩ (.int .i64 b1)) (w.heap.size + 1) 50 #[.int .i64 a0, .int .i64 a1, .int .i64 0, .int .i64 b0, .int .i64 b1, .int .i64 0] by simpa using (Q2.out.set 1 (.int .i64 a1)).set 4 (.int .i64 b1))
      have HC := Lib.hid (show Below w.heap.size w ((u1.setCell ⟨(w.heap.size + 1), 1, none⟩ (.int .i64 a1)).setCell ⟨(w.heap.size + 1), 4, none⟩ (.int .i64 b1)) from Below.setCell (Below.setCell HD.out (by simp) _) (by simp) _)
      have HS := Lib.hid (show (fun Wo => HasBlk Wo w.heap.size 110 #[.int .i64 a0, .int .i64 b0, .int .i64 a1, .int .i64 b1, .int .i64 a2, .int .i64 b2] ∧ HasBlk Wo w.heap.size 110 #[.int .i64 a0, .int .i64 b0, .int .i64 a1, .int .i64 b1, .int .i64 a2, .int .i64 b2]) ((u1.setCell ⟨(w.heap.size + 1), 1, none⟩ (.int .i64 a1)).setCell ⟨(w.heap.size + 1), 4, none⟩ (.int .i64 b1)) from ⟨R1.out, R1.out⟩)
      clear Q1 Q2 Q3 HD
      go_wp2
      refine HK _ _ (fun _ => HS.out) ?_
      clear HK
      generalize ((u1.setCell ⟨(w.heap.size + 1), 1, none⟩ (.int .i64 a1)).setCell ⟨(w.heap.size + 1), 4, none⟩ (.int .i64 b1)) = u3 at *
      refine wpAnyE_done (by kernel_rfl) ?_
      go_wp2
      go_roundw
      case rel => exact .inr (.inr (.inl ⟨by go_num, R2.out, R1.out, R3.out, HC.out⟩))
      case measure => simp [intOf]
    · have P1 := Lib.hid h1
      have P2 := Lib.hid h2
      have P3 := Lib.hid h3
      have HB := Lib.hid h4
      clear h1 h2 h3 h4
      have p3_ := P3.out.c3
      go_upto_region 4 with fail
      clear p3_
      have bd := (Below.refl wr.heap.size wr).drew
      have HS := Lib.hid (show (fun Wo => HasBlk Wo w.heap.size 110 #[.int .i64 a0, .int .i64 b0, .int .i64 a1, .int .i64 b1, .int .i64 a2, .int .i64 b2] ∧ HasBlk Wo w.heap.size 110 #[.int .i64 a0, .int .i64 b0, .int .i64 a1, .int .i64 b1, .int .i64 a2, .int .i64 b2]) wr.drew from ⟨P1.out.drew, P1.out.drew⟩)
      have Q1 := Lib.hid P1.out.drew
      have Q2 := Lib.hid P2.out.drew
      have Q3 := Lib.hid P3.out.drew
      have HD := Lib.hid HB.out.drew
      clear P1 P2 P3 HB bd
      refine wp_region_E (fun Wo => HasBlk Wo w.heap.size 110 #[.int .i64 a0, .int .i64 b0, .int .i64 a1, .int .i64 b1, .int .i64 a2, .int .i64 b2] ∧ HasBlk Wo w.heap.size 110 #[.int .i64 a0, .int .i64 b0, .int .i64 a1, .int .i64 b1, .int .i64 a2, .int .i64 b2]) 99 (by kernel_rfl) ?_
      generalize wr.drew = u1 at *
      refine wpAnyE_takeA (i := 0) (v := .func (.func 63) #[] #[.pointer (some ⟨(w.heap.size + 1), 0, none⟩)]) rfl (by kernel_rfl) (fun _ _ _ h => h) (.inl ⟨by first | kernel_rfl | rfl, fun W hW => by go_simp⟩) HS.out ?_
      simp only [Act.put, List.setIfInBounds_toArray]
      refine wpAnyE_takeA (i := 1) (v := .int .i64 2) rfl (by kernel_rfl) (fun _ _ _ h => h) (.inl ⟨by first | kernel_rfl | rfl, fun W hW => by go_simp⟩) HS.out ?_
      simp only [Act.put]
      refine wpAnyE_takeA (i := 2) (v := .pointer (some ⟨w.heap.size, 4, none⟩)) rfl (by kernel_rfl) (fun _ _ _ h => h) (.inl ⟨by first | kernel_rfl | rfl, fun W hW => by go_simp⟩) HS.out ?_
      simp only [Act.put]
      refine wpAnyE_takeA (i := 3) (v := .pointer (some ⟨w.heap.size, 4, none⟩)) rfl (by kernel_rfl) (fun _ _ _ h => h) (.inl ⟨by first | kernel_rfl | rfl, fun W hW => by go_simp⟩) HS.out ?_
      simp only [Act.put]
      refine wpAnyE_takeA (i := 4) (v := .int .i64 a2) rfl (by kernel_rfl) (fun _ _ _ h => h) (.inl ⟨by first | kernel_rfl | rfl, fun W hW => ?_⟩) HS.out ?_
      · have q0 := hW.1.cell 0
        have q1 := hW.1.cell 1
        have q2 := hW.1.cell 2
        have q3 := hW.1.cell 3
        have q4 := hW.1.cell 4
        have q5 := hW.1.cell 5
        have qz := hW.1.lt
        simp at q0 q1 q2 q3 q4 q5
        go_simp
      simp only [Act.put]
      refine wpAnyE_takeA (i := 5) (v := .int .i64 2) rfl (by kernel_rfl) (fun _ _ _ h => h) (.inl ⟨by first | kernel_rfl | rfl, fun W hW => by go_simp⟩) HS.out ?_
      simp only [Act.put]
      refine wpAnyE_takeA (i := 6) (v := .pointer (some ⟨w.heap.size, 4, none⟩)) rfl (by kernel_rfl) (fun _ _ _ h => h) (.inl ⟨by first | kernel_rfl | rfl, fun W hW => by go_simp⟩) HS.out ?_
      simp only [Act.put]
      refine wpAnyE_takeA (i := 7) (v := .pointer (some ⟨w.heap.size, 5, none⟩)) rfl (by kernel_rfl) (fun _ _ _ h => h) (.inl ⟨by first | kernel_rfl | rfl, fun W hW => by go_simp⟩) HS.out ?_
      simp only [Act.put]
      refine wpAnyE_takeA (i := 8) (v := .int .i64 b2) rfl (by kernel_rfl) (fun _ _ _ h => h) (.inl ⟨by first | kernel_rfl | rfl, fun W hW => ?_⟩) HS.out ?_
      · have q0 := hW.1.cell 0
        have q1 := hW.1.cell 1
        have q2 := hW.1.cell 2
        have q3 := hW.1.cell 3
        have q4 := hW.1.cell 4
        have q5 := hW.1.cell 5
        have qz := hW.1.lt
        simp at q0 q1 q2 q3 q4 q5
        go_simp
      simp only [Act.put]
      refine wpAnyE_step (i := 9) rfl (by kernel_rfl) (fun KQ HK => ?_)
      have KX := Lib.hid (setb2_any (w.heap.size + 1) a2 b2 (.int .i64 a0) (.int .i64 a1) (.int .i64 0) (.int .i64 b0) (.int .i64 b1) (.int .i64 0) u1 Q2.out)
      go_wp2_with fail
      refine KX.out.mono ?_
      rintro e u2 ⟨rfl, rfl⟩
      clear KX HS
      have R1 := Lib.hid (show HasBlk ((u1.setCell ⟨(w.heap.size + 1), 2, none⟩ (.int .i64 a2)).setCell ⟨(w.heap.size + 1), 5, none⟩ (.int .i64 b2)) w.heap.size 110 #[.int .i64 a0, .int .i64 b0, .int .i64 a1, .int .i64 b1, .int .i64 a2, .int .i64 b2] from ((Q1.out.far (p := ⟨(w.heap.size + 1), 2, none⟩) (by simp) (.int .i64 a2)).far (p := ⟨(w.heap.size + 1), 5, none⟩) (by simp) (.int .i64 b2)))
      have R3 := Lib.hid (show HasBlk ((u1.setCell ⟨(w.heap.size + 1), 2, none⟩ (.int .i64 a2)).setCell ⟨(w.heap.size + 1), 5, none⟩ (.int .i64 b2)) (w.heap.size + 1 + 1) 145 #[.func (.func 61) #[] #[.pointer (some ⟨(w.heap.size + 1), 0, none⟩)], .func (.func 62) #[] #[.pointer (some ⟨(w.heap.size + 1), 0, none⟩)], .func (.func 63) #[] #[.pointer (some ⟨(w.heap.size + 1), 0, none⟩)]] from ((Q3.out.far (p := ⟨(w.heap.size + 1), 2, none⟩) (by simp) (.int .i64 a2)).far (p := ⟨(w.heap.size + 1), 5, none⟩) (by simp) (.int .i64 b2)))
      have R2 := Lib.hid (show HasBlk ((u1.setCell ⟨(w.heap.size + 1), 2, none⟩ (.int .i64 a2)).setCell ⟨(w.heap.size + 1), 5, none⟩ (.int .i64 b2)) (w.heap.size + 1) 50 #[.int .i64 a0, .int .i64 a1, .int .i64 a2, .int .i64 b0, .int .i64 b1, .int .i64 b2] by simpa using (Q2.out.set 2 (.int .i64 a2)).set 5 (.int .i64 b2))
      have HC := Lib.hid (show Below w.heap.size w ((u1.setCell ⟨(w.heap.size + 1), 2, none⟩ (.int .i64 a2)).setCell ⟨(w.heap.size + 1), 5, none⟩ (.int .i64 b2)) from Below.setCell (Below.setCell HD.out (by simp) _) (by simp) _)
      have HS := Lib.hid (show (fun Wo => HasBlk Wo w.heap.size 110 #[.int .i64 a0, .int .i64 b0, .int .i64 a1, .int .i64 b1, .int .i64 a2, .int .i64 b2] ∧ HasBlk Wo w.heap.size 110 #[.int .i64 a0, .int .i64 b0, .int .i64 a1, .int .i64 b1, .int .i64 a2, .int .i64 b2]) ((u1.setCell ⟨(w.heap.size + 1), 2, none⟩ (.int .i64 a2)).setCell ⟨(w.heap.size + 1), 5, none⟩ (.int .i64 b2)) from ⟨R1.out, R1.out⟩)
      clear Q1 Q2 Q3 HD
      go_wp2
      refine HK _ _ (fun _ => HS.out) ?_
      clear HK
      generalize ((u1.setCell ⟨(w.heap.size + 1), 2, none⟩ (.int .i64 a2)).setCell ⟨(w.heap.size + 1), 5, none⟩ (.int .i64 b2)) = u3 at *
      refine wpAnyE_done (by kernel_rfl) ?_
      go_wp2
      go_roundw
      case rel => exact .inr (.inr (.inr (⟨by go_num, R2.out, R1.out, R3.out, HC.out⟩)))
      case measure => simp [intOf]
    · have P2 := Lib.hid h2
      have HB := Lib.hid h4
      clear h1 h2 h3 h4
      have p2_ := P2.out.f6
      go_wp2
      refine bodyPost_ret (v := .agg #[.int .i64 a0, .int .i64 a1, .int .i64 a2, .int .i64 b0, .int .i64 b1, .int .i64 b2]) (by simp [results, Tryd.results42, go_sem, *]) rfl ⟨rfl, ?_⟩
      exact Below.setCell (Below.setCell (Below.setCell (Below.setCell (Below.setCell (Below.setCell HB.out (by simp) _) (by simp) _) (by simp) _) (by simp) _) (by simp) _) (by simp) _
end Go.Proofs.YtemopgpcpjnmkaaDoor
