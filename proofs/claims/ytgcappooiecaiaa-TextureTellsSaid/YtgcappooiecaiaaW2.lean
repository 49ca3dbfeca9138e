/- The walks of dioramalaw23.ShadeColors, alive, white. -/
import Derived.Test.YtgcappooiecaiaaW1
namespace Go.Proofs.Ytgcappooiecaiaa
open Go.RowKit
set_option linter.unusedVariables false

theorem info5 : Try.prog.info? 5 = some (Try.prog.info? 5 |>.getD default) := by kernel_rfl
theorem eql_col (a0 a1 a2 a3 b0 b1 b2 b3 : Int) (w : World) :
    (binOp .eql 23 (.agg #[.int .u8 a0, .int .u8 a1, .int .u8 a2, .int .u8 a3]) (.agg #[.int .u8 b0, .int .u8 b1, .int .u8 b2, .int .u8 b3])).run Try.prog w = .ok (.bool (a0 == b0 && (a1 == b1 && (a2 == b2 && a3 == b3)))) w :=
  eql_arr4 Try.underlying23 Try.underlying5 info5 (by kernel_rfl) _ _ _ _ _ _ _ _ w

set_option maxHeartbeats 400000 in
theorem shadeColors_walk {a0 a1 a2 a3 b0 b1 b2 b3 : Int} (ha0 : Byte a0) (ha1 : Byte a1) (ha2 : Byte a2) (ha3 : Byte a3) (hb0 : Byte b0) (hb1 : Byte b1) (hb2 : Byte b2) (hb3 : Byte b3) (w : World) :
   Calls Try.prog 3 #[.agg #[.int .u8 a0, .int .u8 a1, .int .u8 a2, .int .u8 a3], .agg #[.int .u8 b0, .int .u8 b1, .int .u8 b2, .int .u8 b3]] w fun e w' => e = .returned (.bool true) ∧ Below w.heap.size w w' := by
  have hk : Keeps (fun W => (Below w.heap.size w W ∧ w.heap.size ≤ W.heap.size) ∧ w.heap.size + 2 ≤ W.heap.size ∧ W.cell? ⟨w.heap.size, 0, none⟩ = some (.int .u8 a0) ∧ W.cell? ⟨w.heap.size, 1, none⟩ = some (.int .u8 a1) ∧ W.cell? ⟨w.heap.size, 2, none⟩ = some (.int .u8 a2) ∧ W.cell? ⟨w.heap.size, 3, none⟩ = some (.int .u8 a3) ∧ W.cell? ⟨w.heap.size + 1, 0, none⟩ = some (.int .u8 b0) ∧ W.cell? ⟨w.heap.size + 1, 1, none⟩ = some (.int .u8 b1) ∧ W.cell? ⟨w.heap.size + 1, 2, none⟩ = some (.int .u8 b2) ∧ W.cell? ⟨w.heap.size + 1, 3, none⟩ = some (.int .u8 b3)) := by
    repeat' (first | exact Keeps.below _ | exact Keeps.size _ | exact Keeps.cell _ _ | apply Keeps.and)
  have hq := eql_col
  go_enter Try.func3, Try.ntmps3
  go_wp2
  go_region_held3 (fun W => (Below w.heap.size w W ∧ w.heap.size ≤ W.heap.size) ∧ w.heap.size + 2 ≤ W.heap.size ∧ W.cell? ⟨w.heap.size, 0, none⟩ = some (.int .u8 a0) ∧ W.cell? ⟨w.heap.size, 1, none⟩ = some (.int .u8 a1) ∧ W.cell? ⟨w.heap.size, 2, none⟩ = some (.int .u8 a2) ∧ W.cell? ⟨w.heap.size, 3, none⟩ = some (.int .u8 a3) ∧ W.cell? ⟨w.heap.size + 1, 0, none⟩ = some (.int .u8 b0) ∧ W.cell? ⟨w.heap.size + 1, 1, none⟩ = some (.int .u8 b1) ∧ W.cell? ⟨w.heap.size + 1, 2, none⟩ = some (.int .u8 b2) ∧ W.cell? ⟨w.heap.size + 1, 3, none⟩ = some (.int .u8 b3))
    (first | exact hk _ _ hbel (by assumption) | (refine ⟨⟨?_, by first | omega | (simp; done) | (simp; omega)⟩, by first | omega | (simp; done) | (simp; omega), by simp [go_sem], by simp [go_sem], by simp [go_sem], by simp [go_sem], by simp [go_sem], by simp [go_sem], by simp [go_sem], by simp [go_sem]⟩; repeat' (first | exact Below.refl _ _ | assumption | apply Below.drew | refine Below.alloc ?_ (by first | omega | (simp; done) | (simp; omega)) _)))
    (first | (go_at_call 13; refine (mix_any ha0 ha1 ha2 ha3 hb0 hb1 hb2 hb3 _).mono ?_; rintro e w' ⟨rfl, hbel⟩)
           | (go_at_call 14; refine (refmix_any ha0 ha1 ha2 ha3 hb0 hb1 hb2 hb3 _).mono ?_; rintro e w' ⟨rfl, hbel⟩)
           | (go_at_call 15; refine (over_any ha0 ha1 ha2 ha3 hb0 hb1 hb2 hb3 _).mono ?_; rintro e w' ⟨rfl, hbel⟩)
           | (go_at_call 16; refine (refover_any ha0 ha1 ha2 ha3 hb0 hb1 hb2 hb3 _).mono ?_; rintro e w' ⟨rfl, hbel⟩))
  go_wp2
  go_ret
  exact ⟨rfl, (‹(Below w.heap.size w _ ∧ _) ∧ _›).1.1⟩

theorem byte_lit (n : Int) (h : 0 ≤ n ∧ n ≤ 255) : Byte n := h
theorem mix_alive (w : World) : Calls Try.prog 13 #[.agg #[.int .u8 255, .int .u8 128, .int .u8 0, .int .u8 255], .agg #[.int .u8 100, .int .u8 100, .int .u8 100, .int .u8 128]] w fun e w' =>
      e = .returned (.agg #[.int .u8 100, .int .u8 50, .int .u8 0, .int .u8 128]) ∧ Below w.heap.size w w' :=
  mix_any (byte_lit 255 (by decide)) (byte_lit 128 (by decide)) (byte_lit 0 (by decide)) (byte_lit 255 (by decide)) (byte_lit 100 (by decide)) (byte_lit 100 (by decide)) (byte_lit 100 (by decide)) (byte_lit 128 (by decide)) w
theorem over_alive (w : World) : Calls Try.prog 15 #[.agg #[.int .u8 200, .int .u8 0, .int .u8 100, .int .u8 128], .agg #[.int .u8 100, .int .u8 50, .int .u8 50, .int .u8 255]] w fun e w' =>
      e = .returned (.agg #[.int .u8 150, .int .u8 24, .int .u8 75, .int .u8 255]) ∧ Below w.heap.size w w' :=
  over_any (byte_lit 200 (by decide)) (byte_lit 0 (by decide)) (byte_lit 100 (by decide)) (byte_lit 128 (by decide)) (byte_lit 100 (by decide)) (byte_lit 50 (by decide)) (byte_lit 50 (by decide)) (byte_lit 255 (by decide)) w

set_option maxHeartbeats 400000 in
theorem alive_any (w : World) : Calls Try.prog 17 #[] w fun e w' => e = .returned (.bool true) ∧ Below w.heap.size w w' := by
  have hq := eql_col
  go_enter Try.func17, Try.ntmps17
  go_wp2_with (first | (go_at_call 13; refine (mix_alive _).mono ?_; rintro e w1 ⟨rfl, hb1⟩) | (go_at_call 15; refine (over_alive _).mono ?_; rintro e w2 ⟨rfl, hb2⟩))
  go_ret
  exact ⟨rfl, hb1.trans (hb2.mono hb1.size)⟩

set_option maxHeartbeats 400000 in
theorem white_any (w : World) : Calls Try.prog 18 #[] w fun e w' => e = .returned (.agg #[.int .u8 255, .int .u8 255, .int .u8 255, .int .u8 255]) ∧ Below w.heap.size w w' := by
  go_enter Try.func18, Try.ntmps18
  go_wp2
  refine bodyPost_ret (v := .agg #[_, _, _, _]) (by simp [results, Try.results18, go_sem]) rfl ⟨rfl, ?_⟩
  repeat' (first | exact Below.refl _ _ | assumption | apply Below.drew | refine Below.alloc ?_ (by first | omega | (simp; done) | (simp; omega)) _)
end Go.Proofs.Ytgcappooiecaiaa
