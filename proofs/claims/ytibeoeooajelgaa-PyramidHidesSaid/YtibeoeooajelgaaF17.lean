/- The walks of shade.Over, its reference. -/
import Derived.Test.YtibeoeooajelgaaProg
import Derived.Test.YtibeoeooajelgaaLib
import Derived.Deep.RegionHeld
namespace Go.Proofs.Ytibeoeooajelgaa
open Go.RowKit

def layc (a x y : Int) : Int := (x * a + y * (255 - a)) / 255
def Byte (a : Int) : Prop := 0 ≤ a ∧ a ≤ 255

theorem mul_bd {a b : Int} (ha : Byte a) (hb : Byte b) : 0 ≤ a * b ∧ a * b ≤ 65025 := by
  obtain ⟨a0, a1⟩ := ha; obtain ⟨b0, b1⟩ := hb
  refine ⟨Int.mul_nonneg a0 b0, ?_⟩
  have := Int.mul_le_mul a1 b1 b0 (by omega : (0:Int) ≤ 255)
  omega



def lraw (a x y : Int) : Int := wrap64 ((wrap64 (wrap64 (wrap64 x * a) + wrap64 (wrap64 y * wrap64 (255 - a)))).tdiv 255) % 256

set_option maxHeartbeats 400000 in
theorem lay_any (x y a : Int) (p : Addr) (w : World) (hp : w.cell? p = some (.int .i64 a)) :
    Calls Try.prog 79 #[.int .u8 x, .int .u8 y, .pointer (some p)] w fun e w' =>
      e = .returned (.int .u8 (lraw a x y)) ∧ w = w' := by
  go_enter Try.func79, Try.ntmps79
  go_wp2
  go_ret
  exact ⟨rfl, rfl⟩

set_option maxHeartbeats 400000 in
theorem over_raw (a0 a1 a2 a3 b0 b1 b2 b3 : Int) (w : World) :
    Calls Try.prog 61 #[.agg #[.int .u8 a0, .int .u8 a1, .int .u8 a2, .int .u8 a3], .agg #[.int .u8 b0, .int .u8 b1, .int .u8 b2, .int .u8 b3]] w fun e w' =>
      e = .returned (.agg #[.int .u8 (lraw (wrap64 a3) a0 b0), .int .u8 (lraw (wrap64 a3) a1 b1), .int .u8 (lraw (wrap64 a3) a2 b2), .int .u8 (lraw (wrap64 a3) 255 b3)]) ∧ Below w.heap.size w w' := by
  go_enter Try.func61, Try.ntmps61
  go_wp2
  refine wp_loop_rounds 4 ?_
  rw [rounds_succ]; go_wp2_with fail
  go_region_held3 (fun W => W.cell? ⟨w.heap.size, 0, none⟩ = some (.int .u8 a0) ∧ W.cell? ⟨w.heap.size + 1, 0, none⟩ = some (.int .u8 b0) ∧ W.cell? ⟨w.heap.size + 1 + 1 + 1, 0, none⟩ = some (.int .i64 (wrap64 a3))) (simp [go_sem])
    (first | (go_at_call 79; refine (lay_any _ _ (wrap64 a3) _ _ ?_).mono ?_; (simp [*]); rintro e w' ⟨rfl, rfl⟩))
  go_wp2
  rw [rounds_succ]; go_wp2_with fail
  go_region_held3 (fun W => W.cell? ⟨w.heap.size, 1, none⟩ = some (.int .u8 a1) ∧ W.cell? ⟨w.heap.size + 1, 1, none⟩ = some (.int .u8 b1) ∧ W.cell? ⟨w.heap.size + 1 + 1 + 1, 0, none⟩ = some (.int .i64 (wrap64 a3))) (simp [go_sem])
    (first | (go_at_call 79; refine (lay_any _ _ (wrap64 a3) _ _ ?_).mono ?_; (simp [*]); rintro e w' ⟨rfl, rfl⟩))
  go_wp2
  rw [rounds_succ]; go_wp2_with fail
  go_region_held3 (fun W => W.cell? ⟨w.heap.size, 2, none⟩ = some (.int .u8 a2) ∧ W.cell? ⟨w.heap.size + 1, 2, none⟩ = some (.int .u8 b2) ∧ W.cell? ⟨w.heap.size + 1 + 1 + 1, 0, none⟩ = some (.int .i64 (wrap64 a3))) (simp [go_sem])
    (first | (go_at_call 79; refine (lay_any _ _ (wrap64 a3) _ _ ?_).mono ?_; (simp [*]); rintro e w' ⟨rfl, rfl⟩))
  go_wp2
  rw [rounds_succ]; go_wp2_with (go_at_call 79; refine (lay_any _ _ (wrap64 a3) _ _ (by simp [go_sem])).mono ?_; rintro e w' ⟨rfl, rfl⟩)
  refine bodyPost_ret (v := .agg #[_, _, _, _]) (by simp [results, Try.results61, go_sem]) rfl ⟨rfl, ?_⟩
  exact (((((((Below.refl _ _).alloc (Nat.le_refl _) _).alloc (by simp) _).alloc (by simp; omega) _).alloc (by simp; omega) _).drew.drew.drew))


def rraw3 (a y : Int) : Int := wrap64 (a + wrap64 ((wrap64 (wrap64 y * wrap64 (255 - a))).tdiv 255)) % 256
set_option maxHeartbeats 400000 in
theorem refover_raw (a0 a1 a2 a3 b0 b1 b2 b3 : Int) (w : World) :
    Calls Try.prog 80 #[.agg #[.int .u8 a0, .int .u8 a1, .int .u8 a2, .int .u8 a3], .agg #[.int .u8 b0, .int .u8 b1, .int .u8 b2, .int .u8 b3]] w fun e w' =>
      e = .returned (.agg #[.int .u8 (lraw (wrap64 a3) a0 b0), .int .u8 (lraw (wrap64 a3) a1 b1), .int .u8 (lraw (wrap64 a3) a2 b2), .int .u8 (rraw3 (wrap64 a3) b3)]) ∧ Below w.heap.size w w' := by
  go_enter Try.func80, Try.ntmps80
  go_wp2
  refine wp_loop_rounds 4 ?_
  rw [rounds_succ]; go_wp2; go_region; go_wp2
  rw [rounds_succ]; go_wp2; go_region; go_wp2
  rw [rounds_succ]; go_wp2; go_region; go_wp2
  rw [rounds_succ]; go_wp2
  refine bodyPost_ret (v := .agg #[_, _, _, _]) (by simp [results, Try.results80, go_sem, lraw, rraw3]) rfl ⟨rfl, ?_⟩
  repeat' (first | exact Below.refl _ _ | assumption | apply Below.drew | refine Below.alloc ?_ (by first | omega | (simp; done) | (simp; omega)) _)

theorem lraw_eq {a x y : Int} (ha : Byte a) (hx : Byte x) (hy : Byte y) : lraw (wrap64 a) x y = layc a x y := by
  have h1 := mul_bd hx ha
  have h2 := mul_bd hy (b := 255 - a) (by unfold Byte at *; omega)
  obtain ⟨a0, a1⟩ := ha; obtain ⟨x0, x1⟩ := hx; obtain ⟨y0, y1⟩ := hy
  unfold lraw layc
  have e1 : wrap64 a = a := by unfold wrap64; omega
  have e2 : wrap64 x = x := by unfold wrap64; omega
  have e3 : wrap64 y = y := by unfold wrap64; omega
  have e4 : wrap64 (255 - a) = 255 - a := by unfold wrap64; omega
  rw [e1, e2, e3, e4]
  have hs : x * a + y * (255 - a) ≤ 65025 := by
    have k1 : x * a ≤ 255 * a := Int.mul_le_mul_of_nonneg_right x1 a0
    have k2 : y * (255 - a) ≤ 255 * (255 - a) := Int.mul_le_mul_of_nonneg_right y1 (by omega)
    omega
  generalize x * a = c at *
  generalize y * (255 - a) = d at *
  have e5 : wrap64 c = c := by unfold wrap64; omega
  have e6 : wrap64 d = d := by unfold wrap64; omega
  rw [e5, e6]
  have e7 : wrap64 (c + d) = c + d := by unfold wrap64; omega
  rw [e7, Int.tdiv_eq_ediv_of_nonneg (by omega)]
  unfold wrap64; omega

theorem rraw3_eq {a y : Int} (ha : Byte a) (hy : Byte y) : rraw3 (wrap64 a) y = layc a 255 y := by
  have h2 := mul_bd hy (b := 255 - a) (by unfold Byte at *; omega)
  obtain ⟨a0, a1⟩ := ha; obtain ⟨y0, y1⟩ := hy
  unfold rraw3 layc
  have e1 : wrap64 a = a := by unfold wrap64; omega
  have e3 : wrap64 y = y := by unfold wrap64; omega
  have e4 : wrap64 (255 - a) = 255 - a := by unfold wrap64; omega
  rw [e1, e3, e4]
  have k2 : y * (255 - a) ≤ 255 * (255 - a) := Int.mul_le_mul_of_nonneg_right y1 (by omega)
  generalize y * (255 - a) = d at *
  have e6 : wrap64 d = d := by unfold wrap64; omega
  rw [e6, Int.tdiv_eq_ediv_of_nonneg (by omega)]
  have : wrap64 (d / 255) = d / 255 := by unfold wrap64; omega
  rw [this]
  have : wrap64 (a + d / 255) = a + d / 255 := by unfold wrap64; omega
  rw [this]
  omega

theorem layc_bd {a x y : Int} (ha : Byte a) (hx : Byte x) (hy : Byte y) : Byte (layc a x y) := by
  have h1 := mul_bd hx ha
  have h2 := mul_bd hy (b := 255 - a) (by unfold Byte at *; omega)
  obtain ⟨a0, a1⟩ := ha; obtain ⟨x0, x1⟩ := hx; obtain ⟨y0, y1⟩ := hy
  have hs : x * a + y * (255 - a) ≤ 65025 := by
    have k1 : x * a ≤ 255 * a := Int.mul_le_mul_of_nonneg_right x1 a0
    have k2 : y * (255 - a) ≤ 255 * (255 - a) := Int.mul_le_mul_of_nonneg_right y1 (by omega)
    omega
  unfold layc Byte; omega

section
variable {a0 a1 a2 a3 b0 b1 b2 b3 : Int} (ha0 : Byte a0) (ha1 : Byte a1) (ha2 : Byte a2) (ha3 : Byte a3) (hb0 : Byte b0) (hb1 : Byte b1) (hb2 : Byte b2) (hb3 : Byte b3) (w : World)
include ha0 ha1 ha2 ha3 hb0 hb1 hb2 hb3
theorem over_any :
    Calls Try.prog 61 #[.agg #[.int .u8 a0, .int .u8 a1, .int .u8 a2, .int .u8 a3], .agg #[.int .u8 b0, .int .u8 b1, .int .u8 b2, .int .u8 b3]] w fun e w' =>
      e = .returned (.agg #[.int .u8 (layc a3 a0 b0), .int .u8 (layc a3 a1 b1), .int .u8 (layc a3 a2 b2), .int .u8 (layc a3 255 b3)]) ∧ Below w.heap.size w w' := by
  have h := over_raw a0 a1 a2 a3 b0 b1 b2 b3 w
  rwa [lraw_eq ha3 ha0 hb0, lraw_eq ha3 ha1 hb1, lraw_eq ha3 ha2 hb2, lraw_eq ha3 (x := 255) (by unfold Byte; omega) hb3] at h
theorem refover_any :
    Calls Try.prog 80 #[.agg #[.int .u8 a0, .int .u8 a1, .int .u8 a2, .int .u8 a3], .agg #[.int .u8 b0, .int .u8 b1, .int .u8 b2, .int .u8 b3]] w fun e w' =>
      e = .returned (.agg #[.int .u8 (layc a3 a0 b0), .int .u8 (layc a3 a1 b1), .int .u8 (layc a3 a2 b2), .int .u8 (layc a3 255 b3)]) ∧ Below w.heap.size w w' := by
  have h := refover_raw a0 a1 a2 a3 b0 b1 b2 b3 w
  rwa [lraw_eq ha3 ha0 hb0, lraw_eq ha3 ha1 hb1, lraw_eq ha3 ha2 hb2, rraw3_eq ha3 hb3] at h
end
end Go.Proofs.Ytibeoeooajelgaa
