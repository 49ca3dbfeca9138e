/- The walk of mesh.fits. -/
import Derived.Test.YtkclkillphafkaaProg
import Derived.Test.YtkclkillphafkaaTri
namespace Go.Proofs.Ytkclkillphafkaa
open Go.RowKit
set_option linter.unusedVariables false

theorem tri_info : (Try.prog.info? 36).map (fun i => (i.zero, i.size, i.bytes)) = some (some (.agg #[.int .i64 0, .int .i64 0, .int .i64 0]), 3, 24) := by kernel_rfl

set_option maxHeartbeats 400000 in
theorem fits0_yes (n : Nat) (A : Option Addr) (c : Nat) (w : World) (hn : (n : Int) ≤ 200) (h : n % 3 = 0) :
    Calls Try.prog 24 #[.agg #[.int .u8 0, .slice A n c]] w fun e w' => e = .returned (.bool true) ∧ Below w.heap.size w w' := by
  have hn0 : (0 : Int) ≤ (n : Int) := by omega
  have g : ((n : Int) % 3 == 0) = true := by simp; omega
  clear h
  go_enter Try.func24, Try.ntmps24
  go_wp2
  go_ret
  exact ⟨rfl, by repeat' (first | exact Below.refl _ _ | assumption | apply Below.drew | refine Below.setCell ?_ (by first | omega | (simp; done) | (simp; omega)) _ | refine Below.alloc ?_ (by first | omega | (simp; done) | (simp; omega)) _)⟩

set_option maxHeartbeats 400000 in
theorem fits0_no (n : Nat) (A : Option Addr) (c : Nat) (w : World) (hn : (n : Int) ≤ 200) (h : ¬ (n % 3 = 0)) :
    Calls Try.prog 24 #[.agg #[.int .u8 0, .slice A n c]] w fun e w' => e = .returned (.bool false) ∧ Below w.heap.size w w' := by
  have hn0 : (0 : Int) ≤ (n : Int) := by omega
  have g : ((n : Int) % 3 == 0) = false := by simp; omega
  clear h
  go_enter Try.func24, Try.ntmps24
  go_wp2
  go_ret
  exact ⟨rfl, by repeat' (first | exact Below.refl _ _ | assumption | apply Below.drew | refine Below.setCell ?_ (by first | omega | (simp; done) | (simp; omega)) _ | refine Below.alloc ?_ (by first | omega | (simp; done) | (simp; omega)) _)⟩

set_option maxHeartbeats 400000 in
theorem fits1_yes (n : Nat) (A : Option Addr) (c : Nat) (w : World) (hn : (n : Int) ≤ 200) (h : n = 0 ∨ 3 ≤ n) :
    Calls Try.prog 24 #[.agg #[.int .u8 1, .slice A n c]] w fun e w' => e = .returned (.bool true) ∧ Below w.heap.size w w' := by
  have hn0 : (0 : Int) ≤ (n : Int) := by omega
  have g : ((n : Int) == 0) = true ∨ ((n : Int) == 0) = false ∧ decide ((3 : Int) ≤ (n : Int)) = true := by simp; omega
  clear h
  rcases g with g | ⟨g, g'⟩
  all_goals
    go_enter Try.func24, Try.ntmps24
    go_wp2
    go_ret
    exact ⟨rfl, by repeat' (first | exact Below.refl _ _ | assumption | apply Below.drew | refine Below.setCell ?_ (by first | omega | (simp; done) | (simp; omega)) _ | refine Below.alloc ?_ (by first | omega | (simp; done) | (simp; omega)) _)⟩

set_option maxHeartbeats 400000 in
theorem fits1_no (n : Nat) (A : Option Addr) (c : Nat) (w : World) (hn : (n : Int) ≤ 200) (h : ¬ (n = 0 ∨ 3 ≤ n)) :
    Calls Try.prog 24 #[.agg #[.int .u8 1, .slice A n c]] w fun e w' => e = .returned (.bool false) ∧ Below w.heap.size w w' := by
  have hn0 : (0 : Int) ≤ (n : Int) := by omega
  have g : ((n : Int) == 0) = false ∧ decide ((3 : Int) ≤ (n : Int)) = false := by simp; omega
  clear h
  obtain ⟨g, g'⟩ := g
  go_enter Try.func24, Try.ntmps24
  go_wp2
  go_ret
  exact ⟨rfl, by repeat' (first | exact Below.refl _ _ | assumption | apply Below.drew | refine Below.setCell ?_ (by first | omega | (simp; done) | (simp; omega)) _ | refine Below.alloc ?_ (by first | omega | (simp; done) | (simp; omega)) _)⟩

set_option maxHeartbeats 400000 in
theorem fits2_yes (n : Nat) (A : Option Addr) (c : Nat) (w : World) (hn : (n : Int) ≤ 200) (h : n = 0 ∨ 3 ≤ n) :
    Calls Try.prog 24 #[.agg #[.int .u8 2, .slice A n c]] w fun e w' => e = .returned (.bool true) ∧ Below w.heap.size w w' := by
  have hn0 : (0 : Int) ≤ (n : Int) := by omega
  have g : ((n : Int) == 0) = true ∨ ((n : Int) == 0) = false ∧ decide ((3 : Int) ≤ (n : Int)) = true := by simp; omega
  clear h
  rcases g with g | ⟨g, g'⟩
  all_goals
    go_enter Try.func24, Try.ntmps24
    go_wp2
    go_ret
    exact ⟨rfl, by repeat' (first | exact Below.refl _ _ | assumption | apply Below.drew | refine Below.setCell ?_ (by first | omega | (simp; done) | (simp; omega)) _ | refine Below.alloc ?_ (by first | omega | (simp; done) | (simp; omega)) _)⟩

set_option maxHeartbeats 400000 in
theorem fits2_no (n : Nat) (A : Option Addr) (c : Nat) (w : World) (hn : (n : Int) ≤ 200) (h : ¬ (n = 0 ∨ 3 ≤ n)) :
    Calls Try.prog 24 #[.agg #[.int .u8 2, .slice A n c]] w fun e w' => e = .returned (.bool false) ∧ Below w.heap.size w w' := by
  have hn0 : (0 : Int) ≤ (n : Int) := by omega
  have g : ((n : Int) == 0) = false ∧ decide ((3 : Int) ≤ (n : Int)) = false := by simp; omega
  clear h
  obtain ⟨g, g'⟩ := g
  go_enter Try.func24, Try.ntmps24
  go_wp2
  go_ret
  exact ⟨rfl, by repeat' (first | exact Below.refl _ _ | assumption | apply Below.drew | refine Below.setCell ?_ (by first | omega | (simp; done) | (simp; omega)) _ | refine Below.alloc ?_ (by first | omega | (simp; done) | (simp; omega)) _)⟩
end Go.Proofs.Ytkclkillphafkaa
