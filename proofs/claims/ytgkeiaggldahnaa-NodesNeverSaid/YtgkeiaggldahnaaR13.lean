/- arena: the reference's Same, SameHandles, All. -/
import Derived.Test.YtgkeiaggldahnaaR12
import Derived.Test.YtgkeiaggldahnaaN1
namespace Go.Proofs.Ytgkeiaggldahnaa
open Go.RowKit
set_option linter.unusedVariables false

theorem eql_hd2 (x p y q : Int) (w : World) : (binOp .eql 29 (.agg #[.int .i64 x, .int .i64 p]) (.agg #[.int .i64 y, .int .i64 q])).run Try.prog w = .ok (.bool (x == y && p == q)) w := eql_hdl x p y q w

set_option maxRecDepth 100000 in
set_option maxHeartbeats 2000000 in
theorem samehd (A B : Option Addr) (n m c d : Nat) (F : Nat → Nat → Int) (G : Nat → Nat → Int) (w : World) (hA : Row w A n 2 (fun i j => .int .i64 (F i j))) (hB : Row w B m 2 (fun i j => .int .i64 (G i j))) (hn : (n : Int) ≤ 9223372036854775807) :
    Calls Try.prog 17 #[.slice A n c, .slice B m d] w fun e w' => EqR (n = m ∧ ∀ k, k < n → F k 0 = G k 0 ∧ F k 1 = G k 1) e ∧ Below w.heap.size w w' := by
  by_cases hnm : n = m
  rotate_left
  · have g0 : ((n : Int) != (m : Int)) = true := by simp; omega
    clear hA hB
    go_enter Try.func17, Try.ntmps17
    go_wp2
    go_ret
    exact ⟨⟨false, rfl, ⟨fun h => (by cases h), fun h => absurd h.1 hnm⟩⟩, Below.refl _ _⟩
  subst hnm
  have HA := Lib.hid hA
  have HB := Lib.hid hB
  clear hA hB
  go_enter Try.func17, Try.ntmps17
  go_wp2
  go_loopw [5] (fun i wr => ∃ k : Nat, k ≤ n ∧ i = .int .i64 k ∧ (∃ q, wr = w.drewN q) ∧ ∀ k', k' < k → F k' 0 = G k' 0 ∧ F k' 1 = G k' 1) (fun i wr => n - (intOf i).toNat)
  case atStart => exact ⟨0, Nat.zero_le _, rfl, ⟨0, rfl⟩, fun j hj => absurd hj (by omega)⟩
  case round =>
    obtain ⟨k, hk, rfl, ⟨q, rfl⟩, hall⟩ := hrel
    have Hall := Lib.hid hall
    clear hall
    by_cases hkn : k < n
    · obtain ⟨g, o, rfl, hg, hc⟩ := HA.out (by omega)
      obtain ⟨g', o', rfl, hg', hc'⟩ := HB.out (by omega)
      have c0 := hc k hkn 0 (by omega)
      have c1 := hc k hkn 1 (by omega)
      have d0 := hc' k hkn 0 (by omega)
      have d1 := hc' k hkn 1 (by omega)
      dsimp only at c0 c1 d0 d1
      simp only [Nat.add_zero] at c0 c1 d0 d1
      have hi : (k : Int) < (n : Int) := by omega
      have hi0 : (0 : Int) ≤ (k : Int) := by omega
      clear hc hc'
      by_cases hcmp : F k 0 = G k 0 ∧ F k 1 = G k 1
      · have hq := fun W => equalIn_of_eql (eql_hd2 ((F k 0)) ((F k 1)) ((G k 0)) ((G k 1)) W)
        have hv : ((F k 0 == G k 0) && (F k 1 == G k 1)) = true := by have := hcmp; simp_all
        simp only [hv] at hq
        clear hv
        have Hc := Lib.hid hcmp
        clear hcmp
        go_wp2_with fail
        go_quiet (fail)
        go_wp2
        go_roundw
        case rel =>
          refine ⟨k + 1, by omega, by go_num, ⟨_, rfl⟩, fun j hj => ?_⟩
          rcases Nat.lt_or_ge j k with h | h
          · exact Hall.out j h
          · obtain rfl : j = k := by omega
            exact Hc.out
        case measure => simp [intOf]; omega
      · have hq := fun W => equalIn_of_eql (eql_hd2 ((F k 0)) ((F k 1)) ((G k 0)) ((G k 1)) W)
        have hv : ((F k 0 == G k 0) && (F k 1 == G k 1)) = false := by rw [Bool.eq_false_iff]; intro hh; apply hcmp; simpa using hh
        simp only [hv] at hq
        clear hv
        have Hc := Lib.hid hcmp
        clear hcmp
        go_wp2_with fail
        go_quiet (fail)
        go_wp2
        go_ret
        exact ⟨⟨false, rfl, ⟨fun h => (by cases h), fun h => absurd (h.2 k hkn) Hc.out⟩⟩, by first | exact below_drewN (Below.refl _ _) _ | exact below_drewN (below_drewN (Below.refl _ _) _) _⟩
    · obtain rfl : k = n := by omega
      go_wp2
      go_ret
      exact ⟨⟨true, rfl, ⟨fun _ => ⟨by trivial, Hall.out⟩, fun _ => rfl⟩⟩, below_drewN (Below.refl _ _) _⟩

set_option maxRecDepth 100000 in
set_option maxHeartbeats 2000000 in
theorem refsame_any (A A2 : Option Addr) (n m c d : Nat) (g g' : Nat → Int) (b b' : Nat → Bool) (w : World) (hA : Row w A n 2 (sv g b)) (hB : Row w A2 m 2 (sv g' b')) (hn : (n : Int) ≤ 9223372036854775807) :
    Calls Try.prog 42 #[.agg #[.slice A n c], .agg #[.slice A2 m d]] w fun e w' => EqR (SameA n m g g' b b') e ∧ Below w.heap.size w w' := by
  have hbel0 : Below w.heap.size w ((w.alloc (.cells #[.slice A n c] 24)).alloc (.cells #[.slice A2 m d] 24)) := by
    repeat' (first | exact Below.refl _ _ | assumption | apply Below.drew | refine Below.setCell ?_ (by first | omega | (simp; done) | (simp; omega)) _ | refine Below.alloc ?_ (by first | omega | (simp; done) | (simp; omega)) _)
  have Hbel0 := Lib.hid hbel0
  by_cases hnm : n = m
  rotate_left
  · have g0 : ((n : Int) != (m : Int)) = true := by simp; omega
    clear hA hB hbel0
    go_enter Try.func42, Try.ntmps42
    go_wp2
    go_ret
    exact ⟨⟨false, rfl, ⟨fun h => (by cases h), fun h => absurd h.1 hnm⟩⟩, Hbel0.out⟩
  subst hnm
  have HA := Lib.hid (hA.below hbel0)
  have HB := Lib.hid (hB.below hbel0)
  clear hA hB hbel0
  go_enter Try.func42, Try.ntmps42
  go_wp2
  go_loopw [5] (fun i wr => ∃ k : Nat, k ≤ n ∧ i = .int .i64 k ∧ (∃ q, wr = ((w.alloc (.cells #[.slice A n c] 24)).alloc (.cells #[.slice A2 n d] 24)).drewN q) ∧ ∀ k', k' < k → (g k' = g' k' ∧ b k' = b' k')) (fun i wr => n - (intOf i).toNat)
  case atStart => exact ⟨0, Nat.zero_le _, rfl, ⟨0, rfl⟩, fun j hj => absurd hj (by omega)⟩
  case round =>
    obtain ⟨k, hk, rfl, ⟨q, rfl⟩, hall⟩ := hrel
    have Hall := Lib.hid hall
    clear hall
    by_cases hkn : k < n
    · obtain ⟨gg, o, rfl, hg, hc⟩ := HA.out (by omega)
      obtain ⟨gg', o', rfl, hg', hc'⟩ := HB.out (by omega)
      have c0 := hc k hkn 0 (by omega)
      have c1 := hc k hkn 1 (by omega)
      have d0 := hc' k hkn 0 (by omega)
      have d1 := hc' k hkn 1 (by omega)
      simp only [Nat.add_zero, sv, if_true] at c0 d0
      simp only [sv] at c1 d1
      rw [if_neg (by decide)] at c1 d1
      have hi : (k : Int) < (n : Int) := by omega
      have hi0 : (0 : Int) ≤ (k : Int) := by omega
      clear hc hc'
      by_cases hcmp : g k = g' k ∧ b k = b' k
      · have hq := fun W => equalIn_of_eql (eql_slot (g k) (g' k) (b k) (b' k) W)
        have hv : ((g k == g' k) && (b k == b' k)) = true := by simp [hcmp.1, hcmp.2]
        simp only [hv] at hq
        clear hv
        have Hc := Lib.hid hcmp
        clear hcmp
        go_wp2_with fail
        go_quiet (fail)
        go_wp2
        go_roundw
        case rel =>
          refine ⟨k + 1, by omega, by go_num, ⟨_, rfl⟩, fun j hj => ?_⟩
          rcases Nat.lt_or_ge j k with h | h
          · exact Hall.out j h
          · obtain rfl : j = k := by omega
            exact Hc.out
        case measure => simp [intOf]; omega
      · have hq := fun W => equalIn_of_eql (eql_slot (g k) (g' k) (b k) (b' k) W)
        have hv : ((g k == g' k) && (b k == b' k)) = false := by rw [Bool.eq_false_iff]; intro hh; apply hcmp; simpa using hh
        simp only [hv] at hq
        clear hv
        have Hc := Lib.hid hcmp
        clear hcmp
        go_wp2_with fail
        go_quiet (fail)
        go_wp2
        go_ret
        exact ⟨⟨false, rfl, ⟨fun h => (by cases h), fun h => absurd (h.2 k hkn) Hc.out⟩⟩, by first | exact below_drewN Hbel0.out _ | exact below_drewN (below_drewN Hbel0.out _) _⟩
    · obtain rfl : k = n := by omega
      go_wp2
      go_ret
      exact ⟨⟨true, rfl, ⟨fun _ => ⟨by trivial, Hall.out⟩, fun _ => rfl⟩⟩, below_drewN Hbel0.out _⟩
end Go.Proofs.Ytgkeiaggldahnaa
