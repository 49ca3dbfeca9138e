/- The walks of shade.CheckLook, the reference's May and CheckLook, Great. -/
import Derived.Test.YtgcappooiecaiaaW9
import Derived.Test.YtgcappooiecaiaaOwn
namespace Go.Proofs.Ytgcappooiecaiaa
open Go.RowKit
set_option linter.unusedVariables false

/-- May a look be, beside so many textures? -/
def MayL (tx cu bi bn t : Int) : Prop := (-1 ≤ tx ∧ tx < t) ∧ cu ≤ 2 ∧ (-1024 ≤ bi ∧ bi ≤ 1024) ∧ (0 ≤ bn ∧ bn ≤ 15)
instance (tx cu bi bn t : Int) : Decidable (MayL tx cu bi bn t) := by unfold MayL; infer_instance
/-- The error of a look. -/
def lookE (tx cu bi bn t : Int) : Int := if t < 0 ∨ 16 < t then 2 else if MayL tx cu bi bn t then 0 else 8
theorem lookE_arg {tx cu bi bn t : Int} (h : t < 0 ∨ 16 < t) : lookE tx cu bi bn t = 2 := by unfold lookE; rw [if_pos h]
theorem lookE_bad {tx cu bi bn t : Int} (h : ¬ (t < 0 ∨ 16 < t)) (k : ¬ MayL tx cu bi bn t) : lookE tx cu bi bn t = 8 := by unfold lookE; rw [if_neg h, if_neg k]
theorem lookE_ok {tx cu bi bn t : Int} (h : ¬ (t < 0 ∨ 16 < t)) (k : MayL tx cu bi bn t) : lookE tx cu bi bn t = 0 := by unfold lookE; rw [if_neg h, if_pos k]

set_option maxRecDepth 100000 in
set_option maxHeartbeats 2000000 in
theorem checklook_any (c0 c1 c2 c3 tx cu bi : Int) (bl : Bool) (bn t : Int) (w : World) :
    Calls Try.prog 34 #[.agg #[.int .u8 c0, .int .u8 c1, .int .u8 c2, .int .u8 c3, .int .i64 tx, .int .u8 cu, .int .i64 bi, .bool bl, .int .i64 bn], .int .i64 t] w fun e w' => e = .returned (.int .i64 (lookE tx cu bi bn t)) ∧ Below w.heap.size w w' := by
  by_cases h0 : t < 0
  · have g0 : decide (t < 0) = true := decide_eq_true h0
    rw [lookE_arg (by omega)]
    clear h0
    go_enter Try.func34, Try.ntmps34
    go_wp2
    go_ret
    exact ⟨rfl, (Below.refl w.heap.size w).alloc (Nat.le_refl _) _⟩
  have g0 : decide (t < 0) = false := decide_eq_false h0
  by_cases h1 : 16 < t
  · have g1 : decide (16 < t) = true := decide_eq_true h1
    rw [lookE_arg (by omega)]
    clear h0 h1
    go_enter Try.func34, Try.ntmps34
    go_wp2
    go_ret
    exact ⟨rfl, (Below.refl w.heap.size w).alloc (Nat.le_refl _) _⟩
  have g1 : decide (16 < t) = false := decide_eq_false h1
  by_cases h2 : tx < -1
  · have g2 : decide (tx < -1) = true := decide_eq_true h2
    rw [lookE_bad (by omega) (by unfold MayL; omega)]
    clear h0 h1 h2
    go_enter Try.func34, Try.ntmps34
    go_wp2
    go_ret
    exact ⟨rfl, (Below.refl w.heap.size w).alloc (Nat.le_refl _) _⟩
  have g2 : decide (tx < -1) = false := decide_eq_false h2
  by_cases h3 : t ≤ tx
  · have g3 : decide (t ≤ tx) = true := decide_eq_true h3
    rw [lookE_bad (by omega) (by unfold MayL; omega)]
    clear h0 h1 h2 h3
    go_enter Try.func34, Try.ntmps34
    go_wp2
    go_ret
    exact ⟨rfl, (Below.refl w.heap.size w).alloc (Nat.le_refl _) _⟩
  have g3 : decide (t ≤ tx) = false := decide_eq_false h3
  by_cases h4 : 2 < cu
  · have g4 : decide (2 < cu) = true := decide_eq_true h4
    rw [lookE_bad (by omega) (by unfold MayL; omega)]
    clear h0 h1 h2 h3 h4
    go_enter Try.func34, Try.ntmps34
    go_wp2
    go_ret
    exact ⟨rfl, (Below.refl w.heap.size w).alloc (Nat.le_refl _) _⟩
  have g4 : decide (2 < cu) = false := decide_eq_false h4
  by_cases h5 : bi < -1024
  · have g5 : decide (bi < -1024) = true := decide_eq_true h5
    rw [lookE_bad (by omega) (by unfold MayL; omega)]
    clear h0 h1 h2 h3 h4 h5
    go_enter Try.func34, Try.ntmps34
    go_wp2
    go_ret
    exact ⟨rfl, (Below.refl w.heap.size w).alloc (Nat.le_refl _) _⟩
  have g5 : decide (bi < -1024) = false := decide_eq_false h5
  by_cases h6 : 1024 < bi
  · have g6 : decide (1024 < bi) = true := decide_eq_true h6
    rw [lookE_bad (by omega) (by unfold MayL; omega)]
    clear h0 h1 h2 h3 h4 h5 h6
    go_enter Try.func34, Try.ntmps34
    go_wp2
    go_ret
    exact ⟨rfl, (Below.refl w.heap.size w).alloc (Nat.le_refl _) _⟩
  have g6 : decide (1024 < bi) = false := decide_eq_false h6
  by_cases h7 : bn < 0
  · have g7 : decide (bn < 0) = true := decide_eq_true h7
    rw [lookE_bad (by omega) (by unfold MayL; omega)]
    clear h0 h1 h2 h3 h4 h5 h6 h7
    go_enter Try.func34, Try.ntmps34
    go_wp2
    go_ret
    exact ⟨rfl, (Below.refl w.heap.size w).alloc (Nat.le_refl _) _⟩
  have g7 : decide (bn < 0) = false := decide_eq_false h7
  by_cases h8 : 15 < bn
  · have g8 : decide (15 < bn) = true := decide_eq_true h8
    rw [lookE_bad (by omega) (by unfold MayL; omega)]
    clear h0 h1 h2 h3 h4 h5 h6 h7 h8
    go_enter Try.func34, Try.ntmps34
    go_wp2
    go_ret
    exact ⟨rfl, (Below.refl w.heap.size w).alloc (Nat.le_refl _) _⟩
  have g8 : decide (15 < bn) = false := decide_eq_false h8
  rw [lookE_ok (by omega) (by unfold MayL; omega)]
  clear h0 h1 h2 h3 h4 h5 h6 h7 h8
  go_enter Try.func34, Try.ntmps34
  go_wp2
  go_ret
  exact ⟨rfl, (Below.refl w.heap.size w).alloc (Nat.le_refl _) _⟩

set_option maxRecDepth 100000 in
set_option maxHeartbeats 2000000 in
theorem mayl_any (c0 c1 c2 c3 tx cu bi : Int) (bl : Bool) (bn t : Int) (w : World) :
    Calls Try.prog 42 #[.agg #[.int .u8 c0, .int .u8 c1, .int .u8 c2, .int .u8 c3, .int .i64 tx, .int .u8 cu, .int .i64 bi, .bool bl, .int .i64 bn], .int .i64 t] w fun e w' => e = .returned (.bool (decide (MayL tx cu bi bn t))) ∧ Below w.heap.size w w' := by
  by_cases h0 : -1 ≤ tx
  rotate_left
  · have g0 : decide (-1 ≤ tx) = false := decide_eq_false h0
    rw [decide_eq_false (by unfold MayL; omega)]
    clear h0
    go_enter Try.func42, Try.ntmps42
    go_wp2
    go_ret
    exact ⟨rfl, (Below.refl w.heap.size w).alloc (Nat.le_refl _) _⟩
  have g0 : decide (-1 ≤ tx) = true := decide_eq_true h0
  by_cases h1 : tx < t
  rotate_left
  · have g1 : decide (tx < t) = false := decide_eq_false h1
    rw [decide_eq_false (by unfold MayL; omega)]
    clear h0 h1
    go_enter Try.func42, Try.ntmps42
    go_wp2
    go_ret
    exact ⟨rfl, (Below.refl w.heap.size w).alloc (Nat.le_refl _) _⟩
  have g1 : decide (tx < t) = true := decide_eq_true h1
  by_cases h2 : cu ≤ 2
  rotate_left
  · have g2 : decide (cu ≤ 2) = false := decide_eq_false h2
    rw [decide_eq_false (by unfold MayL; omega)]
    clear h0 h1 h2
    go_enter Try.func42, Try.ntmps42
    go_wp2
    go_ret
    exact ⟨rfl, (Below.refl w.heap.size w).alloc (Nat.le_refl _) _⟩
  have g2 : decide (cu ≤ 2) = true := decide_eq_true h2
  by_cases h3 : -1024 ≤ bi
  rotate_left
  · have g3 : decide (-1024 ≤ bi) = false := decide_eq_false h3
    rw [decide_eq_false (by unfold MayL; omega)]
    clear h0 h1 h2 h3
    go_enter Try.func42, Try.ntmps42
    go_wp2
    go_ret
    exact ⟨rfl, (Below.refl w.heap.size w).alloc (Nat.le_refl _) _⟩
  have g3 : decide (-1024 ≤ bi) = true := decide_eq_true h3
  by_cases h4 : bi ≤ 1024
  rotate_left
  · have g4 : decide (bi ≤ 1024) = false := decide_eq_false h4
    rw [decide_eq_false (by unfold MayL; omega)]
    clear h0 h1 h2 h3 h4
    go_enter Try.func42, Try.ntmps42
    go_wp2
    go_ret
    exact ⟨rfl, (Below.refl w.heap.size w).alloc (Nat.le_refl _) _⟩
  have g4 : decide (bi ≤ 1024) = true := decide_eq_true h4
  by_cases h5 : 0 ≤ bn
  rotate_left
  · have g5 : decide (0 ≤ bn) = false := decide_eq_false h5
    rw [decide_eq_false (by unfold MayL; omega)]
    clear h0 h1 h2 h3 h4 h5
    go_enter Try.func42, Try.ntmps42
    go_wp2
    go_ret
    exact ⟨rfl, (Below.refl w.heap.size w).alloc (Nat.le_refl _) _⟩
  have g5 : decide (0 ≤ bn) = true := decide_eq_true h5
  by_cases h6 : bn ≤ 15
  rotate_left
  · have g6 : decide (bn ≤ 15) = false := decide_eq_false h6
    rw [decide_eq_false (by unfold MayL; omega)]
    clear h0 h1 h2 h3 h4 h5 h6
    go_enter Try.func42, Try.ntmps42
    go_wp2
    go_ret
    exact ⟨rfl, (Below.refl w.heap.size w).alloc (Nat.le_refl _) _⟩
  have g6 : decide (bn ≤ 15) = true := decide_eq_true h6
  rw [decide_eq_true (by unfold MayL; omega)]
  clear h0 h1 h2 h3 h4 h5 h6
  go_enter Try.func42, Try.ntmps42
  go_wp2
  go_ret
  exact ⟨rfl, (Below.refl w.heap.size w).alloc (Nat.le_refl _) _⟩

set_option maxRecDepth 100000 in
set_option maxHeartbeats 2000000 in
theorem refchecklook_any (c0 c1 c2 c3 tx cu bi : Int) (bl : Bool) (bn t : Int) (w : World) :
    Calls Try.prog 35 #[.agg #[.int .u8 c0, .int .u8 c1, .int .u8 c2, .int .u8 c3, .int .i64 tx, .int .u8 cu, .int .i64 bi, .bool bl, .int .i64 bn], .int .i64 t] w fun e w' => e = .returned (.int .i64 (lookE tx cu bi bn t)) ∧ Below w.heap.size w w' := by
  by_cases h0 : t < 0
  · have g0 : decide (t < 0) = true := decide_eq_true h0
    rw [lookE_arg (by omega)]
    clear h0
    go_enter Try.func35, Try.ntmps35
    go_wp2
    go_ret
    exact ⟨rfl, (Below.refl w.heap.size w).alloc (Nat.le_refl _) _⟩
  have g0 : decide (t < 0) = false := decide_eq_false h0
  by_cases h1 : 16 < t
  · have g1 : decide (16 < t) = true := decide_eq_true h1
    rw [lookE_arg (by omega)]
    clear h0 h1
    go_enter Try.func35, Try.ntmps35
    go_wp2
    go_ret
    exact ⟨rfl, (Below.refl w.heap.size w).alloc (Nat.le_refl _) _⟩
  have g1 : decide (16 < t) = false := decide_eq_false h1
  have hm := Lib.hid (mayl_any c0 c1 c2 c3 tx cu bi bl bn t)
  by_cases hM : MayL tx cu bi bn t
  · have g2 : decide (MayL tx cu bi bn t) = true := decide_eq_true hM
    rw [lookE_ok (by omega) hM]
    have G := Lib.hid g2
    clear h0 h1 hM g2
    go_enter Try.func35, Try.ntmps35
    go_wp2_with fail
    refine (hm.out _).mono ?_
    rw [G.out]
    rintro e w1 ⟨rfl, bel1⟩
    go_wp2
    go_ret
    exact ⟨rfl, ((Below.refl w.heap.size w).alloc (Nat.le_refl _) _).trans (bel1.mono (by simp))⟩
  · have g2 : decide (MayL tx cu bi bn t) = false := decide_eq_false hM
    rw [lookE_bad (by omega) hM]
    have G := Lib.hid g2
    clear h0 h1 hM g2
    go_enter Try.func35, Try.ntmps35
    go_wp2_with fail
    refine (hm.out _).mono ?_
    rw [G.out]
    rintro e w1 ⟨rfl, bel1⟩
    go_wp2
    go_ret
    exact ⟨rfl, ((Below.refl w.heap.size w).alloc (Nat.le_refl _) _).trans (bel1.mono (by simp))⟩

/-- What Great says where it says no. -/
def GreatR (D : Nat → TexD) (m : Nat) (e : Ending) : Prop := e = .returned (.bool true) ∨ e = .returned (.bool false) ∧ m ≤ 40 ∧ ∀ i, i < m → (D i).n ≤ 20000
set_option maxRecDepth 100000 in
set_option maxHeartbeats 2000000 in
theorem great_any (A : Option Addr) (m c : Nat) (D : Nat → TexD) (w : World) (hl : TL w A m D) (hm : (m : Int) ≤ 9223372036854775807) (hD : ∀ i, ((D i).n : Int) ≤ 9223372036854775807) :
    Calls Try.prog 24 #[.slice A m c] w fun e w' => GreatR D m e ∧ w = w' := by
  have Hl := Lib.hid hl
  have HD := Lib.hid hD
  clear hl hD
  go_enter Try.func24, Try.ntmps24
  go_wp2
  go_loop [3, 4] (fun s i => ∃ (k : Nat) (q : Int), k ≤ m ∧ k ≤ 100 ∧ i = .int .i64 k ∧ s = .int .i64 q ∧ (0 ≤ q ∧ q ≤ 100000 * (k : Int)) ∧ ∀ j, j < k → ((D j).n : Int) ≤ q ∨ 100000 ≤ q) (fun s i => m - (intOf i).toNat)
  case atStart => exact ⟨0, 0, Nat.zero_le _, Nat.zero_le _, rfl, rfl, by omega, fun j hj => absurd hj (by omega)⟩
  case round =>
    obtain ⟨k, q, hk, hk2, rfl, rfl, ⟨hq0, hq1⟩, hall⟩ := hrel
    have Hall := Lib.hid hall
    clear hall
    by_cases hkm : k < m
    · have g0 : decide ((k : Int) < (m : Int)) = true := decide_eq_true (by omega)
      by_cases hk100 : k < 100
      · have g1 : decide ((k : Int) < 100) = true := decide_eq_true (by omega)
        obtain ⟨b, off, rfl, hbl, hc, hp⟩ := Hl.out (by omega)
        obtain ⟨c0, c1, c2⟩ := hc k hkm
        have hn := HD.out k
        clear hc hp
        have mn : ∃ z : Int, (if (100000 : Int) < ((D k).n : Int) then (100000 : Int) else ((D k).n : Int)) = z ∧ 0 ≤ z ∧ z ≤ 100000 ∧ (((D k).n : Int) ≤ z ∨ 100000 ≤ z) := ⟨_, rfl, by split <;> omega, by split <;> omega, by split <;> omega⟩
        obtain ⟨z, hz, z0, z1, z2⟩ := mn
        have Hz := Lib.hid z2
        clear z2
        go_wp2
        all_goals
          go_round
          case rel =>
            refine ⟨k + 1, q + z, by omega, by omega, by go_num, ?_, by omega, fun j hj => ?_⟩
            · first | rfl | (rw [← hz]; rfl)
            · rcases Nat.lt_or_ge j k with h | h
              · have := Hall.out j h; omega
              · obtain rfl : j = k := by omega
                have := Hz.out; omega
          case measure => simp [intOf]; omega
      · have g1 : decide ((k : Int) < 100) = false := decide_eq_false (by omega)
        have g3 : decide ((40 : Int) < (m : Int)) = true := decide_eq_true (by omega)
        go_wp2
        go_ret
        exact ⟨.inl rfl, rfl⟩
    · obtain rfl : k = m := by omega
      have g0 : decide ((k : Int) < (k : Int)) = false := decide_eq_false (by omega)
      by_cases h40 : (40 : Int) < (k : Int)
      · have g3 : decide ((40 : Int) < (k : Int)) = true := decide_eq_true h40
        go_wp2
        go_ret
        exact ⟨.inl rfl, rfl⟩
      · have g3 : decide ((40 : Int) < (k : Int)) = false := decide_eq_false h40
        by_cases h20 : (20000 : Int) < q
        · have g4 : decide ((20000 : Int) < q) = true := decide_eq_true h20
          go_wp2
          go_ret
          exact ⟨.inl rfl, rfl⟩
        · have g4 : decide ((20000 : Int) < q) = false := decide_eq_false h20
          go_wp2
          go_ret
          exact ⟨.inr ⟨rfl, by omega, fun i hi => by have := Hall.out i hi; omega⟩, rfl⟩
end Go.Proofs.Ytgcappooiecaiaa
