/- within, the closures of mesh.Check, slices.ContainsFunc at them. -/
import Derived.Test.YtkclkillphafkaaM5
import Derived.Test.YtkclkillphafkaaRow
import Derived.Test.YtkclkillphafkaaEq
import Derived.Deep.QuietTactic
import Derived.BigQuiet
namespace Go.Proofs.Ytkclkillphafkaa
open Go.RowKit
set_option linter.unusedVariables false

/-- A bool that says whether p holds. -/
def EqR (p : Prop) (e : Ending) : Prop := ∃ b : Bool, e = .returned (.bool b) ∧ (b = true ↔ p)
/-- A slice of the call's own that reads as F. -/
def OwnR (et s n : Nat) (F : Nat → Nat → Value) (B : Nat) (e : Ending) (w' : World) : Prop := ∃ A c, e = .returned (.slice A n c) ∧ w'.ownsRow B et s (.slice A n c) n (cellsR s F n)

/-- The first index at which b holds, or -1. -/
def IdxR (b : Nat → Bool) (n : Nat) (e : Ending) : Prop := (e = .returned (.int .i64 (-1)) ∧ ∀ i, i < n → b i = false) ∨ ∃ k : Nat, e = .returned (.int .i64 k) ∧ k < n ∧ b k = true ∧ ∀ i, i < k → b i = false

def okV (x y z : Int) : Bool := decide ((-1024 ≤ x ∧ x ≤ 1024) ∧ (-1024 ≤ y ∧ y ≤ 1024) ∧ (-1024 ≤ z ∧ z ≤ 1024))
def okU (x y : Int) : Bool := decide ((0 ≤ x ∧ x ≤ 255) ∧ (0 ≤ y ∧ y ≤ 255))

set_option maxHeartbeats 400000 in
theorem within_yes (n : Int) (w : World) (h : -1024 ≤ n ∧ n ≤ 1024) : Calls Try.prog 26 #[.int .i64 n, .int .i64 1024] w fun e w' => e = .returned (.bool true) ∧ w = w' := by
  obtain ⟨h0, h1⟩ := h
  go_enter Try.func26, Try.ntmps26
  go_wp2
  go_ret
  exact ⟨rfl, rfl⟩
set_option maxHeartbeats 400000 in
theorem within_no (n : Int) (w : World) (h : ¬ (-1024 ≤ n ∧ n ≤ 1024)) : Calls Try.prog 26 #[.int .i64 n, .int .i64 1024] w fun e w' => e = .returned (.bool false) ∧ w = w' := by
  by_cases h0 : n < -1024
  · have g0 : decide ((-1024 : Int) ≤ n) = false := decide_eq_false (by omega)
    clear h
    go_enter Try.func26, Try.ntmps26
    go_wp2
    go_ret
    exact ⟨rfl, rfl⟩
  · have g0 : decide ((-1024 : Int) ≤ n) = true := decide_eq_true (by omega)
    have g1 : decide (n ≤ 1024) = false := decide_eq_false (by omega)
    clear h
    go_enter Try.func26, Try.ntmps26
    go_wp2
    go_ret
    exact ⟨rfl, rfl⟩

set_option maxRecDepth 100000 in
set_option maxHeartbeats 1000000 in
theorem vert_any (x y z : Int) (w : World) : Calls Try.prog 25 #[.agg #[.int .i64 x, .int .i64 y, .int .i64 z]] w fun e w' => e = .returned (.bool (!okV x y z)) ∧ Below w.heap.size w w' := by
  by_cases hx : -1024 ≤ x ∧ x ≤ 1024
  rotate_left
  · have e : okV x y z = false := by unfold okV; exact decide_eq_false (fun h => hx h.1)
    rw [e]
    clear e
    go_enter Try.func25, Try.ntmps25
    go_wp2_with fail
    refine (within_no x _ hx).mono ?_
    rintro e w' ⟨rfl, rfl⟩
    go_wp2
    go_ret
    exact ⟨rfl, by repeat' (first | exact Below.refl _ _ | assumption | apply Below.drew | refine Below.setCell ?_ (by first | omega | (simp; done) | (simp; omega)) _ | refine Below.alloc ?_ (by first | omega | (simp; done) | (simp; omega)) _)⟩
  by_cases hy : -1024 ≤ y ∧ y ≤ 1024
  rotate_left
  · have e : okV x y z = false := by unfold okV; exact decide_eq_false (fun h => hy h.2.1)
    rw [e]
    clear e
    go_enter Try.func25, Try.ntmps25
    go_wp2_with fail
    refine (within_yes x _ hx).mono ?_
    rintro e w' ⟨rfl, rfl⟩
    go_wp2_with fail
    refine (within_no y _ hy).mono ?_
    rintro e w' ⟨rfl, rfl⟩
    go_wp2
    go_ret
    exact ⟨rfl, by repeat' (first | exact Below.refl _ _ | assumption | apply Below.drew | refine Below.setCell ?_ (by first | omega | (simp; done) | (simp; omega)) _ | refine Below.alloc ?_ (by first | omega | (simp; done) | (simp; omega)) _)⟩
  by_cases hz : -1024 ≤ z ∧ z ≤ 1024
  rotate_left
  · have e : okV x y z = false := by unfold okV; exact decide_eq_false (fun h => hz h.2.2)
    rw [e]
    clear e
    go_enter Try.func25, Try.ntmps25
    go_wp2_with fail
    refine (within_yes x _ hx).mono ?_
    rintro e w' ⟨rfl, rfl⟩
    go_wp2_with fail
    refine (within_yes y _ hy).mono ?_
    rintro e w' ⟨rfl, rfl⟩
    go_wp2_with fail
    refine (within_no z _ hz).mono ?_
    rintro e w' ⟨rfl, rfl⟩
    go_wp2
    go_ret
    exact ⟨rfl, by repeat' (first | exact Below.refl _ _ | assumption | apply Below.drew | refine Below.setCell ?_ (by first | omega | (simp; done) | (simp; omega)) _ | refine Below.alloc ?_ (by first | omega | (simp; done) | (simp; omega)) _)⟩
  have e : okV x y z = true := by unfold okV; exact decide_eq_true ⟨hx, hy, hz⟩
  rw [e]
  clear e
  go_enter Try.func25, Try.ntmps25
  go_wp2_with fail
  refine (within_yes x _ hx).mono ?_
  rintro e w' ⟨rfl, rfl⟩
  go_wp2_with fail
  refine (within_yes y _ hy).mono ?_
  rintro e w' ⟨rfl, rfl⟩
  go_wp2_with fail
  refine (within_yes z _ hz).mono ?_
  rintro e w' ⟨rfl, rfl⟩
  go_wp2
  go_ret
  exact ⟨rfl, by repeat' (first | exact Below.refl _ _ | assumption | apply Below.drew | refine Below.setCell ?_ (by first | omega | (simp; done) | (simp; omega)) _ | refine Below.alloc ?_ (by first | omega | (simp; done) | (simp; omega)) _)⟩

set_option maxRecDepth 100000 in
set_option maxHeartbeats 1000000 in
theorem uv_any (x y : Int) (w : World) : Calls Try.prog 27 #[.agg #[.int .i64 x, .int .i64 y]] w fun e w' => e = .returned (.bool (!okU x y)) ∧ Below w.heap.size w w' := by
  by_cases h0 : x < 0
  · have g0 : decide (x < 0) = true := decide_eq_true h0
    have e : okU x y = false := by unfold okU; exact decide_eq_false (by omega)
    rw [e]
    clear e h0
    go_enter Try.func27, Try.ntmps27
    go_wp2
    go_ret
    exact ⟨rfl, by repeat' (first | exact Below.refl _ _ | assumption | apply Below.drew | refine Below.setCell ?_ (by first | omega | (simp; done) | (simp; omega)) _ | refine Below.alloc ?_ (by first | omega | (simp; done) | (simp; omega)) _)⟩
  have g0 : decide (x < 0) = false := decide_eq_false h0
  by_cases h1 : 255 < x
  · have g1 : decide (255 < x) = true := decide_eq_true h1
    have e : okU x y = false := by unfold okU; exact decide_eq_false (by omega)
    rw [e]
    clear e h0 h1
    go_enter Try.func27, Try.ntmps27
    go_wp2
    go_ret
    exact ⟨rfl, by repeat' (first | exact Below.refl _ _ | assumption | apply Below.drew | refine Below.setCell ?_ (by first | omega | (simp; done) | (simp; omega)) _ | refine Below.alloc ?_ (by first | omega | (simp; done) | (simp; omega)) _)⟩
  have g1 : decide (255 < x) = false := decide_eq_false h1
  by_cases h2 : y < 0
  · have g2 : decide (y < 0) = true := decide_eq_true h2
    have e : okU x y = false := by unfold okU; exact decide_eq_false (by omega)
    rw [e]
    clear e h0 h1 h2
    go_enter Try.func27, Try.ntmps27
    go_wp2
    go_ret
    exact ⟨rfl, by repeat' (first | exact Below.refl _ _ | assumption | apply Below.drew | refine Below.setCell ?_ (by first | omega | (simp; done) | (simp; omega)) _ | refine Below.alloc ?_ (by first | omega | (simp; done) | (simp; omega)) _)⟩
  have g2 : decide (y < 0) = false := decide_eq_false h2
  by_cases h3 : 255 < y
  · have g3 : decide (255 < y) = true := decide_eq_true h3
    have e : okU x y = false := by unfold okU; exact decide_eq_false (by omega)
    rw [e]
    clear e h0 h1 h2 h3
    go_enter Try.func27, Try.ntmps27
    go_wp2
    go_ret
    exact ⟨rfl, by repeat' (first | exact Below.refl _ _ | assumption | apply Below.drew | refine Below.setCell ?_ (by first | omega | (simp; done) | (simp; omega)) _ | refine Below.alloc ?_ (by first | omega | (simp; done) | (simp; omega)) _)⟩
  have g3 : decide (255 < y) = false := decide_eq_false h3
  have e : okU x y = true := by unfold okU; exact decide_eq_true (by omega)
  rw [e]
  clear e h0 h1 h2 h3
  go_enter Try.func27, Try.ntmps27
  go_wp2
  go_ret
  exact ⟨rfl, by repeat' (first | exact Below.refl _ _ | assumption | apply Below.drew | refine Below.setCell ?_ (by first | omega | (simp; done) | (simp; omega)) _ | refine Below.alloc ?_ (by first | omega | (simp; done) | (simp; omega)) _)⟩

set_option maxRecDepth 100000 in
set_option maxHeartbeats 2000000 in
theorem verts_idx (A : Option Addr) (n c : Nat) (F : Nat → Nat → Int)  (w : World) (hA : Row w A n 3 (fun i j => .int .i64 (F i j))) (hn : (n : Int) ≤ 9223372036854775807) (b : Nat → Bool) (hcl : ∀ i, i < n → ∀ W, Below w.heap.size w W → Calls Try.prog 25 #[.agg #[.int .i64 (F i 0), .int .i64 (F i 1), .int .i64 (F i 2)]] W fun e w' => e = .returned (.bool (b i)) ∧ Below W.heap.size W w') :
    Calls Try.prog 41 #[.slice A n c, .func (Fn.func 25) #[] #[]] w fun e w' => IdxR b n e ∧ Below w.heap.size w w' := by
  have HA := Lib.hid hA
  have Hcl := Lib.hid hcl
  clear hA hcl
  go_enter Try.func41, Try.ntmps41
  go_wp2
  go_loopw [8] (fun i wr => ∃ k : Nat, k ≤ n ∧ i = .int .i64 k ∧ Below w.heap.size w wr ∧ ∀ k', k' < k → b k' = false) (fun i wr => n - (intOf i).toNat)
  case atStart => exact ⟨0, Nat.zero_le _, rfl, Below.refl _ _, fun j hj => absurd hj (by omega)⟩
  case round =>
    obtain ⟨k, hk, rfl, hbel, hall⟩ := hrel
    have Hall := Lib.hid hall
    clear hall
    by_cases hkn : k < n
    · obtain ⟨g, o, rfl, hg, hc⟩ := HA.out (by omega)
      have c0 := (hbel.cell (p := ⟨g, o + k * 3 + 0, none⟩) hg).trans (hc k hkn 0 (by omega))
      have c1 := (hbel.cell (p := ⟨g, o + k * 3 + 1, none⟩) hg).trans (hc k hkn 1 (by omega))
      have c2 := (hbel.cell (p := ⟨g, o + k * 3 + 2, none⟩) hg).trans (hc k hkn 2 (by omega))
      simp only [Nat.add_zero, Nat.mul_one, if_true, if_pos rfl, reduceCtorEq, if_false] at c0 c1 c2
      have hi : (k : Int) < (n : Int) := by omega
      have hi0 : (0 : Int) ≤ (k : Int) := by omega
      have hc1 := Lib.hid (Hcl.out k hkn)
      have zb := hbel.size
      clear hc
      cases hbk : b k with
      | true =>
        have Hb := Lib.hid hbk
        rw [hbk] at hc1
        clear hbk
        go_wp2_with fail
        refine (hc1.out _ hbel).mono ?_
        rintro e w1 ⟨rfl, bel1⟩
        go_wp2
        go_ret
        exact ⟨.inr ⟨k, rfl, hkn, Hb.out, Hall.out⟩, hbel.trans (bel1.mono zb)⟩
      | false =>
        have Hb := Lib.hid hbk
        rw [hbk] at hc1
        clear hbk
        go_wp2_with fail
        refine (hc1.out _ hbel).mono ?_
        rintro e w1 ⟨rfl, bel1⟩
        go_wp2
        go_roundw
        case rel =>
          refine ⟨k + 1, by omega, by go_num, hbel.trans (bel1.mono zb), fun j hj => ?_⟩
          rcases Nat.lt_or_ge j k with h | h
          · exact Hall.out j h
          · obtain rfl : j = k := by omega
            exact Hb.out
        case measure => simp [intOf]; omega
    · obtain rfl : k = n := by omega
      go_wp2
      go_ret
      exact ⟨.inl ⟨rfl, Hall.out⟩, hbel⟩

set_option maxRecDepth 100000 in
set_option maxHeartbeats 2000000 in
theorem verts_any (A : Option Addr) (n c : Nat) (F : Nat → Nat → Int)  (w : World) (hA : Row w A n 3 (fun i j => .int .i64 (F i j))) (hn : (n : Int) ≤ 9223372036854775807) (b : Nat → Bool) (hcl : ∀ i, i < n → ∀ W, Below w.heap.size w W → Calls Try.prog 25 #[.agg #[.int .i64 (F i 0), .int .i64 (F i 1), .int .i64 (F i 2)]] W fun e w' => e = .returned (.bool (b i)) ∧ Below W.heap.size W w') :
    Calls Try.prog 28 #[.slice A n c, .func (Fn.func 25) #[] #[]] w fun e w' => EqR (∃ i, i < n ∧ b i = true) e ∧ Below w.heap.size w w' := by
  have hi := Lib.hid (verts_idx A n c F  w hA hn b hcl)
  clear hA hcl
  go_enter Try.func28, Try.ntmps28
  go_wp2_with fail
  refine hi.out.mono ?_
  rintro e w1 ⟨hx, bel1⟩
  rcases hx with ⟨rfl, h0⟩ | ⟨k, rfl, hk, hbk, _⟩
  · have H0 := Lib.hid h0
    clear h0
    go_wp2
    go_ret
    exact ⟨⟨false, rfl, ⟨fun h => (by cases h), fun ⟨i, hi, h⟩ => by rw [H0.out i hi] at h; cases h⟩⟩, bel1⟩
  · have Hb := Lib.hid hbk
    clear hbk
    have g0 : decide ((0 : Int) ≤ (k : Int)) = true := decide_eq_true (by omega)
    go_wp2
    go_ret
    exact ⟨⟨true, rfl, ⟨fun _ => ⟨k, hk, Hb.out⟩, fun _ => rfl⟩⟩, bel1⟩

set_option maxRecDepth 100000 in
set_option maxHeartbeats 2000000 in
theorem uvs_idx (A : Option Addr) (n c : Nat) (F : Nat → Nat → Int)  (w : World) (hA : Row w A n 2 (fun i j => .int .i64 (F i j))) (hn : (n : Int) ≤ 9223372036854775807) (b : Nat → Bool) (hcl : ∀ i, i < n → ∀ W, Below w.heap.size w W → Calls Try.prog 27 #[.agg #[.int .i64 (F i 0), .int .i64 (F i 1)]] W fun e w' => e = .returned (.bool (b i)) ∧ Below W.heap.size W w') :
    Calls Try.prog 42 #[.slice A n c, .func (Fn.func 27) #[] #[]] w fun e w' => IdxR b n e ∧ Below w.heap.size w w' := by
  have HA := Lib.hid hA
  have Hcl := Lib.hid hcl
  clear hA hcl
  go_enter Try.func42, Try.ntmps42
  go_wp2
  go_loopw [8] (fun i wr => ∃ k : Nat, k ≤ n ∧ i = .int .i64 k ∧ Below w.heap.size w wr ∧ ∀ k', k' < k → b k' = false) (fun i wr => n - (intOf i).toNat)
  case atStart => exact ⟨0, Nat.zero_le _, rfl, Below.refl _ _, fun j hj => absurd hj (by omega)⟩
  case round =>
    obtain ⟨k, hk, rfl, hbel, hall⟩ := hrel
    have Hall := Lib.hid hall
    clear hall
    by_cases hkn : k < n
    · obtain ⟨g, o, rfl, hg, hc⟩ := HA.out (by omega)
      have c0 := (hbel.cell (p := ⟨g, o + k * 2 + 0, none⟩) hg).trans (hc k hkn 0 (by omega))
      have c1 := (hbel.cell (p := ⟨g, o + k * 2 + 1, none⟩) hg).trans (hc k hkn 1 (by omega))
      simp only [Nat.add_zero, Nat.mul_one, if_true, if_pos rfl, reduceCtorEq, if_false] at c0 c1
      have hi : (k : Int) < (n : Int) := by omega
      have hi0 : (0 : Int) ≤ (k : Int) := by omega
      have hc1 := Lib.hid (Hcl.out k hkn)
      have zb := hbel.size
      clear hc
      cases hbk : b k with
      | true =>
        have Hb := Lib.hid hbk
        rw [hbk] at hc1
        clear hbk
        go_wp2_with fail
        refine (hc1.out _ hbel).mono ?_
        rintro e w1 ⟨rfl, bel1⟩
        go_wp2
        go_ret
        exact ⟨.inr ⟨k, rfl, hkn, Hb.out, Hall.out⟩, hbel.trans (bel1.mono zb)⟩
      | false =>
        have Hb := Lib.hid hbk
        rw [hbk] at hc1
        clear hbk
        go_wp2_with fail
        refine (hc1.out _ hbel).mono ?_
        rintro e w1 ⟨rfl, bel1⟩
        go_wp2
        go_roundw
        case rel =>
          refine ⟨k + 1, by omega, by go_num, hbel.trans (bel1.mono zb), fun j hj => ?_⟩
          rcases Nat.lt_or_ge j k with h | h
          · exact Hall.out j h
          · obtain rfl : j = k := by omega
            exact Hb.out
        case measure => simp [intOf]; omega
    · obtain rfl : k = n := by omega
      go_wp2
      go_ret
      exact ⟨.inl ⟨rfl, Hall.out⟩, hbel⟩

set_option maxRecDepth 100000 in
set_option maxHeartbeats 2000000 in
theorem uvs_any (A : Option Addr) (n c : Nat) (F : Nat → Nat → Int)  (w : World) (hA : Row w A n 2 (fun i j => .int .i64 (F i j))) (hn : (n : Int) ≤ 9223372036854775807) (b : Nat → Bool) (hcl : ∀ i, i < n → ∀ W, Below w.heap.size w W → Calls Try.prog 27 #[.agg #[.int .i64 (F i 0), .int .i64 (F i 1)]] W fun e w' => e = .returned (.bool (b i)) ∧ Below W.heap.size W w') :
    Calls Try.prog 29 #[.slice A n c, .func (Fn.func 27) #[] #[]] w fun e w' => EqR (∃ i, i < n ∧ b i = true) e ∧ Below w.heap.size w w' := by
  have hi := Lib.hid (uvs_idx A n c F  w hA hn b hcl)
  clear hA hcl
  go_enter Try.func29, Try.ntmps29
  go_wp2_with fail
  refine hi.out.mono ?_
  rintro e w1 ⟨hx, bel1⟩
  rcases hx with ⟨rfl, h0⟩ | ⟨k, rfl, hk, hbk, _⟩
  · have H0 := Lib.hid h0
    clear h0
    go_wp2
    go_ret
    exact ⟨⟨false, rfl, ⟨fun h => (by cases h), fun ⟨i, hi, h⟩ => by rw [H0.out i hi] at h; cases h⟩⟩, bel1⟩
  · have Hb := Lib.hid hbk
    clear hbk
    have g0 : decide ((0 : Int) ≤ (k : Int)) = true := decide_eq_true (by omega)
    go_wp2
    go_ret
    exact ⟨⟨true, rfl, ⟨fun _ => ⟨k, hk, Hb.out⟩, fun _ => rfl⟩⟩, bel1⟩
end Go.Proofs.Ytkclkillphafkaa
