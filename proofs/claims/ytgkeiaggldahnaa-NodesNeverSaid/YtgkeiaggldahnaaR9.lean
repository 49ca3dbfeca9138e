/- arena: Same; the reference's May, Held, Check, Holds, Same. -/
import Derived.Test.YtgkeiaggldahnaaR4
import Derived.Test.YtgkeiaggldahnaaQuiet
namespace Go.Proofs.Ytgkeiaggldahnaa
open Go.RowKit
set_option linter.unusedVariables false
theorem eql_slot2 (x : Int) (p : Bool) (y : Int) (q : Bool) (w : World) : (binOp .eql 58 (.agg #[.int .i64 x, .bool p]) (.agg #[.int .i64 y, .bool q])).run Try.prog w = .ok (.bool (x == y && p == q)) w := eql_slot x y p q w

set_option maxRecDepth 100000 in
set_option maxHeartbeats 2000000 in
theorem eqslots (A B : Option Addr) (n m c d : Nat) (F : Nat → Nat → Int) (Fb : Nat → Bool) (G : Nat → Nat → Int) (Gb : Nat → Bool) (w : World) (hA : Row w A n 2 (fun i j => if j = 0 then .int .i64 (F i 0) else .bool (Fb i))) (hB : Row w B m 2 (fun i j => if j = 0 then .int .i64 (G i 0) else .bool (Gb i))) (hn : (n : Int) ≤ 9223372036854775807) :
    Calls Try.prog 67 #[.slice A n c, .slice B m d] w fun e w' => EqR (n = m ∧ ∀ k, k < n → F k 0 = G k 0 ∧ Fb k = Gb k) e ∧ Below w.heap.size w w' := by
  by_cases hnm : n = m
  rotate_left
  · have g0 : ((n : Int) != (m : Int)) = true := by simp; omega
    clear hA hB
    go_enter Try.func67, Try.ntmps67
    go_wp2
    go_ret
    exact ⟨⟨false, rfl, ⟨fun h => (by cases h), fun h => absurd h.1 hnm⟩⟩, Below.refl _ _⟩
  subst hnm
  have HA := Lib.hid hA
  have HB := Lib.hid hB
  clear hA hB
  go_enter Try.func67, Try.ntmps67
  go_wp2
  go_loopw [13] (fun i wr => ∃ k : Nat, k ≤ n ∧ i = .int .i64 k ∧ (∃ q, wr = w.drewN q) ∧ ∀ k', k' < k → F k' 0 = G k' 0 ∧ Fb k' = Gb k') (fun i wr => n - (intOf i).toNat)
  case atStart => exact ⟨0, Nat.zero_le _, rfl, ⟨0, rfl⟩, fun j hj => absurd hj (by omega)⟩
  case round =>
    obtain ⟨k, hk, rfl, ⟨q, rfl⟩, hall⟩ := hrel
    have Hall := Lib.hid hall
    clear hall
    by_cases hkn : k < n
    · obtain ⟨g, o, rfl, hg, hc⟩ := HA.out (by omega)
      obtain ⟨g', o', rfl, hg', hc'⟩ := HB.out (by omega)
      have c0 := hc k hkn 0 (by omega)
      have c1 := hc k hkn 1 (by omega)
      have d0 := hc' k hkn 0 (by omega)
      have d1 := hc' k hkn 1 (by omega)
      dsimp only at c0 c1 d0 d1
      simp only [Nat.add_zero] at c0 c1 d0 d1
      have hi : (k : Int) < (n : Int) := by omega
      have hi0 : (0 : Int) ≤ (k : Int) := by omega
      clear hc hc'
      by_cases hcmp : F k 0 = G k 0 ∧ Fb k = Gb k
      · have hq := fun W => equalIn_of_eql (eql_slot2 ((F k 0)) ((Fb k)) ((G k 0)) ((Gb k)) W)
        have hv : ((F k 0 == G k 0) && (Fb k == Gb k)) = true := by have := hcmp; simp_all
        simp only [hv] at hq
        clear hv
        have Hc := Lib.hid hcmp
        clear hcmp
        go_wp2_with fail
        go_quiet (fail)
        go_wp2
        go_roundw
        case rel =>
          refine ⟨k + 1, by omega, by go_num, ⟨_, rfl⟩, fun j hj => ?_⟩
          rcases Nat.lt_or_ge j k with h | h
          · exact Hall.out j h
          · obtain rfl : j = k := by omega
            exact Hc.out
        case measure => simp [intOf]; omega
      · have hq := fun W => equalIn_of_eql (eql_slot2 ((F k 0)) ((Fb k)) ((G k 0)) ((Gb k)) W)
        have hv : ((F k 0 == G k 0) && (Fb k == Gb k)) = false := by rw [Bool.eq_false_iff]; intro hh; apply hcmp; simpa using hh
        simp only [hv] at hq
        clear hv
        have Hc := Lib.hid hcmp
        clear hcmp
        go_wp2_with fail
        go_quiet (fail)
        go_wp2
        go_ret
        exact ⟨⟨false, rfl, ⟨fun h => (by cases h), fun h => absurd (h.2 k hkn) Hc.out⟩⟩, by first | exact below_drewN (Below.refl _ _) _ | exact below_drewN (below_drewN (Below.refl _ _) _) _⟩
    · obtain rfl : k = n := by omega
      go_wp2
      go_ret
      exact ⟨⟨true, rfl, ⟨fun _ => ⟨by trivial, Hall.out⟩, fun _ => rfl⟩⟩, below_drewN (Below.refl _ _) _⟩

/-- Two arenas read the same. -/
def SameA (n m : Nat) (g g' : Nat → Int) (b b' : Nat → Bool) : Prop := n = m ∧ ∀ k, k < n → g k = g' k ∧ b k = b' k
set_option maxRecDepth 100000 in
set_option maxHeartbeats 1000000 in
theorem same_any (A A2 : Option Addr) (n m c d : Nat) (g g' : Nat → Int) (b b' : Nat → Bool) (w : World) (hA : Row w A n 2 (sv g b)) (hB : Row w A2 m 2 (sv g' b')) (hn : (n : Int) ≤ 9223372036854775807) :
    Calls Try.prog 44 #[.agg #[.slice A n c], .agg #[.slice A2 m d]] w fun e w' => EqR (SameA n m g g' b b') e ∧ Below w.heap.size w w' := by
  have heq := Lib.hid (fun W (h : Below w.heap.size w W) => eqslots A A2 n m c d (fun i _ => g i) b (fun i _ => g' i) b' W (hA.below h) (hB.below h) hn)
  clear hA hB
  go_enter Try.func44, Try.ntmps44
  go_wp2_with fail
  refine (heq.out _ (by repeat' (first | exact Below.refl _ _ | assumption | apply Below.drew | refine Below.setCell ?_ (by first | omega | (simp; done) | (simp; omega)) _ | refine Below.alloc ?_ (by first | omega | (simp; done) | (simp; omega)) _))).mono ?_
  rintro e w1 ⟨⟨r, rfl, hr⟩, bel1⟩
  have Hr := Lib.hid hr
  have Hb := Lib.hid (show Below w.heap.size w w1 by
    refine Below.trans ?_ (bel1.mono (by simp; omega))
    repeat' (first | exact Below.refl _ _ | assumption | apply Below.drew | refine Below.setCell ?_ (by first | omega | (simp; done) | (simp; omega)) _ | refine Below.alloc ?_ (by first | omega | (simp; done) | (simp; omega)) _))
  clear heq hr bel1
  go_wp2
  go_ret
  exact ⟨⟨r, rfl, Hr.out⟩, Hb.out⟩

set_option maxRecDepth 100000 in
set_option maxHeartbeats 2000000 in
theorem refmay_any (A : Option Addr) (n c : Nat) (g : Nat → Int) (b : Nat → Bool) (w : World) (hA : Row w A n 2 (sv g b)) (hn : (n : Int) ≤ 9223372036854775807) :
    Calls Try.prog 75 #[.agg #[.slice A n c]] w fun e w' => EqR (MayA n g) e ∧ Below w.heap.size w w' := by
  have HA := Lib.hid hA
  clear hA
  go_enter Try.func75, Try.ntmps75
  go_wp2
  go_loopw [3] (fun i wr => ∃ k : Nat, k ≤ n ∧ i = .int .i64 k ∧ (∃ q, wr = (w.alloc (.cells #[.slice A n c] 24)).drewN q) ∧ ∀ i, i < k → okS (g i) = true) (fun i wr => n - (intOf i).toNat)
  case atStart => exact ⟨0, Nat.zero_le _, rfl, ⟨0, rfl⟩, fun j hj => absurd hj (by omega)⟩
  case round =>
    obtain ⟨k, hk, rfl, ⟨q, rfl⟩, hall⟩ := hrel
    have Hall := Lib.hid hall
    clear hall
    by_cases hkn : k < n
    · obtain ⟨gg, o, rfl, hg, hc⟩ := HA.out (by omega)
      have c0 := hc k hkn 0 (by omega)
      simp only [Nat.add_zero, sv, if_true] at c0
      have hi : (k : Int) < (n : Int) := by omega
      have hi0 : (0 : Int) ≤ (k : Int) := by omega
      clear hc
      by_cases h1 : g k < 1
      · have g1 : decide (g k < 1) = true := decide_eq_true h1
        have Hn := Lib.hid (show ¬ MayA n g from fun h => by have := h.2 k hkn; unfold okS at this; have := of_decide_eq_true this; omega)
        clear h1
        go_wp2
        go_ret
        exact ⟨⟨false, rfl, ⟨fun h => (by cases h), fun h => absurd h Hn.out⟩⟩, by refine below_drewN ?_ _; repeat' (first | exact Below.refl _ _ | assumption | apply Below.drew | refine Below.setCell ?_ (by first | omega | (simp; done) | (simp; omega)) _ | refine Below.alloc ?_ (by first | omega | (simp; done) | (simp; omega)) _)⟩
      have g1 : decide (g k < 1) = false := decide_eq_false h1
      by_cases h2 : 1073741824 < g k
      · have g2 : decide ((1073741824 : Int) < g k) = true := decide_eq_true h2
        have Hn := Lib.hid (show ¬ MayA n g from fun h => by have := h.2 k hkn; unfold okS at this; have := of_decide_eq_true this; omega)
        clear h1 h2
        go_wp2
        go_ret
        exact ⟨⟨false, rfl, ⟨fun h => (by cases h), fun h => absurd h Hn.out⟩⟩, by refine below_drewN ?_ _; repeat' (first | exact Below.refl _ _ | assumption | apply Below.drew | refine Below.setCell ?_ (by first | omega | (simp; done) | (simp; omega)) _ | refine Below.alloc ?_ (by first | omega | (simp; done) | (simp; omega)) _)⟩
      have g2 : decide ((1073741824 : Int) < g k) = false := decide_eq_false h2
      have Hok := Lib.hid (show okS (g k) = true by unfold okS; exact decide_eq_true (by omega))
      clear h1 h2
      go_wp2
      go_roundw
      case rel =>
        refine ⟨k + 1, by omega, by go_num, ⟨_, rfl⟩, fun j hj => ?_⟩
        rcases Nat.lt_or_ge j k with h | h
        · exact Hall.out j h
        · obtain rfl : j = k := by omega
          exact Hok.out
      case measure => simp [intOf]; omega
    · obtain rfl : k = n := by omega
      by_cases h3 : k ≤ 128
      · have g1 : decide ((k : Int) ≤ 128) = true := decide_eq_true (by omega)
        have H3 := Lib.hid h3
        clear h3
        go_wp2
        go_ret
        exact ⟨⟨true, rfl, ⟨fun _ => ⟨H3.out, Hall.out⟩, fun _ => rfl⟩⟩, by refine below_drewN ?_ _; repeat' (first | exact Below.refl _ _ | assumption | apply Below.drew | refine Below.setCell ?_ (by first | omega | (simp; done) | (simp; omega)) _ | refine Below.alloc ?_ (by first | omega | (simp; done) | (simp; omega)) _)⟩
      · have g1 : decide ((k : Int) ≤ 128) = false := decide_eq_false (by omega)
        have H3 := Lib.hid h3
        clear h3
        go_wp2
        go_ret
        exact ⟨⟨false, rfl, ⟨fun h => (by cases h), fun h => absurd h.1 H3.out⟩⟩, by refine below_drewN ?_ _; repeat' (first | exact Below.refl _ _ | assumption | apply Below.drew | refine Below.setCell ?_ (by first | omega | (simp; done) | (simp; omega)) _ | refine Below.alloc ?_ (by first | omega | (simp; done) | (simp; omega)) _)⟩

set_option maxRecDepth 100000 in
set_option maxHeartbeats 2000000 in
theorem refheld_any (A : Option Addr) (n c : Nat) (g : Nat → Int) (b : Nat → Bool) (s q : Int) (w : World) (hA : Row w A n 2 (sv g b)) (hn : (n : Int) ≤ 9223372036854775807) :
    Calls Try.prog 64 #[.agg #[.slice A n c], .agg #[.int .i64 s, .int .i64 q]] w fun e w' => EqR (HeldA n g b s q) e ∧ Below w.heap.size w w' := by
  have fin : ∀ r : Bool, (r = true ↔ HeldA n g b s q) → ∀ W, Below w.heap.size w W → (EqR (HeldA n g b s q) (.returned (.bool r)) ∧ Below w.heap.size w W) := fun r h W hb => ⟨⟨r, rfl, h⟩, hb⟩
  by_cases h0 : 0 ≤ s
  rotate_left
  · have g0 : decide ((0 : Int) ≤ s) = false := decide_eq_false h0
    have Hf := Lib.hid (fin false ⟨fun h => (by cases h), fun h => absurd h.1 h0⟩)
    clear hA h0 fin
    go_enter Try.func64, Try.ntmps64
    go_wp2_with fail
    go_quiet (fail)
    go_wp2
    go_ret
    exact Hf.out _ (by refine below_drewN ?_ _; repeat' (first | exact Below.refl _ _ | assumption | apply Below.drew | refine Below.setCell ?_ (by first | omega | (simp; done) | (simp; omega)) _ | refine Below.alloc ?_ (by first | omega | (simp; done) | (simp; omega)) _))
  have g0 : decide ((0 : Int) ≤ s) = true := decide_eq_true h0
  by_cases h1 : s < n
  rotate_left
  · have g1 : decide (s < (n : Int)) = false := decide_eq_false h1
    have Hf := Lib.hid (fin false ⟨fun h => (by cases h), fun h => absurd h.2.1 h1⟩)
    clear hA h0 h1 fin
    go_enter Try.func64, Try.ntmps64
    go_wp2_with fail
    go_quiet (fail)
    go_wp2
    go_ret
    exact Hf.out _ (by refine below_drewN ?_ _; repeat' (first | exact Below.refl _ _ | assumption | apply Below.drew | refine Below.setCell ?_ (by first | omega | (simp; done) | (simp; omega)) _ | refine Below.alloc ?_ (by first | omega | (simp; done) | (simp; omega)) _))
  obtain ⟨k, rfl⟩ := Int.eq_ofNat_of_zero_le h0
  have g1 : decide ((k : Int) < (n : Int)) = true := decide_eq_true h1
  obtain ⟨gg, o, rfl, hg, hc⟩ := hA (by omega)
  have c0 := hc k (by omega) 0 (by omega)
  have c1 := hc k (by omega) 1 (by omega)
  simp only [Nat.add_zero, sv, if_true] at c0
  simp only [sv] at c1
  rw [if_neg (by decide)] at c1
  by_cases hb : b k = true
  rotate_left
  · have hb' : b k = false := by simpa using hb
    have Hf := Lib.hid (fin false ⟨fun h => (by cases h), fun h => absurd (by have := h.2.2.2; rwa [Int.toNat_natCast] at this) hb⟩)
    simp only [hb'] at c1
    clear hA hb hb' hc fin c0
    go_enter Try.func64, Try.ntmps64
    go_wp2_with fail
    go_quiet (fail)
    go_wp2
    go_ret
    exact Hf.out _ (by refine below_drewN ?_ _; repeat' (first | exact Below.refl _ _ | assumption | apply Below.drew | refine Below.setCell ?_ (by first | omega | (simp; done) | (simp; omega)) _ | refine Below.alloc ?_ (by first | omega | (simp; done) | (simp; omega)) _))
  simp only [hb] at c1
  have Hf := Lib.hid (fin (g k == q) ⟨fun h => ⟨h0, h1, by rw [Int.toNat_natCast]; simpa using h, by rw [Int.toNat_natCast]; exact hb⟩, fun h => by have := h.2.2.1; rw [Int.toNat_natCast] at this; simpa using this⟩)
  clear hA hb hc fin
  go_enter Try.func64, Try.ntmps64
  go_wp2_with fail
  go_quiet (fail)
  go_wp2
  go_ret
  exact Hf.out _ (by refine below_drewN ?_ _; repeat' (first | exact Below.refl _ _ | assumption | apply Below.drew | refine Below.setCell ?_ (by first | omega | (simp; done) | (simp; omega)) _ | refine Below.alloc ?_ (by first | omega | (simp; done) | (simp; omega)) _))
end Go.Proofs.Ytgkeiaggldahnaa
