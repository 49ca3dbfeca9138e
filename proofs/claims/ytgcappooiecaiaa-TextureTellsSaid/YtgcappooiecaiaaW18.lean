/- slices.Equal and slices.Clone at colours. -/
import Derived.Test.YtgcappooiecaiaaW12
import Derived.Test.YtgcappooiecaiaaW2
import Derived.Test.YtgcappooiecaiaaRow
import Derived.Test.YtgcappooiecaiaaEq
import Derived.Deep.QuietTactic
import Derived.BigQuiet
namespace Go.Proofs.Ytgcappooiecaiaa
open Go.RowKit
set_option linter.unusedVariables false
theorem col_info : (Try.prog.info? 23).map (fun i => (i.zero, i.size, i.bytes)) = some (some (.agg #[.int .u8 0, .int .u8 0, .int .u8 0, .int .u8 0]), 4, 4) := by kernel_rfl

/-- A bool that says whether p holds. -/
def EqR (p : Prop) (e : Ending) : Prop := ∃ b : Bool, e = .returned (.bool b) ∧ (b = true ↔ p)
/-- A slice of the call's own that reads as F. -/
def OwnR (et s n : Nat) (F : Nat → Nat → Value) (B : Nat) (e : Ending) (w' : World) : Prop := ∃ A c, e = .returned (.slice A n c) ∧ w'.ownsRow B et s (.slice A n c) n (cellsR s F n)

set_option maxRecDepth 100000 in
set_option maxHeartbeats 2000000 in
theorem equal_any (A B : Option Addr) (n m c d : Nat) (F : Nat → Nat → Int) (G : Nat → Nat → Int) (w : World) (hA : Row w A n 4 (fun i j => .int .u8 (F i j))) (hB : Row w B m 4 (fun i j => .int .u8 (G i j))) (hn : (n : Int) ≤ 9223372036854775807) :
    Calls Try.prog 41 #[.slice A n c, .slice B m d] w fun e w' => EqR (n = m ∧ ∀ k, k < n → F k 0 = G k 0 ∧ F k 1 = G k 1 ∧ F k 2 = G k 2 ∧ F k 3 = G k 3) e ∧ Below w.heap.size w w' := by
  by_cases hnm : n = m
  rotate_left
  · have g0 : ((n : Int) != (m : Int)) = true := by simp; omega
    clear hA hB
    go_enter Try.func41, Try.ntmps41
    go_wp2
    go_ret
    exact ⟨⟨false, rfl, ⟨fun h => (by cases h), fun h => absurd h.1 hnm⟩⟩, Below.refl _ _⟩
  subst hnm
  have HA := Lib.hid hA
  have HB := Lib.hid hB
  clear hA hB
  go_enter Try.func41, Try.ntmps41
  go_wp2
  go_loopw [13] (fun i wr => ∃ k : Nat, k ≤ n ∧ i = .int .i64 k ∧ (∃ q, wr = w.drewN q) ∧ ∀ k', k' < k → F k' 0 = G k' 0 ∧ F k' 1 = G k' 1 ∧ F k' 2 = G k' 2 ∧ F k' 3 = G k' 3) (fun i wr => n - (intOf i).toNat)
  case atStart => exact ⟨0, Nat.zero_le _, rfl, ⟨0, rfl⟩, fun j hj => absurd hj (by omega)⟩
  case round =>
    obtain ⟨k, hk, rfl, ⟨q, rfl⟩, hall⟩ := hrel
    have Hall := Lib.hid hall
    clear hall
    by_cases hkn : k < n
    · obtain ⟨g, o, rfl, hg, hc⟩ := HA.out (by omega)
      obtain ⟨g', o', rfl, hg', hc'⟩ := HB.out (by omega)
      have c0 := hc k hkn 0 (by omega)
      have c1 := hc k hkn 1 (by omega)
      have c2 := hc k hkn 2 (by omega)
      have c3 := hc k hkn 3 (by omega)
      have d0 := hc' k hkn 0 (by omega)
      have d1 := hc' k hkn 1 (by omega)
      have d2 := hc' k hkn 2 (by omega)
      have d3 := hc' k hkn 3 (by omega)
      dsimp only at c0 c1 c2 c3 d0 d1 d2 d3
      simp only [Nat.add_zero, Nat.mul_one, if_true, if_pos rfl, reduceCtorEq, if_false] at c0 c1 c2 c3 d0 d1 d2 d3
      have hi : (k : Int) < (n : Int) := by omega
      have hi0 : (0 : Int) ≤ (k : Int) := by omega
      clear hc hc'
      by_cases hcmp : F k 0 = G k 0 ∧ F k 1 = G k 1 ∧ F k 2 = G k 2 ∧ F k 3 = G k 3
      · have hq := fun W => equalIn_of_eql (eql_col ((F k 0)) ((F k 1)) ((F k 2)) ((F k 3)) ((G k 0)) ((G k 1)) ((G k 2)) ((G k 3)) W)
        have hv : ((F k 0 == G k 0) && ((F k 1 == G k 1) && ((F k 2 == G k 2) && (F k 3 == G k 3)))) = true := by have := hcmp; simp_all
        simp only [hv] at hq
        clear hv
        have Hc := Lib.hid hcmp
        clear hcmp
        go_wp2_with fail
        go_quiet (fail)
        go_wp2
        go_roundw
        case rel =>
          refine ⟨k + 1, by omega, by go_num, ⟨_, rfl⟩, fun j hj => ?_⟩
          rcases Nat.lt_or_ge j k with h | h
          · exact Hall.out j h
          · obtain rfl : j = k := by omega
            exact Hc.out
        case measure => simp [intOf]; omega
      · have hq := fun W => equalIn_of_eql (eql_col ((F k 0)) ((F k 1)) ((F k 2)) ((F k 3)) ((G k 0)) ((G k 1)) ((G k 2)) ((G k 3)) W)
        have hv : ((F k 0 == G k 0) && ((F k 1 == G k 1) && ((F k 2 == G k 2) && (F k 3 == G k 3)))) = false := by rw [Bool.eq_false_iff]; intro hh; apply hcmp; simpa using hh
        simp only [hv] at hq
        clear hv
        have Hc := Lib.hid hcmp
        clear hcmp
        go_wp2_with fail
        go_quiet (fail)
        go_wp2
        go_ret
        exact ⟨⟨false, rfl, ⟨fun h => (by cases h), fun h => absurd (h.2 k hkn) Hc.out⟩⟩, by first | exact below_drewN (Below.refl _ _) _ | exact below_drewN (below_drewN (Below.refl _ _) _) _⟩
    · obtain rfl : k = n := by omega
      go_wp2
      go_ret
      exact ⟨⟨true, rfl, ⟨fun _ => ⟨by trivial, Hall.out⟩, fun _ => rfl⟩⟩, below_drewN (Below.refl _ _) _⟩

set_option maxRecDepth 100000 in
set_option maxHeartbeats 1000000 in
theorem clone_any (A : Option Addr) (n c : Nat) (F : Nat → Nat → Value) (w : World) (hA : Row w A n 4 F) (h1 : ∀ i j, (F i j).oneCell' = true) (hn : (n : Int) ≤ 1000000) :
    Calls Try.prog 40 #[.slice A n c] w fun e w' => OwnR 23 4 n F w.heap.size e w' ∧ Below w.heap.size w w' := by
  have hnil := fun W => Lib.run_eql_slice_nil (P := Try.prog) W 28 23 A n c 0 0 Try.underlying28
  cases A with
  | none =>
    have hn0 : n = 0 := by
      rcases Nat.eq_zero_or_pos n with h | h
      · exact h
      · obtain ⟨g, off, e, _⟩ := hA h
        cases e
    subst hn0
    clear hA
    simp only [Option.isNone_none] at hnil
    go_enter Try.func40, Try.ntmps40
    go_wp2
    go_ret
    exact ⟨⟨none, 0, rfl, own_nil _ _ _ _⟩, Below.refl _ _⟩
  | some ad =>
    simp only [Option.isNone_some] at hnil
    have HA := Lib.hid hA
    have H1 := Lib.hid (cellsR_one (s := 4) h1 n)
    have HL := Lib.hid (cellsR_len 4 F n)
    obtain ⟨i0, hi0, hz0, hz1, hz2⟩ := info_parts col_info
    have hlit : (w.alloc (.cells #[] 23)).ownsRow w.heap.size 23 4 (.slice (some ⟨w.heap.size, 0, none⟩) 0 0) 0 [] := World.ownsRow_lit w #[] 0 (Nat.le_refl _) (Nat.zero_le _) rfl
    clear hA h1
    go_enter Try.func40, Try.ntmps40
    go_wp2_with (at_builtin; refine wpList_app rfl (.tmp 5) (.tmp 6) 28 rfl w.heap.size 23 i0 _ 4 4 Try.underlying28 hi0 hz0 hz1 hz2 rfl (by omega) (some ⟨w.heap.size, 0, none⟩) 0 0 [] rfl hlit (some ad) n c (cellsR 4 F n) rfl HL.out ((Row.below HA.out (by repeat' (first | exact Below.refl _ _ | assumption | apply Below.drew | refine Below.setCell ?_ (by first | omega | (simp; done) | (simp; omega)) _ | refine Below.alloc ?_ (by first | omega | (simp; done) | (simp; omega)) _))).news (by omega)) H1.out (by unfold maxLen; omega) (by omega) (by simp) ?_; intro A1 c1 w1 hown1 hgr1; simp only [Nat.zero_add, List.nil_append] at hown1 ⊢)
    have bel := below_grown (a := w) (B := w.heap.size) (by repeat' (first | exact Below.refl _ _ | assumption | apply Below.drew | refine Below.setCell ?_ (by first | omega | (simp; done) | (simp; omega)) _ | refine Below.alloc ?_ (by first | omega | (simp; done) | (simp; omega)) _)) hgr1 hlit (Nat.le_refl _) (by simp)
    have Hown := Lib.hid hown1
    clear hown1 hgr1 hlit
    go_wp2
    go_ret
    exact ⟨⟨A1, c1, rfl, Hown.out⟩, bel⟩
end Go.Proofs.Ytgcappooiecaiaa
