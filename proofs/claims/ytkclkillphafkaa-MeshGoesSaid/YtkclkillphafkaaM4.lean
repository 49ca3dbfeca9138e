/- Prim, twice: whatever the primitive. -/
import Derived.Test.YtkclkillphafkaaM2
import Derived.Test.YtkclkillphafkaaM3
import Derived.Test.YtkclkillphafkaaEq
namespace Go.Proofs.Ytkclkillphafkaa
open Go.RowKit
set_option linter.unusedVariables false
theorem int_info : (Try.prog.info? 3).map (fun i => (i.zero, i.size, i.bytes)) = some (some (.int .i64 0), 1, 8) := by kernel_rfl

set_option maxRecDepth 100000 in
set_option maxHeartbeats 400000 in
theorem prim9_kind (k : Int) (n : Nat) (A : Option Addr) (c : Nat) (w : World) (h : 2 < k) :
    Calls Try.prog 9 #[.agg #[.int .u8 k, .slice A n c]] w fun e w' => e = .returned (.tuple #[.slice none 0 0, .int .i64 2]) ∧ Below w.heap.size w w' := by
  go_enter Try.func9, Try.ntmps9
  go_wp2
  go_ret2
  exact ⟨rfl, (Below.refl w.heap.size w).alloc (Nat.le_refl _) _⟩
set_option maxRecDepth 100000 in
set_option maxHeartbeats 400000 in
theorem prim9_many (k : Int) (n : Nat) (A : Option Addr) (c : Nat) (w : World) (h : k ≤ 2) (hn : (200 : Int) < (n : Int)) :
    Calls Try.prog 9 #[.agg #[.int .u8 k, .slice A n c]] w fun e w' => e = .returned (.tuple #[.slice none 0 0, .int .i64 4]) ∧ Below w.heap.size w w' := by
  go_enter Try.func9, Try.ntmps9
  go_wp2
  go_ret2
  exact ⟨rfl, (Below.refl w.heap.size w).alloc (Nat.le_refl _) _⟩

set_option maxRecDepth 100000 in
set_option maxHeartbeats 400000 in
theorem prim9_bad0 (n : Nat) (A : Option Addr) (c : Nat) (w : World) (hn : (n : Int) ≤ 200) (hf : ¬ (n % 3 = 0)) :
    Calls Try.prog 9 #[.agg #[.int .u8 0, .slice A n c]] w fun e w' => e = .returned (.tuple #[.slice none 0 0, .int .i64 40]) ∧ Below w.heap.size w w' := by
  have Hf := Lib.hid hf
  clear hf
  go_enter Try.func9, Try.ntmps9
  go_wp2_with fail
  refine (fits0_no n A c _ hn Hf.out).mono ?_
  rintro e w1 ⟨rfl, bel1⟩
  go_wp2
  go_ret2
  exact ⟨rfl, ((Below.refl w.heap.size w).alloc (Nat.le_refl _) _).trans (bel1.mono (by simp))⟩

set_option maxRecDepth 100000 in
set_option maxHeartbeats 400000 in
theorem prim9_bad1 (n : Nat) (A : Option Addr) (c : Nat) (w : World) (hn : (n : Int) ≤ 200) (hf : ¬ (n = 0 ∨ 3 ≤ n)) :
    Calls Try.prog 9 #[.agg #[.int .u8 1, .slice A n c]] w fun e w' => e = .returned (.tuple #[.slice none 0 0, .int .i64 40]) ∧ Below w.heap.size w w' := by
  have Hf := Lib.hid hf
  clear hf
  go_enter Try.func9, Try.ntmps9
  go_wp2_with fail
  refine (fits1_no n A c _ hn Hf.out).mono ?_
  rintro e w1 ⟨rfl, bel1⟩
  go_wp2
  go_ret2
  exact ⟨rfl, ((Below.refl w.heap.size w).alloc (Nat.le_refl _) _).trans (bel1.mono (by simp))⟩

set_option maxRecDepth 100000 in
set_option maxHeartbeats 400000 in
theorem prim9_bad2 (n : Nat) (A : Option Addr) (c : Nat) (w : World) (hn : (n : Int) ≤ 200) (hf : ¬ (n = 0 ∨ 3 ≤ n)) :
    Calls Try.prog 9 #[.agg #[.int .u8 2, .slice A n c]] w fun e w' => e = .returned (.tuple #[.slice none 0 0, .int .i64 40]) ∧ Below w.heap.size w w' := by
  have Hf := Lib.hid hf
  clear hf
  go_enter Try.func9, Try.ntmps9
  go_wp2_with fail
  refine (fits2_no n A c _ hn Hf.out).mono ?_
  rintro e w1 ⟨rfl, bel1⟩
  go_wp2
  go_ret2
  exact ⟨rfl, ((Below.refl w.heap.size w).alloc (Nat.le_refl _) _).trans (bel1.mono (by simp))⟩

theorem prim9_any (k : Int) (h0 : 0 ≤ k) (n : Nat) (A : Option Addr) (c : Nat) (l : Nat → Int) (w : World) (hs : IS w A n l) :
    Calls Try.prog 9 #[.agg #[.int .u8 k, .slice A n c]] w fun e w' => PrimR k n l w.heap.size e w' ∧ Below w.heap.size w w' := by
  by_cases hk : 2 < k
  · refine (prim9_kind k n A c w hk).mono fun e w' ⟨he, hb⟩ => ⟨.inr ?_, hb⟩
    have hp : pcode k n = 2 := by unfold pcode; rw [if_pos hk]
    rw [hp]; exact ⟨by decide, he⟩
  by_cases hn : 200 < n
  · refine (prim9_many k n A c w (by omega) (by omega)).mono fun e w' ⟨he, hb⟩ => ⟨.inr ?_, hb⟩
    have hp : pcode k n = 4 := by unfold pcode; rw [if_neg hk, if_pos hn]
    rw [hp]; exact ⟨by decide, he⟩
  by_cases hf : (k = 0 ∧ n % 3 = 0) ∨ ((k = 1 ∨ k = 2) ∧ (n = 0 ∨ 3 ≤ n))
  · have hp : pcode k n = 0 := by unfold pcode; rw [if_neg hk, if_neg hn, if_pos hf]
    obtain rfl | rfl | rfl := kind_cases h0 hk
    · exact (prim0_ok n A c l w hs (by omega) (by omega)).mono fun e w' ⟨he, hb⟩ => ⟨.inl ⟨hp, he⟩, hb⟩
    · exact (prim1_ok n A c l w hs (by omega) (by omega)).mono fun e w' ⟨he, hb⟩ => ⟨.inl ⟨hp, he⟩, hb⟩
    · exact (prim2_ok n A c l w hs (by omega) (by omega)).mono fun e w' ⟨he, hb⟩ => ⟨.inl ⟨hp, he⟩, hb⟩
  · have hp : pcode k n = 40 := by unfold pcode; rw [if_neg hk, if_neg hn, if_neg hf]
    obtain rfl | rfl | rfl := kind_cases h0 hk
    · refine (prim9_bad0 n A c w (by omega) (by omega)).mono fun e w' ⟨he, hb⟩ => ⟨.inr ?_, hb⟩
      rw [hp]; exact ⟨by decide, he⟩
    · refine (prim9_bad1 n A c w (by omega) (by omega)).mono fun e w' ⟨he, hb⟩ => ⟨.inr ?_, hb⟩
      rw [hp]; exact ⟨by decide, he⟩
    · refine (prim9_bad2 n A c w (by omega) (by omega)).mono fun e w' ⟨he, hb⟩ => ⟨.inr ?_, hb⟩
      rw [hp]; exact ⟨by decide, he⟩
/-- What Prim answers, in one form. -/
theorem PrimR.res {k : Int} {n : Nat} {l : Nat → Int} {B : Nat} {e : Ending} {w' : World} (h : PrimR k n l B e w') :
    ∃ X m cx, e = .returned (.tuple #[.slice X m cx, .int .i64 (pcode k n)]) ∧ m = (if pcode k n = 0 then cnt k n else 0) ∧ w'.ownsRow B 36 3 (.slice X m cx) m (cellsR 3 (tv k l) m) := by
  rcases h with ⟨h0, X, cx, rfl, ho⟩ | ⟨h0, rfl⟩
  · exact ⟨X, _, cx, by rw [h0], by rw [if_pos h0], ho⟩
  · exact ⟨none, 0, 0, rfl, by rw [if_neg h0], own_nil _ _ _ _⟩

set_option maxRecDepth 100000 in
set_option maxHeartbeats 400000 in
theorem prim10_kind (k : Int) (n : Nat) (A : Option Addr) (c : Nat) (w : World) (h : 2 < k) :
    Calls Try.prog 10 #[.agg #[.int .u8 k, .slice A n c]] w fun e w' => e = .returned (.tuple #[.slice none 0 0, .int .i64 2]) ∧ Below w.heap.size w w' := by
  go_enter Try.func10, Try.ntmps10
  go_wp2
  go_ret2
  exact ⟨rfl, (Below.refl w.heap.size w).alloc (Nat.le_refl _) _⟩
set_option maxRecDepth 100000 in
set_option maxHeartbeats 400000 in
theorem prim10_many (k : Int) (n : Nat) (A : Option Addr) (c : Nat) (w : World) (h : k ≤ 2) (hn : (200 : Int) < (n : Int)) :
    Calls Try.prog 10 #[.agg #[.int .u8 k, .slice A n c]] w fun e w' => e = .returned (.tuple #[.slice none 0 0, .int .i64 4]) ∧ Below w.heap.size w w' := by
  go_enter Try.func10, Try.ntmps10
  go_wp2
  go_ret2
  exact ⟨rfl, (Below.refl w.heap.size w).alloc (Nat.le_refl _) _⟩

set_option maxRecDepth 100000 in
set_option maxHeartbeats 400000 in
theorem prim10_bad0 (n : Nat) (A : Option Addr) (c : Nat) (w : World) (hn : (n : Int) ≤ 200) (hf : ¬ (n % 3 = 0)) :
    Calls Try.prog 10 #[.agg #[.int .u8 0, .slice A n c]] w fun e w' => e = .returned (.tuple #[.slice none 0 0, .int .i64 40]) ∧ Below w.heap.size w w' := by
  have g1 : ((n : Int) % 3 != 0) = true := by simp; omega
  clear hf
  go_enter Try.func10, Try.ntmps10
  go_wp2
  go_ret2
  exact ⟨rfl, (Below.refl w.heap.size w).alloc (Nat.le_refl _) _⟩

set_option maxRecDepth 100000 in
set_option maxHeartbeats 400000 in
theorem prim10_bad1 (n : Nat) (A : Option Addr) (c : Nat) (w : World) (hn : (n : Int) ≤ 200) (hf : ¬ (n = 0 ∨ 3 ≤ n)) :
    Calls Try.prog 10 #[.agg #[.int .u8 1, .slice A n c]] w fun e w' => e = .returned (.tuple #[.slice none 0 0, .int .i64 40]) ∧ Below w.heap.size w w' := by
  obtain rfl | rfl : n = 1 ∨ n = 2 := by omega
  all_goals
    clear hf hn
    go_enter Try.func10, Try.ntmps10
    go_wp2
    go_ret2
    exact ⟨rfl, (Below.refl w.heap.size w).alloc (Nat.le_refl _) _⟩

set_option maxRecDepth 100000 in
set_option maxHeartbeats 400000 in
theorem prim10_bad2 (n : Nat) (A : Option Addr) (c : Nat) (w : World) (hn : (n : Int) ≤ 200) (hf : ¬ (n = 0 ∨ 3 ≤ n)) :
    Calls Try.prog 10 #[.agg #[.int .u8 2, .slice A n c]] w fun e w' => e = .returned (.tuple #[.slice none 0 0, .int .i64 40]) ∧ Below w.heap.size w w' := by
  obtain rfl | rfl : n = 1 ∨ n = 2 := by omega
  all_goals
    clear hf hn
    go_enter Try.func10, Try.ntmps10
    go_wp2
    go_ret2
    exact ⟨rfl, (Below.refl w.heap.size w).alloc (Nat.le_refl _) _⟩

theorem prim10_any (k : Int) (h0 : 0 ≤ k) (n : Nat) (A : Option Addr) (c : Nat) (l : Nat → Int) (w : World) (hs : IS w A n l) :
    Calls Try.prog 10 #[.agg #[.int .u8 k, .slice A n c]] w fun e w' => PrimR k n l w.heap.size e w' ∧ Below w.heap.size w w' := by
  by_cases hk : 2 < k
  · refine (prim10_kind k n A c w hk).mono fun e w' ⟨he, hb⟩ => ⟨.inr ?_, hb⟩
    have hp : pcode k n = 2 := by unfold pcode; rw [if_pos hk]
    rw [hp]; exact ⟨by decide, he⟩
  by_cases hn : 200 < n
  · refine (prim10_many k n A c w (by omega) (by omega)).mono fun e w' ⟨he, hb⟩ => ⟨.inr ?_, hb⟩
    have hp : pcode k n = 4 := by unfold pcode; rw [if_neg hk, if_pos hn]
    rw [hp]; exact ⟨by decide, he⟩
  by_cases hf : (k = 0 ∧ n % 3 = 0) ∨ ((k = 1 ∨ k = 2) ∧ (n = 0 ∨ 3 ≤ n))
  · have hp : pcode k n = 0 := by unfold pcode; rw [if_neg hk, if_neg hn, if_pos hf]
    obtain rfl | rfl | rfl := kind_cases h0 hk
    · exact (refprim0_ok n A c l w hs (by omega) (by omega)).mono fun e w' ⟨he, hb⟩ => ⟨.inl ⟨hp, he⟩, hb⟩
    · exact (refprim1_ok n A c l w hs (by omega) (by omega)).mono fun e w' ⟨he, hb⟩ => ⟨.inl ⟨hp, he⟩, hb⟩
    · exact (refprim2_ok n A c l w hs (by omega) (by omega)).mono fun e w' ⟨he, hb⟩ => ⟨.inl ⟨hp, he⟩, hb⟩
  · have hp : pcode k n = 40 := by unfold pcode; rw [if_neg hk, if_neg hn, if_neg hf]
    obtain rfl | rfl | rfl := kind_cases h0 hk
    · refine (prim10_bad0 n A c w (by omega) (by omega)).mono fun e w' ⟨he, hb⟩ => ⟨.inr ?_, hb⟩
      rw [hp]; exact ⟨by decide, he⟩
    · refine (prim10_bad1 n A c w (by omega) (by omega)).mono fun e w' ⟨he, hb⟩ => ⟨.inr ?_, hb⟩
      rw [hp]; exact ⟨by decide, he⟩
    · refine (prim10_bad2 n A c w (by omega) (by omega)).mono fun e w' ⟨he, hb⟩ => ⟨.inr ?_, hb⟩
      rw [hp]; exact ⟨by decide, he⟩

set_option maxRecDepth 100000 in
set_option maxHeartbeats 1000000 in
theorem numbers_true (A B : Option Addr) (n c d : Nat) (l m : Nat → Int) (w : World) (hA : IS w A n l) (hB : IS w B n m) (hn : n ≤ 9223372036854775807) (he : ∀ i, i < n → l i = m i) :
    Calls Try.prog 12 #[.slice A n c, .slice B n d] w fun e w' => e = .returned (.bool true) ∧ Below w.heap.size w w' := by
  have HA := Lib.hid hA
  have HB := Lib.hid hB
  have He := Lib.hid he
  clear hA hB he
  go_enter Try.func12, Try.ntmps12
  go_wp2
  go_loopw [5] (fun i wr => ∃ k : Nat, k ≤ n ∧ i = .int .i64 k ∧ ∃ q, wr = w.drewN q) (fun i wr => n - (intOf i).toNat)
  case atStart => exact ⟨0, Nat.zero_le _, rfl, 0, rfl⟩
  case round =>
    obtain ⟨k, hk, rfl, q, rfl⟩ := hrel
    by_cases hkn : k < n
    · obtain ⟨g, o, rfl, hg, hc⟩ := HA.out (by omega)
      obtain ⟨g', o', rfl, hg', hc'⟩ := HB.out (by omega)
      have c0 := hc k hkn
      have c1 := hc' k hkn
      rw [← He.out k hkn] at c1
      have hi : (k : Int) < (n : Int) := by omega
      clear hc hc'
      generalize l k = x at *
      go_wp2_with fail
      go_region
      go_wp2
      go_roundw
      case rel => exact ⟨k + 1, by omega, by go_num, _, rfl⟩
      case measure => simp [intOf]; omega
    · have hkn' : k = n := by omega
      subst hkn'
      go_wp2
      go_ret
      exact ⟨rfl, below_drewN (Below.refl _ _) _⟩

set_option maxRecDepth 100000 in
set_option maxHeartbeats 1000000 in
theorem sametris_true (A B : Option Addr) (n c d : Nat) (F G : Nat → Nat → Int) (w : World) (hA : Row w A n 3 fun i j => .int .i64 (F i j)) (hB : Row w B n 3 fun i j => .int .i64 (G i j)) (hn : n ≤ 9223372036854775807)
    (he : ∀ i, i < n → ∀ j, j < 3 → F i j = G i j) :
    Calls Try.prog 11 #[.slice A n c, .slice B n d] w fun e w' => e = .returned (.bool true) ∧ Below w.heap.size w w' := by
  have HA := Lib.hid hA
  have HB := Lib.hid hB
  have He := Lib.hid he
  obtain ⟨ii, hii, _, _, _⟩ := info_parts int_info
  have hq := fun (a0 a1 a2 b0 b1 b2 : Int) (w : World) => eql_arr3 (P := Try.prog) (t := 36) (e := 3) (k := .i64) (i := ii) Try.underlying36 Try.underlying3 hii (by kernel_rfl) a0 a1 a2 b0 b1 b2 w
  have hq2 := fun (a0 a1 a2 b0 b1 b2 : Int) (w : World) => equalIn_of_eql (hq a0 a1 a2 b0 b1 b2 w)
  clear hq
  clear hA hB he
  go_enter Try.func11, Try.ntmps11
  go_wp2
  go_loopw [5] (fun i wr => ∃ k : Nat, k ≤ n ∧ i = .int .i64 k ∧ ∃ q, wr = w.drewN q) (fun i wr => n - (intOf i).toNat)
  case atStart => exact ⟨0, Nat.zero_le _, rfl, 0, rfl⟩
  case round =>
    obtain ⟨k, hk, rfl, q, rfl⟩ := hrel
    by_cases hkn : k < n
    · obtain ⟨g, o, rfl, hg, hc⟩ := HA.out (by omega)
      obtain ⟨g', o', rfl, hg', hc'⟩ := HB.out (by omega)
      have c0 := hc k hkn 0 (by omega)
      have c1 := hc k hkn 1 (by omega)
      have c2 := hc k hkn 2 (by omega)
      have d0 := hc' k hkn 0 (by omega)
      have d1 := hc' k hkn 1 (by omega)
      have d2 := hc' k hkn 2 (by omega)
      dsimp only at c0 c1 c2 d0 d1 d2
      rw [← He.out k hkn 0 (by omega)] at d0
      rw [← He.out k hkn 1 (by omega)] at d1
      rw [← He.out k hkn 2 (by omega)] at d2
      simp only [Nat.add_zero] at c0 d0
      have hi : (k : Int) < (n : Int) := by omega
      clear hc hc'
      generalize F k 0 = x0 at *
      generalize F k 1 = x1 at *
      generalize F k 2 = x2 at *
      go_wp2_with fail
      go_quiet (fail)
      go_wp2
      go_roundw
      case rel => exact ⟨k + 1, by omega, by go_num, _, rfl⟩
      case measure => simp [intOf]; omega
    · have hkn' : k = n := by omega
      subst hkn'
      go_wp2
      go_ret
      exact ⟨rfl, below_drewN (Below.refl _ _) _⟩
end Go.Proofs.Ytkclkillphafkaa
