/- mesh: slices.Equal and Clone, the reference's Numbers and Great. -/
import Derived.Test.YtkclkillphafkaaM14
import Derived.Test.YtkclkillphafkaaEq
namespace Go.Proofs.Ytkclkillphafkaa
open Go.RowKit
set_option linter.unusedVariables false
theorem vec_info : (Try.prog.info? 51).map (fun i => (i.zero, i.size, i.bytes)) = some (some (.agg #[.int .i64 0, .int .i64 0, .int .i64 0]), 3, 24) := by kernel_rfl
theorem uv_info : (Try.prog.info? 52).map (fun i => (i.zero, i.size, i.bytes)) = some (some (.agg #[.int .i64 0, .int .i64 0]), 2, 16) := by kernel_rfl
theorem prim_info : (Try.prog.info? 24).map (fun i => (i.zero, i.size, i.bytes)) = some (some (.agg #[.int .u8 0, .slice none 0 0]), 2, 32) := by kernel_rfl
theorem fields_vec : (Try.prog.fieldsOf 51).toList.map (fun f => (f.name == "_", f.type, f.offset)) = [(false, 3, 0), (false, 3, 1), (false, 3, 2)] := by kernel_rfl
theorem eqFields_vec (d : Nat) (x0 x1 x2 y0 y1 y2 : Int) (w : World) : ∀ l : List Field, l.map (fun f => (f.name == "_", f.type, f.offset)) = [(false, 3, 0), (false, 3, 1), (false, 3, 2)] →
    (Op.eqFields (d + 1) #[.int .i64 x0, .int .i64 x1, .int .i64 x2] #[.int .i64 y0, .int .i64 y1, .int .i64 y2] l).run Try.prog w = .ok (x0 == y0 && (x1 == y1 && x2 == y2)) w
  | [f1, f2, f3], h => by
    simp only [List.map_cons, List.map_nil, List.cons.injEq, Prod.mk.injEq, and_true] at h
    obtain ⟨⟨n1, t1, o1⟩, ⟨n2, t2, o2⟩, ⟨n3, t3, o3⟩⟩ := h
    have m1 : f1.name ≠ "_" := by simpa using n1
    have m2 : f2.name ≠ "_" := by simpa using n2
    have m3 : f3.name ≠ "_" := by simpa using n3
    simp only [Op.eqFields, m1, m2, m3, t1, t2, t3, o1, o2, o3, ne_eq, not_false_eq_true, if_true, Sem.run_bind]
    simp [part, isAgg, run_underlying Try.underlying3, run_equalIn_int _ _ _ _ _ _ _ Try.underlying3]
    by_cases h0 : x0 = y0 <;> by_cases h1 : x1 = y1 <;> by_cases h2 : x2 = y2 <;> simp [h0, h1, h2]
  | [], h => by simp at h
  | [_], h => by simp at h
  | [_, _], h => by simp at h
  | _ :: _ :: _ :: _ :: _, h => by simp at h
theorem eql_vec (a0 a1 a2 b0 b1 b2 : Int) (w : World) : (binOp .eql 51 (.agg #[.int .i64 a0, .int .i64 a1, .int .i64 a2]) (.agg #[.int .i64 b0, .int .i64 b1, .int .i64 b2])).run Try.prog w = .ok (.bool (a0 == b0 && (a1 == b1 && a2 == b2))) w := by
  rw [run_eql_struct, run_equalIn_struct w 9999 _ _ _ (by kernel_rfl) (by kernel_rfl), eqFields_vec 9998 a0 a1 a2 b0 b1 b2 w _ fields_vec]
  rfl
theorem eql_uv (a0 a1 b0 b1 : Int) (w : World) : (binOp .eql 52 (.agg #[.int .i64 a0, .int .i64 a1]) (.agg #[.int .i64 b0, .int .i64 b1])).run Try.prog w = .ok (.bool (a0 == b0 && a1 == b1)) w := by
  obtain ⟨ii, hii, _, _, _⟩ := info_parts int_info
  exact eql_arr2 (t := 52) (e := 3) (k := .i64) Try.underlying52 Try.underlying3 hii (by kernel_rfl) a0 a1 b0 b1 w

set_option maxRecDepth 100000 in
set_option maxHeartbeats 2000000 in
theorem eqints (A B : Option Addr) (n m c d : Nat) (F : Nat → Nat → Int) (G : Nat → Nat → Int) (w : World) (hA : Row w A n 1 (fun i j => .int .i64 (F i j))) (hB : Row w B m 1 (fun i j => .int .i64 (G i j))) (hn : (n : Int) ≤ 9223372036854775807) :
    Calls Try.prog 37 #[.slice A n c, .slice B m d] w fun e w' => EqR (n = m ∧ ∀ k, k < n → F k 0 = G k 0) e ∧ Below w.heap.size w w' := by
  by_cases hnm : n = m
  rotate_left
  · have g0 : ((n : Int) != (m : Int)) = true := by simp; omega
    clear hA hB
    go_enter Try.func37, Try.ntmps37
    go_wp2
    go_ret
    exact ⟨⟨false, rfl, ⟨fun h => (by cases h), fun h => absurd h.1 hnm⟩⟩, Below.refl _ _⟩
  subst hnm
  have HA := Lib.hid hA
  have HB := Lib.hid hB
  clear hA hB
  go_enter Try.func37, Try.ntmps37
  go_wp2
  go_loopw [13] (fun i wr => ∃ k : Nat, k ≤ n ∧ i = .int .i64 k ∧ (∃ q, wr = w.drewN q) ∧ ∀ k', k' < k → F k' 0 = G k' 0) (fun i wr => n - (intOf i).toNat)
  case atStart => exact ⟨0, Nat.zero_le _, rfl, ⟨0, rfl⟩, fun j hj => absurd hj (by omega)⟩
  case round =>
    obtain ⟨k, hk, rfl, ⟨q, rfl⟩, hall⟩ := hrel
    have Hall := Lib.hid hall
    clear hall
    by_cases hkn : k < n
    · obtain ⟨g, o, rfl, hg, hc⟩ := HA.out (by omega)
      obtain ⟨g', o', rfl, hg', hc'⟩ := HB.out (by omega)
      have c0 := hc k hkn 0 (by omega)
      have d0 := hc' k hkn 0 (by omega)
      dsimp only at c0 d0
      simp only [Nat.add_zero, Nat.mul_one] at c0 d0
      have hi : (k : Int) < (n : Int) := by omega
      have hi0 : (0 : Int) ≤ (k : Int) := by omega
      clear hc hc'
      by_cases hcmp : F k 0 = G k 0
      · have hv : (F k 0 == G k 0) = true := by simpa using hcmp
        have Hc := Lib.hid hcmp
        clear hcmp
        go_wp2_with fail
        go_quiet (fail)
        go_wp2
        go_roundw
        case rel =>
          refine ⟨k + 1, by omega, by go_num, ⟨_, rfl⟩, fun j hj => ?_⟩
          rcases Nat.lt_or_ge j k with h | h
          · exact Hall.out j h
          · obtain rfl : j = k := by omega
            exact Hc.out
        case measure => simp [intOf]; omega
      · have hv : (F k 0 == G k 0) = false := by simpa using hcmp
        have Hc := Lib.hid hcmp
        clear hcmp
        go_wp2_with fail
        go_quiet (fail)
        go_wp2
        go_ret
        exact ⟨⟨false, rfl, ⟨fun h => (by cases h), fun h => absurd (h.2 k hkn) Hc.out⟩⟩, by first | exact below_drewN (Below.refl _ _) _ | exact below_drewN (below_drewN (Below.refl _ _) _) _⟩
    · obtain rfl : k = n := by omega
      go_wp2
      go_ret
      exact ⟨⟨true, rfl, ⟨fun _ => ⟨by trivial, Hall.out⟩, fun _ => rfl⟩⟩, below_drewN (Below.refl _ _) _⟩

set_option maxRecDepth 100000 in
set_option maxHeartbeats 2000000 in
theorem eqvecs (A B : Option Addr) (n m c d : Nat) (F : Nat → Nat → Int) (G : Nat → Nat → Int) (w : World) (hA : Row w A n 3 (fun i j => .int .i64 (F i j))) (hB : Row w B m 3 (fun i j => .int .i64 (G i j))) (hn : (n : Int) ≤ 9223372036854775807) :
    Calls Try.prog 38 #[.slice A n c, .slice B m d] w fun e w' => EqR (n = m ∧ ∀ k, k < n → F k 0 = G k 0 ∧ F k 1 = G k 1 ∧ F k 2 = G k 2) e ∧ Below w.heap.size w w' := by
  by_cases hnm : n = m
  rotate_left
  · have g0 : ((n : Int) != (m : Int)) = true := by simp; omega
    clear hA hB
    go_enter Try.func38, Try.ntmps38
    go_wp2
    go_ret
    exact ⟨⟨false, rfl, ⟨fun h => (by cases h), fun h => absurd h.1 hnm⟩⟩, Below.refl _ _⟩
  subst hnm
  have HA := Lib.hid hA
  have HB := Lib.hid hB
  clear hA hB
  go_enter Try.func38, Try.ntmps38
  go_wp2
  go_loopw [13] (fun i wr => ∃ k : Nat, k ≤ n ∧ i = .int .i64 k ∧ (∃ q, wr = w.drewN q) ∧ ∀ k', k' < k → F k' 0 = G k' 0 ∧ F k' 1 = G k' 1 ∧ F k' 2 = G k' 2) (fun i wr => n - (intOf i).toNat)
  case atStart => exact ⟨0, Nat.zero_le _, rfl, ⟨0, rfl⟩, fun j hj => absurd hj (by omega)⟩
  case round =>
    obtain ⟨k, hk, rfl, ⟨q, rfl⟩, hall⟩ := hrel
    have Hall := Lib.hid hall
    clear hall
    by_cases hkn : k < n
    · obtain ⟨g, o, rfl, hg, hc⟩ := HA.out (by omega)
      obtain ⟨g', o', rfl, hg', hc'⟩ := HB.out (by omega)
      have c0 := hc k hkn 0 (by omega)
      have c1 := hc k hkn 1 (by omega)
      have c2 := hc k hkn 2 (by omega)
      have d0 := hc' k hkn 0 (by omega)
      have d1 := hc' k hkn 1 (by omega)
      have d2 := hc' k hkn 2 (by omega)
      dsimp only at c0 c1 c2 d0 d1 d2
      simp only [Nat.add_zero] at c0 c1 c2 d0 d1 d2
      have hi : (k : Int) < (n : Int) := by omega
      have hi0 : (0 : Int) ≤ (k : Int) := by omega
      clear hc hc'
      by_cases hcmp : F k 0 = G k 0 ∧ F k 1 = G k 1 ∧ F k 2 = G k 2
      · have hq := fun W => equalIn_of_eql (eql_vec ((F k 0)) ((F k 1)) ((F k 2)) ((G k 0)) ((G k 1)) ((G k 2)) W)
        have hv : ((F k 0 == G k 0) && ((F k 1 == G k 1) && (F k 2 == G k 2))) = true := by have := hcmp; simp_all
        simp only [hv] at hq
        clear hv
        have Hc := Lib.hid hcmp
        clear hcmp
        go_wp2_with fail
        go_quiet (fail)
        go_wp2
        go_roundw
        case rel =>
          refine ⟨k + 1, by omega, by go_num, ⟨_, rfl⟩, fun j hj => ?_⟩
          rcases Nat.lt_or_ge j k with h | h
          · exact Hall.out j h
          · obtain rfl : j = k := by omega
            exact Hc.out
        case measure => simp [intOf]; omega
      · have hq := fun W => equalIn_of_eql (eql_vec ((F k 0)) ((F k 1)) ((F k 2)) ((G k 0)) ((G k 1)) ((G k 2)) W)
        have hv : ((F k 0 == G k 0) && ((F k 1 == G k 1) && (F k 2 == G k 2))) = false := by rw [Bool.eq_false_iff]; intro hh; apply hcmp; simpa using hh
        simp only [hv] at hq
        clear hv
        have Hc := Lib.hid hcmp
        clear hcmp
        go_wp2_with fail
        go_quiet (fail)
        go_wp2
        go_ret
        exact ⟨⟨false, rfl, ⟨fun h => (by cases h), fun h => absurd (h.2 k hkn) Hc.out⟩⟩, by first | exact below_drewN (Below.refl _ _) _ | exact below_drewN (below_drewN (Below.refl _ _) _) _⟩
    · obtain rfl : k = n := by omega
      go_wp2
      go_ret
      exact ⟨⟨true, rfl, ⟨fun _ => ⟨by trivial, Hall.out⟩, fun _ => rfl⟩⟩, below_drewN (Below.refl _ _) _⟩

set_option maxRecDepth 100000 in
set_option maxHeartbeats 2000000 in
theorem equvs (A B : Option Addr) (n m c d : Nat) (F : Nat → Nat → Int) (G : Nat → Nat → Int) (w : World) (hA : Row w A n 2 (fun i j => .int .i64 (F i j))) (hB : Row w B m 2 (fun i j => .int .i64 (G i j))) (hn : (n : Int) ≤ 9223372036854775807) :
    Calls Try.prog 39 #[.slice A n c, .slice B m d] w fun e w' => EqR (n = m ∧ ∀ k, k < n → F k 0 = G k 0 ∧ F k 1 = G k 1) e ∧ Below w.heap.size w w' := by
  by_cases hnm : n = m
  rotate_left
  · have g0 : ((n : Int) != (m : Int)) = true := by simp; omega
    clear hA hB
    go_enter Try.func39, Try.ntmps39
    go_wp2
    go_ret
    exact ⟨⟨false, rfl, ⟨fun h => (by cases h), fun h => absurd h.1 hnm⟩⟩, Below.refl _ _⟩
  subst hnm
  have HA := Lib.hid hA
  have HB := Lib.hid hB
  clear hA hB
  go_enter Try.func39, Try.ntmps39
  go_wp2
  go_loopw [13] (fun i wr => ∃ k : Nat, k ≤ n ∧ i = .int .i64 k ∧ (∃ q, wr = w.drewN q) ∧ ∀ k', k' < k → F k' 0 = G k' 0 ∧ F k' 1 = G k' 1) (fun i wr => n - (intOf i).toNat)
  case atStart => exact ⟨0, Nat.zero_le _, rfl, ⟨0, rfl⟩, fun j hj => absurd hj (by omega)⟩
  case round =>
    obtain ⟨k, hk, rfl, ⟨q, rfl⟩, hall⟩ := hrel
    have Hall := Lib.hid hall
    clear hall
    by_cases hkn : k < n
    · obtain ⟨g, o, rfl, hg, hc⟩ := HA.out (by omega)
      obtain ⟨g', o', rfl, hg', hc'⟩ := HB.out (by omega)
      have c0 := hc k hkn 0 (by omega)
      have c1 := hc k hkn 1 (by omega)
      have d0 := hc' k hkn 0 (by omega)
      have d1 := hc' k hkn 1 (by omega)
      dsimp only at c0 c1 d0 d1
      simp only [Nat.add_zero] at c0 c1 d0 d1
      have hi : (k : Int) < (n : Int) := by omega
      have hi0 : (0 : Int) ≤ (k : Int) := by omega
      clear hc hc'
      by_cases hcmp : F k 0 = G k 0 ∧ F k 1 = G k 1
      · have hq := fun W => equalIn_of_eql (eql_uv ((F k 0)) ((F k 1)) ((G k 0)) ((G k 1)) W)
        have hv : ((F k 0 == G k 0) && (F k 1 == G k 1)) = true := by have := hcmp; simp_all
        simp only [hv] at hq
        clear hv
        have Hc := Lib.hid hcmp
        clear hcmp
        go_wp2_with fail
        go_quiet (fail)
        go_wp2
        go_roundw
        case rel =>
          refine ⟨k + 1, by omega, by go_num, ⟨_, rfl⟩, fun j hj => ?_⟩
          rcases Nat.lt_or_ge j k with h | h
          · exact Hall.out j h
          · obtain rfl : j = k := by omega
            exact Hc.out
        case measure => simp [intOf]; omega
      · have hq := fun W => equalIn_of_eql (eql_uv ((F k 0)) ((F k 1)) ((G k 0)) ((G k 1)) W)
        have hv : ((F k 0 == G k 0) && (F k 1 == G k 1)) = false := by rw [Bool.eq_false_iff]; intro hh; apply hcmp; simpa using hh
        simp only [hv] at hq
        clear hv
        have Hc := Lib.hid hcmp
        clear hcmp
        go_wp2_with fail
        go_quiet (fail)
        go_wp2
        go_ret
        exact ⟨⟨false, rfl, ⟨fun h => (by cases h), fun h => absurd (h.2 k hkn) Hc.out⟩⟩, by first | exact below_drewN (Below.refl _ _) _ | exact below_drewN (below_drewN (Below.refl _ _) _) _⟩
    · obtain rfl : k = n := by omega
      go_wp2
      go_ret
      exact ⟨⟨true, rfl, ⟨fun _ => ⟨by trivial, Hall.out⟩, fun _ => rfl⟩⟩, below_drewN (Below.refl _ _) _⟩

set_option maxRecDepth 100000 in
set_option maxHeartbeats 2000000 in
theorem numbers (A B : Option Addr) (n m c d : Nat) (F : Nat → Nat → Int) (G : Nat → Nat → Int) (w : World) (hA : Row w A n 1 (fun i j => .int .i64 (F i j))) (hB : Row w B m 1 (fun i j => .int .i64 (G i j))) (hn : (n : Int) ≤ 9223372036854775807) :
    Calls Try.prog 12 #[.slice A n c, .slice B m d] w fun e w' => EqR (n = m ∧ ∀ k, k < n → F k 0 = G k 0) e ∧ Below w.heap.size w w' := by
  by_cases hnm : n = m
  rotate_left
  · have g0 : ((n : Int) != (m : Int)) = true := by simp; omega
    clear hA hB
    go_enter Try.func12, Try.ntmps12
    go_wp2
    go_ret
    exact ⟨⟨false, rfl, ⟨fun h => (by cases h), fun h => absurd h.1 hnm⟩⟩, Below.refl _ _⟩
  subst hnm
  have HA := Lib.hid hA
  have HB := Lib.hid hB
  clear hA hB
  go_enter Try.func12, Try.ntmps12
  go_wp2
  go_loopw [5] (fun i wr => ∃ k : Nat, k ≤ n ∧ i = .int .i64 k ∧ (∃ q, wr = w.drewN q) ∧ ∀ k', k' < k → F k' 0 = G k' 0) (fun i wr => n - (intOf i).toNat)
  case atStart => exact ⟨0, Nat.zero_le _, rfl, ⟨0, rfl⟩, fun j hj => absurd hj (by omega)⟩
  case round =>
    obtain ⟨k, hk, rfl, ⟨q, rfl⟩, hall⟩ := hrel
    have Hall := Lib.hid hall
    clear hall
    by_cases hkn : k < n
    · obtain ⟨g, o, rfl, hg, hc⟩ := HA.out (by omega)
      obtain ⟨g', o', rfl, hg', hc'⟩ := HB.out (by omega)
      have c0 := hc k hkn 0 (by omega)
      have d0 := hc' k hkn 0 (by omega)
      dsimp only at c0 d0
      simp only [Nat.add_zero, Nat.mul_one] at c0 d0
      have hi : (k : Int) < (n : Int) := by omega
      have hi0 : (0 : Int) ≤ (k : Int) := by omega
      clear hc hc'
      by_cases hcmp : F k 0 = G k 0
      · have hv : (F k 0 == G k 0) = true := by simpa using hcmp
        have Hc := Lib.hid hcmp
        clear hcmp
        go_wp2_with fail
        go_quiet (fail)
        go_wp2
        go_roundw
        case rel =>
          refine ⟨k + 1, by omega, by go_num, ⟨_, rfl⟩, fun j hj => ?_⟩
          rcases Nat.lt_or_ge j k with h | h
          · exact Hall.out j h
          · obtain rfl : j = k := by omega
            exact Hc.out
        case measure => simp [intOf]; omega
      · have hv : (F k 0 == G k 0) = false := by simpa using hcmp
        have Hc := Lib.hid hcmp
        clear hcmp
        go_wp2_with fail
        go_quiet (fail)
        go_wp2
        go_ret
        exact ⟨⟨false, rfl, ⟨fun h => (by cases h), fun h => absurd (h.2 k hkn) Hc.out⟩⟩, by first | exact below_drewN (Below.refl _ _) _ | exact below_drewN (below_drewN (Below.refl _ _) _) _⟩
    · obtain rfl : k = n := by omega
      go_wp2
      go_ret
      exact ⟨⟨true, rfl, ⟨fun _ => ⟨by trivial, Hall.out⟩, fun _ => rfl⟩⟩, below_drewN (Below.refl _ _) _⟩

set_option maxRecDepth 100000 in
set_option maxHeartbeats 2000000 in
theorem sametris (A B : Option Addr) (n m c d : Nat) (F : Nat → Nat → Int) (G : Nat → Nat → Int) (w : World) (hA : Row w A n 3 (fun i j => .int .i64 (F i j))) (hB : Row w B m 3 (fun i j => .int .i64 (G i j))) (hn : (n : Int) ≤ 9223372036854775807) :
    Calls Try.prog 11 #[.slice A n c, .slice B m d] w fun e w' => EqR (n = m ∧ ∀ k, k < n → F k 0 = G k 0 ∧ F k 1 = G k 1 ∧ F k 2 = G k 2) e ∧ Below w.heap.size w w' := by
  by_cases hnm : n = m
  rotate_left
  · have g0 : ((n : Int) != (m : Int)) = true := by simp; omega
    clear hA hB
    go_enter Try.func11, Try.ntmps11
    go_wp2
    go_ret
    exact ⟨⟨false, rfl, ⟨fun h => (by cases h), fun h => absurd h.1 hnm⟩⟩, Below.refl _ _⟩
  subst hnm
  have HA := Lib.hid hA
  have HB := Lib.hid hB
  clear hA hB
  go_enter Try.func11, Try.ntmps11
  go_wp2
  go_loopw [5] (fun i wr => ∃ k : Nat, k ≤ n ∧ i = .int .i64 k ∧ (∃ q, wr = w.drewN q) ∧ ∀ k', k' < k → F k' 0 = G k' 0 ∧ F k' 1 = G k' 1 ∧ F k' 2 = G k' 2) (fun i wr => n - (intOf i).toNat)
  case atStart => exact ⟨0, Nat.zero_le _, rfl, ⟨0, rfl⟩, fun j hj => absurd hj (by omega)⟩
  case round =>
    obtain ⟨k, hk, rfl, ⟨q, rfl⟩, hall⟩ := hrel
    have Hall := Lib.hid hall
    clear hall
    by_cases hkn : k < n
    · obtain ⟨g, o, rfl, hg, hc⟩ := HA.out (by omega)
      obtain ⟨g', o', rfl, hg', hc'⟩ := HB.out (by omega)
      have c0 := hc k hkn 0 (by omega)
      have c1 := hc k hkn 1 (by omega)
      have c2 := hc k hkn 2 (by omega)
      have d0 := hc' k hkn 0 (by omega)
      have d1 := hc' k hkn 1 (by omega)
      have d2 := hc' k hkn 2 (by omega)
      dsimp only at c0 c1 c2 d0 d1 d2
      simp only [Nat.add_zero] at c0 c1 c2 d0 d1 d2
      have hi : (k : Int) < (n : Int) := by omega
      have hi0 : (0 : Int) ≤ (k : Int) := by omega
      clear hc hc'
      by_cases hcmp : F k 0 = G k 0 ∧ F k 1 = G k 1 ∧ F k 2 = G k 2
      · have hq := fun W => equalIn_of_eql (eql_tri ((F k 0)) ((F k 1)) ((F k 2)) ((G k 0)) ((G k 1)) ((G k 2)) W)
        have hv : ((F k 0 == G k 0) && ((F k 1 == G k 1) && (F k 2 == G k 2))) = true := by have := hcmp; simp_all
        simp only [hv] at hq
        clear hv
        have Hc := Lib.hid hcmp
        clear hcmp
        go_wp2_with fail
        go_quiet (fail)
        go_wp2
        go_roundw
        case rel =>
          refine ⟨k + 1, by omega, by go_num, ⟨_, rfl⟩, fun j hj => ?_⟩
          rcases Nat.lt_or_ge j k with h | h
          · exact Hall.out j h
          · obtain rfl : j = k := by omega
            exact Hc.out
        case measure => simp [intOf]; omega
      · have hq := fun W => equalIn_of_eql (eql_tri ((F k 0)) ((F k 1)) ((F k 2)) ((G k 0)) ((G k 1)) ((G k 2)) W)
        have hv : ((F k 0 == G k 0) && ((F k 1 == G k 1) && (F k 2 == G k 2))) = false := by rw [Bool.eq_false_iff]; intro hh; apply hcmp; simpa using hh
        simp only [hv] at hq
        clear hv
        have Hc := Lib.hid hcmp
        clear hcmp
        go_wp2_with fail
        go_quiet (fail)
        go_wp2
        go_ret
        exact ⟨⟨false, rfl, ⟨fun h => (by cases h), fun h => absurd (h.2 k hkn) Hc.out⟩⟩, by first | exact below_drewN (Below.refl _ _) _ | exact below_drewN (below_drewN (Below.refl _ _) _) _⟩
    · obtain rfl : k = n := by omega
      go_wp2
      go_ret
      exact ⟨⟨true, rfl, ⟨fun _ => ⟨by trivial, Hall.out⟩, fun _ => rfl⟩⟩, below_drewN (Below.refl _ _) _⟩

set_option maxRecDepth 100000 in
set_option maxHeartbeats 1000000 in
theorem cloneInt (A : Option Addr) (n c : Nat) (F : Nat → Nat → Value) (w : World) (hA : Row w A n 1 F) (h1 : ∀ i j, (F i j).oneCell' = true) (hn : (n : Int) ≤ 1000000) :
    Calls Try.prog 34 #[.slice A n c] w fun e w' => OwnR 3 1 n F w.heap.size e w' ∧ Below w.heap.size w w' := by
  have hnil := fun W => Lib.run_eql_slice_nil (P := Try.prog) W 22 3 A n c 0 0 Try.underlying22
  cases A with
  | none =>
    have hn0 : n = 0 := by
      rcases Nat.eq_zero_or_pos n with h | h
      · exact h
      · obtain ⟨g, off, e, _⟩ := hA h
        cases e
    subst hn0
    clear hA
    simp only [Option.isNone_none] at hnil
    go_enter Try.func34, Try.ntmps34
    go_wp2
    go_ret
    exact ⟨⟨none, 0, rfl, own_nil _ _ _ _⟩, Below.refl _ _⟩
  | some ad =>
    simp only [Option.isNone_some] at hnil
    have HA := Lib.hid hA
    have H1 := Lib.hid (cellsR_one (s := 1) h1 n)
    have HL := Lib.hid (cellsR_len 1 F n)
    obtain ⟨i0, hi0, hz0, hz1, hz2⟩ := info_parts int_info
    have hlit : (w.alloc (.cells #[] 3)).ownsRow w.heap.size 3 1 (.slice (some ⟨w.heap.size, 0, none⟩) 0 0) 0 [] := World.ownsRow_lit w #[] 0 (Nat.le_refl _) (Nat.zero_le _) rfl
    clear hA h1
    go_enter Try.func34, Try.ntmps34
    go_wp2_with (at_builtin; refine wpList_app rfl (.tmp 5) (.tmp 6) 22 rfl w.heap.size 3 i0 _ 1 8 Try.underlying22 hi0 hz0 hz1 hz2 rfl (by omega) (some ⟨w.heap.size, 0, none⟩) 0 0 [] rfl hlit (some ad) n c (cellsR 1 F n) rfl HL.out ((Row.below HA.out (by repeat' (first | exact Below.refl _ _ | assumption | apply Below.drew | refine Below.setCell ?_ (by first | omega | (simp; done) | (simp; omega)) _ | refine Below.alloc ?_ (by first | omega | (simp; done) | (simp; omega)) _))).news (by omega)) H1.out (by unfold maxLen; omega) (by omega) (by simp) ?_; intro A1 c1 w1 hown1 hgr1; simp only [Nat.zero_add, List.nil_append] at hown1 ⊢)
    have bel := below_grown (a := w) (B := w.heap.size) (by repeat' (first | exact Below.refl _ _ | assumption | apply Below.drew | refine Below.setCell ?_ (by first | omega | (simp; done) | (simp; omega)) _ | refine Below.alloc ?_ (by first | omega | (simp; done) | (simp; omega)) _)) hgr1 hlit (Nat.le_refl _) (by simp)
    have Hown := Lib.hid hown1
    clear hown1 hgr1 hlit
    go_wp2
    go_ret
    exact ⟨⟨A1, c1, rfl, Hown.out⟩, bel⟩

set_option maxRecDepth 100000 in
set_option maxHeartbeats 1000000 in
theorem cloneVec (A : Option Addr) (n c : Nat) (F : Nat → Nat → Value) (w : World) (hA : Row w A n 3 F) (h1 : ∀ i j, (F i j).oneCell' = true) (hn : (n : Int) ≤ 1000000) :
    Calls Try.prog 32 #[.slice A n c] w fun e w' => OwnR 51 3 n F w.heap.size e w' ∧ Below w.heap.size w w' := by
  have hnil := fun W => Lib.run_eql_slice_nil (P := Try.prog) W 38 51 A n c 0 0 Try.underlying38
  cases A with
  | none =>
    have hn0 : n = 0 := by
      rcases Nat.eq_zero_or_pos n with h | h
      · exact h
      · obtain ⟨g, off, e, _⟩ := hA h
        cases e
    subst hn0
    clear hA
    simp only [Option.isNone_none] at hnil
    go_enter Try.func32, Try.ntmps32
    go_wp2
    go_ret
    exact ⟨⟨none, 0, rfl, own_nil _ _ _ _⟩, Below.refl _ _⟩
  | some ad =>
    simp only [Option.isNone_some] at hnil
    have HA := Lib.hid hA
    have H1 := Lib.hid (cellsR_one (s := 3) h1 n)
    have HL := Lib.hid (cellsR_len 3 F n)
    obtain ⟨i0, hi0, hz0, hz1, hz2⟩ := info_parts vec_info
    have hlit : (w.alloc (.cells #[] 51)).ownsRow w.heap.size 51 3 (.slice (some ⟨w.heap.size, 0, none⟩) 0 0) 0 [] := World.ownsRow_lit w #[] 0 (Nat.le_refl _) (Nat.zero_le _) rfl
    clear hA h1
    go_enter Try.func32, Try.ntmps32
    go_wp2_with (at_builtin; refine wpList_app rfl (.tmp 5) (.tmp 6) 38 rfl w.heap.size 51 i0 _ 3 24 Try.underlying38 hi0 hz0 hz1 hz2 rfl (by omega) (some ⟨w.heap.size, 0, none⟩) 0 0 [] rfl hlit (some ad) n c (cellsR 3 F n) rfl HL.out ((Row.below HA.out (by repeat' (first | exact Below.refl _ _ | assumption | apply Below.drew | refine Below.setCell ?_ (by first | omega | (simp; done) | (simp; omega)) _ | refine Below.alloc ?_ (by first | omega | (simp; done) | (simp; omega)) _))).news (by omega)) H1.out (by unfold maxLen; omega) (by omega) (by simp) ?_; intro A1 c1 w1 hown1 hgr1; simp only [Nat.zero_add, List.nil_append] at hown1 ⊢)
    have bel := below_grown (a := w) (B := w.heap.size) (by repeat' (first | exact Below.refl _ _ | assumption | apply Below.drew | refine Below.setCell ?_ (by first | omega | (simp; done) | (simp; omega)) _ | refine Below.alloc ?_ (by first | omega | (simp; done) | (simp; omega)) _)) hgr1 hlit (Nat.le_refl _) (by simp)
    have Hown := Lib.hid hown1
    clear hown1 hgr1 hlit
    go_wp2
    go_ret
    exact ⟨⟨A1, c1, rfl, Hown.out⟩, bel⟩

set_option maxRecDepth 100000 in
set_option maxHeartbeats 1000000 in
theorem cloneUV (A : Option Addr) (n c : Nat) (F : Nat → Nat → Value) (w : World) (hA : Row w A n 2 F) (h1 : ∀ i j, (F i j).oneCell' = true) (hn : (n : Int) ≤ 1000000) :
    Calls Try.prog 33 #[.slice A n c] w fun e w' => OwnR 52 2 n F w.heap.size e w' ∧ Below w.heap.size w w' := by
  have hnil := fun W => Lib.run_eql_slice_nil (P := Try.prog) W 39 52 A n c 0 0 Try.underlying39
  cases A with
  | none =>
    have hn0 : n = 0 := by
      rcases Nat.eq_zero_or_pos n with h | h
      · exact h
      · obtain ⟨g, off, e, _⟩ := hA h
        cases e
    subst hn0
    clear hA
    simp only [Option.isNone_none] at hnil
    go_enter Try.func33, Try.ntmps33
    go_wp2
    go_ret
    exact ⟨⟨none, 0, rfl, own_nil _ _ _ _⟩, Below.refl _ _⟩
  | some ad =>
    simp only [Option.isNone_some] at hnil
    have HA := Lib.hid hA
    have H1 := Lib.hid (cellsR_one (s := 2) h1 n)
    have HL := Lib.hid (cellsR_len 2 F n)
    obtain ⟨i0, hi0, hz0, hz1, hz2⟩ := info_parts uv_info
    have hlit : (w.alloc (.cells #[] 52)).ownsRow w.heap.size 52 2 (.slice (some ⟨w.heap.size, 0, none⟩) 0 0) 0 [] := World.ownsRow_lit w #[] 0 (Nat.le_refl _) (Nat.zero_le _) rfl
    clear hA h1
    go_enter Try.func33, Try.ntmps33
    go_wp2_with (at_builtin; refine wpList_app rfl (.tmp 5) (.tmp 6) 39 rfl w.heap.size 52 i0 _ 2 16 Try.underlying39 hi0 hz0 hz1 hz2 rfl (by omega) (some ⟨w.heap.size, 0, none⟩) 0 0 [] rfl hlit (some ad) n c (cellsR 2 F n) rfl HL.out ((Row.below HA.out (by repeat' (first | exact Below.refl _ _ | assumption | apply Below.drew | refine Below.setCell ?_ (by first | omega | (simp; done) | (simp; omega)) _ | refine Below.alloc ?_ (by first | omega | (simp; done) | (simp; omega)) _))).news (by omega)) H1.out (by unfold maxLen; omega) (by omega) (by simp) ?_; intro A1 c1 w1 hown1 hgr1; simp only [Nat.zero_add, List.nil_append] at hown1 ⊢)
    have bel := below_grown (a := w) (B := w.heap.size) (by repeat' (first | exact Below.refl _ _ | assumption | apply Below.drew | refine Below.setCell ?_ (by first | omega | (simp; done) | (simp; omega)) _ | refine Below.alloc ?_ (by first | omega | (simp; done) | (simp; omega)) _)) hgr1 hlit (Nat.le_refl _) (by simp)
    have Hown := Lib.hid hown1
    clear hown1 hgr1 hlit
    go_wp2
    go_ret
    exact ⟨⟨A1, c1, rfl, Hown.out⟩, bel⟩
end Go.Proofs.Ytkclkillphafkaa
