/- alive, has, MeshCounts. -/
import Derived.Test.YtkclkillphafkaaM5
import Derived.IntWalk
import Derived.Deep.QuietTactic
import Derived.BigQuiet
namespace Go.Proofs.Ytkclkillphafkaa
open Go.RowKit
set_option linter.unusedVariables false

theorem IS.of_blk {w : World} {g : Nat} {t : TypeId} {cs : Array Value} (h : HasBlk w g t cs) (l : List Int) (hl : cs = (l.map iv).toArray) : IS w (some ⟨g, 0, none⟩) l.length (fun i => l.getD i 0) := by
  intro hn
  refine ⟨g, 0, rfl, h.lt, fun i hi => ?_⟩
  rw [Nat.zero_add, h.cell, hl]
  simp [iv, List.getD, hi]
theorem eql_tri (a0 a1 a2 b0 b1 b2 : Int) (w : World) : (binOp .eql 36 (.agg #[.int .i64 a0, .int .i64 a1, .int .i64 a2]) (.agg #[.int .i64 b0, .int .i64 b1, .int .i64 b2])).run Try.prog w = .ok (.bool (a0 == b0 && (a1 == b1 && a2 == b2))) w := by
  obtain ⟨ii, hii, _, _, _⟩ := info_parts int_info
  exact eql_arr3 (P := Try.prog) (t := 36) (e := 3) (k := .i64) (i := ii) Try.underlying36 Try.underlying3 hii (by kernel_rfl) a0 a1 a2 b0 b1 b2 w

set_option maxRecDepth 100000 in
set_option maxHeartbeats 1000000 in
theorem alive_any (w : World) : Calls Try.prog 13 #[] w fun e w' => e = .returned (.bool true) ∧ Below w.heap.size w w' := by
  have hq := eql_tri
  have hI := Lib.hid (IS.of_blk (hasBlk_new w 3 #[.int .i64 4, .int .i64 5, .int .i64 6, .int .i64 7]) [4, 5, 6, 7] rfl)
  have hp := Lib.hid (show pcode 1 4 = 0 by decide)
  go_enter Try.func13, Try.ntmps13
  go_wp2_with fail
  refine (prim9_any 1 (by decide) 4 (some ⟨w.heap.size, 0, none⟩) 4 (fun i => [4, 5, 6, 7].getD i 0) _ hI.out).mono ?_
  rintro e w1 ⟨hx, bel1⟩
  obtain ⟨X, m, cx, rfl, hm, hX⟩ := hx.res
  rw [hp.out] at hm ⊢
  simp only [if_true] at hm
  obtain rfl : m = 2 := hm
  have hR := Row.of_cells hX
  obtain ⟨g, off, rfl, hg, hc⟩ := hR (by decide)
  have c0 := hc 0 (by decide) 0 (by decide)
  have c1 := hc 0 (by decide) 1 (by decide)
  have c2 := hc 0 (by decide) 2 (by decide)
  have d0 := hc 1 (by decide) 0 (by decide)
  have d1 := hc 1 (by decide) 1 (by decide)
  have d2 := hc 1 (by decide) 2 (by decide)
  have B := Lib.hid (((Below.refl w.heap.size w).alloc (Nat.le_refl _) (.cells #[.int .i64 4, .int .i64 5, .int .i64 6, .int .i64 7] 3)).trans (bel1.mono (by simp)))
  clear hx hX hR hc bel1 hI hp
  have v0 : tv 1 (fun i => [4, 5, 6, 7].getD i 0) 0 0 = .int .i64 4 := rfl
  have v1 : tv 1 (fun i => [4, 5, 6, 7].getD i 0) 0 1 = .int .i64 5 := rfl
  have v2 : tv 1 (fun i => [4, 5, 6, 7].getD i 0) 0 2 = .int .i64 6 := rfl
  have u0 : tv 1 (fun i => [4, 5, 6, 7].getD i 0) 1 0 = .int .i64 6 := rfl
  have u1 : tv 1 (fun i => [4, 5, 6, 7].getD i 0) 1 1 = .int .i64 5 := rfl
  have u2 : tv 1 (fun i => [4, 5, 6, 7].getD i 0) 1 2 = .int .i64 7 := rfl
  rw [v0] at c0
  rw [v1] at c1
  rw [v2] at c2
  rw [u0] at d0
  rw [u1] at d1
  rw [u2] at d2
  clear v0 v1 v2 u0 u1 u2
  simp at c0 c1 c2 d0 d1 d2
  go_wp2
  go_ret
  exact ⟨rfl, B.out⟩

set_option maxRecDepth 100000 in
set_option maxHeartbeats 1000000 in
theorem has_true (A : Option Addr) (n c : Nat) (l : Nat → Int) (x : Int) (w : World) (hA : IS w A n l) (hn : n ≤ 9223372036854775807) (he : ∃ i, i < n ∧ l i = x) :
    Calls Try.prog 14 #[.slice A n c, .int .i64 x] w fun e w' => e = .returned (.bool true) ∧ w' = w := by
  have HA := Lib.hid hA
  have He := Lib.hid he
  clear hA he
  go_enter Try.func14, Try.ntmps14
  go_wp2
  go_loop [5] (fun i => ∃ k : Nat, k ≤ n ∧ i = .int .i64 k ∧ ∀ j, j < k → l j ≠ x) (fun i => n - (intOf i).toNat)
  case atStart => exact ⟨0, Nat.zero_le _, rfl, fun j hj => absurd hj (by omega)⟩
  case round =>
    obtain ⟨k, hk, rfl, hall⟩ := hrel
    have Hall := Lib.hid hall
    clear hall
    by_cases hkn : k < n
    · obtain ⟨g, o, rfl, hg, hc⟩ := HA.out (by omega)
      have c0 := hc k hkn
      have hi : (k : Int) < (n : Int) := by omega
      clear hc
      by_cases e : l k = x
      · have g0 : (l k == x) = true := by simpa using e
        clear e
        go_wp2
        go_ret
        exact ⟨rfl, rfl⟩
      · have g0 : (l k == x) = false := by simpa using e
        have He2 := Lib.hid e
        clear e
        go_wp2
        go_round
        case rel =>
          refine ⟨k + 1, by omega, by go_num, fun j hj => ?_⟩
          rcases Nat.lt_or_ge j k with h | h
          · exact Hall.out j h
          · obtain rfl : j = k := by omega
            exact He2.out
        case measure => simp [intOf]; omega
    · obtain rfl : k = n := by omega
      obtain ⟨i, hi, hx⟩ := He.out
      exact absurd hx (Hall.out i hi)

theorem tri_has {k : Int} {n : Nat} {l : Nat → Int} (hp : pcode k n = 0) (h0 : 0 ≤ k) {i j : Nat} (hi : i < cnt k n) (hj : j < 3) : ∃ q, q < n ∧ l q = tri k l i j := by
  unfold pcode at hp
  split at hp
  · exact absurd hp (by decide)
  · split at hp
    · exact absurd hp (by decide)
    · unfold cnt at hi
      unfold tri
      by_cases h0' : k = 0
      · rw [if_pos h0'] at hi ⊢
        exact ⟨_, by omega, rfl⟩
      · rw [if_neg h0'] at hi ⊢
        by_cases h1 : k = 1
        · rw [if_pos h1]
          split
          · exact ⟨_, by omega, rfl⟩
          · split
            · exact ⟨_, by omega, rfl⟩
            · split
              · exact ⟨_, by omega, rfl⟩
              · exact ⟨_, by omega, rfl⟩
        · rw [if_neg h1]
          split
          · exact ⟨_, by omega, rfl⟩
          · exact ⟨_, by omega, rfl⟩

set_option maxRecDepth 100000 in
set_option maxHeartbeats 2000000 in
theorem meshCounts_walk (k : Int) (h0 : 0 ≤ k) (n : Nat) (A : Option Addr) (c : Nat) (l : Nat → Int) (w : World) (hs : IS w A n l) :
    Calls Try.prog 4 #[.agg #[.int .u8 k, .slice A n c]] w fun e w' => e = .returned (.bool true) ∧ Below w.heap.size w w' := by
  by_cases hn : 1000 < n
  · go_enter Try.func4, Try.ntmps4
    go_wp2_with fail
    refine (alive_any _).mono ?_
    rintro e w1 ⟨rfl, bel1⟩
    have hp1 : HasBlk w1 w.heap.size 24 #[.int .u8 k, .slice A n c] := (hasBlk_new w _ _).below bel1
    have e1 := hp1.cell 1
    simp at e1
    go_wp2
    go_ret
    exact ⟨rfl, ((Below.refl w.heap.size w).alloc (Nat.le_refl _) _).trans (bel1.mono (by simp))⟩
  have HS := Lib.hid hs
  have hn' : (n : Int) ≤ 1000 := by omega
  have gn : decide ((1000 : Int) < (n : Int)) = false := decide_eq_false (by omega)
  have hprim := Lib.hid (fun W (h : Below w.heap.size w W) => prim9_any k h0 n A c l W (hs.below h))
  clear hs hn
  go_enter Try.func4, Try.ntmps4
  go_wp2_with fail
  refine (alive_any _).mono ?_
  rintro e w1 ⟨rfl, bel1⟩
  have BB1 : Below w.heap.size w w1 := by
    skip
    refine Below.trans ?_ (bel1.mono (by first | omega | (simp; done) | (simp; omega)))
    repeat' (first | exact Below.refl _ _ | assumption | apply Below.drew | refine Below.setCell ?_ (by first | omega | (simp; done) | (simp; omega)) _ | refine Below.alloc ?_ (by first | omega | (simp; done) | (simp; omega)) _)
  have P : Hid (HasBlk w1 (w.heap.size) 24 #[.int .u8 k, .slice A n c]) := Lib.hid (by have := (hasBlk_new w 24 #[.int .u8 k, .slice A n c]).below bel1; simpa using this)
  have BB1s := BB1.size
  have HBB1 := Lib.hid BB1
  clear BB1
  have lt_P := P.out.lt
  have P_0 := P.out.cell 0
  have P_1 := P.out.cell 1
  simp at P_0 P_1
  go_wp2_with fail
  refine (hprim.out _ HBB1.out).mono ?_
  rintro e w2 ⟨hx, bel2⟩
  obtain ⟨X, m, cx, rfl, hm, hX⟩ := hx.res
  clear lt_P P_0 P_1
  have BB2 : Below w.heap.size w w2 := by
    have bel0 := HBB1.out
    refine Below.trans ?_ (bel2.mono (by first | omega | (simp; done) | (simp; omega)))
    repeat' (first | exact Below.refl _ _ | assumption | apply Below.drew | refine Below.setCell ?_ (by first | omega | (simp; done) | (simp; omega)) _ | refine Below.alloc ?_ (by first | omega | (simp; done) | (simp; omega)) _)
  have t_P : HasBlk w2 (w.heap.size) 24 #[.int .u8 k, .slice A n c] := by first | exact P.out.below bel2 | exact (P.out.alloc _).below bel2 | exact ((P.out.alloc _).alloc _).below bel2 | exact (((P.out.alloc _).alloc _).alloc _).below bel2
  clear P
  have P := Lib.hid t_P
  clear t_P
  clear HBB1
  have BB2s := BB2.size
  have HBB2 := Lib.hid BB2
  clear BB2
  clear hx bel1
  have lt_P := P.out.lt
  have P_0 := P.out.cell 0
  have P_1 := P.out.cell 1
  simp at P_0 P_1
  by_cases hpc : pcode k n = 0
  rotate_left
  · have g0 : (pcode k n != 0) = true := by simpa using hpc
    rw [if_neg hpc] at hm
    subst hm
    clear hX hpc
    generalize pcode k n = pc at *
    go_wp2
    go_ret
    exact ⟨rfl, by have bel0 := HBB2.out; repeat' (first | exact Below.refl _ _ | assumption | apply Below.drew | refine Below.setCell ?_ (by first | omega | (simp; done) | (simp; omega)) _ | refine Below.alloc ?_ (by first | omega | (simp; done) | (simp; omega)) _)⟩
  have hhas := Lib.hid (fun i j (hi : i < m) (hj : j < 3) => tri_has (l := l) hpc h0 (by rw [hm, if_pos hpc] at hi; exact hi) hj)
  rw [hpc]
  rw [if_pos hpc] at hm
  have hR := Lib.hid (Row.of_cells hX)
  have hcnt := Lib.hid hm
  have hm200 : m ≤ 1000 := by
    rw [hm]; unfold cnt; split <;> omega
  have J2 := Lib.hid (HS.out.below (HBB2.out))
  clear hX hm hpc HS hprim bel2
  have want : ((k == 0) = true ∧ ((m : Int) == (n : Int) / 3) = true ∧ ((2 : Int) < (n : Int) ∨ (n : Int) ≤ 2)) ∨ ((k == 0) = false ∧ (2 : Int) < (n : Int) ∧ ((m : Int) == (n : Int) - 2) = true) ∨ ((k == 0) = false ∧ (n : Int) ≤ 2 ∧ ((m : Int) == 0) = true) := by
    simp only [beq_iff_eq, beq_eq_false_iff_ne]
    rw [hcnt.out]; unfold cnt
    by_cases hk : k = 0
    · left
      rw [if_pos hk]
      omega
    · right
      rw [if_neg hk]
      omega
  have Hw := Lib.hid want
  clear want
  have Hl2 := Lib.hid (HBB2.out)
  clear lt_P P_0 P_1
  rcases Hw.out with ⟨gk, gz, gd⟩ | ⟨gk, gd, gz⟩ | ⟨gk, gd, gz⟩
  · rcases gd with gd | gd
    all_goals
      have P_0 := P.out.cell 0
      have P_1 := P.out.cell 1
      simp at P_0 P_1
      go_wp2
      clear P_0 P_1
      go_loopw [8] (fun i wr => ∃ j : Nat, j ≤ m ∧ i = .int .i64 j ∧ Below w2.heap.size w2 wr) (fun i wr => m - (intOf i).toNat)
      case atStart => exact ⟨0, Nat.zero_le _, rfl, Below.refl _ _⟩
      case round =>
        obtain ⟨j, hj, rfl, hbel⟩ := hrel
        obtain ⟨wo, rfl⟩ : ∃ wo : World, wo = wr := ⟨_, rfl⟩
        by_cases hjm : j < m
        · go_wp2
          go_loopw [9] (fun i wr => ∃ q : Nat, q ≤ 3 ∧ i = .int .i64 q ∧ Below w2.heap.size w2 wr) (fun i wr => 3 - (intOf i).toNat)
          case atStart => exact ⟨0, Nat.zero_le _, rfl, hbel⟩
          case round =>
            clear hbel
            obtain ⟨q, hq, rfl, hbel⟩ := hrel
            by_cases hq3 : q < 3
            · have hJ := J2.out.below hbel
              have hh := Lib.hid (fun W (h : Below wr.heap.size wr W) => has_true A n c l (tri k l j q) W (hJ.below h) (by omega) (hhas.out j q hjm hq3))
              have hp := P.out.below hbel
              have p1 := hp.cell 1
              obtain ⟨g, off, rfl, hg, hc⟩ := (hR.out.below hbel) (by omega)
              have x0 := hc j hjm q hq3
              simp at p1
              unfold tv at x0
              have i0 : (j : Int) < (m : Int) := by omega
              have i1 : (q : Int) < 3 := by omega
              have i2 : (0 : Int) ≤ (j : Int) := by omega
              have i3 : (0 : Int) ≤ (q : Int) := by omega
              clear hJ hp hc
              go_wp2_with fail
              go_quiet ((go_at_call 14; refine Calls.quiet_of_same (hh.out _ ?_); exact below_drewN (Below.refl _ _) _))
              go_wp2
              go_roundw
              case rel => exact ⟨q + 1, by omega, by go_num, below_drewN hbel _⟩
              case measure => simp [intOf]; omega
            · have hq3' : q = 3 := by omega
              subst hq3'
              go_wp2
              go_roundw
              case rel => exact ⟨j + 1, by omega, by go_num, hbel⟩
              case measure => simp [intOf]; omega
        · have hjm' : j = m := by omega
          subst hjm'
          have z2 := Hl2.out.size
          go_wp2
          go_ret
          exact ⟨rfl, Hl2.out.trans (hbel.mono z2)⟩
  all_goals
    have P_0 := P.out.cell 0
    have P_1 := P.out.cell 1
    simp at P_0 P_1
    go_wp2
    clear P_0 P_1
    go_loopw [8] (fun i wr => ∃ j : Nat, j ≤ m ∧ i = .int .i64 j ∧ Below w2.heap.size w2 wr) (fun i wr => m - (intOf i).toNat)
    case atStart => exact ⟨0, Nat.zero_le _, rfl, Below.refl _ _⟩
    case round =>
      obtain ⟨j, hj, rfl, hbel⟩ := hrel
      obtain ⟨wo, rfl⟩ : ∃ wo : World, wo = wr := ⟨_, rfl⟩
      by_cases hjm : j < m
      · go_wp2
        go_loopw [9] (fun i wr => ∃ q : Nat, q ≤ 3 ∧ i = .int .i64 q ∧ Below w2.heap.size w2 wr) (fun i wr => 3 - (intOf i).toNat)
        case atStart => exact ⟨0, Nat.zero_le _, rfl, hbel⟩
        case round =>
          clear hbel
          obtain ⟨q, hq, rfl, hbel⟩ := hrel
          by_cases hq3 : q < 3
          · have hJ := J2.out.below hbel
            have hh := Lib.hid (fun W (h : Below wr.heap.size wr W) => has_true A n c l (tri k l j q) W (hJ.below h) (by omega) (hhas.out j q hjm hq3))
            have hp := P.out.below hbel
            have p1 := hp.cell 1
            obtain ⟨g, off, rfl, hg, hc⟩ := (hR.out.below hbel) (by omega)
            have x0 := hc j hjm q hq3
            simp at p1
            unfold tv at x0
            have i0 : (j : Int) < (m : Int) := by omega
            have i1 : (q : Int) < 3 := by omega
            have i2 : (0 : Int) ≤ (j : Int) := by omega
            have i3 : (0 : Int) ≤ (q : Int) := by omega
            clear hJ hp hc
            go_wp2_with fail
            go_quiet ((go_at_call 14; refine Calls.quiet_of_same (hh.out _ ?_); exact below_drewN (Below.refl _ _) _))
            go_wp2
            go_roundw
            case rel => exact ⟨q + 1, by omega, by go_num, below_drewN hbel _⟩
            case measure => simp [intOf]; omega
          · have hq3' : q = 3 := by omega
            subst hq3'
            go_wp2
            go_roundw
            case rel => exact ⟨j + 1, by omega, by go_num, hbel⟩
            case measure => simp [intOf]; omega
      · have hjm' : j = m := by omega
        subst hjm'
        have z2 := Hl2.out.size
        go_wp2
        go_ret
        exact ⟨rfl, Hl2.out.trans (hbel.mono z2)⟩
end Go.Proofs.Ytkclkillphafkaa
