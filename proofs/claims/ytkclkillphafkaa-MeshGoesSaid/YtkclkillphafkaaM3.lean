/- The walk of the reference's Prim. -/
import Derived.Test.YtkclkillphafkaaM1
import Derived.IntWalk
import Derived.Deep.DrawnRows
namespace Go.Proofs.Ytkclkillphafkaa
open Go.RowKit
set_option linter.unusedVariables false
attribute [local go_sem ↓] Go.wp_at_zero Go.wp_at_succ

set_option maxRecDepth 100000 in
set_option maxHeartbeats 4000000 in
theorem refprim0_ok (n : Nat) (A : Option Addr) (c : Nat) (l : Nat → Int) (w : World) (hs : IS w A n l) (hn : (n : Int) ≤ 200) (hf : n % 3 = 0) :
    Calls Try.prog 10 #[.agg #[.int .u8 0, .slice A n c]] w fun e w' => (∃ X cx, e = .returned (.tuple #[.slice X (n / 3) cx, .int .i64 0]) ∧ w'.ownsRow w.heap.size 36 3 (.slice X (n / 3) cx) (n / 3) (cellsR 3 (tv 0 l) (n / 3))) ∧ Below w.heap.size w w' := by
  have HS := Lib.hid hs
  have gn : decide ((200 : Int) < (n : Int)) = false := decide_eq_false (by omega)
  have g1 : ((n : Int) % 3 != 0) = false := by simp; omega
  have Hf := Lib.hid hf
  clear hs hf
  obtain ⟨i0, hi0, hz0, hz1, hz2⟩ := info_parts tri_info
  go_enter Try.func10, Try.ntmps10
  go_wp2
  go_loopw [5, 6] (fun o i wr => ∃ j : Nat, j ≤ n ∧ j % 3 = 0 ∧ i = .int .i64 (j : Int) ∧ (∃ X cx, o = .slice X (j / 3) cx ∧ wr.ownsRow w.heap.size 36 3 (.slice X (j / 3) cx) (j / 3) (cellsR 3 (tv 0 l) (j / 3))) ∧ HasBlk wr w.heap.size 24 #[.int .u8 0, .slice A n c] ∧ Below w.heap.size w wr) (fun o i wr => n - (intOf i).toNat)
  case atStart => exact ⟨0, by omega, by omega, rfl, ⟨none, 0, rfl, own_nil _ _ _ _⟩, hasBlk_new _ _ _, (Below.refl w.heap.size w).alloc (Nat.le_refl _) _⟩
  case round =>
    obtain ⟨j, hj, h3, rfl, ⟨X, cx, rfl, hown⟩, hp, hbel⟩ := hrel
    have e0 := hp.cell 0
    have e1 := hp.cell 1
    have z2 := hp.lt
    simp at e0 e1
    by_cases hjn : j < n
    · have hj2 : j + 2 < n := by have := Hf.out; omega
      obtain ⟨g, o, rfl, hg, hc⟩ := HS.out (by omega)
      have c0 := (hbel.cell (p := ⟨g, o + j, none⟩) hg).trans (hc j (by omega))
      have c1 := (hbel.cell (p := ⟨g, o + (j + 1), none⟩) hg).trans (hc (j + 1) (by omega))
      have c2 := (hbel.cell (p := ⟨g, o + (j + 2), none⟩) hg).trans (hc (j + 2) (by omega))
      clear hc
      have qa0 : (0 : Int) ≤ ((j : Nat) : Int) := by omega
      have qb0 : ((j : Nat) : Int) < ((n : Nat) : Int) := by omega
      have qa1 : (0 : Int) ≤ ((j : Nat) : Int) + 1 := by omega
      have qb1 : ((j : Nat) : Int) + 1 < ((n : Nat) : Int) := by omega
      have qa2 : (0 : Int) ≤ ((j : Nat) : Int) + 2 := by omega
      have qb2 : ((j : Nat) : Int) + 2 < ((n : Nat) : Int) := by omega
      have qc1 : IntKind.i64.wrap (((j : Nat) : Int) + 1) = ((j : Nat) : Int) + 1 := IntWalk.i64_in _ (by omega)
      have qd1 : (((j : Nat) : Int) + 1).toNat = j + 1 := by omega
      have qc2 : IntKind.i64.wrap (((j : Nat) : Int) + 2) = ((j : Nat) : Int) + 2 := IntWalk.i64_in _ (by omega)
      have qd2 : (((j : Nat) : Int) + 2).toNat = j + 2 := by omega
      have ak : Value.ownBlock (.slice X (j / 3) cx) ≠ some g := fun h => by have := (hown.lt _ h).1; omega
      have Hne := Lib.hid (hp.ne_own hown (by decide))
      have Hp := Lib.hid hp
      clear hp
      go_wp2
      go_region_held3 (fun Wo => Wo.cell? ⟨w.heap.size, 1, none⟩ = some (.slice (some ⟨g, o, none⟩) n c) ∧ Wo.cell? ⟨g, o + j, none⟩ = some (.int .i64 (l j)) ∧ Wo.cell? ⟨g, o + (j + 1), none⟩ = some (.int .i64 (l (j + 1))) ∧ Wo.cell? ⟨g, o + (j + 2), none⟩ = some (.int .i64 (l (j + 2))))
        (first | go_keep | (go_split_ands; refine ⟨?_, ?_, ?_, ?_⟩ <;> first | (rw [hgrow.cell_far _ (by simp; omega) (Ne.symm Hne.out)]; assumption) | (rw [hgrow.cell_far _ (by simp; omega) (Ne.symm ak)]; assumption)))
        ((refine step_append_lies _ (by rfl) _ _ _ (by rfl) w.heap.size 36 i0 _ 3 24 Try.underlying25 hi0 hz0 hz1 hz2 rfl (by omega) (.slice X (j / 3) cx) ((j / 3)) (cellsR 3 (tv 0 l) (j / 3)) (by rfl) ((hown.alloc _).drew) ⟨wr.heap.size, 0, none⟩ 1 1 [.int .i64 (l (j)), .int .i64 (l (j + 1)), .int .i64 (l (j + 2))] (by rfl) (by rfl) (World.news_of_block (cs := #[.int .i64 (l (j)), .int .i64 (l (j + 1)), .int .i64 (l (j + 2))]) (t := 36) (fr := (0, 0)) (heap_alloc_new wr _)) (by simp [Value.oneCell']) (by omega) (by unfold maxLen; omega) (by omega) (by simp; omega) (wr.heap.size + 1) (by simp) ?_; intro g' cap w3 hown3 hgrow hat hlt))
      clear qc1 qd1 qc2 qd2
      go_wp2
      go_roundw
      case rel =>
        have e : (j + 3) / 3 = (j / 3) + 1 := by omega
        refine ⟨j + 3, by omega, by omega, by go_num, ⟨some ⟨g', 0, none⟩, cap, by rw [e], ?_⟩, ?_, ?_⟩
        · rw [e, tri_succ]
          have t0 : tri 0 l (j / 3) 0 = l j := by rw [tri0]; congr 1; omega
          have t1 : tri 0 l (j / 3) 1 = l (j + 1) := by rw [tri0]; congr 1; omega
          have t2 : tri 0 l (j / 3) 2 = l (j + 2) := by rw [tri0]; congr 1; omega
          rw [t0, t1, t2]
          exact hown3
        · exact ((Hp.out.alloc _).drew).grown hgrow Hne.out
        · exact below_grown (v := .slice X (j / 3) cx) (hbel.alloc (by omega) _).drew hgrow (hown.alloc _).drew (Nat.le_refl _) (by simp; omega)
      case measure => simp [intOf]; omega
    · have gj : decide ((j : Int) < (n : Int)) = false := decide_eq_false (by omega)
      have e : (j / 3) = (n / 3) := by have := Hf.out; omega
      rw [e] at hown ⊢
      have hown2 := Lib.hid hown
      clear hown e
      by_cases hn3 : n = 0
      · subst hn3
        go_wp2
        refine wp_loop_rounds 1 ?_
        rw [rounds_succ]
        go_wp2
        refine wp_loop_rounds 1 ?_
        rw [rounds_succ]
        go_wp2
        go_ret2
        exact ⟨⟨X, cx, rfl, hown2.out⟩, hbel⟩
      · have g3 : decide ((0 : Int) ≤ (n : Int) - 3) = true := decide_eq_true (by have := Hf.out; omega)
        have g4 : decide ((1 : Int) ≤ (n : Int) - 2) = true := decide_eq_true (by have := Hf.out; omega)
        go_wp2
        refine wp_loop_rounds 1 ?_
        rw [rounds_succ]
        go_wp2
        refine wp_loop_rounds 1 ?_
        rw [rounds_succ]
        go_wp2
        go_ret2
        exact ⟨⟨X, cx, rfl, hown2.out⟩, hbel⟩

set_option maxRecDepth 100000 in
set_option maxHeartbeats 4000000 in
theorem refprim1_ok (n : Nat) (A : Option Addr) (c : Nat) (l : Nat → Int) (w : World) (hs : IS w A n l) (hn : (n : Int) ≤ 200) (hf : n = 0 ∨ 3 ≤ n) :
    Calls Try.prog 10 #[.agg #[.int .u8 1, .slice A n c]] w fun e w' => (∃ X cx, e = .returned (.tuple #[.slice X (n - 2) cx, .int .i64 0]) ∧ w'.ownsRow w.heap.size 36 3 (.slice X (n - 2) cx) (n - 2) (cellsR 3 (tv 1 l) (n - 2))) ∧ Below w.heap.size w w' := by
  have HS := Lib.hid hs
  have gn : decide ((200 : Int) < (n : Int)) = false := decide_eq_false (by omega)
  have g1 : ((n : Int) == 1) = false := by simp; omega
  have g2 : ((n : Int) == 2) = false := by simp; omega
  have Hf := Lib.hid hf
  clear hs hf
  obtain ⟨i0, hi0, hz0, hz1, hz2⟩ := info_parts tri_info
  go_enter Try.func10, Try.ntmps10
  go_wp2
  go_loopw [5, 7] (fun o i wr => ∃ j : Nat, j ≤ n - 2 ∧ i = .int .i64 (j : Int) ∧ (∃ X cx, o = .slice X j cx ∧ wr.ownsRow w.heap.size 36 3 (.slice X j cx) j (cellsR 3 (tv 1 l) j)) ∧ HasBlk wr w.heap.size 24 #[.int .u8 1, .slice A n c] ∧ Below w.heap.size w wr) (fun o i wr => n - (intOf i).toNat)
  case atStart => exact ⟨0, by omega, rfl, ⟨none, 0, rfl, own_nil _ _ _ _⟩, hasBlk_new _ _ _, (Below.refl w.heap.size w).alloc (Nat.le_refl _) _⟩
  case round =>
    obtain ⟨j, hj, rfl, ⟨X, cx, rfl, hown⟩, hp, hbel⟩ := hrel
    have e0 := hp.cell 0
    have e1 := hp.cell 1
    have z2 := hp.lt
    simp at e0 e1
    by_cases hjn : j + 2 < n
    · have gj : decide ((j : Int) ≤ (n : Int) - 3) = true := decide_eq_true (by omega)
      by_cases h3 : j % 2 = 0
      · have g3 : ((j : Int) % 2 == 1) = false := by simp; omega

        obtain ⟨g, o, rfl, hg, hc⟩ := HS.out (by omega)
        have c0 := (hbel.cell (p := ⟨g, o + j, none⟩) hg).trans (hc j (by omega))
        have c1 := (hbel.cell (p := ⟨g, o + (j + 1), none⟩) hg).trans (hc (j + 1) (by omega))
        have c2 := (hbel.cell (p := ⟨g, o + (j + 2), none⟩) hg).trans (hc (j + 2) (by omega))
        clear hc
        have qa0 : (0 : Int) ≤ ((j : Nat) : Int) := by omega
        have qb0 : ((j : Nat) : Int) < ((n : Nat) : Int) := by omega
        have qa1 : (0 : Int) ≤ ((j : Nat) : Int) + 1 := by omega
        have qb1 : ((j : Nat) : Int) + 1 < ((n : Nat) : Int) := by omega
        have qa2 : (0 : Int) ≤ ((j : Nat) : Int) + 2 := by omega
        have qb2 : ((j : Nat) : Int) + 2 < ((n : Nat) : Int) := by omega
        have qc1 : IntKind.i64.wrap (((j : Nat) : Int) + 1) = ((j : Nat) : Int) + 1 := IntWalk.i64_in _ (by omega)
        have qd1 : (((j : Nat) : Int) + 1).toNat = j + 1 := by omega
        have qc2 : IntKind.i64.wrap (((j : Nat) : Int) + 2) = ((j : Nat) : Int) + 2 := IntWalk.i64_in _ (by omega)
        have qd2 : (((j : Nat) : Int) + 2).toNat = j + 2 := by omega
        clear qc1 qd1 qc2 qd2
        have ak : Value.ownBlock (.slice X j cx) ≠ some g := fun h => by have := (hown.lt _ h).1; omega
        have Hne := Lib.hid (hp.ne_own hown (by decide))
        have Hp := Lib.hid hp
        clear hp
        go_wp2_with (at_builtin; refine wpList_append_lies _ rfl (.tmp 105) (.tmp 115) _ rfl w.heap.size 36 i0 _ 3 24 Try.underlying25 hi0 hz0 hz1 hz2 rfl (by omega) (.slice X j cx) (j) (cellsR 3 (tv 1 l) j) rfl (hown.alloc _) ⟨wr.heap.size, 0, none⟩ 1 1 [.int .i64 (l (j)), .int .i64 (l (j + 1)), .int .i64 (l (j + 2))] (by rfl) rfl (World.news_of_block (cs := #[.int .i64 (l (j)), .int .i64 (l (j + 1)), .int .i64 (l (j + 2))]) (t := 36) (fr := (0, 0)) (heap_alloc_new wr _)) (by simp [Value.oneCell']) (by omega) (by unfold maxLen; omega) (by omega) (by simp; omega) (wr.heap.size + 1) (by simp) ?_; intro g' cap w3 hown3 hgrow hat hlt)
        go_roundw
        case rel =>
          have e : j + 1 = j + 1 := by omega
          refine ⟨j + 1, by omega, by go_num, ⟨some ⟨g', 0, none⟩, cap, by rw [e], ?_⟩, ?_, ?_⟩
          · rw [e, tri_succ]
            have t0 : tri 1 l j 0 = l j := by simp only [tri1, if_pos h3, Nat.add_zero]
            have t1 : tri 1 l j 1 = l (j + 1) := by simp only [tri1, if_pos h3, Nat.add_zero]
            have t2 : tri 1 l j 2 = l (j + 2) := by simp only [tri1, if_pos h3, Nat.add_zero]
            rw [t0, t1, t2]
            exact hown3
          · exact ((Hp.out.alloc _)).grown hgrow Hne.out
          · exact below_grown (v := .slice X j cx) (hbel.alloc (by omega) _) hgrow (hown.alloc _) (Nat.le_refl _) (by simp; omega)
        case measure => simp [intOf]; omega
      · have g3 : ((j : Int) % 2 == 1) = true := by simp; omega

        obtain ⟨g, o, rfl, hg, hc⟩ := HS.out (by omega)
        have c0 := (hbel.cell (p := ⟨g, o + j, none⟩) hg).trans (hc j (by omega))
        have c1 := (hbel.cell (p := ⟨g, o + (j + 1), none⟩) hg).trans (hc (j + 1) (by omega))
        have c2 := (hbel.cell (p := ⟨g, o + (j + 2), none⟩) hg).trans (hc (j + 2) (by omega))
        clear hc
        have qa0 : (0 : Int) ≤ ((j : Nat) : Int) := by omega
        have qb0 : ((j : Nat) : Int) < ((n : Nat) : Int) := by omega
        have qa1 : (0 : Int) ≤ ((j : Nat) : Int) + 1 := by omega
        have qb1 : ((j : Nat) : Int) + 1 < ((n : Nat) : Int) := by omega
        have qa2 : (0 : Int) ≤ ((j : Nat) : Int) + 2 := by omega
        have qb2 : ((j : Nat) : Int) + 2 < ((n : Nat) : Int) := by omega
        have qc1 : IntKind.i64.wrap (((j : Nat) : Int) + 1) = ((j : Nat) : Int) + 1 := IntWalk.i64_in _ (by omega)
        have qd1 : (((j : Nat) : Int) + 1).toNat = j + 1 := by omega
        have qc2 : IntKind.i64.wrap (((j : Nat) : Int) + 2) = ((j : Nat) : Int) + 2 := IntWalk.i64_in _ (by omega)
        have qd2 : (((j : Nat) : Int) + 2).toNat = j + 2 := by omega
        clear qc1 qd1 qc2 qd2
        have ak : Value.ownBlock (.slice X j cx) ≠ some g := fun h => by have := (hown.lt _ h).1; omega
        have Hne := Lib.hid (hp.ne_own hown (by decide))
        have Hp := Lib.hid hp
        clear hp
        go_wp2_with (at_builtin; refine wpList_append_lies _ rfl (.tmp 105) (.tmp 115) _ rfl w.heap.size 36 i0 _ 3 24 Try.underlying25 hi0 hz0 hz1 hz2 rfl (by omega) (.slice X j cx) (j) (cellsR 3 (tv 1 l) j) rfl (hown.alloc _) ⟨wr.heap.size, 0, none⟩ 1 1 [.int .i64 (l (j + 1)), .int .i64 (l (j)), .int .i64 (l (j + 2))] (by rfl) rfl (World.news_of_block (cs := #[.int .i64 (l (j + 1)), .int .i64 (l (j)), .int .i64 (l (j + 2))]) (t := 36) (fr := (0, 0)) (heap_alloc_new wr _)) (by simp [Value.oneCell']) (by omega) (by unfold maxLen; omega) (by omega) (by simp; omega) (wr.heap.size + 1) (by simp) ?_; intro g' cap w3 hown3 hgrow hat hlt)
        go_roundw
        case rel =>
          have e : j + 1 = j + 1 := by omega
          refine ⟨j + 1, by omega, by go_num, ⟨some ⟨g', 0, none⟩, cap, by rw [e], ?_⟩, ?_, ?_⟩
          · rw [e, tri_succ]
            have t0 : tri 1 l j 0 = l (j + 1) := by rw [tri1, if_neg h3]; rfl
            have t1 : tri 1 l j 1 = l j := by rw [tri1, if_neg h3]; rfl
            have t2 : tri 1 l j 2 = l (j + 2) := by rw [tri1, if_neg h3]; rfl
            rw [t0, t1, t2]
            exact hown3
          · exact ((Hp.out.alloc _)).grown hgrow Hne.out
          · exact below_grown (v := .slice X j cx) (hbel.alloc (by omega) _) hgrow (hown.alloc _) (Nat.le_refl _) (by simp; omega)
        case measure => simp [intOf]; omega
    · have gj : decide ((j : Int) ≤ (n : Int) - 3) = false := decide_eq_false (by omega)
      have e : j = (n - 2) := by have := Hf.out; omega
      rw [e] at hown ⊢
      have hown2 := Lib.hid hown
      clear hown e
      by_cases hn3 : n = 0
      · subst hn3
        go_wp2
        refine wp_loop_rounds 1 ?_
        rw [rounds_succ]
        go_wp2
        go_ret2
        exact ⟨⟨X, cx, rfl, hown2.out⟩, hbel⟩
      · have g4 : decide ((1 : Int) ≤ (n : Int) - 2) = true := decide_eq_true (by have := Hf.out; omega)
        go_wp2
        refine wp_loop_rounds 1 ?_
        rw [rounds_succ]
        go_wp2
        go_ret2
        exact ⟨⟨X, cx, rfl, hown2.out⟩, hbel⟩

set_option maxRecDepth 100000 in
set_option maxHeartbeats 4000000 in
theorem refprim2_ok (n : Nat) (A : Option Addr) (c : Nat) (l : Nat → Int) (w : World) (hs : IS w A n l) (hn : (n : Int) ≤ 200) (hf : n = 0 ∨ 3 ≤ n) :
    Calls Try.prog 10 #[.agg #[.int .u8 2, .slice A n c]] w fun e w' => (∃ X cx, e = .returned (.tuple #[.slice X (n - 2) cx, .int .i64 0]) ∧ w'.ownsRow w.heap.size 36 3 (.slice X (n - 2) cx) (n - 2) (cellsR 3 (tv 2 l) (n - 2))) ∧ Below w.heap.size w w' := by
  have HS := Lib.hid hs
  have gn : decide ((200 : Int) < (n : Int)) = false := decide_eq_false (by omega)
  have g1 : ((n : Int) == 1) = false := by simp; omega
  have g2 : ((n : Int) == 2) = false := by simp; omega
  have Hf := Lib.hid hf
  clear hs hf
  obtain ⟨i0, hi0, hz0, hz1, hz2⟩ := info_parts tri_info
  go_enter Try.func10, Try.ntmps10
  go_wp2
  by_cases hn3 : n = 0
  · subst hn3
    refine wp_loop_rounds 1 ?_
    rw [rounds_succ]
    go_wp2
    refine wp_loop_rounds 1 ?_
    rw [rounds_succ]
    go_wp2
    go_ret2
    exact ⟨⟨none, 0, rfl, own_nil _ _ _ _⟩, (Below.refl w.heap.size w).alloc (Nat.le_refl _) _⟩
  have g3 : decide ((0 : Int) ≤ (n : Int) - 3) = true := decide_eq_true (by have := Hf.out; omega)
  have g3' : decide ((3 : Int) ≤ (n : Int)) = true := decide_eq_true (by have := Hf.out; omega)
  refine wp_loop_rounds 1 ?_
  rw [rounds_succ]
  go_wp2
  clear g3 g3'
  go_loopw [5, 10] (fun o i wr => ∃ j : Nat, j ≤ n - 2 ∧ i = .int .i64 (((j + 1 : Nat) : Int)) ∧ (∃ X cx, o = .slice X j cx ∧ wr.ownsRow w.heap.size 36 3 (.slice X j cx) j (cellsR 3 (tv 2 l) j)) ∧ HasBlk wr w.heap.size 24 #[.int .u8 2, .slice A n c] ∧ Below w.heap.size w wr) (fun o i wr => n - (intOf i).toNat)
  case atStart => exact ⟨0, by omega, by go_num, ⟨none, 0, rfl, own_nil _ _ _ _⟩, hasBlk_new _ _ _, (Below.refl w.heap.size w).alloc (Nat.le_refl _) _⟩
  case round =>
    obtain ⟨j, hj, rfl, ⟨X, cx, rfl, hown⟩, hp, hbel⟩ := hrel
    have e0 := hp.cell 0
    have e1 := hp.cell 1
    have z2 := hp.lt
    simp at e0 e1
    by_cases hjn : j + 2 < n
    · have gj : decide (((j + 1 : Nat) : Int) ≤ (n : Int) - 2) = true := decide_eq_true (by omega)
      have ra : (0 : Int) ≤ (j : Int) + 1 + 1 := by omega
      have rb : (j : Int) + 1 + 1 < (n : Int) := by omega

      obtain ⟨g, o, rfl, hg, hc⟩ := HS.out (by omega)
      have cz := (hbel.cell (p := ⟨g, o + 0, none⟩) hg).trans (hc 0 (by omega))
      have n0 : 0 < n := by omega
      simp only [Nat.add_zero] at cz
      have c1 := (hbel.cell (p := ⟨g, o + (j + 1), none⟩) hg).trans (hc (j + 1) (by omega))
      have c2 := (hbel.cell (p := ⟨g, o + (j + 2), none⟩) hg).trans (hc (j + 2) (by omega))
      clear hc
      have qa1 : (0 : Int) ≤ ((j : Nat) : Int) + 1 := by omega
      have qb1 : ((j : Nat) : Int) + 1 < ((n : Nat) : Int) := by omega
      have qa2 : (0 : Int) ≤ ((j : Nat) : Int) + 2 := by omega
      have qb2 : ((j : Nat) : Int) + 2 < ((n : Nat) : Int) := by omega
      have qc1 : IntKind.i64.wrap (((j : Nat) : Int) + 1) = ((j : Nat) : Int) + 1 := IntWalk.i64_in _ (by omega)
      have qd1 : (((j : Nat) : Int) + 1).toNat = j + 1 := by omega
      have qc2 : IntKind.i64.wrap (((j : Nat) : Int) + 2) = ((j : Nat) : Int) + 2 := IntWalk.i64_in _ (by omega)
      have qd2 : (((j : Nat) : Int) + 2).toNat = j + 2 := by omega
      have rc : IntKind.i64.wrap ((j : Int) + 1 + 1) = (j : Int) + 1 + 1 := IntWalk.i64_in _ (by omega)
      have rd : ((j : Int) + 1 + 1).toNat = j + 2 := by omega
      have ak : Value.ownBlock (.slice X j cx) ≠ some g := fun h => by have := (hown.lt _ h).1; omega
      have Hne := Lib.hid (hp.ne_own hown (by decide))
      have Hp := Lib.hid hp
      clear hp
      go_wp2
      go_region_held3 (fun Wo => Wo.cell? ⟨w.heap.size, 1, none⟩ = some (.slice (some ⟨g, o, none⟩) n c) ∧ Wo.cell? ⟨g, o, none⟩ = some (.int .i64 (l 0)) ∧ Wo.cell? ⟨g, o + (j + 1), none⟩ = some (.int .i64 (l (j + 1))) ∧ Wo.cell? ⟨g, o + (j + 2), none⟩ = some (.int .i64 (l (j + 2))))
        (first | go_keep | (go_split_ands; refine ⟨?_, ?_, ?_, ?_⟩ <;> first | (rw [hgrow.cell_far _ (by simp; omega) (Ne.symm Hne.out)]; assumption) | (rw [hgrow.cell_far _ (by simp; omega) (Ne.symm ak)]; assumption)))
        ((refine step_append_lies _ (by rfl) _ _ _ (by rfl) w.heap.size 36 i0 _ 3 24 Try.underlying25 hi0 hz0 hz1 hz2 rfl (by omega) (.slice X j cx) (j) (cellsR 3 (tv 2 l) j) (by rfl) ((hown.alloc _).drew) ⟨wr.heap.size, 0, none⟩ 1 1 [.int .i64 (l (0)), .int .i64 (l (j + 1)), .int .i64 (l (j + 2))] (by rfl) (by rfl) (World.news_of_block (cs := #[.int .i64 (l (0)), .int .i64 (l (j + 1)), .int .i64 (l (j + 2))]) (t := 36) (fr := (0, 0)) (heap_alloc_new wr _)) (by simp [Value.oneCell']) (by omega) (by unfold maxLen; omega) (by omega) (by simp; omega) (wr.heap.size + 1) (by simp) ?_; intro g' cap w3 hown3 hgrow hat hlt))
      clear rc rd qc1 qd1 qc2 qd2
      go_wp2
      go_roundw
      case rel =>
        have e : j + 1 = j + 1 := by omega
        refine ⟨j + 1, by omega, by go_num, ⟨some ⟨g', 0, none⟩, cap, by rw [e], ?_⟩, ?_, ?_⟩
        · rw [e, tri_succ]
          have t0 : tri 2 l j 0 = l 0 := by rfl
          have t1 : tri 2 l j 1 = l (j + 1) := by rfl
          have t2 : tri 2 l j 2 = l (j + 2) := by rfl
          rw [t0, t1, t2]
          exact hown3
        · exact ((Hp.out.alloc _).drew).grown hgrow Hne.out
        · exact below_grown (v := .slice X j cx) (hbel.alloc (by omega) _).drew hgrow (hown.alloc _).drew (Nat.le_refl _) (by simp; omega)
      case measure => simp [intOf]; omega
    · have gj : decide (((j + 1 : Nat) : Int) ≤ (n : Int) - 2) = false := decide_eq_false (by omega)
      have e : j = (n - 2) := by have := Hf.out; omega
      rw [e] at hown ⊢
      have hown2 := Lib.hid hown
      clear hown e
      go_wp2
      go_ret2
      exact ⟨⟨X, cx, rfl, hown2.out⟩, hbel⟩
end Go.Proofs.Ytkclkillphafkaa
