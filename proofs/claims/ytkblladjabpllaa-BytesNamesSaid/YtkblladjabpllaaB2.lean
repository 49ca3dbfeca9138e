/- The walks of the reference's rank and Bytes, of In, may, and of Num, twice. -/
import Derived.Test.YtkblladjabpllaaB1
namespace Go.Proofs.Ytkblladjabpllaa
open Go.RowKit
set_option linter.unusedVariables false

set_option maxRecDepth 100000 in
set_option maxHeartbeats 400000 in
theorem refrank_any (n : Int) (w : World) (hn : InB n) : Calls Try.prog 24 #[.int .i64 n] w fun e w' => e = .returned (.int .i64 ((rank n : Nat) : Int)) ∧ w = w' := by
  obtain ⟨h0, h1⟩ := hn
  by_cases h : 0 ≤ n
  · have e : ((rank n : Nat) : Int) = 2 * n := by unfold rank; rw [if_pos h]; omega
    rw [e]
    go_enter Try.func24, Try.ntmps24
    go_wp2
    go_ret
    exact ⟨rfl, rfl⟩
  · have e : ((rank n : Nat) : Int) = -1 - 2 * n := by unfold rank; rw [if_neg h]; omega
    rw [e]
    go_enter Try.func24, Try.ntmps24
    go_wp2
    go_ret
    exact ⟨rfl, rfl⟩

set_option maxRecDepth 100000 in
set_option maxHeartbeats 1000000 in
theorem refbytes_any (n : Int) (w : World) (hn : InB n) : Calls Try.prog 22 #[.int .i64 n] w fun e w' => (∃ A c, e = .returned (.slice A (enc 6 (rank n)).length c) ∧ Bytes w' w.heap.size (.slice A (enc 6 (rank n)).length c) (enc 6 (rank n))) ∧ Below w.heap.size w w' := by
  obtain ⟨i0, hi0, hz0, hz1, hz2⟩ := info_parts u8_info
  have hr := rank_bd hn
  have p6 : (128 : Nat) ^ 6 = 4398046511104 := by decide
  have hlt : rank n < 128 ^ 6 := by omega
  have hrank := refrank_any n
  generalize rank n = R at *
  have Hlt := Lib.hid hlt
  have Hrank := Lib.hid hrank
  clear p6 hlt hrank
  go_enter Try.func22, Try.ntmps22
  go_wp2_with fail
  refine (Hrank.out _ hn).mono ?_
  rintro e w' ⟨rfl, rfl⟩
  go_wp2
  go_loopw [3, 4] (fun v r wr => ∃ (k q : Nat) (bs : List Nat), r = .int .i64 q ∧ q ≤ R ∧ bs.length = k ∧ k ≤ 5 ∧ q < 128 ^ (6 - k) ∧ Hid (enc 6 R = bs ++ enc (6 - k) q) ∧ (∃ A c, v = .slice A k c ∧ wr.ownsRow w.heap.size 5 1 (.slice A k c) k (bs.map bv)) ∧ Below w.heap.size w wr) (fun v r wr => (intOf r).toNat)
  case atStart => exact ⟨0, R, [], rfl, Nat.le_refl _, rfl, by omega, Hlt.out, rfl, ⟨none, 0, rfl, by simp [World.ownsRow]⟩, Below.refl _ _⟩
  case round =>
    obtain ⟨k, q, bs, rfl, hqR, hbs, hk5, hq, henc, ⟨A, cc, rfl, hown⟩, hbel⟩ := hrel
    have Hbs := Lib.hid hbs
    have Hq := Lib.hid hq
    have z2 := hbel.size
    clear hbs hq
    by_cases hq128 : q < 128
    · have he : enc (6 - k) q = [q] := by rw [show 6 - k = 5 - k + 1 from by omega]; exact enc_small hq128
      rw [he] at henc
      have Henc := Lib.hid henc.out
      clear he henc
      go_wp2_with (at_builtin; refine wpList_append_lies _ rfl (.tmp 18) (.tmp 21) _ rfl w.heap.size 5 i0 _ 1 1 Try.underlying22 hi0 hz0 hz1 hz2 rfl (by omega) (.slice A k cc) k (bs.map bv) rfl (hown.alloc _) ⟨wr.heap.size, 0, none⟩ 1 1 [.int .u8 (q : Int)] (by rfl) rfl (World.news_of_block (cs := #[.int .u8 (q : Int)]) (t := 5) (fr := (0, 0)) (heap_alloc_new wr _)) (by simp [Value.oneCell']) (by omega) (by unfold maxLen; omega) (by omega) (by simp; omega) (wr.heap.size + 1) (by simp) ?_; intro g cap w3 hown3 hgrow hat hlt)
      go_ret
      have hl : (enc 6 R).length = k + 1 := by rw [Henc.out, List.length_append, Hbs.out]; rfl
      rw [hl]
      refine ⟨⟨_, cap, rfl, ?_⟩, ?_⟩
      · unfold Bytes
        rw [hl, Henc.out, List.map_append]
        exact hown3
      · exact below_grown (v := .slice A k cc) (hbel.alloc z2 _) hgrow (hown.alloc _) (Nat.le_refl _) (by simp; omega)
    · have hk : k ≤ 4 := by
        rcases Nat.lt_or_ge k 5 with h | h
        · omega
        · have e5 : k = 5 := by omega
          have := Hq.out
          rw [e5] at this
          simp at this
          omega
      have he : enc (6 - k) q = (q % 128 + 128) :: enc (6 - (k + 1)) (q / 128) := by rw [show 6 - k = 6 - (k + 1) + 1 from by omega]; exact enc_great hq128
      have hq' : q / 128 < 128 ^ (6 - (k + 1)) := by
        have := Hq.out
        rw [show 6 - k = 6 - (k + 1) + 1 from by omega] at this
        exact pow_div this
      rw [he] at henc
      have Henc := Lib.hid henc.out
      have Hq' := Lib.hid hq'
      clear he henc hq'
      go_wp2_with (at_builtin; refine wpList_append_lies _ rfl (.tmp 9) (.tmp 14) _ rfl w.heap.size 5 i0 _ 1 1 Try.underlying22 hi0 hz0 hz1 hz2 rfl (by omega) (.slice A k cc) k (bs.map bv) rfl (hown.alloc _) ⟨wr.heap.size, 0, none⟩ 1 1 [.int .u8 ((q : Int) % 128 + 128)] (by rfl) rfl (World.news_of_block (cs := #[.int .u8 ((q : Int) % 128 + 128)]) (t := 5) (fr := (0, 0)) (heap_alloc_new wr _)) (by simp [Value.oneCell']) (by omega) (by unfold maxLen; omega) (by omega) (by simp; omega) (wr.heap.size + 1) (by simp) ?_; intro g cap w3 hown3 hgrow hat hlt)
      go_roundw
      case rel =>
        refine ⟨k + 1, q / 128, bs ++ [q % 128 + 128], by first | rfl | go_num, by omega, by rw [List.length_append, Hbs.out]; rfl, by omega, Hq'.out, by unfold Hid; rw [Henc.out, List.append_assoc]; rfl, ⟨_, cap, rfl, by rw [List.map_append]; exact hown3⟩, ?_⟩
        exact below_grown (v := .slice A k cc) (hbel.alloc z2 _) hgrow (hown.alloc _) (Nat.le_refl _) (by simp; omega)
      case measure => simp [intOf]; omega

set_option maxHeartbeats 400000 in
theorem may_yes (n : Int) (w : World) (hn : InB n) : Calls Try.prog 19 #[.int .i64 n] w fun e w' => e = .returned (.bool true) ∧ w = w' := by
  obtain ⟨h0, h1⟩ := hn
  go_enter Try.func19, Try.ntmps19
  go_wp2
  go_ret
  exact ⟨rfl, rfl⟩
set_option maxHeartbeats 400000 in
theorem may_no (n : Int) (w : World) (hn : ¬ InB n) : Calls Try.prog 19 #[.int .i64 n] w fun e w' => e = .returned (.bool false) ∧ w = w' := by
  have g : decide (-1099511627776 ≤ n) = false ∨ (decide (-1099511627776 ≤ n) = true ∧ decide (n ≤ 1099511627776) = false) := by
    unfold InB at hn
    simp only [decide_eq_true_eq, decide_eq_false_iff_not]; omega
  clear hn
  rcases g with g | ⟨g, g2⟩
  all_goals
    go_enter Try.func19, Try.ntmps19
    go_wp2
    go_ret
    exact ⟨rfl, rfl⟩
set_option maxHeartbeats 400000 in
theorem in_yes (n : Int) (w : World) (hn : InB n) : Calls Try.prog 21 #[.int .i64 n] w fun e w' => e = .returned (.bool true) ∧ w = w' := by
  obtain ⟨h0, h1⟩ := hn
  go_enter Try.func21, Try.ntmps21
  go_wp2
  go_ret
  exact ⟨rfl, rfl⟩
set_option maxHeartbeats 400000 in
theorem in_no (n : Int) (w : World) (hn : ¬ InB n) : Calls Try.prog 21 #[.int .i64 n] w fun e w' => e = .returned (.bool false) ∧ w = w' := by
  have g : decide (-1099511627776 ≤ n) = false ∨ (decide (-1099511627776 ≤ n) = true ∧ decide (n ≤ 1099511627776) = false) := by
    unfold InB at hn
    simp only [decide_eq_true_eq, decide_eq_false_iff_not]; omega
  clear hn
  rcases g with g | ⟨g, g2⟩
  all_goals
    go_enter Try.func21, Try.ntmps21
    go_wp2
    go_ret
    exact ⟨rfl, rfl⟩

/-- What Num answers. -/
def IsNum (n : Int) (e : Ending) (B : Nat) (w' : World) : Prop :=
  (¬ InB n ∧ e = .returned (.tuple #[.slice none 0 0, .int .i64 2])) ∨ (InB n ∧ ∃ A c, e = .returned (.tuple #[.slice A (enc 6 (rank n)).length c, .int .i64 0]) ∧ Bytes w' B (.slice A (enc 6 (rank n)).length c) (enc 6 (rank n)))

set_option maxHeartbeats 400000 in
theorem num8_calls (n : Int) (w : World) : Calls Try.prog 8 #[.int .i64 n] w fun e w' => IsNum n e w.heap.size w' ∧ Below w.heap.size w w' := by
  by_cases hn : InB n
  · have h1 := may_yes n
    have h2 := num_any n
    go_enter Try.func8, Try.ntmps8
    go_wp2_with fail
    refine (h1 _ hn).mono ?_
    rintro e w' ⟨rfl, rfl⟩
    go_wp2_with fail
    refine (h2 _ hn).mono ?_
    rintro e w' ⟨⟨A, c, rfl, hby⟩, bel⟩
    go_wp2
    go_ret2
    exact ⟨.inr ⟨hn, A, c, rfl, hby⟩, bel⟩
  · have h1 := may_no n
    go_enter Try.func8, Try.ntmps8
    go_wp2_with fail
    refine (h1 _ hn).mono ?_
    rintro e w' ⟨rfl, rfl⟩
    go_wp2
    go_ret2
    exact ⟨.inl ⟨hn, rfl⟩, Below.refl _ _⟩

set_option maxHeartbeats 400000 in
theorem refnum_calls (n : Int) (w : World) : Calls Try.prog 9 #[.int .i64 n] w fun e w' => IsNum n e w.heap.size w' ∧ Below w.heap.size w w' := by
  by_cases hn : InB n
  · have h1 := in_yes n
    have h2 := refbytes_any n
    go_enter Try.func9, Try.ntmps9
    go_wp2_with fail
    refine (h1 _ hn).mono ?_
    rintro e w' ⟨rfl, rfl⟩
    go_wp2_with fail
    refine (h2 _ hn).mono ?_
    rintro e w' ⟨⟨A, c, rfl, hby⟩, bel⟩
    go_wp2
    go_ret2
    exact ⟨.inr ⟨hn, A, c, rfl, hby⟩, bel⟩
  · have h1 := in_no n
    go_enter Try.func9, Try.ntmps9
    go_wp2_with fail
    refine (h1 _ hn).mono ?_
    rintro e w' ⟨rfl, rfl⟩
    go_wp2
    go_ret2
    exact ⟨.inl ⟨hn, rfl⟩, Below.refl _ _⟩
end Go.Proofs.Ytkblladjabpllaa
