/- The walk of dioramalaw09.TextureSteps. -/
import Derived.Test.YtgcappooiecaiaaW7
import Derived.Test.YtgcappooiecaiaaOwn
import Derived.Deep.AppendLies
namespace Go.Proofs.Ytgcappooiecaiaa
open Go.RowKit
set_option linter.unusedVariables false

theorem col_info : (Try.prog.info? 23).map (fun i => (i.zero, i.size, i.bytes)) = some (some (.agg #[.int .u8 0, .int .u8 0, .int .u8 0, .int .u8 0]), 4, 4) := by kernel_rfl

/-- The texels that tell their own column and row. -/
def pxl (w k : Nat) : List Value := (List.range k).flatMap fun i => [.int .u8 ((i % w : Nat) : Int), .int .u8 ((i / w : Nat) : Int), .int .u8 0, .int .u8 0]
theorem pxl_succ (w k : Nat) : pxl w (k + 1) = pxl w k ++ [.int .u8 ((k % w : Nat) : Int), .int .u8 ((k / w : Nat) : Int), .int .u8 0, .int .u8 0] := by
  simp [pxl, List.range_succ, List.flatMap_append]
theorem pxl_len (w : Nat) : ∀ k, (pxl w k).length = k * 4
  | 0 => rfl
  | k + 1 => by rw [pxl_succ, List.length_append, pxl_len w k]; simp; omega
def stepf (w : Nat) (i j : Nat) : Int := if j = 0 then ((i % w : Nat) : Int) else if j = 1 then ((i / w : Nat) : Int) else 0
theorem pxl_get (w : Nat) : ∀ (k i j : Nat), i < k → j < 4 → (pxl w k)[i * 4 + j]? = some (.int .u8 (stepf w i j))
  | 0, i, j, h, _ => by omega
  | k + 1, i, j, h, hj => by
    have hl := pxl_len w k
    rw [pxl_succ]
    by_cases e : i = k
    · subst e
      rw [List.getElem?_append_right (by omega), hl, show i * 4 + j - i * 4 = j from by omega]
      obtain rfl | rfl | rfl | rfl : j = 0 ∨ j = 1 ∨ j = 2 ∨ j = 3 := by omega
      all_goals rfl
    · rw [List.getElem?_append_left (by omega)]
      exact pxl_get w k i j (by omega) hj
theorem px_own {w : World} {base k n : Nat} {A : Option Addr} {c : Nat} (h : w.ownsRow base 23 4 (.slice A n c) n (pxl k n)) : Px w A n (stepf k) := fun hn => by
  obtain ⟨A', c', e, _, _, hs⟩ := own_at h
  obtain ⟨g, hg, _, hlt, hc⟩ := hs hn
  have e' : A = A' := by injection e
  subst e' hg
  exact ⟨g, 0, rfl, hlt, fun i hi j hj => by rw [Nat.zero_add, hc (i * 4 + j) (by omega), pxl_get k n i j hi hj]⟩

set_option maxHeartbeats 1000000 in
theorem steps_out (a b c d e f : Int) (w : World) (h : ¬ ((1 ≤ a ∧ a ≤ 16) ∧ (1 ≤ b ∧ b ≤ 16))) :
    Calls Try.prog 7 #[.int .i64 a, .int .i64 b, .int .i64 c, .int .i64 d, .int .i64 e, .int .i64 f] w fun e w' => e = .returned (.bool true) ∧ Below w.heap.size w w' := by
  have g : decide (a < 1) = true ∨ (decide (a < 1) = false ∧ decide (16 < a) = true) ∨ (decide (a < 1) = false ∧ decide (16 < a) = false ∧ decide (b < 1) = true) ∨ (decide (a < 1) = false ∧ decide (16 < a) = false ∧ decide (b < 1) = false ∧ decide (16 < b) = true) := by
    simp only [decide_eq_true_eq, decide_eq_false_iff_not]
    omega
  clear h
  rcases g with g1 | ⟨g1, g2⟩ | ⟨g1, g2, g3⟩ | ⟨g1, g2, g3, g4⟩
  all_goals
    go_enter Try.func7, Try.ntmps7
    go_wp2_with fail
    refine (alive09_any _).mono ?_
    rintro e w1 ⟨rfl, bel1⟩
    go_wp2
    go_ret
    exact ⟨rfl, bel1⟩

theorem step_at {a b : Nat} {c d : Int} (a0 : 1 ≤ (a : Int)) (a1 : (a : Int) ≤ 16) (b0 : 1 ≤ (b : Int)) (b1 : (b : Int) ≤ 16) (c0 : 0 ≤ c) (c1 : c ≤ 255) (d0 : 0 ≤ d) (d1 : d ≤ 255) :
    stepf a (tix a b c d).toNat 0 = c * a / 256 ∧ stepf a (tix a b c d).toNat 1 = d * b / 256 ∧ (0 ≤ c * a ∧ c * a ≤ 4080) ∧ (0 ≤ d * b ∧ d * b ≤ 4080) := by
  have p1 : c * a ≤ 255 * a := Int.mul_le_mul_of_nonneg_right c1 (by omega)
  have p0 : 0 ≤ c * a := Int.mul_nonneg c0 (by omega)
  have q1 : d * b ≤ 255 * b := Int.mul_le_mul_of_nonneg_right d1 (by omega)
  have q0 : 0 ≤ d * b := Int.mul_nonneg d0 (by omega)
  have e : (tix a b c d).toNat = (d * b / 256).toNat * a + (c * a / 256).toNat := by
    unfold tix
    have h1 : 0 ≤ d * b / 256 := by omega
    have h2 : 0 ≤ c * a / 256 := by omega
    obtain ⟨x, hx⟩ := Int.eq_ofNat_of_zero_le h1
    obtain ⟨y, hy⟩ := Int.eq_ofNat_of_zero_le h2
    rw [hx, hy, Int.toNat_natCast, Int.toNat_natCast, ← Int.natCast_mul]
    omega
  have hlt : (c * a / 256).toNat < a := by omega
  refine ⟨?_, ?_, ⟨p0, by omega⟩, ⟨q0, by omega⟩⟩
  · unfold stepf
    rw [if_pos rfl, e, Nat.mul_comm, Nat.mul_add_mod, Nat.mod_eq_of_lt hlt]; omega
  · unfold stepf
    rw [if_neg (by decide), if_pos rfl, e, Nat.mul_comm, Nat.mul_add_div (by omega), Nat.div_eq_of_lt hlt]; omega
theorem at_step {a b : Nat} {c d : Int} {A : Option Addr} {cc : Nat} {w : World} (a0 : 1 ≤ (a : Int)) (a1 : (a : Int) ≤ 16) (b0 : 1 ≤ (b : Int)) (b1 : (b : Int) ≤ 16) (hp : Px w A (b * a) (stepf a))
    (c0 : 0 ≤ c) (c1 : c ≤ 255) (d0 : 0 ≤ d) (d1 : d ≤ 255) :
    Calls Try.prog 21 #[.agg #[.int .i64 a, .int .i64 b, .slice A (b * a) cc], .int .i64 c, .int .i64 d] w fun e w' => e = .returned (.tuple #[.agg #[.int .u8 (c * a / 256), .int .u8 (d * b / 256), .int .u8 0, .int .u8 0], .int .i64 0]) ∧ Below w.heap.size w w' := by
  have h := at_ok a b c d A (b * a) cc (stepf a) w ⟨⟨a0, a1⟩, ⟨b0, b1⟩, by rw [Int.natCast_mul, Int.mul_comm]⟩ hp c0 c1 d0 d1
  obtain ⟨e0, e1, _, _⟩ := step_at a0 a1 b0 b1 c0 c1 d0 d1
  rw [e0, e1] at h
  exact h
theorem at_stop {a b : Nat} {c d : Int} {A : Option Addr} {cc : Nat} {w : World} (a0 : 1 ≤ (a : Int)) (a1 : (a : Int) ≤ 16) (b0 : 1 ≤ (b : Int)) (b1 : (b : Int) ≤ 16) (h : ¬ ((0 ≤ c ∧ c ≤ 255) ∧ (0 ≤ d ∧ d ≤ 255))) :
    Calls Try.prog 21 #[.agg #[.int .i64 a, .int .i64 b, .slice A (b * a) cc], .int .i64 c, .int .i64 d] w fun e w' => e = .returned (.tuple #[.agg #[.int .u8 0, .int .u8 0, .int .u8 0, .int .u8 0], .int .i64 2]) ∧ Below w.heap.size w w' :=
  at_arg a b c d A (b * a) cc w ⟨⟨a0, a1⟩, ⟨b0, b1⟩, by rw [Int.natCast_mul, Int.mul_comm]⟩ h

set_option maxHeartbeats 2000000 in
theorem steps_in (a b : Nat) (c d e f : Int) (w : World) (ha : 1 ≤ (a : Int) ∧ (a : Int) ≤ 16) (hb : 1 ≤ (b : Int) ∧ (b : Int) ≤ 16) :
    Calls Try.prog 7 #[.int .i64 a, .int .i64 b, .int .i64 c, .int .i64 d, .int .i64 e, .int .i64 f] w fun e w' => e = .returned (.bool true) ∧ Below w.heap.size w w' := by
  obtain ⟨i0, hi0, hz0, hz1, hz2⟩ := info_parts col_info
  obtain ⟨a0, a1⟩ := ha
  obtain ⟨b0, b1⟩ := hb
  go_enter Try.func7, Try.ntmps7
  go_wp2_with fail
  refine (alive09_any _).mono ?_
  rintro e w1 ⟨rfl, bel1⟩
  have z1 := bel1.size
  go_wp2
  go_loopw [15, 16] (fun y x wr => ∃ k : Nat, k ≤ b ∧ y = .int .i64 k ∧ (∃ A c, HasBlk wr w1.heap.size 30 #[.int .i64 a, .int .i64 b, .slice A (k * a) c] ∧ wr.ownsRow w.heap.size 23 4 (.slice A (k * a) c) (k * a) (pxl a (k * a))) ∧ Below w.heap.size w wr) (fun y x wr => b - (intOf y).toNat)
  case atStart => exact ⟨0, Nat.zero_le _, rfl, ⟨none, 0, by simpa using hasBlk_new _ _ _, by simp [World.ownsRow, pxl]⟩, by repeat' (first | exact Below.refl _ _ | assumption | apply Below.drew | refine Below.setCell ?_ (by first | omega | (simp; done) | (simp; omega)) _ | refine Below.alloc ?_ (by first | omega | (simp; done) | (simp; omega)) _)⟩
  case round =>
    obtain ⟨k, hk, rfl, ⟨A, cc, hbk, hown⟩, hbel⟩ := hrel
    obtain ⟨wo, rfl⟩ : ∃ wo : World, wo = wr := ⟨_, rfl⟩
    by_cases hkb : k < b
    · go_wp2
      go_loopw [16] (fun x wr => ∃ j : Nat, j ≤ a ∧ x = .int .i64 j ∧ (∃ A c, HasBlk wr w1.heap.size 30 #[.int .i64 a, .int .i64 b, .slice A (k * a + j) c] ∧ wr.ownsRow w.heap.size 23 4 (.slice A (k * a + j) c) (k * a + j) (pxl a (k * a + j))) ∧ Below w.heap.size w wr) (fun x wr => a - (intOf x).toNat)
      case atStart => exact ⟨0, Nat.zero_le _, rfl, ⟨A, cc, by simpa using hbk, by simpa using hown⟩, hbel⟩
      case round =>
        clear hbk hown hbel A cc
        obtain ⟨j, hj, rfl, ⟨A, cc, hbk, hown⟩, hbel⟩ := hrel
        by_cases hja : j < a
        · have hka : k * a ≤ 15 * a := Nat.mul_le_mul_right _ (by omega)
          have e2 := hbk.cell 2
          have f2 := hbk.frozen 2
          have z2 := hbel.size
          have hm1 : (k * a + j) % a = j := by rw [Nat.mul_comm, Nat.mul_add_mod, Nat.mod_eq_of_lt hja]
          have hd1 : (k * a + j) / a = k := by rw [Nat.mul_comm, Nat.mul_add_div (by omega), Nat.div_eq_of_lt hja, Nat.add_zero]
          have hsucc := pxl_succ a (k * a + j)
          rw [hm1, hd1] at hsucc
          have Hs := Lib.hid hsucc
          have Hne := Lib.hid (hbk.ne_own hown (by decide))
          have Hbk := Lib.hid hbk
          clear hsucc hm1 hd1 hbk
          simp at e2
          have h63 : k * a + j + 1 ≤ maxLen := by unfold maxLen; omega
          have h47 : (k * a + j + 1) * 4 ≤ 140737488355328 := by omega
          go_wp2_with (at_builtin; refine wpList_append_lies _ rfl (.tmp 51) (.tmp 57) _ rfl w.heap.size 23 i0 _ 4 4 Try.underlying28 hi0 hz0 hz1 hz2 rfl (by omega) (.slice A (k * a + j) cc) (k * a + j) (pxl a (k * a + j)) rfl (hown.alloc _) ⟨wr.heap.size, 0, none⟩ 1 1 [.int .u8 ((j : Nat) : Int), .int .u8 ((k : Nat) : Int), .int .u8 0, .int .u8 0] (by rfl) rfl (World.news_of_block (cs := #[.int .u8 ((j : Nat) : Int), .int .u8 ((k : Nat) : Int), .int .u8 0, .int .u8 0]) (t := 23) (fr := (0, 0)) (heap_alloc_new wr _)) (by simp [Value.oneCell']) (by omega) h63 h47 (by simp; omega) (wr.heap.size + 1) (by simp) ?_; intro g cap w3 hown3 hgrow hat hlt; have hb3 := (Hbk.out.alloc _).grown hgrow Hne.out; have e3 := hb3.cell 2; have f3 := hb3.frozen 2; simp at e3; have Hb3 := Lib.hid hb3; clear hb3)
          go_roundw
          case rel =>
            have hne3 := Hb3.out.ne_own hown3 (by decide)
            rw [← Hs.out] at hown3
            refine ⟨j + 1, by omega, by go_num, ⟨some ⟨g, 0, none⟩, cap, ?_, ?_⟩, ?_⟩
            · have hs := Hb3.out.set 2 (.slice (some ⟨g, 0, none⟩) (k * a + j + 1) cap)
              simp at hs
              exact hs
            · exact ownsRow_setCell_other hown3 hne3 _
            · exact Below.setCell (below_grown (v := .slice A (k * a + j) cc) (hbel.alloc z2 _) hgrow (hown.alloc _) (Nat.le_refl _) (by simp; omega)) z1 _
          case measure => simp [intOf]; omega
        · have hja' : j = a := by omega
          subst hja'
          go_wp2
          go_roundw
          case rel =>
            refine ⟨k + 1, by omega, by go_num, ⟨A, cc, ?_, ?_⟩, hbel⟩
            · rw [Nat.succ_mul]; exact hbk
            · rw [Nat.succ_mul]; exact hown
          case measure => simp [intOf]; omega
    · have hkb' : k = b := by omega
      subst hkb'
      have hp := px_own hown
      have hkb1 : Keeps (fun Wo => (Below w.heap.size w Wo ∧ w.heap.size ≤ Wo.heap.size) ∧ w1.heap.size + 1 ≤ Wo.heap.size ∧ Wo.cell? ⟨w1.heap.size, 0, none⟩ = some (.int .i64 a) ∧ Wo.cell? ⟨w1.heap.size, 1, none⟩ = some (.int .i64 k) ∧ Wo.cell? ⟨w1.heap.size, 2, none⟩ = some (.slice A (k * a) cc)) := by
        repeat' (first | exact Keeps.below _ | exact Keeps.size _ | exact Keeps.cell _ _ | apply Keeps.and)
      have s0 : (Below w.heap.size w wo ∧ w.heap.size ≤ wo.heap.size) ∧ w1.heap.size + 1 ≤ wo.heap.size ∧ wo.cell? ⟨w1.heap.size, 0, none⟩ = some (.int .i64 a) ∧ wo.cell? ⟨w1.heap.size, 1, none⟩ = some (.int .i64 k) ∧ wo.cell? ⟨w1.heap.size, 2, none⟩ = some (.slice A (k * a) cc) := ⟨⟨hbel, hbel.size⟩, hbk.lt, hbk.cell 0, hbk.cell 1, hbk.cell 2⟩
      have Hp := Lib.hid hp
      clear hp hown hbk
      by_cases P : (0 ≤ c ∧ c ≤ 255) ∧ (0 ≤ d ∧ d ≤ 255)
      · obtain ⟨⟨c0, c1⟩, ⟨d0, d1⟩⟩ := P
        go_wp2_with fail
        refine (at_step a0 a1 b0 b1 Hp.out c0 c1 d0 d1).mono ?_
        rintro e1 w2 ⟨rfl, bel2⟩
        have s2 := hkb1 _ _ bel2 s0
        dsimp only at s2
        have z2 : w1.heap.size < w2.heap.size := s2.2.1
        have zz2 := bel2.size
        have hkc : Keeps (fun Wo => ((Below w.heap.size w Wo ∧ w.heap.size ≤ Wo.heap.size) ∧ w1.heap.size + 1 ≤ Wo.heap.size ∧ Wo.cell? ⟨w1.heap.size, 0, none⟩ = some (.int .i64 a) ∧ Wo.cell? ⟨w1.heap.size, 1, none⟩ = some (.int .i64 k) ∧ Wo.cell? ⟨w1.heap.size, 2, none⟩ = some (.slice A (k * a) cc)) ∧ w2.heap.size + 1 ≤ Wo.heap.size ∧ Wo.cell? ⟨w2.heap.size, 0, none⟩ = some (.int .u8 (c * a / 256)) ∧ Wo.cell? ⟨w2.heap.size, 1, none⟩ = some (.int .u8 (d * k / 256)) ∧ Wo.cell? ⟨w2.heap.size, 2, none⟩ = some (.int .u8 0) ∧ Wo.cell? ⟨w2.heap.size, 3, none⟩ = some (.int .u8 0)) := by
          repeat' (first | exact Keeps.below _ | exact Keeps.size _ | exact Keeps.cell _ _ | apply Keeps.and)
        by_cases Q : (0 ≤ e ∧ e ≤ 255) ∧ (0 ≤ f ∧ f ≤ 255)
        · obtain ⟨⟨e0, e1⟩, ⟨f0, f1⟩⟩ := Q
          obtain ⟨_, _, ⟨p0, p1⟩, ⟨q0, q1⟩⟩ := step_at a0 a1 b0 b1 c0 c1 d0 d1
          have m1 : c ≤ e → c * a / 256 ≤ e * a / 256 := fun h => Int.ediv_le_ediv (by omega) (Int.mul_le_mul_of_nonneg_right h (by omega))
          have m2 : d ≤ f → d * k / 256 ≤ f * k / 256 := fun h => Int.ediv_le_ediv (by omega) (Int.mul_le_mul_of_nonneg_right h (by omega))
          go_wp2_with fail
          refine (at_step a0 a1 b0 b1 (Hp.out.below (by repeat' (first | exact Below.refl _ _ | assumption | apply Below.drew | refine Below.setCell ?_ (by first | omega | (simp; done) | (simp; omega)) _ | refine Below.alloc ?_ (by first | omega | (simp; done) | (simp; omega)) _))) e0 e1 f0 f1).mono ?_
          rintro ee w3 ⟨rfl, bel3⟩
          have s3 := hkc _ _ bel3 (by refine ⟨hkb1 _ _ ?_ s2, by simp, by simp [go_sem], by simp [go_sem], by simp [go_sem], by simp [go_sem]⟩; repeat' (first | exact Below.refl _ _ | assumption | apply Below.drew | refine Below.setCell ?_ (by first | omega | (simp; done) | (simp; omega)) _ | refine Below.alloc ?_ (by first | omega | (simp; done) | (simp; omega)) _))
          dsimp only at s3
          have z3 : w2.heap.size < w3.heap.size := s3.2.1
          clear s0 s2 Hp
          have g1 : decide (e < c) = true ∨ (decide (e < c) = false ∧ decide (c * a / 256 ≤ e * a / 256) = true) := by
            by_cases h : e < c
            · exact .inl (decide_eq_true h)
            · exact .inr ⟨decide_eq_false h, decide_eq_true (m1 (by omega))⟩
          have g2 : decide (f < d) = true ∨ (decide (f < d) = false ∧ decide (d * k / 256 ≤ f * k / 256) = true) := by
            by_cases h : f < d
            · exact .inl (decide_eq_true h)
            · exact .inr ⟨decide_eq_false h, decide_eq_true (m2 (by omega))⟩
          clear m1 m2
          rcases g1 with g1 | ⟨g1, g1'⟩ <;> rcases g2 with g2 | ⟨g2, g2'⟩
          all_goals
            go_wp2
            go_ret
            exact ⟨rfl, by have := s3.1.1.1; repeat' (first | exact Below.refl _ _ | assumption | apply Below.drew | refine Below.setCell ?_ (by first | omega | (simp; done) | (simp; omega)) _ | refine Below.alloc ?_ (by first | omega | (simp; done) | (simp; omega)) _)⟩
        · go_wp2_with fail
          refine (at_stop a0 a1 b0 b1 Q).mono ?_
          rintro ee w3 ⟨rfl, bel3⟩
          have s3 := hkb1 _ _ bel3 (hkb1 _ _ (by repeat' (first | exact Below.refl _ _ | assumption | apply Below.drew | refine Below.setCell ?_ (by first | omega | (simp; done) | (simp; omega)) _ | refine Below.alloc ?_ (by first | omega | (simp; done) | (simp; omega)) _)) s2)
          dsimp only at s3
          clear s0 s2 Hp
          have z3 := s3.2.1
          go_wp2
          go_ret
          exact ⟨rfl, by have := s3.1.1; repeat' (first | exact Below.refl _ _ | assumption | apply Below.drew | refine Below.setCell ?_ (by first | omega | (simp; done) | (simp; omega)) _ | refine Below.alloc ?_ (by first | omega | (simp; done) | (simp; omega)) _)⟩
      · go_wp2_with fail
        refine (at_stop a0 a1 b0 b1 P).mono ?_
        rintro e1 w2 ⟨rfl, bel2⟩
        have s2 := hkb1 _ _ bel2 s0
        dsimp only at s2
        have z2 : w1.heap.size < w2.heap.size := s2.2.1
        have zz2 := bel2.size
        by_cases Q : (0 ≤ e ∧ e ≤ 255) ∧ (0 ≤ f ∧ f ≤ 255)
        · obtain ⟨⟨e0, e1⟩, ⟨f0, f1⟩⟩ := Q
          go_wp2_with fail
          refine (at_step a0 a1 b0 b1 (Hp.out.below (by repeat' (first | exact Below.refl _ _ | assumption | apply Below.drew | refine Below.setCell ?_ (by first | omega | (simp; done) | (simp; omega)) _ | refine Below.alloc ?_ (by first | omega | (simp; done) | (simp; omega)) _))) e0 e1 f0 f1).mono ?_
          rintro ee w3 ⟨rfl, bel3⟩
          have s3 := hkb1 _ _ bel3 (hkb1 _ _ (by repeat' (first | exact Below.refl _ _ | assumption | apply Below.drew | refine Below.setCell ?_ (by first | omega | (simp; done) | (simp; omega)) _ | refine Below.alloc ?_ (by first | omega | (simp; done) | (simp; omega)) _)) s2)
          dsimp only at s3
          clear s0 s2 Hp
          have z3 := s3.2.1
          go_wp2
          go_ret
          exact ⟨rfl, by have := s3.1.1; repeat' (first | exact Below.refl _ _ | assumption | apply Below.drew | refine Below.setCell ?_ (by first | omega | (simp; done) | (simp; omega)) _ | refine Below.alloc ?_ (by first | omega | (simp; done) | (simp; omega)) _)⟩
        · go_wp2_with fail
          refine (at_stop a0 a1 b0 b1 Q).mono ?_
          rintro ee w3 ⟨rfl, bel3⟩
          have s3 := hkb1 _ _ bel3 (hkb1 _ _ (by repeat' (first | exact Below.refl _ _ | assumption | apply Below.drew | refine Below.setCell ?_ (by first | omega | (simp; done) | (simp; omega)) _ | refine Below.alloc ?_ (by first | omega | (simp; done) | (simp; omega)) _)) s2)
          dsimp only at s3
          clear s0 s2 Hp
          have z3 := s3.2.1
          go_wp2
          go_ret
          exact ⟨rfl, by have := s3.1.1; repeat' (first | exact Below.refl _ _ | assumption | apply Below.drew | refine Below.setCell ?_ (by first | omega | (simp; done) | (simp; omega)) _ | refine Below.alloc ?_ (by first | omega | (simp; done) | (simp; omega)) _)⟩
end Go.Proofs.Ytgcappooiecaiaa
