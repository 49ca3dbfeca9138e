/- frame.New. -/
import Derived.Test.YtibeoeooajelgaaF3
namespace Go.Proofs.Ytibeoeooajelgaa
open Go.RowKit
set_option linter.unusedVariables false

theorem own_of_blk {w : World} {B X n : Nat} {t : TypeId} {cs : List Value} {s : Nat} (h : HasBlk w X t cs.toArray) (hl : cs.length = n * s) (hB : B ≤ X) (hn : n ≤ maxLen) : w.ownsRow B t s (.slice (some ⟨X, 0, none⟩) n n) n cs :=
  ⟨hl, .inr ⟨X, n, cs.toArray, rfl, hB, h, Nat.le_refl _, hn, by simpa using hl, by rw [List.take_of_length_le (by simp; omega)]⟩⟩
theorem own_base {w : World} {b B e s n : Nat} {v : Value} {xs : List Value} (h : w.ownsRow B e s v n xs) (hb : b ≤ B) : w.ownsRow b e s v n xs := by
  refine ⟨h.1, ?_⟩
  rcases h.2 with h | ⟨g, cap, cur, h1, h2, h3⟩
  · exact .inl h
  · exact .inr ⟨g, cap, cur, h1, Nat.le_trans hb h2, h3⟩
theorem IS.of_R {w : World} {B e c n : Nat} {A : Option Addr} {l : Nat → Int} (h : w.ownsRow B e 1 (.slice A n c) n (cellsR 1 (fun i _ => .int .i64 (l i)) n)) : IS w A n l :=
  IS.of_own h l fun i hi => by
    have := cellsR_at (F := fun i _ => Value.int .i64 (l i)) (s := 1) hi (j := 0) (by omega)
    simpa [iv] using this
def FP0 : FP := ⟨none, none, none, none, 0, 0, 0, 0⟩
def FD0 : FD := ⟨0, 0, 0, 0, 0, 0, fun _ _ => 0, fun _ => 0, fun _ => 0, fun _ => 0⟩
theorem ok_zero (w : World) : FOk w FP0 FD0 := ⟨Row.zero _ _ _ _, fun h => absurd h (by decide), fun h => absurd h (by decide), fun h => absurd h (by decide)⟩
/-- An empty frame of a ground. -/
def FDnew (W H : Int) (n : Nat) (c : Nat → Int) : FD := ⟨W, H, n, n, n, n, fun _ j => c j, fun _ => -2048, fun _ => -1, fun _ => -1⟩
def NewV (W H : Int) (c : Nat → Int) (f : FD) (x : Int) : Prop :=
  ((1 ≤ W ∧ W ≤ 64 ∧ 1 ≤ H ∧ H ≤ 64) ∧ x = 0 ∧ ∃ n : Nat, W * H = n ∧ f = FDnew W H n c) ∨ (¬ (1 ≤ W ∧ W ≤ 64 ∧ 1 ≤ H ∧ H ≤ 64) ∧ x = 2 ∧ f = FD0)
/-- A frame that is answered with a code. -/
def FRes (V : FD → Int → Prop) (e : Ending) (w' : World) : Prop := ∃ p f x, e = .returned (.tuple #[.agg #[.int .i64 f.W, .int .i64 f.H, .slice p.ac f.nc p.kc, .slice p.ad f.nd p.kd, .slice p.ai f.ni p.ki, .slice p.a4 f.nt p.kt], .int .i64 x]) ∧ FOk w' p f ∧ V f x
theorem FRes.zero {V : FD → Int → Prop} {w' : World} {x : Int} (h : V FD0 x) : FRes V (.returned (.tuple #[.agg #[.int .i64 0, .int .i64 0, .slice none 0 0, .slice none 0 0, .slice none 0 0, .slice none 0 0], .int .i64 x])) w' := ⟨FP0, FD0, x, rfl, ok_zero _, h⟩
theorem mk_one (c : Nat → Int) (g : Nat) (w : World) (h0 : w.cell? ⟨g, 0, none⟩ = some (.int .u8 (c 0))) (h1 : w.cell? ⟨g, 1, none⟩ = some (.int .u8 (c 1))) (h2 : w.cell? ⟨g, 2, none⟩ = some (.int .u8 (c 2))) (h3 : w.cell? ⟨g, 3, none⟩ = some (.int .u8 (c 3))) : ∀ j, j < 4 → w.cell? ⟨g, j, none⟩ = some (.int .u8 (c j)) := by
  intro j hj
  obtain rfl | rfl | rfl | rfl : j = 0 ∨ j = 1 ∨ j = 2 ∨ j = 3 := by omega
  all_goals assumption

set_option maxRecDepth 100000 in
set_option maxHeartbeats 8000000 in
theorem new_any (W H : Int) (c : Nat → Int) (w : World) : Calls Try.prog 13 #[.int .i64 W, .int .i64 H, .agg #[.int .u8 (c 0), .int .u8 (c 1), .int .u8 (c 2), .int .u8 (c 3)]] w fun e w' => FRes (NewV W H c) e w' ∧ Below w.heap.size w w' := by
  rcases Int.lt_trichotomy W H with hWH | rfl | hWH
  · have hWH1 : W ≤ H := by omega
    have hWH2 : ¬ H ≤ W := by omega
    by_cases h0 : (W < 1)
    · have g0 : decide ((W < 1)) = true := decide_eq_true h0
      have Hk := Lib.hid h0
      clear h0
      go_enter Try.func13, Try.ntmps13
      go_wp2
      refine bodyPost_ret (v := .tuple #[.agg #[.int .i64 0, .int .i64 0, .slice none 0 0, .slice none 0 0, .slice none 0 0, .slice none 0 0], .int .i64 2]) (by simp [results, Try.results13, go_sem, *]) rfl ⟨FRes.zero (.inr ⟨fun h => by have := Hk.out; omega, rfl, rfl⟩), ?_⟩
      repeat' (first | exact Below.refl _ _ | assumption | apply Below.drew | refine Below.setCell ?_ (by first | omega | (simp; done) | (simp; omega)) _ | refine Below.alloc ?_ (by first | omega | (simp; done) | (simp; omega)) _)
    have g0 : decide ((W < 1)) = false := decide_eq_false h0
    by_cases h1 : (64 < H)
    · have g1 : decide ((64 < H)) = true := decide_eq_true h1
      have Hk := Lib.hid h1
      clear h1
      go_enter Try.func13, Try.ntmps13
      go_wp2
      refine bodyPost_ret (v := .tuple #[.agg #[.int .i64 0, .int .i64 0, .slice none 0 0, .slice none 0 0, .slice none 0 0, .slice none 0 0], .int .i64 2]) (by simp [results, Try.results13, go_sem, *]) rfl ⟨FRes.zero (.inr ⟨fun h => by have := Hk.out; omega, rfl, rfl⟩), ?_⟩
      repeat' (first | exact Below.refl _ _ | assumption | apply Below.drew | refine Below.setCell ?_ (by first | omega | (simp; done) | (simp; omega)) _ | refine Below.alloc ?_ (by first | omega | (simp; done) | (simp; omega)) _)
    have g1 : decide ((64 < H)) = false := decide_eq_false h1
    obtain ⟨b0, b1⟩ := mul_bound (W := W) (H := H) (by omega) (by omega) (by omega) (by omega)
    have w0 : 1 ≤ W ∧ W ≤ 64 ∧ 1 ≤ H ∧ H ≤ 64 := by omega
    have HW := Lib.hid w0
    obtain ⟨n, hN⟩ : ∃ n : Nat, W * H = n := ⟨(W * H).toNat, by omega⟩
    rw [hN] at b0 b1
    have hn1 : 1 ≤ n := by omega
    have hn2 : n ≤ 4096 := by omega
    have hwr : IntKind.i64.wrap (n : Int) = n := IntWalk.i64_in _ (by omega)
    clear w0 b0 b1
    go_enter Try.func13, Try.ntmps13
    go_wp2_with fail
    have NE_G_R := Lib.hid (show w.heap.size ≠ w.heap.size + 1 by omega)
    have NE_G_B1 := Lib.hid (show w.heap.size ≠ w.heap.size + 1 + 1 by omega)
    have NE_R_B1 := Lib.hid (show w.heap.size + 1 ≠ w.heap.size + 1 + 1 by omega)
    have s_G : HasBlk (w.alloc (.cells #[.int .u8 (c 0), .int .u8 (c 1), .int .u8 (c 2), .int .u8 (c 3)] 23)) (w.heap.size) 23 #[.int .u8 (c 0), .int .u8 (c 1), .int .u8 (c 2), .int .u8 (c 3)] := by simpa using hasBlk_new w 23 #[.int .u8 (c 0), .int .u8 (c 1), .int .u8 (c 2), .int .u8 (c 3)]
    replace s_G := s_G.alloc (.cells #[.int .i64 0, .int .i64 0, .slice none 0 0, .slice none 0 0, .slice none 0 0, .slice none 0 0] 29)
    have s_R : HasBlk ((w.alloc (.cells #[.int .u8 (c 0), .int .u8 (c 1), .int .u8 (c 2), .int .u8 (c 3)] 23)).alloc (.cells #[.int .i64 0, .int .i64 0, .slice none 0 0, .slice none 0 0, .slice none 0 0, .slice none 0 0] 29)) (w.heap.size + 1) 29 #[.int .i64 0, .int .i64 0, .slice none 0 0, .slice none 0 0, .slice none 0 0, .slice none 0 0] := by simpa using hasBlk_new (w.alloc (.cells #[.int .u8 (c 0), .int .u8 (c 1), .int .u8 (c 2), .int .u8 (c 3)] 23)) 29 #[.int .i64 0, .int .i64 0, .slice none 0 0, .slice none 0 0, .slice none 0 0, .slice none 0 0]
    replace s_G := s_G.alloc (.cells #[.int .i64 (-1)] 3)
    replace s_R := s_R.alloc (.cells #[.int .i64 (-1)] 3)
    have s_B1 : HasBlk (((w.alloc (.cells #[.int .u8 (c 0), .int .u8 (c 1), .int .u8 (c 2), .int .u8 (c 3)] 23)).alloc (.cells #[.int .i64 0, .int .i64 0, .slice none 0 0, .slice none 0 0, .slice none 0 0, .slice none 0 0] 29)).alloc (.cells #[.int .i64 (-1)] 3)) (w.heap.size + 1 + 1) 3 #[.int .i64 (-1)] := by simpa using hasBlk_new ((w.alloc (.cells #[.int .u8 (c 0), .int .u8 (c 1), .int .u8 (c 2), .int .u8 (c 3)] 23)).alloc (.cells #[.int .i64 0, .int .i64 0, .slice none 0 0, .slice none 0 0, .slice none 0 0, .slice none 0 0] 29)) 3 #[.int .i64 (-1)]
    have t_G : HasBlk (((w.alloc (.cells #[.int .u8 (c 0), .int .u8 (c 1), .int .u8 (c 2), .int .u8 (c 3)] 23)).alloc (.cells #[.int .i64 0, .int .i64 0, .slice none 0 0, .slice none 0 0, .slice none 0 0, .slice none 0 0] 29)).alloc (.cells #[.int .i64 (-1)] 3)) (w.heap.size) 23 #[.int .u8 (c 0), .int .u8 (c 1), .int .u8 (c 2), .int .u8 (c 3)] := by simpa using s_G
    clear s_G
    have t_R : HasBlk (((w.alloc (.cells #[.int .u8 (c 0), .int .u8 (c 1), .int .u8 (c 2), .int .u8 (c 3)] 23)).alloc (.cells #[.int .i64 0, .int .i64 0, .slice none 0 0, .slice none 0 0, .slice none 0 0, .slice none 0 0] 29)).alloc (.cells #[.int .i64 (-1)] 3)) (w.heap.size + 1) 29 #[.int .i64 0, .int .i64 0, .slice none 0 0, .slice none 0 0, .slice none 0 0, .slice none 0 0] := by simpa using s_R
    clear s_R
    have t_B1 : HasBlk (((w.alloc (.cells #[.int .u8 (c 0), .int .u8 (c 1), .int .u8 (c 2), .int .u8 (c 3)] 23)).alloc (.cells #[.int .i64 0, .int .i64 0, .slice none 0 0, .slice none 0 0, .slice none 0 0, .slice none 0 0] 29)).alloc (.cells #[.int .i64 (-1)] 3)) (w.heap.size + 1 + 1) 3 #[.int .i64 (-1)] := by simpa using s_B1
    clear s_B1
    have SB1 : Below w.heap.size w (((w.alloc (.cells #[.int .u8 (c 0), .int .u8 (c 1), .int .u8 (c 2), .int .u8 (c 3)] 23)).alloc (.cells #[.int .i64 0, .int .i64 0, .slice none 0 0, .slice none 0 0, .slice none 0 0, .slice none 0 0] 29)).alloc (.cells #[.int .i64 (-1)] 3)) := by
      repeat' (first | exact Below.refl _ _ | assumption | apply Below.drew | refine Below.setCell ?_ (by first | omega | (simp; done) | (simp; omega)) _ | refine Below.alloc ?_ (by first | omega | (simp; done) | (simp; omega)) _)
    generalize gW_v0 : (((w.alloc (.cells #[.int .u8 (c 0), .int .u8 (c 1), .int .u8 (c 2), .int .u8 (c 3)] 23)).alloc (.cells #[.int .i64 0, .int .i64 0, .slice none 0 0, .slice none 0 0, .slice none 0 0, .slice none 0 0] 29)).alloc (.cells #[.int .i64 (-1)] 3)) = v0 at *
    clear gW_v0
    have G := Lib.hid t_G
    clear t_G
    have R := Lib.hid t_R
    clear t_R
    have B1 := Lib.hid t_B1
    clear t_B1
    have SB1h := Lib.hid SB1
    clear SB1
    have lt_G := G.out.lt
    have G_0 := G.out.cell 0
    have G_1 := G.out.cell 1
    have G_2 := G.out.cell 2
    have G_3 := G.out.cell 3
    simp at G_0 G_1 G_2 G_3
    have lt_R := R.out.lt
    have R_0 := R.out.cell 0
    have R_1 := R.out.cell 1
    have R_2 := R.out.cell 2
    have R_3 := R.out.cell 3
    have R_4 := R.out.cell 4
    have R_5 := R.out.cell 5
    have R_f0 := R.out.frozen 0
    have R_f1 := R.out.frozen 1
    have R_f2 := R.out.frozen 2
    have R_f3 := R.out.frozen 3
    have R_f4 := R.out.frozen 4
    have R_f5 := R.out.frozen 5
    simp at R_0 R_1 R_2 R_3 R_4 R_5
    have lt_B1 := B1.out.lt
    have B1_0 := B1.out.cell 0
    simp at B1_0
    have szB_v0 := SB1h.out.size
    refine (repInt_any (w.heap.size + 1 + 1) (fun _ => .int .i64 (-1)) n _ (fun _ => rfl) (fun j hj => by (obtain rfl : j = 0 := (by omega)); exact B1_0) hn1 hn2).mono ?_
    rintro e w1 ⟨⟨X1, rfl, hX1, hbX1⟩, bel1⟩
    have OX1 := Lib.hid (own_of_blk hbX1 (cellsR_len 1 _ n) hX1 (by unfold maxLen; omega))
    clear hbX1
    have t_G := G.out.below bel1
    clear G
    have G := Lib.hid t_G
    clear t_G
    have t_R := R.out.below bel1
    clear R
    have R := Lib.hid t_R
    clear t_R
    have t_B1 := B1.out.below bel1
    clear B1
    have B1 := Lib.hid t_B1
    clear t_B1
    have SB2 : Below w.heap.size w w1 := SB1h.out.trans (bel1.mono SB1h.out.size)
    clear SB1h
    have SB2h := Lib.hid SB2
    clear SB2 bel1
    have lt_G := G.out.lt
    have G_0 := G.out.cell 0
    have G_1 := G.out.cell 1
    have G_2 := G.out.cell 2
    have G_3 := G.out.cell 3
    simp at G_0 G_1 G_2 G_3
    have lt_R := R.out.lt
    have R_0 := R.out.cell 0
    have R_1 := R.out.cell 1
    have R_2 := R.out.cell 2
    have R_3 := R.out.cell 3
    have R_4 := R.out.cell 4
    have R_5 := R.out.cell 5
    have R_f0 := R.out.frozen 0
    have R_f1 := R.out.frozen 1
    have R_f2 := R.out.frozen 2
    have R_f3 := R.out.frozen 3
    have R_f4 := R.out.frozen 4
    have R_f5 := R.out.frozen 5
    simp at R_0 R_1 R_2 R_3 R_4 R_5
    have lt_B1 := B1.out.lt
    have B1_0 := B1.out.cell 0
    simp at B1_0
    have szB_w1 := SB2h.out.size
    go_wp2_with fail
    have NE_G_B2 := Lib.hid (show w.heap.size ≠ w1.heap.size by omega)
    have NE_R_B2 := Lib.hid (show w.heap.size + 1 ≠ w1.heap.size by omega)
    have NE_B1_B2 := Lib.hid (show w.heap.size + 1 + 1 ≠ w1.heap.size by omega)
    have s_G := G.out
    have s_R := R.out
    have s_B1 := B1.out
    have s_OX1 := OX1.out
    replace s_G := s_G.alloc (.cells #[.int .u8 (c 0), .int .u8 (c 1), .int .u8 (c 2), .int .u8 (c 3)] 23)
    replace s_R := s_R.alloc (.cells #[.int .u8 (c 0), .int .u8 (c 1), .int .u8 (c 2), .int .u8 (c 3)] 23)
    replace s_B1 := s_B1.alloc (.cells #[.int .u8 (c 0), .int .u8 (c 1), .int .u8 (c 2), .int .u8 (c 3)] 23)
    replace s_OX1 := World.ownsRow.alloc s_OX1 (.cells #[.int .u8 (c 0), .int .u8 (c 1), .int .u8 (c 2), .int .u8 (c 3)] 23)
    have s_B2 : HasBlk (w1.alloc (.cells #[.int .u8 (c 0), .int .u8 (c 1), .int .u8 (c 2), .int .u8 (c 3)] 23)) (w1.heap.size) 23 #[.int .u8 (c 0), .int .u8 (c 1), .int .u8 (c 2), .int .u8 (c 3)] := by simpa using hasBlk_new w1 23 #[.int .u8 (c 0), .int .u8 (c 1), .int .u8 (c 2), .int .u8 (c 3)]
    have t_G : HasBlk (w1.alloc (.cells #[.int .u8 (c 0), .int .u8 (c 1), .int .u8 (c 2), .int .u8 (c 3)] 23)) (w.heap.size) 23 #[.int .u8 (c 0), .int .u8 (c 1), .int .u8 (c 2), .int .u8 (c 3)] := by simpa using s_G
    clear s_G G
    have t_R : HasBlk (w1.alloc (.cells #[.int .u8 (c 0), .int .u8 (c 1), .int .u8 (c 2), .int .u8 (c 3)] 23)) (w.heap.size + 1) 29 #[.int .i64 0, .int .i64 0, .slice none 0 0, .slice none 0 0, .slice none 0 0, .slice none 0 0] := by simpa using s_R
    clear s_R R
    have t_B1 : HasBlk (w1.alloc (.cells #[.int .u8 (c 0), .int .u8 (c 1), .int .u8 (c 2), .int .u8 (c 3)] 23)) (w.heap.size + 1 + 1) 3 #[.int .i64 (-1)] := by simpa using s_B1
    clear s_B1 B1
    have t_B2 : HasBlk (w1.alloc (.cells #[.int .u8 (c 0), .int .u8 (c 1), .int .u8 (c 2), .int .u8 (c 3)] 23)) (w1.heap.size) 23 #[.int .u8 (c 0), .int .u8 (c 1), .int .u8 (c 2), .int .u8 (c 3)] := by simpa using s_B2
    clear s_B2
    have t_OX1 : ((w1.alloc (.cells #[.int .u8 (c 0), .int .u8 (c 1), .int .u8 (c 2), .int .u8 (c 3)] 23))).ownsRow (v0.heap.size) 3 1 (.slice (some ⟨X1, 0, none⟩) (n) (n)) (n) (cellsR 1 (fun _ j => .int .i64 (-1)) n) := s_OX1
    clear s_OX1 OX1
    have SB3 : Below w.heap.size w (w1.alloc (.cells #[.int .u8 (c 0), .int .u8 (c 1), .int .u8 (c 2), .int .u8 (c 3)] 23)) := by
      have bel0 := SB2h.out
      repeat' (first | exact Below.refl _ _ | assumption | apply Below.drew | refine Below.setCell ?_ (by first | omega | (simp; done) | (simp; omega)) _ | refine Below.alloc ?_ (by first | omega | (simp; done) | (simp; omega)) _)
    clear lt_G G_0 G_1 G_2 G_3 lt_R R_0 R_1 R_2 R_3 R_4 R_5 R_f0 R_f1 R_f2 R_f3 R_f4 R_f5 lt_B1 B1_0
    generalize gW_v1 : (w1.alloc (.cells #[.int .u8 (c 0), .int .u8 (c 1), .int .u8 (c 2), .int .u8 (c 3)] 23)) = v1 at *
    clear gW_v1
    have G := Lib.hid t_G
    clear t_G
    have R := Lib.hid t_R
    clear t_R
    have B1 := Lib.hid t_B1
    clear t_B1
    have B2 := Lib.hid t_B2
    clear t_B2
    have OX1 := Lib.hid t_OX1
    clear t_OX1
    clear SB2h
    have SB3h := Lib.hid SB3
    clear SB3
    have lt_G := G.out.lt
    have G_0 := G.out.cell 0
    have G_1 := G.out.cell 1
    have G_2 := G.out.cell 2
    have G_3 := G.out.cell 3
    simp at G_0 G_1 G_2 G_3
    have lt_R := R.out.lt
    have R_0 := R.out.cell 0
    have R_1 := R.out.cell 1
    have R_2 := R.out.cell 2
    have R_3 := R.out.cell 3
    have R_4 := R.out.cell 4
    have R_5 := R.out.cell 5
    have R_f0 := R.out.frozen 0
    have R_f1 := R.out.frozen 1
    have R_f2 := R.out.frozen 2
    have R_f3 := R.out.frozen 3
    have R_f4 := R.out.frozen 4
    have R_f5 := R.out.frozen 5
    simp at R_0 R_1 R_2 R_3 R_4 R_5
    have lt_B1 := B1.out.lt
    have B1_0 := B1.out.cell 0
    simp at B1_0
    have lt_B2 := B2.out.lt
    have B2_0 := B2.out.cell 0
    have B2_1 := B2.out.cell 1
    have B2_2 := B2.out.cell 2
    have B2_3 := B2.out.cell 3
    simp at B2_0 B2_1 B2_2 B2_3
    have szB_v1 := SB3h.out.size
    refine (repCol_any (w1.heap.size) (fun j => .int .u8 (c j)) n _ (fun _ => rfl) (mk_one c _ _ B2_0 B2_1 B2_2 B2_3) hn1 hn2).mono ?_
    rintro e w2 ⟨⟨X2, rfl, hX2, hbX2⟩, bel2⟩
    have OX2 := Lib.hid (own_of_blk hbX2 (cellsR_len 4 _ n) hX2 (by unfold maxLen; omega))
    clear hbX2
    have t_G := G.out.below bel2
    clear G
    have G := Lib.hid t_G
    clear t_G
    have t_R := R.out.below bel2
    clear R
    have R := Lib.hid t_R
    clear t_R
    have t_B1 := B1.out.below bel2
    clear B1
    have B1 := Lib.hid t_B1
    clear t_B1
    have t_B2 := B2.out.below bel2
    clear B2
    have B2 := Lib.hid t_B2
    clear t_B2
    have t_OX1 := own_below OX1.out bel2
    clear OX1
    have OX1 := Lib.hid t_OX1
    clear t_OX1
    have SB4 : Below w.heap.size w w2 := SB3h.out.trans (bel2.mono SB3h.out.size)
    clear SB3h
    have SB4h := Lib.hid SB4
    clear SB4 bel2
    have lt_G := G.out.lt
    have G_0 := G.out.cell 0
    have G_1 := G.out.cell 1
    have G_2 := G.out.cell 2
    have G_3 := G.out.cell 3
    simp at G_0 G_1 G_2 G_3
    have lt_R := R.out.lt
    have R_0 := R.out.cell 0
    have R_1 := R.out.cell 1
    have R_2 := R.out.cell 2
    have R_3 := R.out.cell 3
    have R_4 := R.out.cell 4
    have R_5 := R.out.cell 5
    have R_f0 := R.out.frozen 0
    have R_f1 := R.out.frozen 1
    have R_f2 := R.out.frozen 2
    have R_f3 := R.out.frozen 3
    have R_f4 := R.out.frozen 4
    have R_f5 := R.out.frozen 5
    simp at R_0 R_1 R_2 R_3 R_4 R_5
    have lt_B1 := B1.out.lt
    have B1_0 := B1.out.cell 0
    simp at B1_0
    have lt_B2 := B2.out.lt
    have B2_0 := B2.out.cell 0
    have B2_1 := B2.out.cell 1
    have B2_2 := B2.out.cell 2
    have B2_3 := B2.out.cell 3
    simp at B2_0 B2_1 B2_2 B2_3
    have szB_w2 := SB4h.out.size
    go_wp2_with fail
    have NE_G_B3 := Lib.hid (show w.heap.size ≠ w2.heap.size by omega)
    have NE_R_B3 := Lib.hid (show w.heap.size + 1 ≠ w2.heap.size by omega)
    have NE_B1_B3 := Lib.hid (show w.heap.size + 1 + 1 ≠ w2.heap.size by omega)
    have NE_B2_B3 := Lib.hid (show w1.heap.size ≠ w2.heap.size by omega)
    have s_G := G.out
    have s_R := R.out
    have s_B1 := B1.out
    have s_B2 := B2.out
    have s_OX1 := OX1.out
    have s_OX2 := OX2.out
    replace s_G := s_G.alloc (.cells #[.int .i64 (-2048)] 3)
    replace s_R := s_R.alloc (.cells #[.int .i64 (-2048)] 3)
    replace s_B1 := s_B1.alloc (.cells #[.int .i64 (-2048)] 3)
    replace s_B2 := s_B2.alloc (.cells #[.int .i64 (-2048)] 3)
    replace s_OX1 := World.ownsRow.alloc s_OX1 (.cells #[.int .i64 (-2048)] 3)
    replace s_OX2 := World.ownsRow.alloc s_OX2 (.cells #[.int .i64 (-2048)] 3)
    have s_B3 : HasBlk (w2.alloc (.cells #[.int .i64 (-2048)] 3)) (w2.heap.size) 3 #[.int .i64 (-2048)] := by simpa using hasBlk_new w2 3 #[.int .i64 (-2048)]
    have t_G : HasBlk (w2.alloc (.cells #[.int .i64 (-2048)] 3)) (w.heap.size) 23 #[.int .u8 (c 0), .int .u8 (c 1), .int .u8 (c 2), .int .u8 (c 3)] := by simpa using s_G
    clear s_G G
    have t_R : HasBlk (w2.alloc (.cells #[.int .i64 (-2048)] 3)) (w.heap.size + 1) 29 #[.int .i64 0, .int .i64 0, .slice none 0 0, .slice none 0 0, .slice none 0 0, .slice none 0 0] := by simpa using s_R
    clear s_R R
    have t_B1 : HasBlk (w2.alloc (.cells #[.int .i64 (-2048)] 3)) (w.heap.size + 1 + 1) 3 #[.int .i64 (-1)] := by simpa using s_B1
    clear s_B1 B1
    have t_B2 : HasBlk (w2.alloc (.cells #[.int .i64 (-2048)] 3)) (w1.heap.size) 23 #[.int .u8 (c 0), .int .u8 (c 1), .int .u8 (c 2), .int .u8 (c 3)] := by simpa using s_B2
    clear s_B2 B2
    have t_B3 : HasBlk (w2.alloc (.cells #[.int .i64 (-2048)] 3)) (w2.heap.size) 3 #[.int .i64 (-2048)] := by simpa using s_B3
    clear s_B3
    have t_OX1 : ((w2.alloc (.cells #[.int .i64 (-2048)] 3))).ownsRow (v0.heap.size) 3 1 (.slice (some ⟨X1, 0, none⟩) (n) (n)) (n) (cellsR 1 (fun _ j => .int .i64 (-1)) n) := s_OX1
    clear s_OX1 OX1
    have t_OX2 : ((w2.alloc (.cells #[.int .i64 (-2048)] 3))).ownsRow (v1.heap.size) 23 4 (.slice (some ⟨X2, 0, none⟩) (n) (n)) (n) (cellsR 4 (fun _ j => .int .u8 (c j)) n) := s_OX2
    clear s_OX2 OX2
    have SB5 : Below w.heap.size w (w2.alloc (.cells #[.int .i64 (-2048)] 3)) := by
      have bel0 := SB4h.out
      repeat' (first | exact Below.refl _ _ | assumption | apply Below.drew | refine Below.setCell ?_ (by first | omega | (simp; done) | (simp; omega)) _ | refine Below.alloc ?_ (by first | omega | (simp; done) | (simp; omega)) _)
    clear lt_G G_0 G_1 G_2 G_3 lt_R R_0 R_1 R_2 R_3 R_4 R_5 R_f0 R_f1 R_f2 R_f3 R_f4 R_f5 lt_B1 B1_0 lt_B2 B2_0 B2_1 B2_2 B2_3
    generalize gW_v2 : (w2.alloc (.cells #[.int .i64 (-2048)] 3)) = v2 at *
    clear gW_v2
    have G := Lib.hid t_G
    clear t_G
    have R := Lib.hid t_R
    clear t_R
    have B1 := Lib.hid t_B1
    clear t_B1
    have B2 := Lib.hid t_B2
    clear t_B2
    have B3 := Lib.hid t_B3
    clear t_B3
    have OX1 := Lib.hid t_OX1
    clear t_OX1
    have OX2 := Lib.hid t_OX2
    clear t_OX2
    clear SB4h
    have SB5h := Lib.hid SB5
    clear SB5
    have lt_G := G.out.lt
    have G_0 := G.out.cell 0
    have G_1 := G.out.cell 1
    have G_2 := G.out.cell 2
    have G_3 := G.out.cell 3
    simp at G_0 G_1 G_2 G_3
    have lt_R := R.out.lt
    have R_0 := R.out.cell 0
    have R_1 := R.out.cell 1
    have R_2 := R.out.cell 2
    have R_3 := R.out.cell 3
    have R_4 := R.out.cell 4
    have R_5 := R.out.cell 5
    have R_f0 := R.out.frozen 0
    have R_f1 := R.out.frozen 1
    have R_f2 := R.out.frozen 2
    have R_f3 := R.out.frozen 3
    have R_f4 := R.out.frozen 4
    have R_f5 := R.out.frozen 5
    simp at R_0 R_1 R_2 R_3 R_4 R_5
    have lt_B1 := B1.out.lt
    have B1_0 := B1.out.cell 0
    simp at B1_0
    have lt_B2 := B2.out.lt
    have B2_0 := B2.out.cell 0
    have B2_1 := B2.out.cell 1
    have B2_2 := B2.out.cell 2
    have B2_3 := B2.out.cell 3
    simp at B2_0 B2_1 B2_2 B2_3
    have lt_B3 := B3.out.lt
    have B3_0 := B3.out.cell 0
    simp at B3_0
    have szB_v2 := SB5h.out.size
    refine (repInt_any (w2.heap.size) (fun _ => .int .i64 (-2048)) n _ (fun _ => rfl) (fun j hj => by (obtain rfl : j = 0 := (by omega)); exact B3_0) hn1 hn2).mono ?_
    rintro e w3 ⟨⟨X3, rfl, hX3, hbX3⟩, bel3⟩
    have OX3 := Lib.hid (own_of_blk hbX3 (cellsR_len 1 _ n) hX3 (by unfold maxLen; omega))
    clear hbX3
    have t_G := G.out.below bel3
    clear G
    have G := Lib.hid t_G
    clear t_G
    have t_R := R.out.below bel3
    clear R
    have R := Lib.hid t_R
    clear t_R
    have t_B1 := B1.out.below bel3
    clear B1
    have B1 := Lib.hid t_B1
    clear t_B1
    have t_B2 := B2.out.below bel3
    clear B2
    have B2 := Lib.hid t_B2
    clear t_B2
    have t_B3 := B3.out.below bel3
    clear B3
    have B3 := Lib.hid t_B3
    clear t_B3
    have t_OX1 := own_below OX1.out bel3
    clear OX1
    have OX1 := Lib.hid t_OX1
    clear t_OX1
    have t_OX2 := own_below OX2.out bel3
    clear OX2
    have OX2 := Lib.hid t_OX2
    clear t_OX2
    have SB6 : Below w.heap.size w w3 := SB5h.out.trans (bel3.mono SB5h.out.size)
    clear SB5h
    have SB6h := Lib.hid SB6
    clear SB6 bel3
    have lt_G := G.out.lt
    have G_0 := G.out.cell 0
    have G_1 := G.out.cell 1
    have G_2 := G.out.cell 2
    have G_3 := G.out.cell 3
    simp at G_0 G_1 G_2 G_3
    have lt_R := R.out.lt
    have R_0 := R.out.cell 0
    have R_1 := R.out.cell 1
    have R_2 := R.out.cell 2
    have R_3 := R.out.cell 3
    have R_4 := R.out.cell 4
    have R_5 := R.out.cell 5
    have R_f0 := R.out.frozen 0
    have R_f1 := R.out.frozen 1
    have R_f2 := R.out.frozen 2
    have R_f3 := R.out.frozen 3
    have R_f4 := R.out.frozen 4
    have R_f5 := R.out.frozen 5
    simp at R_0 R_1 R_2 R_3 R_4 R_5
    have lt_B1 := B1.out.lt
    have B1_0 := B1.out.cell 0
    simp at B1_0
    have lt_B2 := B2.out.lt
    have B2_0 := B2.out.cell 0
    have B2_1 := B2.out.cell 1
    have B2_2 := B2.out.cell 2
    have B2_3 := B2.out.cell 3
    simp at B2_0 B2_1 B2_2 B2_3
    have lt_B3 := B3.out.lt
    have B3_0 := B3.out.cell 0
    simp at B3_0
    have szB_w3 := SB6h.out.size
    go_wp2_with fail
    clear lt_G G_0 G_1 G_2 G_3 lt_R R_0 R_1 R_2 R_3 R_4 R_5 R_f0 R_f1 R_f2 R_f3 R_f4 R_f5 lt_B1 B1_0 lt_B2 B2_0 B2_1 B2_2 B2_3 lt_B3 B3_0
    refine (cloneInt (some ⟨X1, 0, none⟩) n n (fun _ _ => .int .i64 (-1)) _ (Row.of_cells OX1.out) (fun _ _ => rfl) (by omega)).mono ?_
    rintro e w4 ⟨⟨A4, k4, rfl, ho4⟩, bel4⟩
    have OX4 := Lib.hid ho4
    clear ho4
    have t_G := G.out.below bel4
    clear G
    have G := Lib.hid t_G
    clear t_G
    have t_R := R.out.below bel4
    clear R
    have R := Lib.hid t_R
    clear t_R
    have t_B1 := B1.out.below bel4
    clear B1
    have B1 := Lib.hid t_B1
    clear t_B1
    have t_B2 := B2.out.below bel4
    clear B2
    have B2 := Lib.hid t_B2
    clear t_B2
    have t_B3 := B3.out.below bel4
    clear B3
    have B3 := Lib.hid t_B3
    clear t_B3
    have t_OX1 := own_below OX1.out bel4
    clear OX1
    have OX1 := Lib.hid t_OX1
    clear t_OX1
    have t_OX2 := own_below OX2.out bel4
    clear OX2
    have OX2 := Lib.hid t_OX2
    clear t_OX2
    have t_OX3 := own_below OX3.out bel4
    clear OX3
    have OX3 := Lib.hid t_OX3
    clear t_OX3
    have SB7 : Below w.heap.size w w4 := SB6h.out.trans (bel4.mono SB6h.out.size)
    clear SB6h
    have SB7h := Lib.hid SB7
    clear SB7 bel4
    have lt_G := G.out.lt
    have G_0 := G.out.cell 0
    have G_1 := G.out.cell 1
    have G_2 := G.out.cell 2
    have G_3 := G.out.cell 3
    simp at G_0 G_1 G_2 G_3
    have lt_R := R.out.lt
    have R_0 := R.out.cell 0
    have R_1 := R.out.cell 1
    have R_2 := R.out.cell 2
    have R_3 := R.out.cell 3
    have R_4 := R.out.cell 4
    have R_5 := R.out.cell 5
    have R_f0 := R.out.frozen 0
    have R_f1 := R.out.frozen 1
    have R_f2 := R.out.frozen 2
    have R_f3 := R.out.frozen 3
    have R_f4 := R.out.frozen 4
    have R_f5 := R.out.frozen 5
    simp at R_0 R_1 R_2 R_3 R_4 R_5
    have lt_B1 := B1.out.lt
    have B1_0 := B1.out.cell 0
    simp at B1_0
    have lt_B2 := B2.out.lt
    have B2_0 := B2.out.cell 0
    have B2_1 := B2.out.cell 1
    have B2_2 := B2.out.cell 2
    have B2_3 := B2.out.cell 3
    simp at B2_0 B2_1 B2_2 B2_3
    have lt_B3 := B3.out.lt
    have B3_0 := B3.out.cell 0
    simp at B3_0
    have szB_w4 := SB7h.out.size
    have GX1 := Lib.hid (R.out.ne_own OX1.out (by decide))
    have GX2 := Lib.hid (R.out.ne_own OX2.out (by decide))
    have GX3 := Lib.hid (R.out.ne_own OX3.out (by decide))
    have GX4 := Lib.hid (R.out.ne_own OX4.out (by decide))
    go_wp2
    refine bodyPost_ret (v := .tuple #[.agg #[.int .i64 W, .int .i64 H, .slice (some ⟨X2, 0, none⟩) n n, .slice (some ⟨X3, 0, none⟩) n n, .slice (some ⟨X1, 0, none⟩) n n, .slice A4 n k4], .int .i64 0]) (by simp [results, Try.results13, go_sem, *]) rfl ⟨⟨⟨some ⟨X2, 0, none⟩, some ⟨X3, 0, none⟩, some ⟨X1, 0, none⟩, A4, n, n, n, k4⟩, FDnew W H n c, 0, rfl, ⟨Row.of_cells (base := v1.heap.size) (e := 23) (c := n) ?_, IS.of_R (B := v2.heap.size) (e := 3) (c := n) ?_, IS.of_R (B := v0.heap.size) (e := 3) (c := n) ?_, IS.of_R (B := w3.heap.size) (e := 3) (c := k4) ?_⟩, .inl ⟨HW.out, rfl, n, hN, rfl⟩⟩, ?_⟩
    · exact (ownsRow_setCell_other (a := ⟨w.heap.size + 1, 5, none⟩) (ownsRow_setCell_other (a := ⟨w.heap.size + 1, 4, none⟩) (ownsRow_setCell_other (a := ⟨w.heap.size + 1, 3, none⟩) (ownsRow_setCell_other (a := ⟨w.heap.size + 1, 2, none⟩) (ownsRow_setCell_other (a := ⟨w.heap.size + 1, 1, none⟩) (ownsRow_setCell_other (a := ⟨w.heap.size + 1, 0, none⟩) OX2.out GX2.out _) GX2.out _) GX2.out _) GX2.out _) GX2.out _) GX2.out _)
    · exact (ownsRow_setCell_other (a := ⟨w.heap.size + 1, 5, none⟩) (ownsRow_setCell_other (a := ⟨w.heap.size + 1, 4, none⟩) (ownsRow_setCell_other (a := ⟨w.heap.size + 1, 3, none⟩) (ownsRow_setCell_other (a := ⟨w.heap.size + 1, 2, none⟩) (ownsRow_setCell_other (a := ⟨w.heap.size + 1, 1, none⟩) (ownsRow_setCell_other (a := ⟨w.heap.size + 1, 0, none⟩) OX3.out GX3.out _) GX3.out _) GX3.out _) GX3.out _) GX3.out _) GX3.out _)
    · exact (ownsRow_setCell_other (a := ⟨w.heap.size + 1, 5, none⟩) (ownsRow_setCell_other (a := ⟨w.heap.size + 1, 4, none⟩) (ownsRow_setCell_other (a := ⟨w.heap.size + 1, 3, none⟩) (ownsRow_setCell_other (a := ⟨w.heap.size + 1, 2, none⟩) (ownsRow_setCell_other (a := ⟨w.heap.size + 1, 1, none⟩) (ownsRow_setCell_other (a := ⟨w.heap.size + 1, 0, none⟩) OX1.out GX1.out _) GX1.out _) GX1.out _) GX1.out _) GX1.out _) GX1.out _)
    · exact (ownsRow_setCell_other (a := ⟨w.heap.size + 1, 5, none⟩) (ownsRow_setCell_other (a := ⟨w.heap.size + 1, 4, none⟩) (ownsRow_setCell_other (a := ⟨w.heap.size + 1, 3, none⟩) (ownsRow_setCell_other (a := ⟨w.heap.size + 1, 2, none⟩) (ownsRow_setCell_other (a := ⟨w.heap.size + 1, 1, none⟩) (ownsRow_setCell_other (a := ⟨w.heap.size + 1, 0, none⟩) OX4.out GX4.out _) GX4.out _) GX4.out _) GX4.out _) GX4.out _) GX4.out _)
    · exact (Below.setCell (p := ⟨w.heap.size + 1, 5, none⟩) (Below.setCell (p := ⟨w.heap.size + 1, 4, none⟩) (Below.setCell (p := ⟨w.heap.size + 1, 3, none⟩) (Below.setCell (p := ⟨w.heap.size + 1, 2, none⟩) (Below.setCell (p := ⟨w.heap.size + 1, 1, none⟩) (Below.setCell (p := ⟨w.heap.size + 1, 0, none⟩) SB7h.out (Nat.le_succ _) _) (Nat.le_succ _) _) (Nat.le_succ _) _) (Nat.le_succ _) _) (Nat.le_succ _) _) (Nat.le_succ _) _)
  · by_cases h0 : (W < 1)
    · have g0 : decide ((W < 1)) = true := decide_eq_true h0
      have Hk := Lib.hid h0
      clear h0
      go_enter Try.func13, Try.ntmps13
      go_wp2
      refine bodyPost_ret (v := .tuple #[.agg #[.int .i64 0, .int .i64 0, .slice none 0 0, .slice none 0 0, .slice none 0 0, .slice none 0 0], .int .i64 2]) (by simp [results, Try.results13, go_sem, *]) rfl ⟨FRes.zero (.inr ⟨fun h => by have := Hk.out; omega, rfl, rfl⟩), ?_⟩
      repeat' (first | exact Below.refl _ _ | assumption | apply Below.drew | refine Below.setCell ?_ (by first | omega | (simp; done) | (simp; omega)) _ | refine Below.alloc ?_ (by first | omega | (simp; done) | (simp; omega)) _)
    have g0 : decide ((W < 1)) = false := decide_eq_false h0
    by_cases h1 : (64 < W)
    · have g1 : decide ((64 < W)) = true := decide_eq_true h1
      have Hk := Lib.hid h1
      clear h1
      go_enter Try.func13, Try.ntmps13
      go_wp2
      refine bodyPost_ret (v := .tuple #[.agg #[.int .i64 0, .int .i64 0, .slice none 0 0, .slice none 0 0, .slice none 0 0, .slice none 0 0], .int .i64 2]) (by simp [results, Try.results13, go_sem, *]) rfl ⟨FRes.zero (.inr ⟨fun h => by have := Hk.out; omega, rfl, rfl⟩), ?_⟩
      repeat' (first | exact Below.refl _ _ | assumption | apply Below.drew | refine Below.setCell ?_ (by first | omega | (simp; done) | (simp; omega)) _ | refine Below.alloc ?_ (by first | omega | (simp; done) | (simp; omega)) _)
    have g1 : decide ((64 < W)) = false := decide_eq_false h1
    obtain ⟨b0, b1⟩ := mul_bound (W := W) (H := W) (by omega) (by omega) (by omega) (by omega)
    have w0 : 1 ≤ W ∧ W ≤ 64 ∧ 1 ≤ W ∧ W ≤ 64 := by omega
    have HW := Lib.hid w0
    obtain ⟨n, hN⟩ : ∃ n : Nat, W * W = n := ⟨(W * W).toNat, by omega⟩
    rw [hN] at b0 b1
    have hn1 : 1 ≤ n := by omega
    have hn2 : n ≤ 4096 := by omega
    have hwr : IntKind.i64.wrap (n : Int) = n := IntWalk.i64_in _ (by omega)
    clear w0 b0 b1
    go_enter Try.func13, Try.ntmps13
    go_wp2_with fail
    have NE_G_R := Lib.hid (show w.heap.size ≠ w.heap.size + 1 by omega)
    have NE_G_B1 := Lib.hid (show w.heap.size ≠ w.heap.size + 1 + 1 by omega)
    have NE_R_B1 := Lib.hid (show w.heap.size + 1 ≠ w.heap.size + 1 + 1 by omega)
    have s_G : HasBlk (w.alloc (.cells #[.int .u8 (c 0), .int .u8 (c 1), .int .u8 (c 2), .int .u8 (c 3)] 23)) (w.heap.size) 23 #[.int .u8 (c 0), .int .u8 (c 1), .int .u8 (c 2), .int .u8 (c 3)] := by simpa using hasBlk_new w 23 #[.int .u8 (c 0), .int .u8 (c 1), .int .u8 (c 2), .int .u8 (c 3)]
    replace s_G := s_G.alloc (.cells #[.int .i64 0, .int .i64 0, .slice none 0 0, .slice none 0 0, .slice none 0 0, .slice none 0 0] 29)
    have s_R : HasBlk ((w.alloc (.cells #[.int .u8 (c 0), .int .u8 (c 1), .int .u8 (c 2), .int .u8 (c 3)] 23)).alloc (.cells #[.int .i64 0, .int .i64 0, .slice none 0 0, .slice none 0 0, .slice none 0 0, .slice none 0 0] 29)) (w.heap.size + 1) 29 #[.int .i64 0, .int .i64 0, .slice none 0 0, .slice none 0 0, .slice none 0 0, .slice none 0 0] := by simpa using hasBlk_new (w.alloc (.cells #[.int .u8 (c 0), .int .u8 (c 1), .int .u8 (c 2), .int .u8 (c 3)] 23)) 29 #[.int .i64 0, .int .i64 0, .slice none 0 0, .slice none 0 0, .slice none 0 0, .slice none 0 0]
    replace s_G := s_G.alloc (.cells #[.int .i64 (-1)] 3)
    replace s_R := s_R.alloc (.cells #[.int .i64 (-1)] 3)
    have s_B1 : HasBlk (((w.alloc (.cells #[.int .u8 (c 0), .int .u8 (c 1), .int .u8 (c 2), .int .u8 (c 3)] 23)).alloc (.cells #[.int .i64 0, .int .i64 0, .slice none 0 0, .slice none 0 0, .slice none 0 0, .slice none 0 0] 29)).alloc (.cells #[.int .i64 (-1)] 3)) (w.heap.size + 1 + 1) 3 #[.int .i64 (-1)] := by simpa using hasBlk_new ((w.alloc (.cells #[.int .u8 (c 0), .int .u8 (c 1), .int .u8 (c 2), .int .u8 (c 3)] 23)).alloc (.cells #[.int .i64 0, .int .i64 0, .slice none 0 0, .slice none 0 0, .slice none 0 0, .slice none 0 0] 29)) 3 #[.int .i64 (-1)]
    have t_G : HasBlk (((w.alloc (.cells #[.int .u8 (c 0), .int .u8 (c 1), .int .u8 (c 2), .int .u8 (c 3)] 23)).alloc (.cells #[.int .i64 0, .int .i64 0, .slice none 0 0, .slice none 0 0, .slice none 0 0, .slice none 0 0] 29)).alloc (.cells #[.int .i64 (-1)] 3)) (w.heap.size) 23 #[.int .u8 (c 0), .int .u8 (c 1), .int .u8 (c 2), .int .u8 (c 3)] := by simpa using s_G
    clear s_G
    have t_R : HasBlk (((w.alloc (.cells #[.int .u8 (c 0), .int .u8 (c 1), .int .u8 (c 2), .int .u8 (c 3)] 23)).alloc (.cells #[.int .i64 0, .int .i64 0, .slice none 0 0, .slice none 0 0, .slice none 0 0, .slice none 0 0] 29)).alloc (.cells #[.int .i64 (-1)] 3)) (w.heap.size + 1) 29 #[.int .i64 0, .int .i64 0, .slice none 0 0, .slice none 0 0, .slice none 0 0, .slice none 0 0] := by simpa using s_R
    clear s_R
    have t_B1 : HasBlk (((w.alloc (.cells #[.int .u8 (c 0), .int .u8 (c 1), .int .u8 (c 2), .int .u8 (c 3)] 23)).alloc (.cells #[.int .i64 0, .int .i64 0, .slice none 0 0, .slice none 0 0, .slice none 0 0, .slice none 0 0] 29)).alloc (.cells #[.int .i64 (-1)] 3)) (w.heap.size + 1 + 1) 3 #[.int .i64 (-1)] := by simpa using s_B1
    clear s_B1
    have SB1 : Below w.heap.size w (((w.alloc (.cells #[.int .u8 (c 0), .int .u8 (c 1), .int .u8 (c 2), .int .u8 (c 3)] 23)).alloc (.cells #[.int .i64 0, .int .i64 0, .slice none 0 0, .slice none 0 0, .slice none 0 0, .slice none 0 0] 29)).alloc (.cells #[.int .i64 (-1)] 3)) := by
      repeat' (first | exact Below.refl _ _ | assumption | apply Below.drew | refine Below.setCell ?_ (by first | omega | (simp; done) | (simp; omega)) _ | refine Below.alloc ?_ (by first | omega | (simp; done) | (simp; omega)) _)
    generalize gW_v0 : (((w.alloc (.cells #[.int .u8 (c 0), .int .u8 (c 1), .int .u8 (c 2), .int .u8 (c 3)] 23)).alloc (.cells #[.int .i64 0, .int .i64 0, .slice none 0 0, .slice none 0 0, .slice none 0 0, .slice none 0 0] 29)).alloc (.cells #[.int .i64 (-1)] 3)) = v0 at *
    clear gW_v0
    have G := Lib.hid t_G
    clear t_G
    have R := Lib.hid t_R
    clear t_R
    have B1 := Lib.hid t_B1
    clear t_B1
    have SB1h := Lib.hid SB1
    clear SB1
    have lt_G := G.out.lt
    have G_0 := G.out.cell 0
    have G_1 := G.out.cell 1
    have G_2 := G.out.cell 2
    have G_3 := G.out.cell 3
    simp at G_0 G_1 G_2 G_3
    have lt_R := R.out.lt
    have R_0 := R.out.cell 0
    have R_1 := R.out.cell 1
    have R_2 := R.out.cell 2
    have R_3 := R.out.cell 3
    have R_4 := R.out.cell 4
    have R_5 := R.out.cell 5
    have R_f0 := R.out.frozen 0
    have R_f1 := R.out.frozen 1
    have R_f2 := R.out.frozen 2
    have R_f3 := R.out.frozen 3
    have R_f4 := R.out.frozen 4
    have R_f5 := R.out.frozen 5
    simp at R_0 R_1 R_2 R_3 R_4 R_5
    have lt_B1 := B1.out.lt
    have B1_0 := B1.out.cell 0
    simp at B1_0
    have szB_v0 := SB1h.out.size
    refine (repInt_any (w.heap.size + 1 + 1) (fun _ => .int .i64 (-1)) n _ (fun _ => rfl) (fun j hj => by (obtain rfl : j = 0 := (by omega)); exact B1_0) hn1 hn2).mono ?_
    rintro e w1 ⟨⟨X1, rfl, hX1, hbX1⟩, bel1⟩
    have OX1 := Lib.hid (own_of_blk hbX1 (cellsR_len 1 _ n) hX1 (by unfold maxLen; omega))
    clear hbX1
    have t_G := G.out.below bel1
    clear G
    have G := Lib.hid t_G
    clear t_G
    have t_R := R.out.below bel1
    clear R
    have R := Lib.hid t_R
    clear t_R
    have t_B1 := B1.out.below bel1
    clear B1
    have B1 := Lib.hid t_B1
    clear t_B1
    have SB2 : Below w.heap.size w w1 := SB1h.out.trans (bel1.mono SB1h.out.size)
    clear SB1h
    have SB2h := Lib.hid SB2
    clear SB2 bel1
    have lt_G := G.out.lt
    have G_0 := G.out.cell 0
    have G_1 := G.out.cell 1
    have G_2 := G.out.cell 2
    have G_3 := G.out.cell 3
    simp at G_0 G_1 G_2 G_3
    have lt_R := R.out.lt
    have R_0 := R.out.cell 0
    have R_1 := R.out.cell 1
    have R_2 := R.out.cell 2
    have R_3 := R.out.cell 3
    have R_4 := R.out.cell 4
    have R_5 := R.out.cell 5
    have R_f0 := R.out.frozen 0
    have R_f1 := R.out.frozen 1
    have R_f2 := R.out.frozen 2
    have R_f3 := R.out.frozen 3
    have R_f4 := R.out.frozen 4
    have R_f5 := R.out.frozen 5
    simp at R_0 R_1 R_2 R_3 R_4 R_5
    have lt_B1 := B1.out.lt
    have B1_0 := B1.out.cell 0
    simp at B1_0
    have szB_w1 := SB2h.out.size
    go_wp2_with fail
    have NE_G_B2 := Lib.hid (show w.heap.size ≠ w1.heap.size by omega)
    have NE_R_B2 := Lib.hid (show w.heap.size + 1 ≠ w1.heap.size by omega)
    have NE_B1_B2 := Lib.hid (show w.heap.size + 1 + 1 ≠ w1.heap.size by omega)
    have s_G := G.out
    have s_R := R.out
    have s_B1 := B1.out
    have s_OX1 := OX1.out
    replace s_G := s_G.alloc (.cells #[.int .u8 (c 0), .int .u8 (c 1), .int .u8 (c 2), .int .u8 (c 3)] 23)
    replace s_R := s_R.alloc (.cells #[.int .u8 (c 0), .int .u8 (c 1), .int .u8 (c 2), .int .u8 (c 3)] 23)
    replace s_B1 := s_B1.alloc (.cells #[.int .u8 (c 0), .int .u8 (c 1), .int .u8 (c 2), .int .u8 (c 3)] 23)
    replace s_OX1 := World.ownsRow.alloc s_OX1 (.cells #[.int .u8 (c 0), .int .u8 (c 1), .int .u8 (c 2), .int .u8 (c 3)] 23)
    have s_B2 : HasBlk (w1.alloc (.cells #[.int .u8 (c 0), .int .u8 (c 1), .int .u8 (c 2), .int .u8 (c 3)] 23)) (w1.heap.size) 23 #[.int .u8 (c 0), .int .u8 (c 1), .int .u8 (c 2), .int .u8 (c 3)] := by simpa using hasBlk_new w1 23 #[.int .u8 (c 0), .int .u8 (c 1), .int .u8 (c 2), .int .u8 (c 3)]
    have t_G : HasBlk (w1.alloc (.cells #[.int .u8 (c 0), .int .u8 (c 1), .int .u8 (c 2), .int .u8 (c 3)] 23)) (w.heap.size) 23 #[.int .u8 (c 0), .int .u8 (c 1), .int .u8 (c 2), .int .u8 (c 3)] := by simpa using s_G
    clear s_G G
    have t_R : HasBlk (w1.alloc (.cells #[.int .u8 (c 0), .int .u8 (c 1), .int .u8 (c 2), .int .u8 (c 3)] 23)) (w.heap.size + 1) 29 #[.int .i64 0, .int .i64 0, .slice none 0 0, .slice none 0 0, .slice none 0 0, .slice none 0 0] := by simpa using s_R
    clear s_R R
    have t_B1 : HasBlk (w1.alloc (.cells #[.int .u8 (c 0), .int .u8 (c 1), .int .u8 (c 2), .int .u8 (c 3)] 23)) (w.heap.size + 1 + 1) 3 #[.int .i64 (-1)] := by simpa using s_B1
    clear s_B1 B1
    have t_B2 : HasBlk (w1.alloc (.cells #[.int .u8 (c 0), .int .u8 (c 1), .int .u8 (c 2), .int .u8 (c 3)] 23)) (w1.heap.size) 23 #[.int .u8 (c 0), .int .u8 (c 1), .int .u8 (c 2), .int .u8 (c 3)] := by simpa using s_B2
    clear s_B2
    have t_OX1 : ((w1.alloc (.cells #[.int .u8 (c 0), .int .u8 (c 1), .int .u8 (c 2), .int .u8 (c 3)] 23))).ownsRow (v0.heap.size) 3 1 (.slice (some ⟨X1, 0, none⟩) (n) (n)) (n) (cellsR 1 (fun _ j => .int .i64 (-1)) n) := s_OX1
    clear s_OX1 OX1
    have SB3 : Below w.heap.size w (w1.alloc (.cells #[.int .u8 (c 0), .int .u8 (c 1), .int .u8 (c 2), .int .u8 (c 3)] 23)) := by
      have bel0 := SB2h.out
      repeat' (first | exact Below.refl _ _ | assumption | apply Below.drew | refine Below.setCell ?_ (by first | omega | (simp; done) | (simp; omega)) _ | refine Below.alloc ?_ (by first | omega | (simp; done) | (simp; omega)) _)
    clear lt_G G_0 G_1 G_2 G_3 lt_R R_0 R_1 R_2 R_3 R_4 R_5 R_f0 R_f1 R_f2 R_f3 R_f4 R_f5 lt_B1 B1_0
    generalize gW_v1 : (w1.alloc (.cells #[.int .u8 (c 0), .int .u8 (c 1), .int .u8 (c 2), .int .u8 (c 3)] 23)) = v1 at *
    clear gW_v1
    have G := Lib.hid t_G
    clear t_G
    have R := Lib.hid t_R
    clear t_R
    have B1 := Lib.hid t_B1
    clear t_B1
    have B2 := Lib.hid t_B2
    clear t_B2
    have OX1 := Lib.hid t_OX1
    clear t_OX1
    clear SB2h
    have SB3h := Lib.hid SB3
    clear SB3
    have lt_G := G.out.lt
    have G_0 := G.out.cell 0
    have G_1 := G.out.cell 1
    have G_2 := G.out.cell 2
    have G_3 := G.out.cell 3
    simp at G_0 G_1 G_2 G_3
    have lt_R := R.out.lt
    have R_0 := R.out.cell 0
    have R_1 := R.out.cell 1
    have R_2 := R.out.cell 2
    have R_3 := R.out.cell 3
    have R_4 := R.out.cell 4
    have R_5 := R.out.cell 5
    have R_f0 := R.out.frozen 0
    have R_f1 := R.out.frozen 1
    have R_f2 := R.out.frozen 2
    have R_f3 := R.out.frozen 3
    have R_f4 := R.out.frozen 4
    have R_f5 := R.out.frozen 5
    simp at R_0 R_1 R_2 R_3 R_4 R_5
    have lt_B1 := B1.out.lt
    have B1_0 := B1.out.cell 0
    simp at B1_0
    have lt_B2 := B2.out.lt
    have B2_0 := B2.out.cell 0
    have B2_1 := B2.out.cell 1
    have B2_2 := B2.out.cell 2
    have B2_3 := B2.out.cell 3
    simp at B2_0 B2_1 B2_2 B2_3
    have szB_v1 := SB3h.out.size
    refine (repCol_any (w1.heap.size) (fun j => .int .u8 (c j)) n _ (fun _ => rfl) (mk_one c _ _ B2_0 B2_1 B2_2 B2_3) hn1 hn2).mono ?_
    rintro e w2 ⟨⟨X2, rfl, hX2, hbX2⟩, bel2⟩
    have OX2 := Lib.hid (own_of_blk hbX2 (cellsR_len 4 _ n) hX2 (by unfold maxLen; omega))
    clear hbX2
    have t_G := G.out.below bel2
    clear G
    have G := Lib.hid t_G
    clear t_G
    have t_R := R.out.below bel2
    clear R
    have R := Lib.hid t_R
    clear t_R
    have t_B1 := B1.out.below bel2
    clear B1
    have B1 := Lib.hid t_B1
    clear t_B1
    have t_B2 := B2.out.below bel2
    clear B2
    have B2 := Lib.hid t_B2
    clear t_B2
    have t_OX1 := own_below OX1.out bel2
    clear OX1
    have OX1 := Lib.hid t_OX1
    clear t_OX1
    have SB4 : Below w.heap.size w w2 := SB3h.out.trans (bel2.mono SB3h.out.size)
    clear SB3h
    have SB4h := Lib.hid SB4
    clear SB4 bel2
    have lt_G := G.out.lt
    have G_0 := G.out.cell 0
    have G_1 := G.out.cell 1
    have G_2 := G.out.cell 2
    have G_3 := G.out.cell 3
    simp at G_0 G_1 G_2 G_3
    have lt_R := R.out.lt
    have R_0 := R.out.cell 0
    have R_1 := R.out.cell 1
    have R_2 := R.out.cell 2
    have R_3 := R.out.cell 3
    have R_4 := R.out.cell 4
    have R_5 := R.out.cell 5
    have R_f0 := R.out.frozen 0
    have R_f1 := R.out.frozen 1
    have R_f2 := R.out.frozen 2
    have R_f3 := R.out.frozen 3
    have R_f4 := R.out.frozen 4
    have R_f5 := R.out.frozen 5
    simp at R_0 R_1 R_2 R_3 R_4 R_5
    have lt_B1 := B1.out.lt
    have B1_0 := B1.out.cell 0
    simp at B1_0
    have lt_B2 := B2.out.lt
    have B2_0 := B2.out.cell 0
    have B2_1 := B2.out.cell 1
    have B2_2 := B2.out.cell 2
    have B2_3 := B2.out.cell 3
    simp at B2_0 B2_1 B2_2 B2_3
    have szB_w2 := SB4h.out.size
    go_wp2_with fail
    have NE_G_B3 := Lib.hid (show w.heap.size ≠ w2.heap.size by omega)
    have NE_R_B3 := Lib.hid (show w.heap.size + 1 ≠ w2.heap.size by omega)
    have NE_B1_B3 := Lib.hid (show w.heap.size + 1 + 1 ≠ w2.heap.size by omega)
    have NE_B2_B3 := Lib.hid (show w1.heap.size ≠ w2.heap.size by omega)
    have s_G := G.out
    have s_R := R.out
    have s_B1 := B1.out
    have s_B2 := B2.out
    have s_OX1 := OX1.out
    have s_OX2 := OX2.out
    replace s_G := s_G.alloc (.cells #[.int .i64 (-2048)] 3)
    replace s_R := s_R.alloc (.cells #[.int .i64 (-2048)] 3)
    replace s_B1 := s_B1.alloc (.cells #[.int .i64 (-2048)] 3)
    replace s_B2 := s_B2.alloc (.cells #[.int .i64 (-2048)] 3)
    replace s_OX1 := World.ownsRow.alloc s_OX1 (.cells #[.int .i64 (-2048)] 3)
    replace s_OX2 := World.ownsRow.alloc s_OX2 (.cells #[.int .i64 (-2048)] 3)
    have s_B3 : HasBlk (w2.alloc (.cells #[.int .i64 (-2048)] 3)) (w2.heap.size) 3 #[.int .i64 (-2048)] := by simpa using hasBlk_new w2 3 #[.int .i64 (-2048)]
    have t_G : HasBlk (w2.alloc (.cells #[.int .i64 (-2048)] 3)) (w.heap.size) 23 #[.int .u8 (c 0), .int .u8 (c 1), .int .u8 (c 2), .int .u8 (c 3)] := by simpa using s_G
    clear s_G G
    have t_R : HasBlk (w2.alloc (.cells #[.int .i64 (-2048)] 3)) (w.heap.size + 1) 29 #[.int .i64 0, .int .i64 0, .slice none 0 0, .slice none 0 0, .slice none 0 0, .slice none 0 0] := by simpa using s_R
    clear s_R R
    have t_B1 : HasBlk (w2.alloc (.cells #[.int .i64 (-2048)] 3)) (w.heap.size + 1 + 1) 3 #[.int .i64 (-1)] := by simpa using s_B1
    clear s_B1 B1
    have t_B2 : HasBlk (w2.alloc (.cells #[.int .i64 (-2048)] 3)) (w1.heap.size) 23 #[.int .u8 (c 0), .int .u8 (c 1), .int .u8 (c 2), .int .u8 (c 3)] := by simpa using s_B2
    clear s_B2 B2
    have t_B3 : HasBlk (w2.alloc (.cells #[.int .i64 (-2048)] 3)) (w2.heap.size) 3 #[.int .i64 (-2048)] := by simpa using s_B3
    clear s_B3
    have t_OX1 : ((w2.alloc (.cells #[.int .i64 (-2048)] 3))).ownsRow (v0.heap.size) 3 1 (.slice (some ⟨X1, 0, none⟩) (n) (n)) (n) (cellsR 1 (fun _ j => .int .i64 (-1)) n) := s_OX1
    clear s_OX1 OX1
    have t_OX2 : ((w2.alloc (.cells #[.int .i64 (-2048)] 3))).ownsRow (v1.heap.size) 23 4 (.slice (some ⟨X2, 0, none⟩) (n) (n)) (n) (cellsR 4 (fun _ j => .int .u8 (c j)) n) := s_OX2
    clear s_OX2 OX2
    have SB5 : Below w.heap.size w (w2.alloc (.cells #[.int .i64 (-2048)] 3)) := by
      have bel0 := SB4h.out
      repeat' (first | exact Below.refl _ _ | assumption | apply Below.drew | refine Below.setCell ?_ (by first | omega | (simp; done) | (simp; omega)) _ | refine Below.alloc ?_ (by first | omega | (simp; done) | (simp; omega)) _)
    clear lt_G G_0 G_1 G_2 G_3 lt_R R_0 R_1 R_2 R_3 R_4 R_5 R_f0 R_f1 R_f2 R_f3 R_f4 R_f5 lt_B1 B1_0 lt_B2 B2_0 B2_1 B2_2 B2_3
    generalize gW_v2 : (w2.alloc (.cells #[.int .i64 (-2048)] 3)) = v2 at *
    clear gW_v2
    have G := Lib.hid t_G
    clear t_G
    have R := Lib.hid t_R
    clear t_R
    have B1 := Lib.hid t_B1
    clear t_B1
    have B2 := Lib.hid t_B2
    clear t_B2
    have B3 := Lib.hid t_B3
    clear t_B3
    have OX1 := Lib.hid t_OX1
    clear t_OX1
    have OX2 := Lib.hid t_OX2
    clear t_OX2
    clear SB4h
    have SB5h := Lib.hid SB5
    clear SB5
    have lt_G := G.out.lt
    have G_0 := G.out.cell 0
    have G_1 := G.out.cell 1
    have G_2 := G.out.cell 2
    have G_3 := G.out.cell 3
    simp at G_0 G_1 G_2 G_3
    have lt_R := R.out.lt
    have R_0 := R.out.cell 0
    have R_1 := R.out.cell 1
    have R_2 := R.out.cell 2
    have R_3 := R.out.cell 3
    have R_4 := R.out.cell 4
    have R_5 := R.out.cell 5
    have R_f0 := R.out.frozen 0
    have R_f1 := R.out.frozen 1
    have R_f2 := R.out.frozen 2
    have R_f3 := R.out.frozen 3
    have R_f4 := R.out.frozen 4
    have R_f5 := R.out.frozen 5
    simp at R_0 R_1 R_2 R_3 R_4 R_5
    have lt_B1 := B1.out.lt
    have B1_0 := B1.out.cell 0
    simp at B1_0
    have lt_B2 := B2.out.lt
    have B2_0 := B2.out.cell 0
    have B2_1 := B2.out.cell 1
    have B2_2 := B2.out.cell 2
    have B2_3 := B2.out.cell 3
    simp at B2_0 B2_1 B2_2 B2_3
    have lt_B3 := B3.out.lt
    have B3_0 := B3.out.cell 0
    simp at B3_0
    have szB_v2 := SB5h.out.size
    refine (repInt_any (w2.heap.size) (fun _ => .int .i64 (-2048)) n _ (fun _ => rfl) (fun j hj => by (obtain rfl : j = 0 := (by omega)); exact B3_0) hn1 hn2).mono ?_
    rintro e w3 ⟨⟨X3, rfl, hX3, hbX3⟩, bel3⟩
    have OX3 := Lib.hid (own_of_blk hbX3 (cellsR_len 1 _ n) hX3 (by unfold maxLen; omega))
    clear hbX3
    have t_G := G.out.below bel3
    clear G
    have G := Lib.hid t_G
    clear t_G
    have t_R := R.out.below bel3
    clear R
    have R := Lib.hid t_R
    clear t_R
    have t_B1 := B1.out.below bel3
    clear B1
    have B1 := Lib.hid t_B1
    clear t_B1
    have t_B2 := B2.out.below bel3
    clear B2
    have B2 := Lib.hid t_B2
    clear t_B2
    have t_B3 := B3.out.below bel3
    clear B3
    have B3 := Lib.hid t_B3
    clear t_B3
    have t_OX1 := own_below OX1.out bel3
    clear OX1
    have OX1 := Lib.hid t_OX1
    clear t_OX1
    have t_OX2 := own_below OX2.out bel3
    clear OX2
    have OX2 := Lib.hid t_OX2
    clear t_OX2
    have SB6 : Below w.heap.size w w3 := SB5h.out.trans (bel3.mono SB5h.out.size)
    clear SB5h
    have SB6h := Lib.hid SB6
    clear SB6 bel3
    have lt_G := G.out.lt
    have G_0 := G.out.cell 0
    have G_1 := G.out.cell 1
    have G_2 := G.out.cell 2
    have G_3 := G.out.cell 3
    simp at G_0 G_1 G_2 G_3
    have lt_R := R.out.lt
    have R_0 := R.out.cell 0
    have R_1 := R.out.cell 1
    have R_2 := R.out.cell 2
    have R_3 := R.out.cell 3
    have R_4 := R.out.cell 4
    have R_5 := R.out.cell 5
    have R_f0 := R.out.frozen 0
    have R_f1 := R.out.frozen 1
    have R_f2 := R.out.frozen 2
    have R_f3 := R.out.frozen 3
    have R_f4 := R.out.frozen 4
    have R_f5 := R.out.frozen 5
    simp at R_0 R_1 R_2 R_3 R_4 R_5
    have lt_B1 := B1.out.lt
    have B1_0 := B1.out.cell 0
    simp at B1_0
    have lt_B2 := B2.out.lt
    have B2_0 := B2.out.cell 0
    have B2_1 := B2.out.cell 1
    have B2_2 := B2.out.cell 2
    have B2_3 := B2.out.cell 3
    simp at B2_0 B2_1 B2_2 B2_3
    have lt_B3 := B3.out.lt
    have B3_0 := B3.out.cell 0
    simp at B3_0
    have szB_w3 := SB6h.out.size
    go_wp2_with fail
    clear lt_G G_0 G_1 G_2 G_3 lt_R R_0 R_1 R_2 R_3 R_4 R_5 R_f0 R_f1 R_f2 R_f3 R_f4 R_f5 lt_B1 B1_0 lt_B2 B2_0 B2_1 B2_2 B2_3 lt_B3 B3_0
    refine (cloneInt (some ⟨X1, 0, none⟩) n n (fun _ _ => .int .i64 (-1)) _ (Row.of_cells OX1.out) (fun _ _ => rfl) (by omega)).mono ?_
    rintro e w4 ⟨⟨A4, k4, rfl, ho4⟩, bel4⟩
    have OX4 := Lib.hid ho4
    clear ho4
    have t_G := G.out.below bel4
    clear G
    have G := Lib.hid t_G
    clear t_G
    have t_R := R.out.below bel4
    clear R
    have R := Lib.hid t_R
    clear t_R
    have t_B1 := B1.out.below bel4
    clear B1
    have B1 := Lib.hid t_B1
    clear t_B1
    have t_B2 := B2.out.below bel4
    clear B2
    have B2 := Lib.hid t_B2
    clear t_B2
    have t_B3 := B3.out.below bel4
    clear B3
    have B3 := Lib.hid t_B3
    clear t_B3
    have t_OX1 := own_below OX1.out bel4
    clear OX1
    have OX1 := Lib.hid t_OX1
    clear t_OX1
    have t_OX2 := own_below OX2.out bel4
    clear OX2
    have OX2 := Lib.hid t_OX2
    clear t_OX2
    have t_OX3 := own_below OX3.out bel4
    clear OX3
    have OX3 := Lib.hid t_OX3
    clear t_OX3
    have SB7 : Below w.heap.size w w4 := SB6h.out.trans (bel4.mono SB6h.out.size)
    clear SB6h
    have SB7h := Lib.hid SB7
    clear SB7 bel4
    have lt_G := G.out.lt
    have G_0 := G.out.cell 0
    have G_1 := G.out.cell 1
    have G_2 := G.out.cell 2
    have G_3 := G.out.cell 3
    simp at G_0 G_1 G_2 G_3
    have lt_R := R.out.lt
    have R_0 := R.out.cell 0
    have R_1 := R.out.cell 1
    have R_2 := R.out.cell 2
    have R_3 := R.out.cell 3
    have R_4 := R.out.cell 4
    have R_5 := R.out.cell 5
    have R_f0 := R.out.frozen 0
    have R_f1 := R.out.frozen 1
    have R_f2 := R.out.frozen 2
    have R_f3 := R.out.frozen 3
    have R_f4 := R.out.frozen 4
    have R_f5 := R.out.frozen 5
    simp at R_0 R_1 R_2 R_3 R_4 R_5
    have lt_B1 := B1.out.lt
    have B1_0 := B1.out.cell 0
    simp at B1_0
    have lt_B2 := B2.out.lt
    have B2_0 := B2.out.cell 0
    have B2_1 := B2.out.cell 1
    have B2_2 := B2.out.cell 2
    have B2_3 := B2.out.cell 3
    simp at B2_0 B2_1 B2_2 B2_3
    have lt_B3 := B3.out.lt
    have B3_0 := B3.out.cell 0
    simp at B3_0
    have szB_w4 := SB7h.out.size
    have GX1 := Lib.hid (R.out.ne_own OX1.out (by decide))
    have GX2 := Lib.hid (R.out.ne_own OX2.out (by decide))
    have GX3 := Lib.hid (R.out.ne_own OX3.out (by decide))
    have GX4 := Lib.hid (R.out.ne_own OX4.out (by decide))
    go_wp2
    refine bodyPost_ret (v := .tuple #[.agg #[.int .i64 W, .int .i64 W, .slice (some ⟨X2, 0, none⟩) n n, .slice (some ⟨X3, 0, none⟩) n n, .slice (some ⟨X1, 0, none⟩) n n, .slice A4 n k4], .int .i64 0]) (by simp [results, Try.results13, go_sem, *]) rfl ⟨⟨⟨some ⟨X2, 0, none⟩, some ⟨X3, 0, none⟩, some ⟨X1, 0, none⟩, A4, n, n, n, k4⟩, FDnew W W n c, 0, rfl, ⟨Row.of_cells (base := v1.heap.size) (e := 23) (c := n) ?_, IS.of_R (B := v2.heap.size) (e := 3) (c := n) ?_, IS.of_R (B := v0.heap.size) (e := 3) (c := n) ?_, IS.of_R (B := w3.heap.size) (e := 3) (c := k4) ?_⟩, .inl ⟨HW.out, rfl, n, hN, rfl⟩⟩, ?_⟩
    · exact (ownsRow_setCell_other (a := ⟨w.heap.size + 1, 5, none⟩) (ownsRow_setCell_other (a := ⟨w.heap.size + 1, 4, none⟩) (ownsRow_setCell_other (a := ⟨w.heap.size + 1, 3, none⟩) (ownsRow_setCell_other (a := ⟨w.heap.size + 1, 2, none⟩) (ownsRow_setCell_other (a := ⟨w.heap.size + 1, 1, none⟩) (ownsRow_setCell_other (a := ⟨w.heap.size + 1, 0, none⟩) OX2.out GX2.out _) GX2.out _) GX2.out _) GX2.out _) GX2.out _) GX2.out _)
    · exact (ownsRow_setCell_other (a := ⟨w.heap.size + 1, 5, none⟩) (ownsRow_setCell_other (a := ⟨w.heap.size + 1, 4, none⟩) (ownsRow_setCell_other (a := ⟨w.heap.size + 1, 3, none⟩) (ownsRow_setCell_other (a := ⟨w.heap.size + 1, 2, none⟩) (ownsRow_setCell_other (a := ⟨w.heap.size + 1, 1, none⟩) (ownsRow_setCell_other (a := ⟨w.heap.size + 1, 0, none⟩) OX3.out GX3.out _) GX3.out _) GX3.out _) GX3.out _) GX3.out _) GX3.out _)
    · exact (ownsRow_setCell_other (a := ⟨w.heap.size + 1, 5, none⟩) (ownsRow_setCell_other (a := ⟨w.heap.size + 1, 4, none⟩) (ownsRow_setCell_other (a := ⟨w.heap.size + 1, 3, none⟩) (ownsRow_setCell_other (a := ⟨w.heap.size + 1, 2, none⟩) (ownsRow_setCell_other (a := ⟨w.heap.size + 1, 1, none⟩) (ownsRow_setCell_other (a := ⟨w.heap.size + 1, 0, none⟩) OX1.out GX1.out _) GX1.out _) GX1.out _) GX1.out _) GX1.out _) GX1.out _)
    · exact (ownsRow_setCell_other (a := ⟨w.heap.size + 1, 5, none⟩) (ownsRow_setCell_other (a := ⟨w.heap.size + 1, 4, none⟩) (ownsRow_setCell_other (a := ⟨w.heap.size + 1, 3, none⟩) (ownsRow_setCell_other (a := ⟨w.heap.size + 1, 2, none⟩) (ownsRow_setCell_other (a := ⟨w.heap.size + 1, 1, none⟩) (ownsRow_setCell_other (a := ⟨w.heap.size + 1, 0, none⟩) OX4.out GX4.out _) GX4.out _) GX4.out _) GX4.out _) GX4.out _) GX4.out _)
    · exact (Below.setCell (p := ⟨w.heap.size + 1, 5, none⟩) (Below.setCell (p := ⟨w.heap.size + 1, 4, none⟩) (Below.setCell (p := ⟨w.heap.size + 1, 3, none⟩) (Below.setCell (p := ⟨w.heap.size + 1, 2, none⟩) (Below.setCell (p := ⟨w.heap.size + 1, 1, none⟩) (Below.setCell (p := ⟨w.heap.size + 1, 0, none⟩) SB7h.out (Nat.le_succ _) _) (Nat.le_succ _) _) (Nat.le_succ _) _) (Nat.le_succ _) _) (Nat.le_succ _) _) (Nat.le_succ _) _)
  · have hWH1 : ¬ W ≤ H := by omega
    have hWH2 : H ≤ W := by omega
    by_cases h0 : (H < 1)
    · have g0 : decide ((H < 1)) = true := decide_eq_true h0
      have Hk := Lib.hid h0
      clear h0
      go_enter Try.func13, Try.ntmps13
      go_wp2
      refine bodyPost_ret (v := .tuple #[.agg #[.int .i64 0, .int .i64 0, .slice none 0 0, .slice none 0 0, .slice none 0 0, .slice none 0 0], .int .i64 2]) (by simp [results, Try.results13, go_sem, *]) rfl ⟨FRes.zero (.inr ⟨fun h => by have := Hk.out; omega, rfl, rfl⟩), ?_⟩
      repeat' (first | exact Below.refl _ _ | assumption | apply Below.drew | refine Below.setCell ?_ (by first | omega | (simp; done) | (simp; omega)) _ | refine Below.alloc ?_ (by first | omega | (simp; done) | (simp; omega)) _)
    have g0 : decide ((H < 1)) = false := decide_eq_false h0
    by_cases h1 : (64 < W)
    · have g1 : decide ((64 < W)) = true := decide_eq_true h1
      have Hk := Lib.hid h1
      clear h1
      go_enter Try.func13, Try.ntmps13
      go_wp2
      refine bodyPost_ret (v := .tuple #[.agg #[.int .i64 0, .int .i64 0, .slice none 0 0, .slice none 0 0, .slice none 0 0, .slice none 0 0], .int .i64 2]) (by simp [results, Try.results13, go_sem, *]) rfl ⟨FRes.zero (.inr ⟨fun h => by have := Hk.out; omega, rfl, rfl⟩), ?_⟩
      repeat' (first | exact Below.refl _ _ | assumption | apply Below.drew | refine Below.setCell ?_ (by first | omega | (simp; done) | (simp; omega)) _ | refine Below.alloc ?_ (by first | omega | (simp; done) | (simp; omega)) _)
    have g1 : decide ((64 < W)) = false := decide_eq_false h1
    obtain ⟨b0, b1⟩ := mul_bound (W := W) (H := H) (by omega) (by omega) (by omega) (by omega)
    have w0 : 1 ≤ W ∧ W ≤ 64 ∧ 1 ≤ H ∧ H ≤ 64 := by omega
    have HW := Lib.hid w0
    obtain ⟨n, hN⟩ : ∃ n : Nat, W * H = n := ⟨(W * H).toNat, by omega⟩
    rw [hN] at b0 b1
    have hn1 : 1 ≤ n := by omega
    have hn2 : n ≤ 4096 := by omega
    have hwr : IntKind.i64.wrap (n : Int) = n := IntWalk.i64_in _ (by omega)
    clear w0 b0 b1
    go_enter Try.func13, Try.ntmps13
    go_wp2_with fail
    have NE_G_R := Lib.hid (show w.heap.size ≠ w.heap.size + 1 by omega)
    have NE_G_B1 := Lib.hid (show w.heap.size ≠ w.heap.size + 1 + 1 by omega)
    have NE_R_B1 := Lib.hid (show w.heap.size + 1 ≠ w.heap.size + 1 + 1 by omega)
    have s_G : HasBlk (w.alloc (.cells #[.int .u8 (c 0), .int .u8 (c 1), .int .u8 (c 2), .int .u8 (c 3)] 23)) (w.heap.size) 23 #[.int .u8 (c 0), .int .u8 (c 1), .int .u8 (c 2), .int .u8 (c 3)] := by simpa using hasBlk_new w 23 #[.int .u8 (c 0), .int .u8 (c 1), .int .u8 (c 2), .int .u8 (c 3)]
    replace s_G := s_G.alloc (.cells #[.int .i64 0, .int .i64 0, .slice none 0 0, .slice none 0 0, .slice none 0 0, .slice none 0 0] 29)
    have s_R : HasBlk ((w.alloc (.cells #[.int .u8 (c 0), .int .u8 (c 1), .int .u8 (c 2), .int .u8 (c 3)] 23)).alloc (.cells #[.int .i64 0, .int .i64 0, .slice none 0 0, .slice none 0 0, .slice none 0 0, .slice none 0 0] 29)) (w.heap.size + 1) 29 #[.int .i64 0, .int .i64 0, .slice none 0 0, .slice none 0 0, .slice none 0 0, .slice none 0 0] := by simpa using hasBlk_new (w.alloc (.cells #[.int .u8 (c 0), .int .u8 (c 1), .int .u8 (c 2), .int .u8 (c 3)] 23)) 29 #[.int .i64 0, .int .i64 0, .slice none 0 0, .slice none 0 0, .slice none 0 0, .slice none 0 0]
    replace s_G := s_G.alloc (.cells #[.int .i64 (-1)] 3)
    replace s_R := s_R.alloc (.cells #[.int .i64 (-1)] 3)
    have s_B1 : HasBlk (((w.alloc (.cells #[.int .u8 (c 0), .int .u8 (c 1), .int .u8 (c 2), .int .u8 (c 3)] 23)).alloc (.cells #[.int .i64 0, .int .i64 0, .slice none 0 0, .slice none 0 0, .slice none 0 0, .slice none 0 0] 29)).alloc (.cells #[.int .i64 (-1)] 3)) (w.heap.size + 1 + 1) 3 #[.int .i64 (-1)] := by simpa using hasBlk_new ((w.alloc (.cells #[.int .u8 (c 0), .int .u8 (c 1), .int .u8 (c 2), .int .u8 (c 3)] 23)).alloc (.cells #[.int .i64 0, .int .i64 0, .slice none 0 0, .slice none 0 0, .slice none 0 0, .slice none 0 0] 29)) 3 #[.int .i64 (-1)]
    have t_G : HasBlk (((w.alloc (.cells #[.int .u8 (c 0), .int .u8 (c 1), .int .u8 (c 2), .int .u8 (c 3)] 23)).alloc (.cells #[.int .i64 0, .int .i64 0, .slice none 0 0, .slice none 0 0, .slice none 0 0, .slice none 0 0] 29)).alloc (.cells #[.int .i64 (-1)] 3)) (w.heap.size) 23 #[.int .u8 (c 0), .int .u8 (c 1), .int .u8 (c 2), .int .u8 (c 3)] := by simpa using s_G
    clear s_G
    have t_R : HasBlk (((w.alloc (.cells #[.int .u8 (c 0), .int .u8 (c 1), .int .u8 (c 2), .int .u8 (c 3)] 23)).alloc (.cells #[.int .i64 0, .int .i64 0, .slice none 0 0, .slice none 0 0, .slice none 0 0, .slice none 0 0] 29)).alloc (.cells #[.int .i64 (-1)] 3)) (w.heap.size + 1) 29 #[.int .i64 0, .int .i64 0, .slice none 0 0, .slice none 0 0, .slice none 0 0, .slice none 0 0] := by simpa using s_R
    clear s_R
    have t_B1 : HasBlk (((w.alloc (.cells #[.int .u8 (c 0), .int .u8 (c 1), .int .u8 (c 2), .int .u8 (c 3)] 23)).alloc (.cells #[.int .i64 0, .int .i64 0, .slice none 0 0, .slice none 0 0, .slice none 0 0, .slice none 0 0] 29)).alloc (.cells #[.int .i64 (-1)] 3)) (w.heap.size + 1 + 1) 3 #[.int .i64 (-1)] := by simpa using s_B1
    clear s_B1
    have SB1 : Below w.heap.size w (((w.alloc (.cells #[.int .u8 (c 0), .int .u8 (c 1), .int .u8 (c 2), .int .u8 (c 3)] 23)).alloc (.cells #[.int .i64 0, .int .i64 0, .slice none 0 0, .slice none 0 0, .slice none 0 0, .slice none 0 0] 29)).alloc (.cells #[.int .i64 (-1)] 3)) := by
      repeat' (first | exact Below.refl _ _ | assumption | apply Below.drew | refine Below.setCell ?_ (by first | omega | (simp; done) | (simp; omega)) _ | refine Below.alloc ?_ (by first | omega | (simp; done) | (simp; omega)) _)
    generalize gW_v0 : (((w.alloc (.cells #[.int .u8 (c 0), .int .u8 (c 1), .int .u8 (c 2), .int .u8 (c 3)] 23)).alloc (.cells #[.int .i64 0, .int .i64 0, .slice none 0 0, .slice none 0 0, .slice none 0 0, .slice none 0 0] 29)).alloc (.cells #[.int .i64 (-1)] 3)) = v0 at *
    clear gW_v0
    have G := Lib.hid t_G
    clear t_G
    have R := Lib.hid t_R
    clear t_R
    have B1 := Lib.hid t_B1
    clear t_B1
    have SB1h := Lib.hid SB1
    clear SB1
    have lt_G := G.out.lt
    have G_0 := G.out.cell 0
    have G_1 := G.out.cell 1
    have G_2 := G.out.cell 2
    have G_3 := G.out.cell 3
    simp at G_0 G_1 G_2 G_3
    have lt_R := R.out.lt
    have R_0 := R.out.cell 0
    have R_1 := R.out.cell 1
    have R_2 := R.out.cell 2
    have R_3 := R.out.cell 3
    have R_4 := R.out.cell 4
    have R_5 := R.out.cell 5
    have R_f0 := R.out.frozen 0
    have R_f1 := R.out.frozen 1
    have R_f2 := R.out.frozen 2
    have R_f3 := R.out.frozen 3
    have R_f4 := R.out.frozen 4
    have R_f5 := R.out.frozen 5
    simp at R_0 R_1 R_2 R_3 R_4 R_5
    have lt_B1 := B1.out.lt
    have B1_0 := B1.out.cell 0
    simp at B1_0
    have szB_v0 := SB1h.out.size
    refine (repInt_any (w.heap.size + 1 + 1) (fun _ => .int .i64 (-1)) n _ (fun _ => rfl) (fun j hj => by (obtain rfl : j = 0 := (by omega)); exact B1_0) hn1 hn2).mono ?_
    rintro e w1 ⟨⟨X1, rfl, hX1, hbX1⟩, bel1⟩
    have OX1 := Lib.hid (own_of_blk hbX1 (cellsR_len 1 _ n) hX1 (by unfold maxLen; omega))
    clear hbX1
    have t_G := G.out.below bel1
    clear G
    have G := Lib.hid t_G
    clear t_G
    have t_R := R.out.below bel1
    clear R
    have R := Lib.hid t_R
    clear t_R
    have t_B1 := B1.out.below bel1
    clear B1
    have B1 := Lib.hid t_B1
    clear t_B1
    have SB2 : Below w.heap.size w w1 := SB1h.out.trans (bel1.mono SB1h.out.size)
    clear SB1h
    have SB2h := Lib.hid SB2
    clear SB2 bel1
    have lt_G := G.out.lt
    have G_0 := G.out.cell 0
    have G_1 := G.out.cell 1
    have G_2 := G.out.cell 2
    have G_3 := G.out.cell 3
    simp at G_0 G_1 G_2 G_3
    have lt_R := R.out.lt
    have R_0 := R.out.cell 0
    have R_1 := R.out.cell 1
    have R_2 := R.out.cell 2
    have R_3 := R.out.cell 3
    have R_4 := R.out.cell 4
    have R_5 := R.out.cell 5
    have R_f0 := R.out.frozen 0
    have R_f1 := R.out.frozen 1
    have R_f2 := R.out.frozen 2
    have R_f3 := R.out.frozen 3
    have R_f4 := R.out.frozen 4
    have R_f5 := R.out.frozen 5
    simp at R_0 R_1 R_2 R_3 R_4 R_5
    have lt_B1 := B1.out.lt
    have B1_0 := B1.out.cell 0
    simp at B1_0
    have szB_w1 := SB2h.out.size
    go_wp2_with fail
    have NE_G_B2 := Lib.hid (show w.heap.size ≠ w1.heap.size by omega)
    have NE_R_B2 := Lib.hid (show w.heap.size + 1 ≠ w1.heap.size by omega)
    have NE_B1_B2 := Lib.hid (show w.heap.size + 1 + 1 ≠ w1.heap.size by omega)
    have s_G := G.out
    have s_R := R.out
    have s_B1 := B1.out
    have s_OX1 := OX1.out
    replace s_G := s_G.alloc (.cells #[.int .u8 (c 0), .int .u8 (c 1), .int .u8 (c 2), .int .u8 (c 3)] 23)
    replace s_R := s_R.alloc (.cells #[.int .u8 (c 0), .int .u8 (c 1), .int .u8 (c 2), .int .u8 (c 3)] 23)
    replace s_B1 := s_B1.alloc (.cells #[.int .u8 (c 0), .int .u8 (c 1), .int .u8 (c 2), .int .u8 (c 3)] 23)
    replace s_OX1 := World.ownsRow.alloc s_OX1 (.cells #[.int .u8 (c 0), .int .u8 (c 1), .int .u8 (c 2), .int .u8 (c 3)] 23)
    have s_B2 : HasBlk (w1.alloc (.cells #[.int .u8 (c 0), .int .u8 (c 1), .int .u8 (c 2), .int .u8 (c 3)] 23)) (w1.heap.size) 23 #[.int .u8 (c 0), .int .u8 (c 1), .int .u8 (c 2), .int .u8 (c 3)] := by simpa using hasBlk_new w1 23 #[.int .u8 (c 0), .int .u8 (c 1), .int .u8 (c 2), .int .u8 (c 3)]
    have t_G : HasBlk (w1.alloc (.cells #[.int .u8 (c 0), .int .u8 (c 1), .int .u8 (c 2), .int .u8 (c 3)] 23)) (w.heap.size) 23 #[.int .u8 (c 0), .int .u8 (c 1), .int .u8 (c 2), .int .u8 (c 3)] := by simpa using s_G
    clear s_G G
    have t_R : HasBlk (w1.alloc (.cells #[.int .u8 (c 0), .int .u8 (c 1), .int .u8 (c 2), .int .u8 (c 3)] 23)) (w.heap.size + 1) 29 #[.int .i64 0, .int .i64 0, .slice none 0 0, .slice none 0 0, .slice none 0 0, .slice none 0 0] := by simpa using s_R
    clear s_R R
    have t_B1 : HasBlk (w1.alloc (.cells #[.int .u8 (c 0), .int .u8 (c 1), .int .u8 (c 2), .int .u8 (c 3)] 23)) (w.heap.size + 1 + 1) 3 #[.int .i64 (-1)] := by simpa using s_B1
    clear s_B1 B1
    have t_B2 : HasBlk (w1.alloc (.cells #[.int .u8 (c 0), .int .u8 (c 1), .int .u8 (c 2), .int .u8 (c 3)] 23)) (w1.heap.size) 23 #[.int .u8 (c 0), .int .u8 (c 1), .int .u8 (c 2), .int .u8 (c 3)] := by simpa using s_B2
    clear s_B2
    have t_OX1 : ((w1.alloc (.cells #[.int .u8 (c 0), .int .u8 (c 1), .int .u8 (c 2), .int .u8 (c 3)] 23))).ownsRow (v0.heap.size) 3 1 (.slice (some ⟨X1, 0, none⟩) (n) (n)) (n) (cellsR 1 (fun _ j => .int .i64 (-1)) n) := s_OX1
    clear s_OX1 OX1
    have SB3 : Below w.heap.size w (w1.alloc (.cells #[.int .u8 (c 0), .int .u8 (c 1), .int .u8 (c 2), .int .u8 (c 3)] 23)) := by
      have bel0 := SB2h.out
      repeat' (first | exact Below.refl _ _ | assumption | apply Below.drew | refine Below.setCell ?_ (by first | omega | (simp; done) | (simp; omega)) _ | refine Below.alloc ?_ (by first | omega | (simp; done) | (simp; omega)) _)
    clear lt_G G_0 G_1 G_2 G_3 lt_R R_0 R_1 R_2 R_3 R_4 R_5 R_f0 R_f1 R_f2 R_f3 R_f4 R_f5 lt_B1 B1_0
    generalize gW_v1 : (w1.alloc (.cells #[.int .u8 (c 0), .int .u8 (c 1), .int .u8 (c 2), .int .u8 (c 3)] 23)) = v1 at *
    clear gW_v1
    have G := Lib.hid t_G
    clear t_G
    have R := Lib.hid t_R
    clear t_R
    have B1 := Lib.hid t_B1
    clear t_B1
    have B2 := Lib.hid t_B2
    clear t_B2
    have OX1 := Lib.hid t_OX1
    clear t_OX1
    clear SB2h
    have SB3h := Lib.hid SB3
    clear SB3
    have lt_G := G.out.lt
    have G_0 := G.out.cell 0
    have G_1 := G.out.cell 1
    have G_2 := G.out.cell 2
    have G_3 := G.out.cell 3
    simp at G_0 G_1 G_2 G_3
    have lt_R := R.out.lt
    have R_0 := R.out.cell 0
    have R_1 := R.out.cell 1
    have R_2 := R.out.cell 2
    have R_3 := R.out.cell 3
    have R_4 := R.out.cell 4
    have R_5 := R.out.cell 5
    have R_f0 := R.out.frozen 0
    have R_f1 := R.out.frozen 1
    have R_f2 := R.out.frozen 2
    have R_f3 := R.out.frozen 3
    have R_f4 := R.out.frozen 4
    have R_f5 := R.out.frozen 5
    simp at R_0 R_1 R_2 R_3 R_4 R_5
    have lt_B1 := B1.out.lt
    have B1_0 := B1.out.cell 0
    simp at B1_0
    have lt_B2 := B2.out.lt
    have B2_0 := B2.out.cell 0
    have B2_1 := B2.out.cell 1
    have B2_2 := B2.out.cell 2
    have B2_3 := B2.out.cell 3
    simp at B2_0 B2_1 B2_2 B2_3
    have szB_v1 := SB3h.out.size
    refine (repCol_any (w1.heap.size) (fun j => .int .u8 (c j)) n _ (fun _ => rfl) (mk_one c _ _ B2_0 B2_1 B2_2 B2_3) hn1 hn2).mono ?_
    rintro e w2 ⟨⟨X2, rfl, hX2, hbX2⟩, bel2⟩
    have OX2 := Lib.hid (own_of_blk hbX2 (cellsR_len 4 _ n) hX2 (by unfold maxLen; omega))
    clear hbX2
    have t_G := G.out.below bel2
    clear G
    have G := Lib.hid t_G
    clear t_G
    have t_R := R.out.below bel2
    clear R
    have R := Lib.hid t_R
    clear t_R
    have t_B1 := B1.out.below bel2
    clear B1
    have B1 := Lib.hid t_B1
    clear t_B1
    have t_B2 := B2.out.below bel2
    clear B2
    have B2 := Lib.hid t_B2
    clear t_B2
    have t_OX1 := own_below OX1.out bel2
    clear OX1
    have OX1 := Lib.hid t_OX1
    clear t_OX1
    have SB4 : Below w.heap.size w w2 := SB3h.out.trans (bel2.mono SB3h.out.size)
    clear SB3h
    have SB4h := Lib.hid SB4
    clear SB4 bel2
    have lt_G := G.out.lt
    have G_0 := G.out.cell 0
    have G_1 := G.out.cell 1
    have G_2 := G.out.cell 2
    have G_3 := G.out.cell 3
    simp at G_0 G_1 G_2 G_3
    have lt_R := R.out.lt
    have R_0 := R.out.cell 0
    have R_1 := R.out.cell 1
    have R_2 := R.out.cell 2
    have R_3 := R.out.cell 3
    have R_4 := R.out.cell 4
    have R_5 := R.out.cell 5
    have R_f0 := R.out.frozen 0
    have R_f1 := R.out.frozen 1
    have R_f2 := R.out.frozen 2
    have R_f3 := R.out.frozen 3
    have R_f4 := R.out.frozen 4
    have R_f5 := R.out.frozen 5
    simp at R_0 R_1 R_2 R_3 R_4 R_5
    have lt_B1 := B1.out.lt
    have B1_0 := B1.out.cell 0
    simp at B1_0
    have lt_B2 := B2.out.lt
    have B2_0 := B2.out.cell 0
    have B2_1 := B2.out.cell 1
    have B2_2 := B2.out.cell 2
    have B2_3 := B2.out.cell 3
    simp at B2_0 B2_1 B2_2 B2_3
    have szB_w2 := SB4h.out.size
    go_wp2_with fail
    have NE_G_B3 := Lib.hid (show w.heap.size ≠ w2.heap.size by omega)
    have NE_R_B3 := Lib.hid (show w.heap.size + 1 ≠ w2.heap.size by omega)
    have NE_B1_B3 := Lib.hid (show w.heap.size + 1 + 1 ≠ w2.heap.size by omega)
    have NE_B2_B3 := Lib.hid (show w1.heap.size ≠ w2.heap.size by omega)
    have s_G := G.out
    have s_R := R.out
    have s_B1 := B1.out
    have s_B2 := B2.out
    have s_OX1 := OX1.out
    have s_OX2 := OX2.out
    replace s_G := s_G.alloc (.cells #[.int .i64 (-2048)] 3)
    replace s_R := s_R.alloc (.cells #[.int .i64 (-2048)] 3)
    replace s_B1 := s_B1.alloc (.cells #[.int .i64 (-2048)] 3)
    replace s_B2 := s_B2.alloc (.cells #[.int .i64 (-2048)] 3)
    replace s_OX1 := World.ownsRow.alloc s_OX1 (.cells #[.int .i64 (-2048)] 3)
    replace s_OX2 := World.ownsRow.alloc s_OX2 (.cells #[.int .i64 (-2048)] 3)
    have s_B3 : HasBlk (w2.alloc (.cells #[.int .i64 (-2048)] 3)) (w2.heap.size) 3 #[.int .i64 (-2048)] := by simpa using hasBlk_new w2 3 #[.int .i64 (-2048)]
    have t_G : HasBlk (w2.alloc (.cells #[.int .i64 (-2048)] 3)) (w.heap.size) 23 #[.int .u8 (c 0), .int .u8 (c 1), .int .u8 (c 2), .int .u8 (c 3)] := by simpa using s_G
    clear s_G G
    have t_R : HasBlk (w2.alloc (.cells #[.int .i64 (-2048)] 3)) (w.heap.size + 1) 29 #[.int .i64 0, .int .i64 0, .slice none 0 0, .slice none 0 0, .slice none 0 0, .slice none 0 0] := by simpa using s_R
    clear s_R R
    have t_B1 : HasBlk (w2.alloc (.cells #[.int .i64 (-2048)] 3)) (w.heap.size + 1 + 1) 3 #[.int .i64 (-1)] := by simpa using s_B1
    clear s_B1 B1
    have t_B2 : HasBlk (w2.alloc (.cells #[.int .i64 (-2048)] 3)) (w1.heap.size) 23 #[.int .u8 (c 0), .int .u8 (c 1), .int .u8 (c 2), .int .u8 (c 3)] := by simpa using s_B2
    clear s_B2 B2
    have t_B3 : HasBlk (w2.alloc (.cells #[.int .i64 (-2048)] 3)) (w2.heap.size) 3 #[.int .i64 (-2048)] := by simpa using s_B3
    clear s_B3
    have t_OX1 : ((w2.alloc (.cells #[.int .i64 (-2048)] 3))).ownsRow (v0.heap.size) 3 1 (.slice (some ⟨X1, 0, none⟩) (n) (n)) (n) (cellsR 1 (fun _ j => .int .i64 (-1)) n) := s_OX1
    clear s_OX1 OX1
    have t_OX2 : ((w2.alloc (.cells #[.int .i64 (-2048)] 3))).ownsRow (v1.heap.size) 23 4 (.slice (some ⟨X2, 0, none⟩) (n) (n)) (n) (cellsR 4 (fun _ j => .int .u8 (c j)) n) := s_OX2
    clear s_OX2 OX2
    have SB5 : Below w.heap.size w (w2.alloc (.cells #[.int .i64 (-2048)] 3)) := by
      have bel0 := SB4h.out
      repeat' (first | exact Below.refl _ _ | assumption | apply Below.drew | refine Below.setCell ?_ (by first | omega | (simp; done) | (simp; omega)) _ | refine Below.alloc ?_ (by first | omega | (simp; done) | (simp; omega)) _)
    clear lt_G G_0 G_1 G_2 G_3 lt_R R_0 R_1 R_2 R_3 R_4 R_5 R_f0 R_f1 R_f2 R_f3 R_f4 R_f5 lt_B1 B1_0 lt_B2 B2_0 B2_1 B2_2 B2_3
    generalize gW_v2 : (w2.alloc (.cells #[.int .i64 (-2048)] 3)) = v2 at *
    clear gW_v2
    have G := Lib.hid t_G
    clear t_G
    have R := Lib.hid t_R
    clear t_R
    have B1 := Lib.hid t_B1
    clear t_B1
    have B2 := Lib.hid t_B2
    clear t_B2
    have B3 := Lib.hid t_B3
    clear t_B3
    have OX1 := Lib.hid t_OX1
    clear t_OX1
    have OX2 := Lib.hid t_OX2
    clear t_OX2
    clear SB4h
    have SB5h := Lib.hid SB5
    clear SB5
    have lt_G := G.out.lt
    have G_0 := G.out.cell 0
    have G_1 := G.out.cell 1
    have G_2 := G.out.cell 2
    have G_3 := G.out.cell 3
    simp at G_0 G_1 G_2 G_3
    have lt_R := R.out.lt
    have R_0 := R.out.cell 0
    have R_1 := R.out.cell 1
    have R_2 := R.out.cell 2
    have R_3 := R.out.cell 3
    have R_4 := R.out.cell 4
    have R_5 := R.out.cell 5
    have R_f0 := R.out.frozen 0
    have R_f1 := R.out.frozen 1
    have R_f2 := R.out.frozen 2
    have R_f3 := R.out.frozen 3
    have R_f4 := R.out.frozen 4
    have R_f5 := R.out.frozen 5
    simp at R_0 R_1 R_2 R_3 R_4 R_5
    have lt_B1 := B1.out.lt
    have B1_0 := B1.out.cell 0
    simp at B1_0
    have lt_B2 := B2.out.lt
    have B2_0 := B2.out.cell 0
    have B2_1 := B2.out.cell 1
    have B2_2 := B2.out.cell 2
    have B2_3 := B2.out.cell 3
    simp at B2_0 B2_1 B2_2 B2_3
    have lt_B3 := B3.out.lt
    have B3_0 := B3.out.cell 0
    simp at B3_0
    have szB_v2 := SB5h.out.size
    refine (repInt_any (w2.heap.size) (fun _ => .int .i64 (-2048)) n _ (fun _ => rfl) (fun j hj => by (obtain rfl : j = 0 := (by omega)); exact B3_0) hn1 hn2).mono ?_
    rintro e w3 ⟨⟨X3, rfl, hX3, hbX3⟩, bel3⟩
    have OX3 := Lib.hid (own_of_blk hbX3 (cellsR_len 1 _ n) hX3 (by unfold maxLen; omega))
    clear hbX3
    have t_G := G.out.below bel3
    clear G
    have G := Lib.hid t_G
    clear t_G
    have t_R := R.out.below bel3
    clear R
    have R := Lib.hid t_R
    clear t_R
    have t_B1 := B1.out.below bel3
    clear B1
    have B1 := Lib.hid t_B1
    clear t_B1
    have t_B2 := B2.out.below bel3
    clear B2
    have B2 := Lib.hid t_B2
    clear t_B2
    have t_B3 := B3.out.below bel3
    clear B3
    have B3 := Lib.hid t_B3
    clear t_B3
    have t_OX1 := own_below OX1.out bel3
    clear OX1
    have OX1 := Lib.hid t_OX1
    clear t_OX1
    have t_OX2 := own_below OX2.out bel3
    clear OX2
    have OX2 := Lib.hid t_OX2
    clear t_OX2
    have SB6 : Below w.heap.size w w3 := SB5h.out.trans (bel3.mono SB5h.out.size)
    clear SB5h
    have SB6h := Lib.hid SB6
    clear SB6 bel3
    have lt_G := G.out.lt
    have G_0 := G.out.cell 0
    have G_1 := G.out.cell 1
    have G_2 := G.out.cell 2
    have G_3 := G.out.cell 3
    simp at G_0 G_1 G_2 G_3
    have lt_R := R.out.lt
    have R_0 := R.out.cell 0
    have R_1 := R.out.cell 1
    have R_2 := R.out.cell 2
    have R_3 := R.out.cell 3
    have R_4 := R.out.cell 4
    have R_5 := R.out.cell 5
    have R_f0 := R.out.frozen 0
    have R_f1 := R.out.frozen 1
    have R_f2 := R.out.frozen 2
    have R_f3 := R.out.frozen 3
    have R_f4 := R.out.frozen 4
    have R_f5 := R.out.frozen 5
    simp at R_0 R_1 R_2 R_3 R_4 R_5
    have lt_B1 := B1.out.lt
    have B1_0 := B1.out.cell 0
    simp at B1_0
    have lt_B2 := B2.out.lt
    have B2_0 := B2.out.cell 0
    have B2_1 := B2.out.cell 1
    have B2_2 := B2.out.cell 2
    have B2_3 := B2.out.cell 3
    simp at B2_0 B2_1 B2_2 B2_3
    have lt_B3 := B3.out.lt
    have B3_0 := B3.out.cell 0
    simp at B3_0
    have szB_w3 := SB6h.out.size
    go_wp2_with fail
    clear lt_G G_0 G_1 G_2 G_3 lt_R R_0 R_1 R_2 R_3 R_4 R_5 R_f0 R_f1 R_f2 R_f3 R_f4 R_f5 lt_B1 B1_0 lt_B2 B2_0 B2_1 B2_2 B2_3 lt_B3 B3_0
    refine (cloneInt (some ⟨X1, 0, none⟩) n n (fun _ _ => .int .i64 (-1)) _ (Row.of_cells OX1.out) (fun _ _ => rfl) (by omega)).mono ?_
    rintro e w4 ⟨⟨A4, k4, rfl, ho4⟩, bel4⟩
    have OX4 := Lib.hid ho4
    clear ho4
    have t_G := G.out.below bel4
    clear G
    have G := Lib.hid t_G
    clear t_G
    have t_R := R.out.below bel4
    clear R
    have R := Lib.hid t_R
    clear t_R
    have t_B1 := B1.out.below bel4
    clear B1
    have B1 := Lib.hid t_B1
    clear t_B1
    have t_B2 := B2.out.below bel4
    clear B2
    have B2 := Lib.hid t_B2
    clear t_B2
    have t_B3 := B3.out.below bel4
    clear B3
    have B3 := Lib.hid t_B3
    clear t_B3
    have t_OX1 := own_below OX1.out bel4
    clear OX1
    have OX1 := Lib.hid t_OX1
    clear t_OX1
    have t_OX2 := own_below OX2.out bel4
    clear OX2
    have OX2 := Lib.hid t_OX2
    clear t_OX2
    have t_OX3 := own_below OX3.out bel4
    clear OX3
    have OX3 := Lib.hid t_OX3
    clear t_OX3
    have SB7 : Below w.heap.size w w4 := SB6h.out.trans (bel4.mono SB6h.out.size)
    clear SB6h
    have SB7h := Lib.hid SB7
    clear SB7 bel4
    have lt_G := G.out.lt
    have G_0 := G.out.cell 0
    have G_1 := G.out.cell 1
    have G_2 := G.out.cell 2
    have G_3 := G.out.cell 3
    simp at G_0 G_1 G_2 G_3
    have lt_R := R.out.lt
    have R_0 := R.out.cell 0
    have R_1 := R.out.cell 1
    have R_2 := R.out.cell 2
    have R_3 := R.out.cell 3
    have R_4 := R.out.cell 4
    have R_5 := R.out.cell 5
    have R_f0 := R.out.frozen 0
    have R_f1 := R.out.frozen 1
    have R_f2 := R.out.frozen 2
    have R_f3 := R.out.frozen 3
    have R_f4 := R.out.frozen 4
    have R_f5 := R.out.frozen 5
    simp at R_0 R_1 R_2 R_3 R_4 R_5
    have lt_B1 := B1.out.lt
    have B1_0 := B1.out.cell 0
    simp at B1_0
    have lt_B2 := B2.out.lt
    have B2_0 := B2.out.cell 0
    have B2_1 := B2.out.cell 1
    have B2_2 := B2.out.cell 2
    have B2_3 := B2.out.cell 3
    simp at B2_0 B2_1 B2_2 B2_3
    have lt_B3 := B3.out.lt
    have B3_0 := B3.out.cell 0
    simp at B3_0
    have szB_w4 := SB7h.out.size
    have GX1 := Lib.hid (R.out.ne_own OX1.out (by decide))
    have GX2 := Lib.hid (R.out.ne_own OX2.out (by decide))
    have GX3 := Lib.hid (R.out.ne_own OX3.out (by decide))
    have GX4 := Lib.hid (R.out.ne_own OX4.out (by decide))
    go_wp2
    refine bodyPost_ret (v := .tuple #[.agg #[.int .i64 W, .int .i64 H, .slice (some ⟨X2, 0, none⟩) n n, .slice (some ⟨X3, 0, none⟩) n n, .slice (some ⟨X1, 0, none⟩) n n, .slice A4 n k4], .int .i64 0]) (by simp [results, Try.results13, go_sem, *]) rfl ⟨⟨⟨some ⟨X2, 0, none⟩, some ⟨X3, 0, none⟩, some ⟨X1, 0, none⟩, A4, n, n, n, k4⟩, FDnew W H n c, 0, rfl, ⟨Row.of_cells (base := v1.heap.size) (e := 23) (c := n) ?_, IS.of_R (B := v2.heap.size) (e := 3) (c := n) ?_, IS.of_R (B := v0.heap.size) (e := 3) (c := n) ?_, IS.of_R (B := w3.heap.size) (e := 3) (c := k4) ?_⟩, .inl ⟨HW.out, rfl, n, hN, rfl⟩⟩, ?_⟩
    · exact (ownsRow_setCell_other (a := ⟨w.heap.size + 1, 5, none⟩) (ownsRow_setCell_other (a := ⟨w.heap.size + 1, 4, none⟩) (ownsRow_setCell_other (a := ⟨w.heap.size + 1, 3, none⟩) (ownsRow_setCell_other (a := ⟨w.heap.size + 1, 2, none⟩) (ownsRow_setCell_other (a := ⟨w.heap.size + 1, 1, none⟩) (ownsRow_setCell_other (a := ⟨w.heap.size + 1, 0, none⟩) OX2.out GX2.out _) GX2.out _) GX2.out _) GX2.out _) GX2.out _) GX2.out _)
    · exact (ownsRow_setCell_other (a := ⟨w.heap.size + 1, 5, none⟩) (ownsRow_setCell_other (a := ⟨w.heap.size + 1, 4, none⟩) (ownsRow_setCell_other (a := ⟨w.heap.size + 1, 3, none⟩) (ownsRow_setCell_other (a := ⟨w.heap.size + 1, 2, none⟩) (ownsRow_setCell_other (a := ⟨w.heap.size + 1, 1, none⟩) (ownsRow_setCell_other (a := ⟨w.heap.size + 1, 0, none⟩) OX3.out GX3.out _) GX3.out _) GX3.out _) GX3.out _) GX3.out _) GX3.out _)
    · exact (ownsRow_setCell_other (a := ⟨w.heap.size + 1, 5, none⟩) (ownsRow_setCell_other (a := ⟨w.heap.size + 1, 4, none⟩) (ownsRow_setCell_other (a := ⟨w.heap.size + 1, 3, none⟩) (ownsRow_setCell_other (a := ⟨w.heap.size + 1, 2, none⟩) (ownsRow_setCell_other (a := ⟨w.heap.size + 1, 1, none⟩) (ownsRow_setCell_other (a := ⟨w.heap.size + 1, 0, none⟩) OX1.out GX1.out _) GX1.out _) GX1.out _) GX1.out _) GX1.out _) GX1.out _)
    · exact (ownsRow_setCell_other (a := ⟨w.heap.size + 1, 5, none⟩) (ownsRow_setCell_other (a := ⟨w.heap.size + 1, 4, none⟩) (ownsRow_setCell_other (a := ⟨w.heap.size + 1, 3, none⟩) (ownsRow_setCell_other (a := ⟨w.heap.size + 1, 2, none⟩) (ownsRow_setCell_other (a := ⟨w.heap.size + 1, 1, none⟩) (ownsRow_setCell_other (a := ⟨w.heap.size + 1, 0, none⟩) OX4.out GX4.out _) GX4.out _) GX4.out _) GX4.out _) GX4.out _) GX4.out _)
    · exact (Below.setCell (p := ⟨w.heap.size + 1, 5, none⟩) (Below.setCell (p := ⟨w.heap.size + 1, 4, none⟩) (Below.setCell (p := ⟨w.heap.size + 1, 3, none⟩) (Below.setCell (p := ⟨w.heap.size + 1, 2, none⟩) (Below.setCell (p := ⟨w.heap.size + 1, 1, none⟩) (Below.setCell (p := ⟨w.heap.size + 1, 0, none⟩) SB7h.out (Nat.le_succ _) _) (Nat.le_succ _) _) (Nat.le_succ _) _) (Nat.le_succ _) _) (Nat.le_succ _) _) (Nat.le_succ _) _)
end Go.Proofs.Ytibeoeooajelgaa
