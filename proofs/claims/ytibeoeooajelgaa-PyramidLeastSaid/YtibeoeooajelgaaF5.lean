/- frame.twin. -/
import Derived.Test.YtibeoeooajelgaaFO
namespace Go.Proofs.Ytibeoeooajelgaa
open Go.RowKit
set_option linter.unusedVariables false

set_option maxRecDepth 100000 in
set_option maxHeartbeats 8000000 in
theorem twin_any (p : FP) (f : FD) (x y : Int) (w : World) (h : FOk w p f) : Calls Try.prog 54 #[.agg #[.int .i64 f.W, .int .i64 f.H, .slice p.ac f.nc p.kc, .slice p.ad f.nd p.kd, .slice p.ai f.ni p.ki, .slice p.a4 f.nt p.kt], .int .i64 x, .int .i64 y] w fun e w' => TwinR f x y w.heap.size e w' ∧ Below w.heap.size w w' := by
  have hpl := fun (hm : f.May) (hi : f.In x y) => FD.place hm hi
  obtain ⟨W, H, nc, nd, ni, nt, C, D, I, T⟩ := f
  obtain ⟨ac, ad, ai, a4, kc, kd, ki, kt⟩ := p
  have hck := Lib.hid (fun W' (hb : Below w.heap.size w W') => check_any ⟨ac, ad, ai, a4, kc, kd, ki, kt⟩ ⟨W, H, nc, nd, ni, nt, C, D, I, T⟩ W' (h.below hb))
  obtain ⟨hC, hD, hI, hT⟩ := h
  dsimp only at hC hD hI hT ⊢
  have HC := Lib.hid hC
  have HD := Lib.hid hD
  have HI := Lib.hid hI
  have HT := Lib.hid hT
  have Hpl := Lib.hid hpl
  clear hC hD hI hT hpl
  go_enter Try.func54, Try.ntmps54
  go_wp2_with fail
  have NE_P_R := Lib.hid (show w.heap.size ≠ w.heap.size + 1 by omega)
  have s_P : HasBlk (w.alloc (.cells #[.int .i64 W, .int .i64 H, .slice ac nc kc, .slice ad nd kd, .slice ai ni ki, .slice a4 nt kt] 29)) (w.heap.size) 29 #[.int .i64 W, .int .i64 H, .slice ac nc kc, .slice ad nd kd, .slice ai ni ki, .slice a4 nt kt] := by simpa using hasBlk_new w 29 #[.int .i64 W, .int .i64 H, .slice ac nc kc, .slice ad nd kd, .slice ai ni ki, .slice a4 nt kt]
  replace s_P := s_P.alloc (.cells #[.int .i64 0, .int .i64 0, .slice none 0 0, .slice none 0 0, .slice none 0 0, .slice none 0 0] 90)
  have s_R : HasBlk ((w.alloc (.cells #[.int .i64 W, .int .i64 H, .slice ac nc kc, .slice ad nd kd, .slice ai ni ki, .slice a4 nt kt] 29)).alloc (.cells #[.int .i64 0, .int .i64 0, .slice none 0 0, .slice none 0 0, .slice none 0 0, .slice none 0 0] 90)) (w.heap.size + 1) 90 #[.int .i64 0, .int .i64 0, .slice none 0 0, .slice none 0 0, .slice none 0 0, .slice none 0 0] := by simpa using hasBlk_new (w.alloc (.cells #[.int .i64 W, .int .i64 H, .slice ac nc kc, .slice ad nd kd, .slice ai ni ki, .slice a4 nt kt] 29)) 90 #[.int .i64 0, .int .i64 0, .slice none 0 0, .slice none 0 0, .slice none 0 0, .slice none 0 0]
  have t_P : HasBlk ((w.alloc (.cells #[.int .i64 W, .int .i64 H, .slice ac nc kc, .slice ad nd kd, .slice ai ni ki, .slice a4 nt kt] 29)).alloc (.cells #[.int .i64 0, .int .i64 0, .slice none 0 0, .slice none 0 0, .slice none 0 0, .slice none 0 0] 90)) (w.heap.size) 29 #[.int .i64 W, .int .i64 H, .slice ac nc kc, .slice ad nd kd, .slice ai ni ki, .slice a4 nt kt] := by simpa using s_P
  clear s_P
  have t_R : HasBlk ((w.alloc (.cells #[.int .i64 W, .int .i64 H, .slice ac nc kc, .slice ad nd kd, .slice ai ni ki, .slice a4 nt kt] 29)).alloc (.cells #[.int .i64 0, .int .i64 0, .slice none 0 0, .slice none 0 0, .slice none 0 0, .slice none 0 0] 90)) (w.heap.size + 1) 90 #[.int .i64 0, .int .i64 0, .slice none 0 0, .slice none 0 0, .slice none 0 0, .slice none 0 0] := by simpa using s_R
  clear s_R
  have SB1 : Below w.heap.size w ((w.alloc (.cells #[.int .i64 W, .int .i64 H, .slice ac nc kc, .slice ad nd kd, .slice ai ni ki, .slice a4 nt kt] 29)).alloc (.cells #[.int .i64 0, .int .i64 0, .slice none 0 0, .slice none 0 0, .slice none 0 0, .slice none 0 0] 90)) := by
    repeat' (first | exact Below.refl _ _ | assumption | apply Below.drew | refine Below.setCell ?_ (by first | omega | (simp; done) | (simp; omega)) _ | refine Below.alloc ?_ (by first | omega | (simp; done) | (simp; omega)) _)
  generalize gW_v0 : ((w.alloc (.cells #[.int .i64 W, .int .i64 H, .slice ac nc kc, .slice ad nd kd, .slice ai ni ki, .slice a4 nt kt] 29)).alloc (.cells #[.int .i64 0, .int .i64 0, .slice none 0 0, .slice none 0 0, .slice none 0 0, .slice none 0 0] 90)) = v0 at *
  clear gW_v0
  have P := Lib.hid t_P
  clear t_P
  have R := Lib.hid t_R
  clear t_R
  have SB1h := Lib.hid SB1
  clear SB1
  refine (hck.out _ SB1h.out).mono ?_
  rintro e w1 ⟨⟨z, rfl, hz⟩, bel1⟩
  have t_P := P.out.below bel1
  clear P
  have P := Lib.hid t_P
  clear t_P
  have t_R := R.out.below bel1
  clear R
  have R := Lib.hid t_R
  clear t_R
  have SB2 : Below w.heap.size w w1 := SB1h.out.trans (bel1.mono SB1h.out.size)
  clear SB1h
  have SB2h := Lib.hid SB2
  clear SB2 bel1
  have lt_P := P.out.lt
  have P_0 := P.out.cell 0
  have P_1 := P.out.cell 1
  have P_2 := P.out.cell 2
  have P_3 := P.out.cell 3
  have P_4 := P.out.cell 4
  have P_5 := P.out.cell 5
  have P_f0 := P.out.frozen 0
  have P_f1 := P.out.frozen 1
  have P_f2 := P.out.frozen 2
  have P_f3 := P.out.frozen 3
  have P_f4 := P.out.frozen 4
  have P_f5 := P.out.frozen 5
  simp at P_0 P_1 P_2 P_3 P_4 P_5
  have lt_R := R.out.lt
  have R_0 := R.out.cell 0
  have R_1 := R.out.cell 1
  have R_2 := R.out.cell 2
  have R_3 := R.out.cell 3
  have R_4 := R.out.cell 4
  have R_5 := R.out.cell 5
  have R_f0 := R.out.frozen 0
  have R_f1 := R.out.frozen 1
  have R_f2 := R.out.frozen 2
  have R_f3 := R.out.frozen 3
  have R_f4 := R.out.frozen 4
  have R_f5 := R.out.frozen 5
  simp at R_0 R_1 R_2 R_3 R_4 R_5
  have szB_w1 := SB2h.out.size
  clear hck
  rcases hz with ⟨hm, rfl⟩ | ⟨hm, rfl⟩
  rotate_left
  · have Hm := Lib.hid hm
    clear hm
    go_wp2
    refine bodyPost_ret (v := .tuple #[.agg #[.int .i64 0, .int .i64 0, .slice none 0 0, .slice none 0 0, .slice none 0 0, .slice none 0 0], .int .i64 0, .int .i64 8]) (by simp [results, Try.results54, go_sem, *]) rfl ⟨.inl ⟨Hm.out, rfl⟩, ?_⟩
    exact (Below.setCell (p := ⟨w.heap.size + 1, 5, none⟩) (Below.setCell (p := ⟨w.heap.size + 1, 4, none⟩) (Below.setCell (p := ⟨w.heap.size + 1, 3, none⟩) (Below.setCell (p := ⟨w.heap.size + 1, 2, none⟩) (Below.setCell (p := ⟨w.heap.size + 1, 1, none⟩) (Below.setCell (p := ⟨w.heap.size + 1, 0, none⟩) SB2h.out (Nat.le_succ _) _) (Nat.le_succ _) _) (Nat.le_succ _) _) (Nat.le_succ _) _) (Nat.le_succ _) _) (Nat.le_succ _) _)
  have Hm := Lib.hid hm
  by_cases h0 : x < 0
  · have g0 : decide (x < 0) = true := decide_eq_true h0
    have Hk := Lib.hid h0
    clear h0 hm
    go_wp2
    refine bodyPost_ret (v := .tuple #[.agg #[.int .i64 0, .int .i64 0, .slice none 0 0, .slice none 0 0, .slice none 0 0, .slice none 0 0], .int .i64 0, .int .i64 2]) (by simp [results, Try.results54, go_sem, *]) rfl ⟨.inr (.inl ⟨Hm.out, fun q => by have := Hk.out; unfold FD.In at q; dsimp only at q; omega, rfl⟩), ?_⟩
    exact (Below.setCell (p := ⟨w.heap.size + 1, 5, none⟩) (Below.setCell (p := ⟨w.heap.size + 1, 4, none⟩) (Below.setCell (p := ⟨w.heap.size + 1, 3, none⟩) (Below.setCell (p := ⟨w.heap.size + 1, 2, none⟩) (Below.setCell (p := ⟨w.heap.size + 1, 1, none⟩) (Below.setCell (p := ⟨w.heap.size + 1, 0, none⟩) SB2h.out (Nat.le_succ _) _) (Nat.le_succ _) _) (Nat.le_succ _) _) (Nat.le_succ _) _) (Nat.le_succ _) _) (Nat.le_succ _) _)
  have g0 : decide (x < 0) = false := decide_eq_false h0
  by_cases h1 : W ≤ x
  · have g1 : decide (W ≤ x) = true := decide_eq_true h1
    have Hk := Lib.hid h1
    clear h1 hm
    go_wp2
    refine bodyPost_ret (v := .tuple #[.agg #[.int .i64 0, .int .i64 0, .slice none 0 0, .slice none 0 0, .slice none 0 0, .slice none 0 0], .int .i64 0, .int .i64 2]) (by simp [results, Try.results54, go_sem, *]) rfl ⟨.inr (.inl ⟨Hm.out, fun q => by have := Hk.out; unfold FD.In at q; dsimp only at q; omega, rfl⟩), ?_⟩
    exact (Below.setCell (p := ⟨w.heap.size + 1, 5, none⟩) (Below.setCell (p := ⟨w.heap.size + 1, 4, none⟩) (Below.setCell (p := ⟨w.heap.size + 1, 3, none⟩) (Below.setCell (p := ⟨w.heap.size + 1, 2, none⟩) (Below.setCell (p := ⟨w.heap.size + 1, 1, none⟩) (Below.setCell (p := ⟨w.heap.size + 1, 0, none⟩) SB2h.out (Nat.le_succ _) _) (Nat.le_succ _) _) (Nat.le_succ _) _) (Nat.le_succ _) _) (Nat.le_succ _) _) (Nat.le_succ _) _)
  have g1 : decide (W ≤ x) = false := decide_eq_false h1
  by_cases h2 : y < 0
  · have g2 : decide (y < 0) = true := decide_eq_true h2
    have Hk := Lib.hid h2
    clear h2 hm
    go_wp2
    refine bodyPost_ret (v := .tuple #[.agg #[.int .i64 0, .int .i64 0, .slice none 0 0, .slice none 0 0, .slice none 0 0, .slice none 0 0], .int .i64 0, .int .i64 2]) (by simp [results, Try.results54, go_sem, *]) rfl ⟨.inr (.inl ⟨Hm.out, fun q => by have := Hk.out; unfold FD.In at q; dsimp only at q; omega, rfl⟩), ?_⟩
    exact (Below.setCell (p := ⟨w.heap.size + 1, 5, none⟩) (Below.setCell (p := ⟨w.heap.size + 1, 4, none⟩) (Below.setCell (p := ⟨w.heap.size + 1, 3, none⟩) (Below.setCell (p := ⟨w.heap.size + 1, 2, none⟩) (Below.setCell (p := ⟨w.heap.size + 1, 1, none⟩) (Below.setCell (p := ⟨w.heap.size + 1, 0, none⟩) SB2h.out (Nat.le_succ _) _) (Nat.le_succ _) _) (Nat.le_succ _) _) (Nat.le_succ _) _) (Nat.le_succ _) _) (Nat.le_succ _) _)
  have g2 : decide (y < 0) = false := decide_eq_false h2
  by_cases h3 : H ≤ y
  · have g3 : decide (H ≤ y) = true := decide_eq_true h3
    have Hk := Lib.hid h3
    clear h3 hm
    go_wp2
    refine bodyPost_ret (v := .tuple #[.agg #[.int .i64 0, .int .i64 0, .slice none 0 0, .slice none 0 0, .slice none 0 0, .slice none 0 0], .int .i64 0, .int .i64 2]) (by simp [results, Try.results54, go_sem, *]) rfl ⟨.inr (.inl ⟨Hm.out, fun q => by have := Hk.out; unfold FD.In at q; dsimp only at q; omega, rfl⟩), ?_⟩
    exact (Below.setCell (p := ⟨w.heap.size + 1, 5, none⟩) (Below.setCell (p := ⟨w.heap.size + 1, 4, none⟩) (Below.setCell (p := ⟨w.heap.size + 1, 3, none⟩) (Below.setCell (p := ⟨w.heap.size + 1, 2, none⟩) (Below.setCell (p := ⟨w.heap.size + 1, 1, none⟩) (Below.setCell (p := ⟨w.heap.size + 1, 0, none⟩) SB2h.out (Nat.le_succ _) _) (Nat.le_succ _) _) (Nat.le_succ _) _) (Nat.le_succ _) _) (Nat.le_succ _) _) (Nat.le_succ _) _)
  have g3 : decide (H ≤ y) = false := decide_eq_false h3
  have hin : FD.In ⟨W, H, nc, nd, ni, nt, C, D, I, T⟩ x y := by unfold FD.In; dsimp only; omega
  obtain ⟨k, hk, hk1, hk2, hk3, hk4⟩ := Hpl.out hm hin
  obtain ⟨⟨m1, m2, m3, m4⟩, ⟨l1, l2, l3, l4⟩, _⟩ := hm
  dsimp only at hk hk1 hk2 hk3 hk4 m1 m2 m3 m4 l1 l2 l3 l4
  obtain ⟨b0, b1⟩ := mul_bound m1 m2 m3 m4
  obtain rfl : nd = nc := by omega
  obtain rfl : nd = ni := by omega
  obtain rfl : nd = nt := by omega
  have hnd : (nd : Int) ≤ 4096 := by omega
  have HK := Lib.hid (And.intro hk (And.intro hk1 hin))
  obtain ⟨Q, hQ⟩ : ∃ Q, y * W = Q := ⟨_, rfl⟩
  rw [hQ] at hk
  have q0 : 0 ≤ Q := by rw [← hQ]; exact Int.mul_nonneg (by omega) (by omega)
  have q1 : Q ≤ 4096 := by omega
  have wQ : IntKind.i64.wrap Q = Q := IntWalk.i64_in _ (by omega)
  have wk : IntKind.i64.wrap (k : Int) = k := IntWalk.i64_in _ (by omega)
  have HV := Lib.hid (show IntKind.i64.wrap (IntKind.i64.wrap (y * W) + x) = (k : Int) by rw [hQ, wQ, hk, wk])
  have hcC := Lib.hid (fun W' (hb : Below w.heap.size w W') => cloneCol ac nd kc (fun i j => .int .u8 (C i j)) W' (HC.out.below hb) (fun _ _ => rfl) (by omega))
  have hcD := Lib.hid (fun W' (hb : Below w.heap.size w W') => cloneInt ad nd kd (fun i _ => .int .i64 (D i)) W' (HD.out.row.below hb) (fun _ _ => rfl) (by omega))
  have hcI := Lib.hid (fun W' (hb : Below w.heap.size w W') => cloneInt ai nd ki (fun i _ => .int .i64 (I i)) W' (HI.out.row.below hb) (fun _ _ => rfl) (by omega))
  have hcT := Lib.hid (fun W' (hb : Below w.heap.size w W') => cloneInt a4 nd kt (fun i _ => .int .i64 (T i)) W' (HT.out.row.below hb) (fun _ _ => rfl) (by omega))
  clear HC HD HI HT Hpl m1 m2 m3 m4 l1 l2 l3 l4 b0 b1 hk1 hk2 hk3 hk4 hQ hin
  have hkp : Keeps (fun Wo => (Below w.heap.size w Wo ∧ w.heap.size ≤ Wo.heap.size) ∧ Wo.cell? ⟨w.heap.size, 0, none⟩ = some (.int .i64 W) ∧ Wo.cell? ⟨w.heap.size, 1, none⟩ = some (.int .i64 H) ∧ Wo.cell? ⟨w.heap.size, 2, none⟩ = some (.slice ac nd kc) ∧ Wo.cell? ⟨w.heap.size, 3, none⟩ = some (.slice ad nd kd) ∧ Wo.cell? ⟨w.heap.size, 4, none⟩ = some (.slice ai nd ki) ∧ Wo.cell? ⟨w.heap.size, 5, none⟩ = some (.slice a4 nd kt)) := by
    repeat' (first | exact Keeps.below _ | exact Keeps.size _ | exact Keeps.cell _ _ | apply Keeps.and)
  have hkp' : ∀ Wa Wb, Below Wa.heap.size Wa Wb → (fun Wo => (Below w.heap.size w Wo ∧ w.heap.size ≤ Wo.heap.size) ∧ Wo.cell? ⟨w.heap.size, 0, none⟩ = some (.int .i64 W) ∧ Wo.cell? ⟨w.heap.size, 1, none⟩ = some (.int .i64 H) ∧ Wo.cell? ⟨w.heap.size, 2, none⟩ = some (.slice ac nd kc) ∧ Wo.cell? ⟨w.heap.size, 3, none⟩ = some (.slice ad nd kd) ∧ Wo.cell? ⟨w.heap.size, 4, none⟩ = some (.slice ai nd ki) ∧ Wo.cell? ⟨w.heap.size, 5, none⟩ = some (.slice a4 nd kt)) Wa → (fun Wo => (Below w.heap.size w Wo ∧ w.heap.size ≤ Wo.heap.size) ∧ Wo.cell? ⟨w.heap.size, 0, none⟩ = some (.int .i64 W) ∧ Wo.cell? ⟨w.heap.size, 1, none⟩ = some (.int .i64 H) ∧ Wo.cell? ⟨w.heap.size, 2, none⟩ = some (.slice ac nd kc) ∧ Wo.cell? ⟨w.heap.size, 3, none⟩ = some (.slice ad nd kd) ∧ Wo.cell? ⟨w.heap.size, 4, none⟩ = some (.slice ai nd ki) ∧ Wo.cell? ⟨w.heap.size, 5, none⟩ = some (.slice a4 nd kt)) Wb := hkp
  have Hkp := Lib.hid hkp'
  clear hkp
  clear hkp'
  have hR : HasBlk w1 (w.heap.size + 1) 90 #[.int .i64 0, .int .i64 0, .slice none 0 0, .slice none 0 0, .slice none 0 0, .slice none 0 0] := R.out
  have RB := Lib.hid hR
  clear hR R_0 R_1 R_2 R_3 R_4 R_5 R_f0 R_f1 R_f2 R_f3 R_f4 R_f5
  have HB0 := SB2h.out
  have keepS : (fun Wo => (Below w.heap.size w Wo ∧ w.heap.size ≤ Wo.heap.size) ∧ Wo.cell? ⟨w.heap.size, 0, none⟩ = some (.int .i64 W) ∧ Wo.cell? ⟨w.heap.size, 1, none⟩ = some (.int .i64 H) ∧ Wo.cell? ⟨w.heap.size, 2, none⟩ = some (.slice ac nd kc) ∧ Wo.cell? ⟨w.heap.size, 3, none⟩ = some (.slice ad nd kd) ∧ Wo.cell? ⟨w.heap.size, 4, none⟩ = some (.slice ai nd ki) ∧ Wo.cell? ⟨w.heap.size, 5, none⟩ = some (.slice a4 nd kt)) w1.drew := ⟨⟨HB0.drew, HB0.size⟩, P_0, P_1, P_2, P_3, P_4, P_5⟩
  have nr1 : w.heap.size + 1 ≠ w.heap.size := by omega
  have nr2 : w.heap.size ≠ w.heap.size + 1 := by omega
  go_wp2_with fail
  go_region_held3 (fun Wo => (Below w.heap.size w Wo ∧ w.heap.size ≤ Wo.heap.size) ∧ Wo.cell? ⟨w.heap.size, 0, none⟩ = some (.int .i64 W) ∧ Wo.cell? ⟨w.heap.size, 1, none⟩ = some (.int .i64 H) ∧ Wo.cell? ⟨w.heap.size, 2, none⟩ = some (.slice ac nd kc) ∧ Wo.cell? ⟨w.heap.size, 3, none⟩ = some (.slice ad nd kd) ∧ Wo.cell? ⟨w.heap.size, 4, none⟩ = some (.slice ai nd ki) ∧ Wo.cell? ⟨w.heap.size, 5, none⟩ = some (.slice a4 nd kt))
    (first | with_reducible exact q10 | with_reducible exact q9 | with_reducible exact keepS | with_reducible exact Hkp.out _ _ hbel (by assumption) | fail "keep")
    (first | (go_at_call 77; (with_reducible refine (hcC.out _ ?_).mono ?_); exact (‹(Below w.heap.size w _ ∧ _) ∧ _›).1.1; rintro e w2 ⟨⟨A1, k1, rfl, ho1⟩, hbel⟩; have RB1 := Lib.hid (RB.out.drew.below hbel); have O1 := Lib.hid ho1)
           | (go_at_call 49; (with_reducible refine (hcD.out _ ?_).mono ?_); exact (‹(Below w.heap.size w _ ∧ _) ∧ _›).1.1; have Y3 := Lib.hid ((‹(Below w.heap.size w _ ∧ _) ∧ _›).1.2); rintro e w3 ⟨⟨A2, k2, rfl, ho2⟩, hbel⟩; have RB2 := Lib.hid (RB1.out.below hbel); have P1 := Lib.hid (own_below O1.out hbel); have O2 := Lib.hid ho2; have L2 := Lib.hid (fun j (hj : Value.ownBlock (.slice A2 nd k2) = some j) => (ho2.lt j hj).2))
           | (go_at_call 49; (with_reducible refine (hcI.out _ ?_).mono ?_); exact (‹(Below w.heap.size w _ ∧ _) ∧ _›).1.1; have Y4 := Lib.hid ((‹(Below w.heap.size w _ ∧ _) ∧ _›).1.2); rintro e w4 ⟨⟨A3, k3, rfl, ho3⟩, hbel⟩; have RB3 := Lib.hid (RB2.out.below hbel); have Q1 := Lib.hid (own_below P1.out hbel); have Q2 := Lib.hid (own_below O2.out hbel); have O3 := Lib.hid ho3; have L3 := Lib.hid (fun j (hj : Value.ownBlock (.slice A3 nd k3) = some j) => (ho3.lt j hj).2); have L23 := Lib.hid (fun j (hj : Value.ownBlock (.slice A2 nd k2) = some j) => Nat.lt_of_lt_of_le (L2.out j hj) hbel.size); have N23 := Lib.hid (ne_rows L2.out ho3))
           | (go_at_call 49; (with_reducible refine (hcT.out _ ?_).mono ?_); exact (‹(Below w.heap.size w _ ∧ _) ∧ _›).1.1; have Y5 := Lib.hid ((‹(Below w.heap.size w _ ∧ _) ∧ _›).1.2); rintro e w5 ⟨⟨A4, k4, rfl, ho4⟩, hbel⟩; have RB4 := Lib.hid (RB3.out.below hbel); have U1 := Lib.hid (own_below Q1.out hbel); have U2 := Lib.hid (own_below Q2.out hbel); have U3 := Lib.hid (own_below O3.out hbel); have O4 := Lib.hid ho4; have N24 := Lib.hid (ne_rows L23.out ho4); have N34 := Lib.hid (ne_rows L3.out ho4); have q9 := Hkp.out _ _ hbel (by assumption))
           | (have e := st6 (W := W) (H := H) (A1 := A1) (A2 := A2) (A3 := A3) (A4 := A4) (n1 := nd) (n2 := nd) (n3 := nd) (n4 := nd) (k1 := k1) (k2 := k2) (k3 := k3) (k4 := k4) RB4.out; simp [go_sem] at e; refine upon_store e ?_; clear e; have q10 : (fun Wo => (Below w.heap.size w Wo ∧ w.heap.size ≤ Wo.heap.size) ∧ Wo.cell? ⟨w.heap.size, 0, none⟩ = some (.int .i64 W) ∧ Wo.cell? ⟨w.heap.size, 1, none⟩ = some (.int .i64 H) ∧ Wo.cell? ⟨w.heap.size, 2, none⟩ = some (.slice ac nd kc) ∧ Wo.cell? ⟨w.heap.size, 3, none⟩ = some (.slice ad nd kd) ∧ Wo.cell? ⟨w.heap.size, 4, none⟩ = some (.slice ai nd ki) ∧ Wo.cell? ⟨w.heap.size, 5, none⟩ = some (.slice a4 nd kt)) ((((((w5.setCell ⟨w.heap.size + 1, 0, none⟩ (.int .i64 W)).setCell ⟨w.heap.size + 1, 1, none⟩ (.int .i64 H)).setCell ⟨w.heap.size + 1, 2, none⟩ (.slice A1 nd k1)).setCell ⟨w.heap.size + 1, 3, none⟩ (.slice A2 nd k2)).setCell ⟨w.heap.size + 1, 4, none⟩ (.slice A3 nd k3)).setCell ⟨w.heap.size + 1, 5, none⟩ (.slice A4 nd k4)) := ⟨⟨(Below.setCell (p := ⟨w.heap.size + 1, 5, none⟩) (Below.setCell (p := ⟨w.heap.size + 1, 4, none⟩) (Below.setCell (p := ⟨w.heap.size + 1, 3, none⟩) (Below.setCell (p := ⟨w.heap.size + 1, 2, none⟩) (Below.setCell (p := ⟨w.heap.size + 1, 1, none⟩) (Below.setCell (p := ⟨w.heap.size + 1, 0, none⟩) q9.1.1 (Nat.le_succ _) _) (Nat.le_succ _) _) (Nat.le_succ _) _) (Nat.le_succ _) _) (Nat.le_succ _) _) (Nat.le_succ _) _), by simpa using q9.1.2⟩, (cell_far6 nr1 _ _ _ _ _ _).trans q9.2.1, (cell_far6 nr1 _ _ _ _ _ _).trans q9.2.2.1, (cell_far6 nr1 _ _ _ _ _ _).trans q9.2.2.2.1, (cell_far6 nr1 _ _ _ _ _ _).trans q9.2.2.2.2.1, (cell_far6 nr1 _ _ _ _ _ _).trans q9.2.2.2.2.2.1, (cell_far6 nr1 _ _ _ _ _ _).trans q9.2.2.2.2.2.2⟩; have tR : HasBlk ((((((w5.setCell ⟨w.heap.size + 1, 0, none⟩ (.int .i64 W)).setCell ⟨w.heap.size + 1, 1, none⟩ (.int .i64 H)).setCell ⟨w.heap.size + 1, 2, none⟩ (.slice A1 nd k1)).setCell ⟨w.heap.size + 1, 3, none⟩ (.slice A2 nd k2)).setCell ⟨w.heap.size + 1, 4, none⟩ (.slice A3 nd k3)).setCell ⟨w.heap.size + 1, 5, none⟩ (.slice A4 nd k4)) (w.heap.size + 1) 90 #[.int .i64 W, .int .i64 H, .slice A1 nd k1, .slice A2 nd k2, .slice A3 nd k3, .slice A4 nd k4] := (by have := ((((((RB4.out.set 0 (.int .i64 W)).set 1 (.int .i64 H)).set 2 (.slice A1 nd k1)).set 3 (.slice A2 nd k2)).set 4 (.slice A3 nd k3)).set 5 (.slice A4 nd k4)); simpa using this); have y1 := RB4.out.ne_own U1.out (by decide); have t1 := (ownsRow_setCell_other (a := ⟨w.heap.size + 1, 5, none⟩) (ownsRow_setCell_other (a := ⟨w.heap.size + 1, 4, none⟩) (ownsRow_setCell_other (a := ⟨w.heap.size + 1, 3, none⟩) (ownsRow_setCell_other (a := ⟨w.heap.size + 1, 2, none⟩) (ownsRow_setCell_other (a := ⟨w.heap.size + 1, 1, none⟩) (ownsRow_setCell_other (a := ⟨w.heap.size + 1, 0, none⟩) U1.out y1 (.int .i64 W)) y1 (.int .i64 H)) y1 (.slice A1 nd k1)) y1 (.slice A2 nd k2)) y1 (.slice A3 nd k3)) y1 (.slice A4 nd k4)); have y2 := RB4.out.ne_own U2.out (by decide); have t2 := (ownsRow_setCell_other (a := ⟨w.heap.size + 1, 5, none⟩) (ownsRow_setCell_other (a := ⟨w.heap.size + 1, 4, none⟩) (ownsRow_setCell_other (a := ⟨w.heap.size + 1, 3, none⟩) (ownsRow_setCell_other (a := ⟨w.heap.size + 1, 2, none⟩) (ownsRow_setCell_other (a := ⟨w.heap.size + 1, 1, none⟩) (ownsRow_setCell_other (a := ⟨w.heap.size + 1, 0, none⟩) U2.out y2 (.int .i64 W)) y2 (.int .i64 H)) y2 (.slice A1 nd k1)) y2 (.slice A2 nd k2)) y2 (.slice A3 nd k3)) y2 (.slice A4 nd k4)); have y3 := RB4.out.ne_own U3.out (by decide); have t3 := (ownsRow_setCell_other (a := ⟨w.heap.size + 1, 5, none⟩) (ownsRow_setCell_other (a := ⟨w.heap.size + 1, 4, none⟩) (ownsRow_setCell_other (a := ⟨w.heap.size + 1, 3, none⟩) (ownsRow_setCell_other (a := ⟨w.heap.size + 1, 2, none⟩) (ownsRow_setCell_other (a := ⟨w.heap.size + 1, 1, none⟩) (ownsRow_setCell_other (a := ⟨w.heap.size + 1, 0, none⟩) U3.out y3 (.int .i64 W)) y3 (.int .i64 H)) y3 (.slice A1 nd k1)) y3 (.slice A2 nd k2)) y3 (.slice A3 nd k3)) y3 (.slice A4 nd k4)); have y4 := RB4.out.ne_own O4.out (by decide); have t4 := (ownsRow_setCell_other (a := ⟨w.heap.size + 1, 5, none⟩) (ownsRow_setCell_other (a := ⟨w.heap.size + 1, 4, none⟩) (ownsRow_setCell_other (a := ⟨w.heap.size + 1, 3, none⟩) (ownsRow_setCell_other (a := ⟨w.heap.size + 1, 2, none⟩) (ownsRow_setCell_other (a := ⟨w.heap.size + 1, 1, none⟩) (ownsRow_setCell_other (a := ⟨w.heap.size + 1, 0, none⟩) O4.out y4 (.int .i64 W)) y4 (.int .i64 H)) y4 (.slice A1 nd k1)) y4 (.slice A2 nd k2)) y4 (.slice A3 nd k3)) y4 (.slice A4 nd k4)); clear RB RB1 RB2 RB3 RB4 O1 P1 O2 Q1 Q2 O3 U1 U2 U3 O4 q9 hbel y1 y2 y3 y4; generalize ((((((w5.setCell ⟨w.heap.size + 1, 0, none⟩ (.int .i64 W)).setCell ⟨w.heap.size + 1, 1, none⟩ (.int .i64 H)).setCell ⟨w.heap.size + 1, 2, none⟩ (.slice A1 nd k1)).setCell ⟨w.heap.size + 1, 3, none⟩ (.slice A2 nd k2)).setCell ⟨w.heap.size + 1, 4, none⟩ (.slice A3 nd k3)).setCell ⟨w.heap.size + 1, 5, none⟩ (.slice A4 nd k4)) = w6 at *; have V1 := Lib.hid t1; have V2 := Lib.hid t2; have V3 := Lib.hid t3; have V4 := Lib.hid t4; have VR := Lib.hid tR; clear t1 t2 t3 t4 tR))
  go_wp2
  have r0 := VR.out.cell 0
  have r1 := VR.out.cell 1
  have r2 := VR.out.cell 2
  have r3 := VR.out.cell 3
  have r4 := VR.out.cell 4
  have r5 := VR.out.cell 5
  simp at r0 r1 r2 r3 r4 r5
  have hkk := HK.out.2.1
  have hv := HV.out
  refine bodyPost_ret (v := .tuple #[.agg #[.int .i64 W, .int .i64 H, .slice A1 nd k1, .slice A2 nd k2, .slice A3 nd k3, .slice A4 nd k4], .int .i64 k, .int .i64 0]) (by simp [results, Try.results54, go_sem, *]) rfl ⟨.inr (.inr ⟨Hm.out, HK.out.2.2, ⟨A1, A2, A3, A4, k1, k2, k3, k4⟩, k, HK.out.1, ⟨hkk, hkk, hkk, hkk⟩, rfl, ⟨own_base V1.out HB0.size, own_base V2.out Y3.out, own_base V3.out Y4.out, own_base V4.out Y5.out, N23.out, N24.out, N34.out⟩⟩), ?_⟩
  exact q10.1.1
end Go.Proofs.Ytibeoeooajelgaa
