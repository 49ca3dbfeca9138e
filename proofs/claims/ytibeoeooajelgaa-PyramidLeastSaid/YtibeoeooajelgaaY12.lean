/- pyramid: the reference's Low. -/
import Derived.Test.YtibeoeooajelgaaY11
namespace Go.Proofs.Ytibeoeooajelgaa
open Go.RowKit
set_option linter.unusedVariables false
theorem LstB.add {S T : Nat → Nat → Prop} {f : Nat → Nat → Int} {b m : Int} {x y : Nat} (h : LstB S f b m) (e : ∀ p q, T p q ↔ (S p q ∨ (p = x ∧ q = y))) : LstB T f b (min m (f x y)) := by
  obtain ⟨h0, h1, h2⟩ := h
  refine ⟨by omega, fun p q hs => ?_, ?_⟩
  · rcases (e p q).1 hs with hs | ⟨rfl, rfl⟩
    · have := h1 p q hs
      omega
    · omega
  · rcases Int.le_total m (f x y) with hm | hm
    · rw [Int.min_eq_left hm]
      rcases h2 with h2 | ⟨p, q, hs, hq⟩
      · exact .inl h2
      · exact .inr ⟨p, q, (e p q).2 (.inl hs), hq⟩
    · rw [Int.min_eq_right hm]
      exact .inr ⟨x, y, (e x y).2 (.inr ⟨rfl, rfl⟩), rfl⟩
/-- The least of the pixels that were seen. -/
def SeenL (d : PD) (X x0 x1 y0 y x : Nat) (m : Int) : Prop := LstB (fun a b => (x0 ≤ a ∧ a ≤ x1 ∧ y0 ≤ b) ∧ (b < y ∨ (b = y ∧ a < x))) (fun a b => d.f 0 (b * X + a)) 66560 m
theorem SeenL.start {d : PD} {X x0 x1 y0 : Nat} : SeenL d X x0 x1 y0 y0 x0 66560 := LstB.none fun a b h => by omega
theorem SeenL.step {d : PD} {X x0 x1 y0 y x : Nat} {m : Int} (h : SeenL d X x0 x1 y0 y x m) (h1 : x0 ≤ x) (h2 : x ≤ x1) (h3 : y0 ≤ y) : SeenL d X x0 x1 y0 y (x + 1) (min m (d.f 0 (y * X + x))) := LstB.add (x := x) (y := y) h fun p q => by omega
theorem SeenL.row {d : PD} {X x0 x1 y0 y : Nat} {m : Int} (h : SeenL d X x0 x1 y0 y (x1 + 1) m) : SeenL d X x0 x1 y0 (y + 1) x0 m := LstB.congr h fun p q => by omega
theorem SeenL.fin {d : PD} {X Y x0 x1 y0 y1 : Nat} {m : Int} (h : SeenL d X x0 x1 y0 (y1 + 1) x0 m) (hx : x1 < X) (hy : y1 < Y) : LstB (LD.inR ⟨X, Y, fun x y => d.f 0 (y * X + x)⟩ ⟨x0, y0, x1, y1⟩) (fun x y => d.f 0 (y * X + x)) 66560 m := LstB.congr h fun p q => by
  unfold LD.inR
  dsimp only
  omega

set_option maxRecDepth 100000 in
set_option maxHeartbeats 16000000 in
theorem reflowp_any (d : PD) (p : PP) (r : RC) (hsm : d.Sm) (w : World) (hok : POk w p d) :
    Calls Try.prog 35 #[.agg #[.slice p.A d.n p.c], .agg #[.int .i64 r.X0, .int .i64 r.Y0, .int .i64 r.X1, .int .i64 r.Y1]] w fun e w' => (∃ m c, e = .returned (.tuple #[.int .i64 m, .int .i64 c]) ∧ LowR d r m c) ∧ Below w.heap.size w w' := by
  obtain ⟨A, c, KA, KC⟩ := p
  obtain ⟨X0, Y0, X1, Y1⟩ := r
  dsimp only
  have OK := Lib.hid hok
  have Sm := Lib.hid hsm
  clear hok hsm
  obtain ⟨n, hn⟩ : ∃ n, d.n = n := ⟨_, rfl⟩
  rw [hn]
  have HN := Lib.hid hn
  clear hn
  have B2 := Lib.hid (((Below.refl w.heap.size w).alloc (Nat.le_refl _) (.cells #[.slice A n c] 51)).alloc (by simp) (.cells #[.int .i64 X0, .int .i64 Y0, .int .i64 X1, .int .i64 Y1] 53))
  have S1 := Lib.hid ((hasBlk_new w 51 #[.slice A n c]).below ((Below.refl _ _).alloc (Nat.le_refl _) (.cells #[.int .i64 X0, .int .i64 Y0, .int .i64 X1, .int .i64 Y1] 53)))
  have S2 := hasBlk_new (w.alloc (.cells #[.slice A n c] 51)) 53 #[.int .i64 X0, .int .i64 Y0, .int .i64 X1, .int .i64 Y1]
  have e1 : (w.alloc (.cells #[.slice A n c] 51)).heap.size = w.heap.size + 1 := by simp
  rw [e1] at S2
  have S2 := Lib.hid S2
  clear e1
  have hk := refcheckp_any d ⟨A, c, KA, KC⟩ Sm.out _ (OK.out.below B2.out)
  rw [HN.out] at hk
  dsimp only at hk
  by_cases hm : d.May
  rotate_left
  · rw [chkP_no hm] at hk
    have HM := Lib.hid hm
    have KX := Lib.hid hk
    clear hk hm
    go_enter Try.func35, Try.ntmps35
    go_wp2_with fail
    refine KX.out.mono ?_
    rintro e w1 ⟨rfl, bel⟩
    have BQ := Lib.hid (B2.out.trans (bel.mono B2.out.size))
    clear KX bel
    go_wp2
    go_ret2
    exact ⟨⟨0, 8, rfl, .inl ⟨HM.out, rfl, rfl⟩⟩, BQ.out⟩
  rw [chkP_yes hm] at hk
  obtain ⟨X, hX⟩ := Int.eq_ofNat_of_zero_le (show 0 ≤ d.W 0 from by have := hm.W1; omega)
  obtain ⟨Y, hY⟩ := Int.eq_ofNat_of_zero_le (show 0 ≤ d.H 0 from by have := hm.H1; omega)
  have EQ0 := Lib.hid (show d.l0 = ⟨X, Y, fun x y => d.f 0 (y * X + x)⟩ by unfold PD.l0; rw [hX, hY]; rfl)
  obtain ⟨L, hL⟩ : ∃ L, d.L 0 = L := ⟨_, rfl⟩
  have SZ := Lib.hid (show L = X * Y by have h := hm.sz; rw [EQ0.out, hL] at h; exact h)
  have hm1 := hm.W2
  have hm2 := hm.H2
  have hX9 : X ≤ 64 := by omega
  have hY9 : Y ≤ 64 := by omega
  have LM := Lib.hid (show L ≤ 4096 by rw [SZ.out]; exact Nat.mul_le_mul hX9 hY9)
  clear hm1 hm2
  obtain ⟨gA, oA, hA, hgA, hcA⟩ := OK.out.ls hm.n
  dsimp only at hA
  subst hA
  clear hcA
  have nz := hm.n
  rw [HN.out] at nz
  have HM := Lib.hid hm
  have KX := Lib.hid hk
  clear hk hm
  obtain ⟨K0, hK0⟩ : ∃ K0, KA 0 = K0 := ⟨_, rfl⟩
  obtain ⟨C0, hC0⟩ : ∃ C0, KC 0 = C0 := ⟨_, rfl⟩
  have RK := Lib.hid (OK.out.kd 0 HM.out.n)
  dsimp only at RK
  rw [hL, hK0] at RK
  go_enter Try.func35, Try.ntmps35
  go_wp2_with fail
  refine KX.out.mono ?_
  rintro e w1 ⟨rfl, bel⟩
  have BQ := Lib.hid (B2.out.trans (bel.mono B2.out.size))
  have S1' := Lib.hid (S1.out.below bel)
  have S2' := Lib.hid (S2.out.below bel)
  clear KX bel S1 S2
  have BN := Lib.hid (BQ.out.alloc BQ.out.size (.cells #[.int .i64 X, .int .i64 Y, .slice K0 L C0] 74))
  have a0 := (OK.out.below BQ.out).lev (i := 0) (j := 0) rfl HM.out.n (by omega)
  have a1 := (OK.out.below BQ.out).lev (i := 0) (j := 1) rfl HM.out.n (by omega)
  have a2 := (OK.out.below BQ.out).lev (i := 0) (j := 2) rfl HM.out.n (by omega)
  simp [pvc] at a0 a1 a2
  rw [hX] at a0
  rw [hY] at a1
  rw [hL, hK0, hC0] at a2
  have HW := Lib.hid hX
  have HH := Lib.hid hY
  clear hX hY hL hK0 hC0
  have s0 := S1'.out.cell 0
  have sz := S1'.out.lt
  have r0 := S2'.out.cell 0
  have r1 := S2'.out.cell 1
  have r2 := S2'.out.cell 2
  have r3 := S2'.out.cell 3
  have rz := S2'.out.lt
  simp at s0 r0 r1 r2 r3
  have gz : gA < w1.heap.size := Nat.lt_of_lt_of_le hgA BQ.out.size
  have NZ2 : (0 : Int) < (n : Int) := by omega
  have NZ3 : ¬ ((n : Int) ≤ 0) := by omega
  by_cases u0 : X0 < 0
  · have d0 : decide (X0 < 0) = true := decide_eq_true u0
    have HB := Lib.hid u0
    go_wp2
    go_ret2
    exact ⟨⟨0, 2, rfl, .inr (.inl ⟨HM.out, (.inl (by show min X0 Y0 < 0; have := HB.out; omega)), rfl, rfl⟩)⟩, BN.out⟩
  have d0 : decide (X0 < 0) = false := decide_eq_false u0
  by_cases u1 : X1 < X0
  · have d1 : decide (X1 < X0) = true := decide_eq_true u1
    have HB := Lib.hid u1
    go_wp2
    go_ret2
    exact ⟨⟨0, 2, rfl, .inr (.inl ⟨HM.out, (.inr (.inl HB.out)), rfl, rfl⟩)⟩, BN.out⟩
  have d1 : decide (X1 < X0) = false := decide_eq_false u1
  by_cases u2 : (X : Int) ≤ X1
  · have d2 : decide ((X : Int) ≤ X1) = true := decide_eq_true u2
    have HB := Lib.hid u2
    go_wp2
    go_ret2
    exact ⟨⟨0, 2, rfl, .inr (.inl ⟨HM.out, (.inr (.inr (.inl (by show d.W 0 ≤ X1; rw [HW.out]; exact HB.out)))), rfl, rfl⟩)⟩, BN.out⟩
  have d2 : decide ((X : Int) ≤ X1) = false := decide_eq_false u2
  by_cases u3 : Y0 < 0
  · have d3 : decide (Y0 < 0) = true := decide_eq_true u3
    have HB := Lib.hid u3
    go_wp2
    go_ret2
    exact ⟨⟨0, 2, rfl, .inr (.inl ⟨HM.out, (.inl (by show min X0 Y0 < 0; have := HB.out; omega)), rfl, rfl⟩)⟩, BN.out⟩
  have d3 : decide (Y0 < 0) = false := decide_eq_false u3
  by_cases u4 : Y1 < Y0
  · have d4 : decide (Y1 < Y0) = true := decide_eq_true u4
    have HB := Lib.hid u4
    go_wp2
    go_ret2
    exact ⟨⟨0, 2, rfl, .inr (.inl ⟨HM.out, (.inr (.inr (.inr (.inl HB.out)))), rfl, rfl⟩)⟩, BN.out⟩
  have d4 : decide (Y1 < Y0) = false := decide_eq_false u4
  by_cases u5 : (Y : Int) ≤ Y1
  · have d5 : decide ((Y : Int) ≤ Y1) = true := decide_eq_true u5
    have HB := Lib.hid u5
    go_wp2
    go_ret2
    exact ⟨⟨0, 2, rfl, .inr (.inl ⟨HM.out, (.inr (.inr (.inr (.inr (by show d.H 0 ≤ Y1; rw [HH.out]; exact HB.out))))), rfl, rfl⟩)⟩, BN.out⟩
  have d5 : decide ((Y : Int) ≤ Y1) = false := decide_eq_false u5
  have HB := Lib.hid (show ¬ RC.Bad ⟨X0, Y0, X1, Y1⟩ (d.W 0) (d.H 0) by
    unfold RC.Bad
    rw [HW.out, HH.out]
    dsimp only
    omega)
  obtain ⟨x0, rfl⟩ := Int.eq_ofNat_of_zero_le (show 0 ≤ X0 by omega)
  obtain ⟨x1, rfl⟩ := Int.eq_ofNat_of_zero_le (show 0 ≤ X1 by omega)
  obtain ⟨y0, rfl⟩ := Int.eq_ofNat_of_zero_le (show 0 ≤ Y0 by omega)
  obtain ⟨y1, rfl⟩ := Int.eq_ofNat_of_zero_le (show 0 ≤ Y1 by omega)
  have hx0 : x0 ≤ x1 := by omega
  have hy0 : y0 ≤ y1 := by omega
  have hx1 : x1 < X := by omega
  have hy1 : y1 < Y := by omega
  go_wp2
  clear u0 u1 u2 u3 u4 u5 d0 d1 d2 d3 d4 d5 s0 r0 r1 r2 r3 sz rz a0 a1 a2 gz
  have S7 := Lib.hid (hasBlk_new w1 74 #[.int .i64 X, .int .i64 Y, .slice K0 L C0])
  have S2n := Lib.hid (S2'.out.alloc (.cells #[.int .i64 X, .int .i64 Y, .slice K0 L C0] 74))
  generalize w1.alloc (.cells #[.int .i64 X, .int .i64 Y, .slice K0 L C0] 74) = v0 at *
  obtain ⟨t7, ht7⟩ : ∃ t7, t7 = w1.heap.size := ⟨_, rfl⟩
  rw [← ht7] at S7 ⊢
  clear ht7
  go_loopw [8, 9] (fun s8 s9 wr => ∃ (y : Nat) (m : Int), y0 ≤ y ∧ y ≤ y1 + 1 ∧ s8 = .int .i64 m ∧ s9 = .int .i64 y ∧ SeenL d X x0 x1 y0 y x0 m ∧ Below v0.heap.size v0 wr) (fun _ s9 wr => y1 + 1 - (intOf s9).toNat)
  case atStart => exact ⟨y0, 66560, Nat.le_refl _, by omega, rfl, rfl, SeenL.start, Below.refl _ _⟩
  case round =>
    obtain ⟨y, m, hya, hyb, rfl, rfl, hseen, hbel⟩ := hrel
    have ST := Lib.hid hseen
    have BV := Lib.hid hbel
    have S2q := Lib.hid (S2n.out.below hbel)
    have S7q := Lib.hid (S7.out.below hbel)
    have r0 := S2q.out.cell 0
    have r1 := S2q.out.cell 1
    have r2 := S2q.out.cell 2
    have r3 := S2q.out.cell 3
    have rz := S2q.out.lt
    simp at r0 r1 r2 r3
    clear hseen hbel
    by_cases hyy : y ≤ y1
    rotate_left
    · obtain rfl : y1 + 1 = y := by omega
      have d0 : decide (((y1 + 1 : Nat) : Int) ≤ (y1 : Int)) = false := decide_eq_false (by omega)
      have d0' : decide ((y1 : Int) + 1 ≤ (y1 : Int)) = false := decide_eq_false (by omega)
      go_wp2
      go_ret2
      exact ⟨⟨m, 0, rfl, .inr (.inr ⟨HM.out, HB.out, rfl, by rw [EQ0.out]; exact ST.out.fin hx1 hy1⟩)⟩, BN.out.trans (BV.out.mono BN.out.size)⟩
    have d0 : decide ((y : Int) ≤ (y1 : Int)) = true := decide_eq_true (by omega)
    obtain ⟨wo, rfl⟩ : ∃ wo : World, wo = wr := ⟨wr, rfl⟩
    go_wp2
    clear r0 r1 r2 r3 rz d0
    go_loopw [8, 10] (fun s8 s10 wr => ∃ (x : Nat) (m2 : Int), x0 ≤ x ∧ x ≤ x1 + 1 ∧ s8 = .int .i64 m2 ∧ s10 = .int .i64 x ∧ SeenL d X x0 x1 y0 y x m2 ∧ Below wo.heap.size wo wr) (fun _ s10 wr => x1 + 1 - (intOf s10).toNat)
    case atStart => exact ⟨x0, m, Nat.le_refl _, by omega, rfl, rfl, ST.out, Below.refl _ _⟩
    case round =>
      obtain ⟨x, m2, hxa, hxb, rfl, rfl, hseen2, hbel2⟩ := hrel
      have ST2 := Lib.hid hseen2
      have BV2 := Lib.hid hbel2
      have S2t := Lib.hid (S2q.out.below hbel2)
      have S7t := Lib.hid (S7q.out.below hbel2)
      have r0 := S2t.out.cell 0
      have r1 := S2t.out.cell 1
      have r2 := S2t.out.cell 2
      have r3 := S2t.out.cell 3
      have rz := S2t.out.lt
      have q0 := S7t.out.cell 0
      have q1 := S7t.out.cell 1
      have q2 := S7t.out.cell 2
      have qz := S7t.out.lt
      simp at r0 r1 r2 r3 q0 q1 q2
      clear hseen2 hbel2
      by_cases hxx : x ≤ x1
      rotate_left
      · obtain rfl : x1 + 1 = x := by omega
        have d0 : decide (((x1 + 1 : Nat) : Int) ≤ (x1 : Int)) = false := decide_eq_false (by omega)
        have d0' : decide ((x1 : Int) + 1 ≤ (x1 : Int)) = false := decide_eq_false (by omega)
        go_wp2
        go_roundw
        case rel =>
          exact ⟨y + 1, m2, by omega, by omega, rfl, by go_num, ST2.out.row, BV.out.trans (BV2.out.mono BV.out.size)⟩
        case measure => simp [intOf]; omega
      have d0 : decide ((x : Int) ≤ (x1 : Int)) = true := decide_eq_true (by omega)
      have hPQ : y * X + x < L := by
        have := LD.row_lt (l := ⟨X, Y, fun _ _ => 0⟩) (x := x) (y := y) (by dsimp only; omega) (by dsimp only; omega)
        rw [SZ.out]
        exact this
      obtain ⟨gK, oK, rfl, hgK, hcK⟩ := RK.out.below (BN.out.trans ((BV.out.trans (BV2.out.mono BV.out.size)).mono BN.out.size)) (by omega)
      have c0 := hcK (y * X + x) hPQ 0 (by omega)
      simp only [Nat.mul_one, Nat.add_zero] at c0
      obtain ⟨u, hu⟩ : ∃ u, d.f 0 (y * X + x) = u := ⟨_, rfl⟩
      rw [hu] at c0
      have NX := Lib.hid (ST2.out.step hxa hxx hya)
      rw [hu] at NX
      have hL9 := LM.out
      have hPX : (y : Int) * (X : Int) = ((y * X : Nat) : Int) := by push_cast; rfl
      have w1 : IntKind.i64.wrap ((y : Int) * (X : Int)) = ((y * X : Nat) : Int) := by rw [hPX]; exact IntWalk.i64_in _ (by omega)
      have w2 : IntKind.i64.wrap (((y * X : Nat) : Int) + (x : Int)) = ((y * X + x : Nat) : Int) := by push_cast; exact IntWalk.i64_in _ (by push_cast at hPX; omega)
      clear hu hcK hPX
      generalize hQ : y * X + x = Q at *
      generalize hP : y * X = P at *
      clear hQ hP
      have i1 : (Q : Int) < (L : Int) := by omega
      have i2 : ¬ ((L : Int) ≤ (Q : Int)) := by omega
      have i0 : (0 : Int) ≤ (Q : Int) := by omega
      go_wp2
      go_roundw
      case rel =>
        exact ⟨x + 1, min m2 u, by omega, by omega, rfl, by go_num, NX.out, BV2.out⟩
      case measure => simp [intOf]; omega
end Go.Proofs.Ytibeoeooajelgaa
