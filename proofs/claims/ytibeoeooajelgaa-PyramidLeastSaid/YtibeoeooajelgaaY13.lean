/- pyramid: the reference's Hidden. -/
import Derived.Test.YtibeoeooajelgaaY12
namespace Go.Proofs.Ytibeoeooajelgaa
open Go.RowKit
set_option linter.unusedVariables false

set_option maxRecDepth 100000 in
set_option maxHeartbeats 16000000 in
theorem refhidp_any (d : PD) (p : PP) (r : RC) (D : Int) (hsm : d.Sm) (w : World) (hok : POk w p d) :
    Calls Try.prog 37 #[.agg #[.slice p.A d.n p.c], .agg #[.int .i64 r.X0, .int .i64 r.Y0, .int .i64 r.X1, .int .i64 r.Y1, .int .i64 D]] w fun e w' => (∃ b c, e = .returned (.tuple #[.bool b, .int .i64 c]) ∧ HidR d r D b c) ∧ Below w.heap.size w w' := by
  obtain ⟨A, c, KA, KC⟩ := p
  obtain ⟨X0, Y0, X1, Y1⟩ := r
  dsimp only
  have OK := Lib.hid hok
  have Sm := Lib.hid hsm
  clear hok hsm
  obtain ⟨n, hn⟩ : ∃ n, d.n = n := ⟨_, rfl⟩
  rw [hn]
  have HN := Lib.hid hn
  clear hn
  have B2 := Lib.hid (((Below.refl w.heap.size w).alloc (Nat.le_refl _) (.cells #[.slice A n c] 51)).alloc (by simp) (.cells #[.int .i64 X0, .int .i64 Y0, .int .i64 X1, .int .i64 Y1, .int .i64 D] 55))
  have S2 := hasBlk_new (w.alloc (.cells #[.slice A n c] 51)) 55 #[.int .i64 X0, .int .i64 Y0, .int .i64 X1, .int .i64 Y1, .int .i64 D]
  have e1 : (w.alloc (.cells #[.slice A n c] 51)).heap.size = w.heap.size + 1 := by simp
  rw [e1] at S2
  have S2 := Lib.hid S2
  clear e1
  have hk := reflowp_any d ⟨A, c, KA, KC⟩ ⟨X0, Y0, X1, Y1⟩ Sm.out _ (OK.out.below B2.out)
  rw [HN.out] at hk
  dsimp only at hk
  have KX := Lib.hid hk
  clear hk
  go_enter Try.func37, Try.ntmps37
  go_wp2_with fail
  refine KX.out.mono ?_
  rintro e w1 ⟨⟨m, e0, rfl, hl⟩, bel⟩
  have HL := Lib.hid hl
  have BQ := Lib.hid (B2.out.trans (bel.mono B2.out.size))
  have S2' := Lib.hid (S2.out.below bel)
  clear KX bel S2 hl
  have r0 := S2'.out.cell 0
  have r1 := S2'.out.cell 1
  have r2 := S2'.out.cell 2
  have r3 := S2'.out.cell 3
  have r4 := S2'.out.cell 4
  have rz := S2'.out.lt
  simp at r0 r1 r2 r3 r4
  by_cases h0 : e0 = 0
  rotate_left
  · have g0 : (e0 != 0) = true := by simpa using h0
    have g0' : (e0 == 0) = false := by simpa using h0
    have H0 := Lib.hid h0
    clear h0
    go_wp2
    go_ret2
    exact ⟨⟨_, _, rfl, m, e0, HL.out, .inl ⟨H0.out, rfl, rfl⟩⟩, BQ.out⟩
  subst h0
  by_cases h1 : D < -1024
  · have g1 : decide (D < -1024) = true := decide_eq_true h1
    have H1 := Lib.hid h1
    clear h1
    go_wp2
    go_ret2
    exact ⟨⟨_, _, rfl, m, 0, HL.out, .inr (.inl ⟨rfl, .inl H1.out, rfl, rfl⟩)⟩, BQ.out⟩
  have g1 : decide (D < -1024) = false := decide_eq_false h1
  by_cases h2 : 66560 < D
  · have g2 : decide (66560 < D) = true := decide_eq_true h2
    have H2 := Lib.hid h2
    clear h2
    go_wp2
    go_ret2
    exact ⟨⟨_, _, rfl, m, 0, HL.out, .inr (.inl ⟨rfl, .inr H2.out, rfl, rfl⟩)⟩, BQ.out⟩
  have g2 : decide (66560 < D) = false := decide_eq_false h2
  have H2 := Lib.hid (show ¬ (D < -1024 ∨ 66560 < D) by omega)
  clear h1 h2
  go_wp2
  go_ret2
  exact ⟨⟨_, _, rfl, m, 0, HL.out, .inr (.inr ⟨rfl, H2.out, rfl, rfl⟩)⟩, BQ.out⟩
end Go.Proofs.Ytibeoeooajelgaa
