/- MeshStrip. -/
import Derived.Test.YtkclkillphafkaaM6
import Derived.IntWalk
import Derived.Deep.QuietTactic
import Derived.BigQuiet
namespace Go.Proofs.Ytkclkillphafkaa
open Go.RowKit
set_option linter.unusedVariables false

theorem pcode12 {n : Nat} (hn : n ≤ 200) : pcode 2 n = pcode 1 n ∧ (pcode 1 n = 0 ∧ (n = 0 ∨ 3 ≤ n) ∨ pcode 1 n = 40 ∧ (n = 1 ∨ n = 2)) := by
  have a : ¬ 200 < n := by omega
  by_cases h : n = 0 ∨ 3 ≤ n
  · simp [pcode, a, h]
  · simp [pcode, a, h]; omega
theorem tri1e {l : Nat → Int} {i : Nat} (h : i % 2 = 0) : tv 1 l i 0 = .int .i64 (l i) ∧ tv 1 l i 1 = .int .i64 (l (i + 1)) ∧ tv 1 l i 2 = .int .i64 (l (i + 2)) := by
  unfold tv; rw [tri1, tri1, tri1, if_pos h, if_pos h, if_pos h]; exact ⟨rfl, rfl, rfl⟩
theorem tri1o {l : Nat → Int} {i : Nat} (h : ¬ i % 2 = 0) : tv 1 l i 0 = .int .i64 (l (i + 1)) ∧ tv 1 l i 1 = .int .i64 (l i) ∧ tv 1 l i 2 = .int .i64 (l (i + 2)) := by
  unfold tv; rw [tri1, tri1, tri1, if_neg h, if_neg h, if_neg h]; exact ⟨rfl, rfl, rfl⟩
theorem tri2v (l : Nat → Int) (i : Nat) : tv 2 l i 0 = .int .i64 (l 0) ∧ tv 2 l i 1 = .int .i64 (l (i + 1)) ∧ tv 2 l i 2 = .int .i64 (l (i + 2)) := ⟨rfl, rfl, rfl⟩

set_option maxRecDepth 100000 in
set_option maxHeartbeats 4000000 in
theorem meshStrip_walk (n : Nat) (A : Option Addr) (c : Nat) (l : Nat → Int) (w : World) (hs : IS w A n l) :
    Calls Try.prog 5 #[.slice A n c] w fun e w' => e = .returned (.bool true) ∧ Below w.heap.size w w' := by
  by_cases hn : 200 < n
  · go_enter Try.func5, Try.ntmps5
    go_wp2_with fail
    refine (alive_any _).mono ?_
    rintro e w1 ⟨rfl, bel1⟩
    go_wp2
    go_ret
    exact ⟨rfl, bel1⟩
  obtain ⟨p21, hp1⟩ := pcode12 (n := n) (by omega)
  have hn' : (n : Int) ≤ 200 := by omega
  have hs1 := Lib.hid (fun W (h : Below w.heap.size w W) => prim9_any 1 (by decide) n A c l W (hs.below h))
  have hs2 := Lib.hid (fun W (h : Below w.heap.size w W) => prim9_any 2 (by decide) n A c l W (hs.below h))
  have HS := Lib.hid hs
  have P21 := Lib.hid p21
  have HP1 := Lib.hid hp1
  clear hs hn p21 hp1
  go_enter Try.func5, Try.ntmps5
  go_wp2_with fail
  refine (alive_any _).mono ?_
  rintro e w1 ⟨rfl, bel1⟩
  have z1 := bel1.size
  have B1 := Lib.hid bel1
  clear bel1
  go_wp2_with fail
  refine (hs1.out _ B1.out).mono ?_
  rintro e w2 ⟨hx, bel2⟩
  obtain ⟨X, m, cx, rfl, hm, hX⟩ := hx.res
  have z2 := bel2.size
  have B2 := Lib.hid (B1.out.trans (bel2.mono z1))
  have HX := Lib.hid hX
  have Hm := Lib.hid hm
  clear bel2 B1 hx hX hm
  go_wp2_with fail
  refine (hs2.out _ B2.out).mono ?_
  rintro e w3 ⟨hx, bel3⟩
  obtain ⟨Y, m', cy, rfl, hm', hY⟩ := hx.res
  have z3 := bel3.size
  rw [P21.out] at hm' ⊢
  obtain rfl : m' = m := by rw [hm', Hm.out]; rfl
  have B3 := Lib.hid (B2.out.trans (bel3.mono (by omega)))
  have RX := Lib.hid (Row.of_cells (own_below HX.out bel3))
  have RY := Lib.hid (Row.of_cells hY)
  have I3 := Lib.hid (HS.out.below B3.out)
  clear bel3 B2 hx hY hm' HX HS
  rcases HP1.out with ⟨hp, hn03⟩ | ⟨hp, h12⟩
  rotate_left
  · have hm0 := Hm.out
    rw [hp, if_neg (by decide)] at hm0
    subst hm0
    rw [hp]
    clear hp
    rcases h12 with rfl | rfl
    all_goals
      go_wp2
      go_ret
      exact ⟨rfl, B3.out⟩
  have hm0 := Hm.out
  rw [hp, if_pos rfl] at hm0
  have hm1 : m' = n - 2 := hm0
  rw [hp]
  have hm2 : m' ≤ n := by omega
  have hm3 : m' ≤ 200 := by omega
  have Hm1 := Lib.hid hm1
  have gl : (((n : Int) == 0) = false ∧ 0 < m') ∨ n = 0 := by simp; omega
  clear hm0 hm1 hp Hm HP1
  clear hn03
  rcases gl with ⟨gl, gm0⟩ | rfl
  rotate_left
  · obtain rfl : m' = 0 := by omega
    go_wp2
    refine wp_loop_rounds 1 ?_
    rw [rounds_succ]
    go_wp2
    go_ret
    exact ⟨rfl, B3.out⟩
  go_wp2
  go_loopw [8] (fun i wr => ∃ j : Nat, j ≤ m' ∧ i = .int .i64 j ∧ Below w3.heap.size w3 wr) (fun i wr => m' - (intOf i).toNat)
  case atStart => exact ⟨0, Nat.zero_le _, rfl, Below.refl _ _⟩
  case round =>
    obtain ⟨j, hj, rfl, hbel⟩ := hrel
    by_cases hjm : j < m'
    · have i0 : (j : Int) < (m' : Int) := by omega
      have i2 : (0 : Int) ≤ (j : Int) := by omega
      have nz : 0 < n := by have := Hm1.out; omega
      obtain ⟨g, off, rfl, hg, hc⟩ := (RX.out.below hbel) (by omega)
      obtain ⟨g', off', rfl, hg', hc'⟩ := (RY.out.below hbel) (by omega)
      obtain ⟨gl, ol, rfl, hgl, hcl⟩ := (I3.out.below hbel) (by omega)
      have l0 := hcl 0 (by omega)
      simp only [Nat.add_zero] at l0
      obtain ⟨f0, f1, f2⟩ := tri2v l j
      have y0 := hc' j hjm 0 (by omega)
      have y1 := hc' j hjm 1 (by omega)
      rw [f0] at y0
      rw [f1] at y1
      simp only [Nat.add_zero] at y0
      clear hcl f0 f1 f2
      by_cases h2 : j % 2 = 0
      · have g2 : ((j : Int) % 2 == 1) = false := by simp; omega
        obtain ⟨t0, t1, t2⟩ := tri1e (l := l) h2
        have x0 := hc j hjm 0 (by omega)
        have x1 := hc j hjm 1 (by omega)
        have x2 := hc j hjm 2 (by omega)
        rw [t0] at x0
        rw [t1] at x1
        rw [t2] at x2
        simp only [Nat.add_zero] at x0
        clear t0 t1 t2
        by_cases hl : j + 1 < m'
        · have gl2 : decide ((j : Int) + 1 < (m' : Int)) = true := by first | exact decide_eq_true (by omega) | exact decide_eq_false (by omega)
          obtain ⟨t0, t1, t2⟩ := tri1o (l := l) (i := j + 1) (by omega)
          have n0 := hc (j + 1) hl 0 (by omega)
          have n1 := hc (j + 1) hl 1 (by omega)
          rw [t0] at n0
          rw [t1] at n1
          simp only [Nat.add_zero, Nat.add_assoc, Nat.reduceAdd] at n0
          have i1 : (j : Int) + 1 < (m' : Int) := by omega
          clear t0 t1 t2
          by_cases hz : j = 0
          · subst hz
            simp at x0 x1 x2 y0 y1 n0 n1
            clear hc hc'
            go_wp2_with fail
            go_quiet (fail)
            go_wp2
            go_quiet (fail)
            go_wp2
            go_roundw
            case rel =>
              refine ⟨0 + 1, by omega, by go_num, ?_⟩
              first | exact below_drewN hbel _ | exact below_drewN (below_drewN hbel _) _ | exact below_drewN (below_drewN (below_drewN hbel _) _) _
            case measure => simp [intOf]; omega
          · obtain ⟨p, rfl⟩ : ∃ p, j = p + 1 := ⟨j - 1, by omega⟩
            have y2 := hc' p (by omega) 2 (by omega)
            obtain ⟨f0, f1, f2⟩ := tri2v l p
            rw [f2] at y2
            clear f0 f1 f2
            have gp : decide ((0 : Int) < (p : Int) + 1) = true := decide_eq_true (by omega)
            clear hc hc'
            go_wp2_with fail
            go_quiet (fail)
            go_wp2
            go_quiet (fail)
            go_wp2
            go_roundw
            case rel =>
              refine ⟨p + 1 + 1, by omega, by go_num, ?_⟩
              first | exact below_drewN hbel _ | exact below_drewN (below_drewN hbel _) _ | exact below_drewN (below_drewN (below_drewN hbel _) _) _
            case measure => simp [intOf]; omega
        · have gl2 : decide ((j : Int) + 1 < (m' : Int)) = false := by first | exact decide_eq_true (by omega) | exact decide_eq_false (by omega)
          by_cases hz : j = 0
          · subst hz
            simp at x0 x1 x2 y0 y1
            clear hc hc'
            go_wp2_with fail
            go_quiet (fail)
            go_wp2
            go_quiet (fail)
            go_wp2
            go_roundw
            case rel =>
              refine ⟨0 + 1, by omega, by go_num, ?_⟩
              first | exact below_drewN hbel _ | exact below_drewN (below_drewN hbel _) _ | exact below_drewN (below_drewN (below_drewN hbel _) _) _
            case measure => simp [intOf]; omega
          · obtain ⟨p, rfl⟩ : ∃ p, j = p + 1 := ⟨j - 1, by omega⟩
            have y2 := hc' p (by omega) 2 (by omega)
            obtain ⟨f0, f1, f2⟩ := tri2v l p
            rw [f2] at y2
            clear f0 f1 f2
            have gp : decide ((0 : Int) < (p : Int) + 1) = true := decide_eq_true (by omega)
            clear hc hc'
            go_wp2_with fail
            go_quiet (fail)
            go_wp2
            go_quiet (fail)
            go_wp2
            go_roundw
            case rel =>
              refine ⟨p + 1 + 1, by omega, by go_num, ?_⟩
              first | exact below_drewN hbel _ | exact below_drewN (below_drewN hbel _) _ | exact below_drewN (below_drewN (below_drewN hbel _) _) _
            case measure => simp [intOf]; omega
      · have g2 : ((j : Int) % 2 == 1) = true := by simp; omega
        obtain ⟨t0, t1, t2⟩ := tri1o (l := l) h2
        have x0 := hc j hjm 0 (by omega)
        have x1 := hc j hjm 1 (by omega)
        have x2 := hc j hjm 2 (by omega)
        rw [t0] at x0
        rw [t1] at x1
        rw [t2] at x2
        simp only [Nat.add_zero] at x0
        clear t0 t1 t2
        by_cases hl : j + 1 < m'
        · have gl2 : decide ((j : Int) + 1 < (m' : Int)) = true := by first | exact decide_eq_true (by omega) | exact decide_eq_false (by omega)
          obtain ⟨t0, t1, t2⟩ := tri1e (l := l) (i := j + 1) (by omega)
          have n0 := hc (j + 1) hl 0 (by omega)
          have n1 := hc (j + 1) hl 1 (by omega)
          rw [t0] at n0
          rw [t1] at n1
          simp only [Nat.add_zero, Nat.add_assoc, Nat.reduceAdd] at n0
          have i1 : (j : Int) + 1 < (m' : Int) := by omega
          clear t0 t1 t2
          by_cases hz : j = 0
          · exact absurd (by rw [hz]) h2
          · obtain ⟨p, rfl⟩ : ∃ p, j = p + 1 := ⟨j - 1, by omega⟩
            have y2 := hc' p (by omega) 2 (by omega)
            obtain ⟨f0, f1, f2⟩ := tri2v l p
            rw [f2] at y2
            clear f0 f1 f2
            have gp : decide ((0 : Int) < (p : Int) + 1) = true := decide_eq_true (by omega)
            clear hc hc'
            go_wp2_with fail
            go_quiet (fail)
            go_wp2
            go_quiet (fail)
            go_wp2
            go_quiet (fail)
            go_wp2
            go_roundw
            case rel =>
              refine ⟨p + 1 + 1, by omega, by go_num, ?_⟩
              first | exact below_drewN hbel _ | exact below_drewN (below_drewN hbel _) _ | exact below_drewN (below_drewN (below_drewN hbel _) _) _
            case measure => simp [intOf]; omega
        · have gl2 : decide ((j : Int) + 1 < (m' : Int)) = false := by first | exact decide_eq_true (by omega) | exact decide_eq_false (by omega)
          by_cases hz : j = 0
          · exact absurd (by rw [hz]) h2
          · obtain ⟨p, rfl⟩ : ∃ p, j = p + 1 := ⟨j - 1, by omega⟩
            have y2 := hc' p (by omega) 2 (by omega)
            obtain ⟨f0, f1, f2⟩ := tri2v l p
            rw [f2] at y2
            clear f0 f1 f2
            have gp : decide ((0 : Int) < (p : Int) + 1) = true := decide_eq_true (by omega)
            clear hc hc'
            go_wp2_with fail
            go_quiet (fail)
            go_wp2
            go_quiet (fail)
            go_wp2
            go_quiet (fail)
            go_wp2
            go_roundw
            case rel =>
              refine ⟨p + 1 + 1, by omega, by go_num, ?_⟩
              first | exact below_drewN hbel _ | exact below_drewN (below_drewN hbel _) _ | exact below_drewN (below_drewN (below_drewN hbel _) _) _
            case measure => simp [intOf]; omega
    · obtain rfl : j = m' := by omega
      go_wp2
      go_ret
      exact ⟨rfl, B3.out.trans (hbel.mono B3.out.size)⟩
end Go.Proofs.Ytkclkillphafkaa
