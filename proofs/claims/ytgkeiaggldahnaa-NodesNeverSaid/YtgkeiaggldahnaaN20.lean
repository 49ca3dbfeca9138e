/- nodes: Same. -/
import Derived.Test.YtgkeiaggldahnaaN19
import Derived.Test.YtgkeiaggldahnaaR9
import Derived.Test.YtgkeiaggldahnaaN10
namespace Go.Proofs.Ytgkeiaggldahnaa
open Go.RowKit
set_option linter.unusedVariables false

set_option maxRecDepth 100000 in
set_option maxHeartbeats 2000000 in
theorem eqhdls (A B : Option Addr) (n m c d : Nat) (F : Nat → Nat → Int) (G : Nat → Nat → Int) (w : World) (hA : Row w A n 2 (fun i j => .int .i64 (F i j))) (hB : Row w B m 2 (fun i j => .int .i64 (G i j))) (hn : (n : Int) ≤ 9223372036854775807) :
    Calls Try.prog 47 #[.slice A n c, .slice B m d] w fun e w' => EqR (n = m ∧ ∀ k, k < n → F k 0 = G k 0 ∧ F k 1 = G k 1) e ∧ Below w.heap.size w w' := by
  by_cases hnm : n = m
  rotate_left
  · have g0 : ((n : Int) != (m : Int)) = true := by simp; omega
    clear hA hB
    go_enter Try.func47, Try.ntmps47
    go_wp2
    go_ret
    exact ⟨⟨false, rfl, ⟨fun h => (by cases h), fun h => absurd h.1 hnm⟩⟩, Below.refl _ _⟩
  subst hnm
  have HA := Lib.hid hA
  have HB := Lib.hid hB
  clear hA hB
  go_enter Try.func47, Try.ntmps47
  go_wp2
  go_loopw [13] (fun i wr => ∃ k : Nat, k ≤ n ∧ i = .int .i64 k ∧ (∃ q, wr = w.drewN q) ∧ ∀ k', k' < k → F k' 0 = G k' 0 ∧ F k' 1 = G k' 1) (fun i wr => n - (intOf i).toNat)
  case atStart => exact ⟨0, Nat.zero_le _, rfl, ⟨0, rfl⟩, fun j hj => absurd hj (by omega)⟩
  case round =>
    obtain ⟨k, hk, rfl, ⟨q, rfl⟩, hall⟩ := hrel
    have Hall := Lib.hid hall
    clear hall
    by_cases hkn : k < n
    · obtain ⟨g, o, rfl, hg, hc⟩ := HA.out (by omega)
      obtain ⟨g', o', rfl, hg', hc'⟩ := HB.out (by omega)
      have c0 := hc k hkn 0 (by omega)
      have c1 := hc k hkn 1 (by omega)
      have d0 := hc' k hkn 0 (by omega)
      have d1 := hc' k hkn 1 (by omega)
      dsimp only at c0 c1 d0 d1
      simp only [Nat.add_zero] at c0 c1 d0 d1
      have hi : (k : Int) < (n : Int) := by omega
      have hi0 : (0 : Int) ≤ (k : Int) := by omega
      clear hc hc'
      by_cases hcmp : F k 0 = G k 0 ∧ F k 1 = G k 1
      · have hq := fun W => equalIn_of_eql (eql_hdl ((F k 0)) ((F k 1)) ((G k 0)) ((G k 1)) W)
        have hv : ((F k 0 == G k 0) && (F k 1 == G k 1)) = true := by have := hcmp; simp_all
        simp only [hv] at hq
        clear hv
        have Hc := Lib.hid hcmp
        clear hcmp
        go_wp2_with fail
        go_quiet (fail)
        go_wp2
        go_roundw
        case rel =>
          refine ⟨k + 1, by omega, by go_num, ⟨_, rfl⟩, fun j hj => ?_⟩
          rcases Nat.lt_or_ge j k with h | h
          · exact Hall.out j h
          · obtain rfl : j = k := by omega
            exact Hc.out
        case measure => simp [intOf]; omega
      · have hq := fun W => equalIn_of_eql (eql_hdl ((F k 0)) ((F k 1)) ((G k 0)) ((G k 1)) W)
        have hv : ((F k 0 == G k 0) && (F k 1 == G k 1)) = false := by rw [Bool.eq_false_iff]; intro hh; apply hcmp; simpa using hh
        simp only [hv] at hq
        clear hv
        have Hc := Lib.hid hcmp
        clear hcmp
        go_wp2_with fail
        go_quiet (fail)
        go_wp2
        go_ret
        exact ⟨⟨false, rfl, ⟨fun h => (by cases h), fun h => absurd (h.2 k hkn) Hc.out⟩⟩, by first | exact below_drewN (Below.refl _ _) _ | exact below_drewN (below_drewN (Below.refl _ _) _) _⟩
    · obtain rfl : k = n := by omega
      go_wp2
      go_ret
      exact ⟨⟨true, rfl, ⟨fun _ => ⟨by trivial, Hall.out⟩, fun _ => rfl⟩⟩, below_drewN (Below.refl _ _) _⟩

theorem eqh_dec (A B : Option Addr) (n m c e : Nat) (S Q S' Q' : Nat → Int) (w : World) (hA : Row w A n 2 (hv S Q)) (hB : Row w B m 2 (hv S' Q')) (hn : (n : Int) ≤ 9223372036854775807) :
    Calls Try.prog 47 #[.slice A n c, .slice B m e] w fun e w' => e = .returned (.bool (decide (EqL n m S Q S' Q'))) ∧ Below w.heap.size w w' :=
  (eqhdls A B n m c e (fun i j => if j = 0 then S i else Q i) (fun i j => if j = 0 then S' i else Q' i) w (hA.congr fun i hi j hj => by
    unfold hv
    split <;> rfl) (hB.congr fun i hi j hj => by
    unfold hv
    split <;> rfl) hn).mono fun e w' ⟨⟨r, he, hr⟩, hb⟩ => ⟨by
      rw [he]
      have : r = decide (EqL n m S Q S' Q') := by
        rw [Bool.eq_iff_iff, hr, decide_eq_true_eq]
        rfl
      rw [this], hb⟩
set_option maxRecDepth 100000 in
set_option maxHeartbeats 2000000 in
theorem same1_any (A B : Option Addr) (n m c e : Nat) (S Q S' Q' : Nat → Int) (w : World) (hA : Row w A n 2 (hv S Q)) (hB : Row w B m 2 (hv S' Q')) (hn : (n : Int) ≤ 9223372036854775807) :
    Calls Try.prog 46 #[.slice A n c, .slice B m e] w fun e w' => e = .returned (.bool (decide (EqL n m S Q S' Q'))) ∧ Below w.heap.size w w' := by
  have KX := Lib.hid (fun W (h : Below w.heap.size w W) => eqh_dec A B n m c e S Q S' Q' W (hA.below h) (hB.below h) hn)
  clear hA hB
  generalize decide (EqL n m S Q S' Q') = r at *
  go_enter Try.func46, Try.ntmps46
  go_wp2_with fail
  refine (KX.out _ (by first | exact Below.refl _ _ | exact (Below.refl _ _).drew)).mono ?_
  rintro e w1 ⟨rfl, bel⟩
  have B1 := Lib.hid bel
  clear bel KX
  go_wp2
  go_ret
  exact ⟨rfl, B1.out⟩
/-- The lists of children read the same. -/
def SameK (d d2 : GD) : Prop := d.m = d2.m ∧ ∀ i, i < d.m → EqL (d.L i) (d2.L i) (d.S i) (d.Q i) (d2.S i) (d2.Q i)
set_option maxRecDepth 100000 in
set_option maxHeartbeats 4000000 in
theorem eqf_any (d d2 : GD) (p p2 : GP) (w : World) (h1 : GOk w p d) (h2 : GOk w p2 d2) (hm : d.m ≤ 1000) (hL : ∀ i, i < d.m → d.L i ≤ 1000) :
    Calls Try.prog 45 #[.slice p.K d.m p.kc, .slice p2.K d2.m p2.kc, .func (.func 46) #[] #[]] w fun e w' => EqR (SameK d d2) e ∧ Below w.heap.size w w' := by
  obtain ⟨A, c, K, kc, KA, KC⟩ := p
  obtain ⟨A2, c2, K2, kc2, KA2, KC2⟩ := p2
  dsimp only
  by_cases hnm : d.m = d2.m
  rotate_left
  · have g0 : ((d.m : Int) != (d2.m : Int)) = true := by simp; omega
    have NM := Lib.hid hnm
    clear h1 h2 hm hL hnm
    go_enter Try.func45, Try.ntmps45
    go_wp2
    go_ret
    exact ⟨⟨false, rfl, ⟨fun h => (by cases h), fun h => absurd h.1 NM.out⟩⟩, Below.refl _ _⟩
  have OK1 := Lib.hid h1
  have OK2 := Lib.hid h2
  have HL := Lib.hid hL
  have NM := Lib.hid hnm
  clear h1 h2 hL
  obtain ⟨m2, hm2⟩ : ∃ m2, d2.m = m2 := ⟨_, rfl⟩
  rw [hm2] at hnm ⊢
  obtain ⟨m, hmm⟩ : ∃ m, d.m = m := ⟨_, rfl⟩
  rw [hmm] at hnm hm ⊢
  subst hnm
  have M1 := Lib.hid hmm
  have M2 := Lib.hid hm2
  clear hmm hm2
  go_enter Try.func45, Try.ntmps45
  go_wp2
  go_loopw [17] (fun i wr => ∃ k : Nat, k ≤ m ∧ i = .int .i64 k ∧ (∀ i, i < k → EqL (d.L i) (d2.L i) (d.S i) (d.Q i) (d2.S i) (d2.Q i)) ∧ Below w.heap.size w wr) (fun i wr => m - (intOf i).toNat)
  case atStart => exact ⟨0, Nat.zero_le _, rfl, fun j hj => absurd hj (by omega), Below.refl _ _⟩
  case round =>
    obtain ⟨k, hk, rfl, hall, hbel⟩ := hrel
    have AL := Lib.hid hall
    have BL := Lib.hid hbel
    clear hall hbel
    by_cases hkm : k < m
    · obtain ⟨g1, o1, hA, hg1, hc1⟩ := (OK1.out.below BL.out).ks (by rw [M1.out]; omega)
      obtain ⟨g2, o2, hB, hg2, hc2⟩ := (OK2.out.below BL.out).ks (by rw [M2.out]; omega)
      dsimp only at hA hB
      subst hA hB
      have x0 := hc1 k (by rw [M1.out]; exact hkm) 0 (by omega)
      have y0 := hc2 k (by rw [M2.out]; exact hkm) 0 (by omega)
      simp only [Nat.add_zero, Nat.mul_one, kv] at x0 y0
      have i1 : (k : Int) < (m : Int) := by omega
      have i0 : (0 : Int) ≤ (k : Int) := by omega
      have KX := Lib.hid (same1_any (KA k) (KA2 k) (d.L k) (d2.L k) (KC k) (KC2 k) (d.S k) (d.Q k) (d2.S k) (d2.Q k) wr ((OK1.out.kd k (by rw [M1.out]; exact hkm)).below BL.out) ((OK2.out.kd k (by rw [M2.out]; exact hkm)).below BL.out) (by have := HL.out k (by rw [M1.out]; exact hkm); omega))
      clear hc1 hc2
      by_cases hcmp : EqL (d.L k) (d2.L k) (d.S k) (d.Q k) (d2.S k) (d2.Q k)
      · rw [decide_eq_true hcmp] at KX
        have HC := Lib.hid hcmp
        clear hcmp
        go_wp2_with fail
        refine KX.out.mono ?_
        rintro e w1 ⟨rfl, bel⟩
        have B2 := Lib.hid (BL.out.trans (bel.mono BL.out.size))
        clear bel KX x0 y0
        go_wp2
        go_roundw
        case rel =>
          refine ⟨k + 1, by omega, by go_num, fun j hj => ?_, B2.out⟩
          rcases Nat.lt_or_ge j k with h | h
          · exact AL.out j h
          · obtain rfl : j = k := by omega
            exact HC.out
        case measure => simp [intOf]; omega
      · rw [decide_eq_false hcmp] at KX
        have HC := Lib.hid hcmp
        clear hcmp
        go_wp2_with fail
        refine KX.out.mono ?_
        rintro e w1 ⟨rfl, bel⟩
        have B2 := Lib.hid (BL.out.trans (bel.mono BL.out.size))
        clear bel KX x0 y0
        go_wp2
        go_ret
        exact ⟨⟨false, rfl, ⟨fun h => (by cases h), fun h => absurd (h.2 k (by rw [M1.out]; exact hkm)) HC.out⟩⟩, B2.out⟩
    · obtain rfl : k = m := by omega
      go_wp2
      go_ret
      exact ⟨⟨true, rfl, ⟨fun _ => ⟨NM.out, fun i hi => AL.out i (by rw [M1.out] at hi; exact hi)⟩, fun _ => rfl⟩⟩, BL.out⟩

set_option maxRecDepth 100000 in
set_option maxHeartbeats 4000000 in
theorem sameg_any (d d2 : GD) (p p2 : GP) (w : World) (h1 : GOk w p d) (h2 : GOk w p2 d2) (hsm : d.Sm) :
    Calls Try.prog 22 #[.agg #[.slice p.A d.n p.c, .slice p.K d.m p.kc], .agg #[.slice p2.A d2.n p2.c, .slice p2.K d2.m p2.kc]] w fun e w' => EqR (SameG d d2) e ∧ Below w.heap.size w w' := by
  obtain ⟨A, c, K, kc, KA, KC⟩ := p
  obtain ⟨A2, c2, K2, kc2, KA2, KC2⟩ := p2
  dsimp only
  have OK1 := Lib.hid h1
  have OK2 := Lib.hid h2
  have SM := Lib.hid hsm
  have B0 := Lib.hid (show Below w.heap.size w ((w.alloc (.cells #[.slice A d.n c, .slice K d.m kc] 27)).alloc (.cells #[.slice A2 d2.n c2, .slice K2 d2.m kc2] 27)) by
    repeat' (first | exact Below.refl _ _ | assumption | apply Below.drew | refine Below.setCell ?_ (by first | omega | (simp; done) | (simp; omega)) _ | refine Below.alloc ?_ (by first | omega | (simp; done) | (simp; omega)) _))
  have P0 := Lib.hid (show HasBlk ((w.alloc (.cells #[.slice A d.n c, .slice K d.m kc] 27)).alloc (.cells #[.slice A2 d2.n c2, .slice K2 d2.m kc2] 27)) w.heap.size 27 #[.slice A d.n c, .slice K d.m kc] from (hasBlk_new w 27 _).alloc _)
  have Q0 := Lib.hid (show HasBlk ((w.alloc (.cells #[.slice A d.n c, .slice K d.m kc] 27)).alloc (.cells #[.slice A2 d2.n c2, .slice K2 d2.m kc2] 27)) (w.heap.size + 1) 27 #[.slice A2 d2.n c2, .slice K2 d2.m kc2] by simpa using hasBlk_new (w.alloc (.cells #[.slice A d.n c, .slice K d.m kc] 27)) 27 #[.slice A2 d2.n c2, .slice K2 d2.m kc2])
  have KX := Lib.hid (same_any A A2 d.n d2.n c c2 d.g d2.g d.b d2.b ((w.alloc (.cells #[.slice A d.n c, .slice K d.m kc] 27)).alloc (.cells #[.slice A2 d2.n c2, .slice K2 d2.m kc2] 27)) (h1.below B0.out).ar (h2.below B0.out).ar (by have := hsm.n; omega))
  clear h1 h2 hsm
  go_enter Try.func22, Try.ntmps22
  go_wp2_with fail
  refine KX.out.mono ?_
  rintro e w1 ⟨⟨r, rfl, hr⟩, bel⟩
  have B1 := Lib.hid (B0.out.trans (bel.mono B0.out.size))
  have P1 := Lib.hid (P0.out.below bel)
  have Q1 := Lib.hid (Q0.out.below bel)
  have HR := Lib.hid hr
  clear bel hr KX P0 Q0 B0
  cases r with
  | false =>
    clear P1 Q1
    go_wp2
    go_ret
    exact ⟨⟨false, rfl, ⟨fun h => (by cases h), fun h => (by have := HR.out.2 h.1; cases this)⟩⟩, B1.out⟩
  | true =>
    have p0 := P1.out.cell 0
    have p1 := P1.out.cell 1
    have q0 := Q1.out.cell 0
    have q1 := Q1.out.cell 1
    have zp := P1.out.lt
    have zq := Q1.out.lt
    simp at p0 p1 q0 q1
    have KX := Lib.hid (eqf_any d d2 _ _ w1 (OK1.out.below B1.out) (OK2.out.below B1.out) SM.out.m SM.out.L)
    go_wp2_with fail
    refine KX.out.mono ?_
    rintro e w2 ⟨⟨r, rfl, hr⟩, bel⟩
    have B2 := Lib.hid (B1.out.trans (bel.mono B1.out.size))
    have HS := Lib.hid hr
    clear bel hr KX p0 p1 q0 q1 zp zq P1 Q1
    go_wp2
    go_ret
    exact ⟨⟨r, rfl, ⟨fun h => ⟨HR.out.1 (by simp), HS.out.1 h⟩, fun h => HS.out.2 h.2⟩⟩, B2.out⟩
end Go.Proofs.Ytgkeiaggldahnaa
