/- frame: Same; the reference's Great; how a frame reads. -/
import Derived.Test.YtibeoeooajelgaaF7
import Derived.Test.YtibeoeooajelgaaF9
import Derived.Test.YtibeoeooajelgaaRd
namespace Go.Proofs.Ytibeoeooajelgaa
open Go.RowKit
set_option linter.unusedVariables false
theorem eql_col2 (a0 a1 a2 a3 b0 b1 b2 b3 : Int) (w : World) : (binOp .eql 23 (.agg #[.int .u8 a0, .int .u8 a1, .int .u8 a2, .int .u8 a3]) (.agg #[.int .u8 b0, .int .u8 b1, .int .u8 b2, .int .u8 b3])).run Try.prog w = .ok (.bool (a0 == b0 && (a1 == b1 && (a2 == b2 && a3 == b3)))) w := eql_col a0 a1 a2 a3 b0 b1 b2 b3 w

set_option maxRecDepth 100000 in
set_option maxHeartbeats 2000000 in
theorem eqints (A B : Option Addr) (n m c d : Nat) (F : Nat → Nat → Int) (G : Nat → Nat → Int) (w : World) (hA : Row w A n 1 (fun i j => .int .i64 (F i j))) (hB : Row w B m 1 (fun i j => .int .i64 (G i j))) (hn : (n : Int) ≤ 9223372036854775807) :
    Calls Try.prog 65 #[.slice A n c, .slice B m d] w fun e w' => EqR (n = m ∧ ∀ k, k < n → F k 0 = G k 0) e ∧ Below w.heap.size w w' := by
  by_cases hnm : n = m
  rotate_left
  · have g0 : ((n : Int) != (m : Int)) = true := by simp; omega
    clear hA hB
    go_enter Try.func65, Try.ntmps65
    go_wp2
    go_ret
    exact ⟨⟨false, rfl, ⟨fun h => (by cases h), fun h => absurd h.1 hnm⟩⟩, Below.refl _ _⟩
  subst hnm
  have HA := Lib.hid hA
  have HB := Lib.hid hB
  clear hA hB
  go_enter Try.func65, Try.ntmps65
  go_wp2
  go_loopw [13] (fun i wr => ∃ k : Nat, k ≤ n ∧ i = .int .i64 k ∧ (∃ q, wr = w.drewN q) ∧ ∀ k', k' < k → F k' 0 = G k' 0) (fun i wr => n - (intOf i).toNat)
  case atStart => exact ⟨0, Nat.zero_le _, rfl, ⟨0, rfl⟩, fun j hj => absurd hj (by omega)⟩
  case round =>
    obtain ⟨k, hk, rfl, ⟨q, rfl⟩, hall⟩ := hrel
    have Hall := Lib.hid hall
    clear hall
    by_cases hkn : k < n
    · obtain ⟨g, o, rfl, hg, hc⟩ := HA.out (by omega)
      obtain ⟨g', o', rfl, hg', hc'⟩ := HB.out (by omega)
      have c0 := hc k hkn 0 (by omega)
      have d0 := hc' k hkn 0 (by omega)
      dsimp only at c0 d0
      simp only [Nat.add_zero, Nat.mul_one] at c0 d0
      have hi : (k : Int) < (n : Int) := by omega
      have hi0 : (0 : Int) ≤ (k : Int) := by omega
      clear hc hc'
      by_cases hcmp : F k 0 = G k 0
      · have hv : (F k 0 == G k 0) = true := by simpa using hcmp
        have Hc := Lib.hid hcmp
        clear hcmp
        go_wp2_with fail
        go_quiet (fail)
        go_wp2
        go_roundw
        case rel =>
          refine ⟨k + 1, by omega, by go_num, ⟨_, rfl⟩, fun j hj => ?_⟩
          rcases Nat.lt_or_ge j k with h | h
          · exact Hall.out j h
          · obtain rfl : j = k := by omega
            exact Hc.out
        case measure => simp [intOf]; omega
      · have hv : (F k 0 == G k 0) = false := by simpa using hcmp
        have Hc := Lib.hid hcmp
        clear hcmp
        go_wp2_with fail
        go_quiet (fail)
        go_wp2
        go_ret
        exact ⟨⟨false, rfl, ⟨fun h => (by cases h), fun h => absurd (h.2 k hkn) Hc.out⟩⟩, by first | exact below_drewN (Below.refl _ _) _ | exact below_drewN (below_drewN (Below.refl _ _) _) _⟩
    · obtain rfl : k = n := by omega
      go_wp2
      go_ret
      exact ⟨⟨true, rfl, ⟨fun _ => ⟨by trivial, Hall.out⟩, fun _ => rfl⟩⟩, below_drewN (Below.refl _ _) _⟩

set_option maxRecDepth 100000 in
set_option maxHeartbeats 2000000 in
theorem eqcols (A B : Option Addr) (n m c d : Nat) (F : Nat → Nat → Int) (G : Nat → Nat → Int) (w : World) (hA : Row w A n 4 (fun i j => .int .u8 (F i j))) (hB : Row w B m 4 (fun i j => .int .u8 (G i j))) (hn : (n : Int) ≤ 9223372036854775807) :
    Calls Try.prog 64 #[.slice A n c, .slice B m d] w fun e w' => EqR (n = m ∧ ∀ k, k < n → F k 0 = G k 0 ∧ F k 1 = G k 1 ∧ F k 2 = G k 2 ∧ F k 3 = G k 3) e ∧ Below w.heap.size w w' := by
  by_cases hnm : n = m
  rotate_left
  · have g0 : ((n : Int) != (m : Int)) = true := by simp; omega
    clear hA hB
    go_enter Try.func64, Try.ntmps64
    go_wp2
    go_ret
    exact ⟨⟨false, rfl, ⟨fun h => (by cases h), fun h => absurd h.1 hnm⟩⟩, Below.refl _ _⟩
  subst hnm
  have HA := Lib.hid hA
  have HB := Lib.hid hB
  clear hA hB
  go_enter Try.func64, Try.ntmps64
  go_wp2
  go_loopw [13] (fun i wr => ∃ k : Nat, k ≤ n ∧ i = .int .i64 k ∧ (∃ q, wr = w.drewN q) ∧ ∀ k', k' < k → F k' 0 = G k' 0 ∧ F k' 1 = G k' 1 ∧ F k' 2 = G k' 2 ∧ F k' 3 = G k' 3) (fun i wr => n - (intOf i).toNat)
  case atStart => exact ⟨0, Nat.zero_le _, rfl, ⟨0, rfl⟩, fun j hj => absurd hj (by omega)⟩
  case round =>
    obtain ⟨k, hk, rfl, ⟨q, rfl⟩, hall⟩ := hrel
    have Hall := Lib.hid hall
    clear hall
    by_cases hkn : k < n
    · obtain ⟨g, o, rfl, hg, hc⟩ := HA.out (by omega)
      obtain ⟨g', o', rfl, hg', hc'⟩ := HB.out (by omega)
      have c0 := hc k hkn 0 (by omega)
      have c1 := hc k hkn 1 (by omega)
      have c2 := hc k hkn 2 (by omega)
      have c3 := hc k hkn 3 (by omega)
      have d0 := hc' k hkn 0 (by omega)
      have d1 := hc' k hkn 1 (by omega)
      have d2 := hc' k hkn 2 (by omega)
      have d3 := hc' k hkn 3 (by omega)
      dsimp only at c0 c1 c2 c3 d0 d1 d2 d3
      simp only [Nat.add_zero] at c0 c1 c2 c3 d0 d1 d2 d3
      have hi : (k : Int) < (n : Int) := by omega
      have hi0 : (0 : Int) ≤ (k : Int) := by omega
      clear hc hc'
      by_cases hcmp : F k 0 = G k 0 ∧ F k 1 = G k 1 ∧ F k 2 = G k 2 ∧ F k 3 = G k 3
      · have hq := fun W => equalIn_of_eql (eql_col2 ((F k 0)) ((F k 1)) ((F k 2)) ((F k 3)) ((G k 0)) ((G k 1)) ((G k 2)) ((G k 3)) W)
        have hv : ((F k 0 == G k 0) && ((F k 1 == G k 1) && ((F k 2 == G k 2) && (F k 3 == G k 3)))) = true := by have := hcmp; simp_all
        simp only [hv] at hq
        clear hv
        have Hc := Lib.hid hcmp
        clear hcmp
        go_wp2_with fail
        go_quiet (fail)
        go_wp2
        go_roundw
        case rel =>
          refine ⟨k + 1, by omega, by go_num, ⟨_, rfl⟩, fun j hj => ?_⟩
          rcases Nat.lt_or_ge j k with h | h
          · exact Hall.out j h
          · obtain rfl : j = k := by omega
            exact Hc.out
        case measure => simp [intOf]; omega
      · have hq := fun W => equalIn_of_eql (eql_col2 ((F k 0)) ((F k 1)) ((F k 2)) ((F k 3)) ((G k 0)) ((G k 1)) ((G k 2)) ((G k 3)) W)
        have hv : ((F k 0 == G k 0) && ((F k 1 == G k 1) && ((F k 2 == G k 2) && (F k 3 == G k 3)))) = false := by rw [Bool.eq_false_iff]; intro hh; apply hcmp; simpa using hh
        simp only [hv] at hq
        clear hv
        have Hc := Lib.hid hcmp
        clear hcmp
        go_wp2_with fail
        go_quiet (fail)
        go_wp2
        go_ret
        exact ⟨⟨false, rfl, ⟨fun h => (by cases h), fun h => absurd (h.2 k hkn) Hc.out⟩⟩, by first | exact below_drewN (Below.refl _ _) _ | exact below_drewN (below_drewN (Below.refl _ _) _) _⟩
    · obtain rfl : k = n := by omega
      go_wp2
      go_ret
      exact ⟨⟨true, rfl, ⟨fun _ => ⟨by trivial, Hall.out⟩, fun _ => rfl⟩⟩, below_drewN (Below.refl _ _) _⟩

set_option maxRecDepth 100000 in
set_option maxHeartbeats 8000000 in
theorem same_any (p q : FP) (f g : FD) (w : World) (h : FOk w p f) (k : FOk w q g) (hn : (f.nc : Int) ≤ 9223372036854775807 ∧ (f.nd : Int) ≤ 9223372036854775807 ∧ (f.ni : Int) ≤ 9223372036854775807 ∧ (f.nt : Int) ≤ 9223372036854775807) : Calls Try.prog 26 #[.agg #[.int .i64 f.W, .int .i64 f.H, .slice p.ac f.nc p.kc, .slice p.ad f.nd p.kd, .slice p.ai f.ni p.ki, .slice p.a4 f.nt p.kt], .agg #[.int .i64 g.W, .int .i64 g.H, .slice q.ac g.nc q.kc, .slice q.ad g.nd q.kd, .slice q.ai g.ni q.ki, .slice q.a4 g.nt q.kt]] w fun e w' => EqR (f.Same g) e ∧ Below w.heap.size w w' := by
  obtain ⟨W, H, nc, nd, ni, nt, C, D, I, T⟩ := f
  obtain ⟨ac, ad, ai, a4, kc, kd, ki, kt⟩ := p
  obtain ⟨W', H', nc', nd', ni', nt', C', D', I', T'⟩ := g
  obtain ⟨ac', ad', ai', a4', kc', kd', ki', kt'⟩ := q
  obtain ⟨hC, hD, hI, hT⟩ := h
  obtain ⟨hC', hD', hI', hT'⟩ := k
  obtain ⟨hnc, hnd, hni, hnt⟩ := hn
  dsimp only at hC hD hI hT hC' hD' hI' hT' hnc hnd hni hnt ⊢
  have HC := Lib.hid hC
  have HDr := Lib.hid hD.row
  have HIr := Lib.hid hI.row
  have HTr := Lib.hid hT.row
  have HC' := Lib.hid hC'
  have HDr' := Lib.hid hD'.row
  have HIr' := Lib.hid hI'.row
  have HTr' := Lib.hid hT'.row
  clear hC hD hI hT hC' hD' hI' hT'
  have hb0 : Below w.heap.size w ((w.alloc (.cells #[.int .i64 W, .int .i64 H, .slice ac nc kc, .slice ad nd kd, .slice ai ni ki, .slice a4 nt kt] 29)).alloc (.cells #[.int .i64 W', .int .i64 H', .slice ac' nc' kc', .slice ad' nd' kd', .slice ai' ni' ki', .slice a4' nt' kt'] 29)) := ((Below.refl _ _).alloc (Nat.le_refl _) _).alloc (by simp) _
  have HB0 := Lib.hid hb0
  clear hb0
  by_cases h0 : W = W'
  rotate_left
  · have g0 : (W == W') = false := by simpa using h0
    have e0 : decide (W = W') = false := decide_eq_false h0
    have h0 := Lib.hid h0
    go_enter Try.func26, Try.ntmps26
    go_wp2
    go_ret
    exact ⟨⟨false, rfl, ⟨fun z => (by cases z), fun z => absurd z.1.1 h0.out⟩⟩, HB0.out⟩
  by_cases h1 : H = H'
  rotate_left
  · have g0 : (W == W') = true := by simpa using h0
    have e0 : decide (W = W') = true := decide_eq_true h0
    have g1 : (H == H') = false := by simpa using h1
    have e1 : decide (H = H') = false := decide_eq_false h1
    have h1 := Lib.hid h1
    clear h0
    go_enter Try.func26, Try.ntmps26
    go_wp2
    go_ret
    exact ⟨⟨false, rfl, ⟨fun z => (by cases z), fun z => absurd z.1.2 h1.out⟩⟩, HB0.out⟩
  subst h0 h1
  have g0 : (W == W) = true := by simp
  have g1 : (H == H) = true := by simp
  go_enter Try.func26, Try.ntmps26
  go_wp2_with fail
  clear HB0
  have NE_P_Q := Lib.hid (show w.heap.size ≠ w.heap.size + 1 by omega)
  have s_P : HasBlk (w.alloc (.cells #[.int .i64 W, .int .i64 H, .slice ac nc kc, .slice ad nd kd, .slice ai ni ki, .slice a4 nt kt] 29)) (w.heap.size) 29 #[.int .i64 W, .int .i64 H, .slice ac nc kc, .slice ad nd kd, .slice ai ni ki, .slice a4 nt kt] := by simpa using hasBlk_new w 29 #[.int .i64 W, .int .i64 H, .slice ac nc kc, .slice ad nd kd, .slice ai ni ki, .slice a4 nt kt]
  replace s_P := s_P.alloc (.cells #[.int .i64 W, .int .i64 H, .slice ac' nc' kc', .slice ad' nd' kd', .slice ai' ni' ki', .slice a4' nt' kt'] 29)
  have s_Q : HasBlk ((w.alloc (.cells #[.int .i64 W, .int .i64 H, .slice ac nc kc, .slice ad nd kd, .slice ai ni ki, .slice a4 nt kt] 29)).alloc (.cells #[.int .i64 W, .int .i64 H, .slice ac' nc' kc', .slice ad' nd' kd', .slice ai' ni' ki', .slice a4' nt' kt'] 29)) (w.heap.size + 1) 29 #[.int .i64 W, .int .i64 H, .slice ac' nc' kc', .slice ad' nd' kd', .slice ai' ni' ki', .slice a4' nt' kt'] := by simpa using hasBlk_new (w.alloc (.cells #[.int .i64 W, .int .i64 H, .slice ac nc kc, .slice ad nd kd, .slice ai ni ki, .slice a4 nt kt] 29)) 29 #[.int .i64 W, .int .i64 H, .slice ac' nc' kc', .slice ad' nd' kd', .slice ai' ni' ki', .slice a4' nt' kt']
  have t_P : HasBlk ((w.alloc (.cells #[.int .i64 W, .int .i64 H, .slice ac nc kc, .slice ad nd kd, .slice ai ni ki, .slice a4 nt kt] 29)).alloc (.cells #[.int .i64 W, .int .i64 H, .slice ac' nc' kc', .slice ad' nd' kd', .slice ai' ni' ki', .slice a4' nt' kt'] 29)) (w.heap.size) 29 #[.int .i64 W, .int .i64 H, .slice ac nc kc, .slice ad nd kd, .slice ai ni ki, .slice a4 nt kt] := by simpa using s_P
  clear s_P
  have t_Q : HasBlk ((w.alloc (.cells #[.int .i64 W, .int .i64 H, .slice ac nc kc, .slice ad nd kd, .slice ai ni ki, .slice a4 nt kt] 29)).alloc (.cells #[.int .i64 W, .int .i64 H, .slice ac' nc' kc', .slice ad' nd' kd', .slice ai' ni' ki', .slice a4' nt' kt'] 29)) (w.heap.size + 1) 29 #[.int .i64 W, .int .i64 H, .slice ac' nc' kc', .slice ad' nd' kd', .slice ai' ni' ki', .slice a4' nt' kt'] := by simpa using s_Q
  clear s_Q
  have SB1 : Below w.heap.size w ((w.alloc (.cells #[.int .i64 W, .int .i64 H, .slice ac nc kc, .slice ad nd kd, .slice ai ni ki, .slice a4 nt kt] 29)).alloc (.cells #[.int .i64 W, .int .i64 H, .slice ac' nc' kc', .slice ad' nd' kd', .slice ai' ni' ki', .slice a4' nt' kt'] 29)) := by
    repeat' (first | exact Below.refl _ _ | assumption | apply Below.drew | refine Below.setCell ?_ (by first | omega | (simp; done) | (simp; omega)) _ | refine Below.alloc ?_ (by first | omega | (simp; done) | (simp; omega)) _)
  generalize gW_v0 : ((w.alloc (.cells #[.int .i64 W, .int .i64 H, .slice ac nc kc, .slice ad nd kd, .slice ai ni ki, .slice a4 nt kt] 29)).alloc (.cells #[.int .i64 W, .int .i64 H, .slice ac' nc' kc', .slice ad' nd' kd', .slice ai' ni' ki', .slice a4' nt' kt'] 29)) = v0 at *
  clear gW_v0
  have P := Lib.hid t_P
  clear t_P
  have Q := Lib.hid t_Q
  clear t_Q
  have SB1h := Lib.hid SB1
  clear SB1
  refine (eqcols ac ac' nc nc' kc kc' C C' _ (HC.out.below SB1h.out) (HC'.out.below SB1h.out) hnc).mono ?_
  rintro e w1 ⟨⟨r1, rfl, hr1⟩, bel1⟩
  have Hr1 := Lib.hid hr1
  clear hr1
  have t_P := P.out.below bel1
  clear P
  have P := Lib.hid t_P
  clear t_P
  have t_Q := Q.out.below bel1
  clear Q
  have Q := Lib.hid t_Q
  clear t_Q
  have SB2 : Below w.heap.size w w1 := SB1h.out.trans (bel1.mono SB1h.out.size)
  clear SB1h
  have SB2h := Lib.hid SB2
  clear SB2 bel1
  have lt_P := P.out.lt
  have P_0 := P.out.cell 0
  have P_1 := P.out.cell 1
  have P_2 := P.out.cell 2
  have P_3 := P.out.cell 3
  have P_4 := P.out.cell 4
  have P_5 := P.out.cell 5
  simp at P_0 P_1 P_2 P_3 P_4 P_5
  have lt_Q := Q.out.lt
  have Q_0 := Q.out.cell 0
  have Q_1 := Q.out.cell 1
  have Q_2 := Q.out.cell 2
  have Q_3 := Q.out.cell 3
  have Q_4 := Q.out.cell 4
  have Q_5 := Q.out.cell 5
  simp at Q_0 Q_1 Q_2 Q_3 Q_4 Q_5
  have szB_w1 := SB2h.out.size
  by_cases hx : r1 = true
  rotate_left
  · have hx' : r1 = false := by simpa using hx
    subst hx'
    clear hx
    go_wp2
    go_ret
    exact ⟨⟨false, rfl, ⟨fun z => (by cases z), fun z => absurd (Hr1.out.2 ⟨z.2.1.1, z.2.1.2⟩) (by decide)⟩⟩, SB2h.out⟩
  subst hx
  go_wp2_with fail
  refine (eqints ad ad' nd nd' kd kd' (fun i _ => D i) (fun i _ => D' i) _ (HDr.out.below SB2h.out) (HDr'.out.below SB2h.out) hnd).mono ?_
  rintro e w2 ⟨⟨r2, rfl, hr2⟩, bel2⟩
  have Hr2 := Lib.hid hr2
  clear hr2
  clear lt_P P_0 P_1 P_2 P_3 P_4 P_5 lt_Q Q_0 Q_1 Q_2 Q_3 Q_4 Q_5
  have t_P := P.out.below bel2
  clear P
  have P := Lib.hid t_P
  clear t_P
  have t_Q := Q.out.below bel2
  clear Q
  have Q := Lib.hid t_Q
  clear t_Q
  have SB3 : Below w.heap.size w w2 := SB2h.out.trans (bel2.mono SB2h.out.size)
  clear SB2h
  have SB3h := Lib.hid SB3
  clear SB3 bel2
  have lt_P := P.out.lt
  have P_0 := P.out.cell 0
  have P_1 := P.out.cell 1
  have P_2 := P.out.cell 2
  have P_3 := P.out.cell 3
  have P_4 := P.out.cell 4
  have P_5 := P.out.cell 5
  simp at P_0 P_1 P_2 P_3 P_4 P_5
  have lt_Q := Q.out.lt
  have Q_0 := Q.out.cell 0
  have Q_1 := Q.out.cell 1
  have Q_2 := Q.out.cell 2
  have Q_3 := Q.out.cell 3
  have Q_4 := Q.out.cell 4
  have Q_5 := Q.out.cell 5
  simp at Q_0 Q_1 Q_2 Q_3 Q_4 Q_5
  have szB_w2 := SB3h.out.size
  by_cases hx : r2 = true
  rotate_left
  · have hx' : r2 = false := by simpa using hx
    subst hx'
    clear hx
    go_wp2
    go_ret
    exact ⟨⟨false, rfl, ⟨fun z => (by cases z), fun z => absurd (Hr2.out.2 ⟨z.2.2.1.1, z.2.2.1.2⟩) (by decide)⟩⟩, SB3h.out⟩
  subst hx
  go_wp2_with fail
  refine (eqints ai ai' ni ni' ki ki' (fun i _ => I i) (fun i _ => I' i) _ (HIr.out.below SB3h.out) (HIr'.out.below SB3h.out) hni).mono ?_
  rintro e w3 ⟨⟨r3, rfl, hr3⟩, bel3⟩
  have Hr3 := Lib.hid hr3
  clear hr3
  clear lt_P P_0 P_1 P_2 P_3 P_4 P_5 lt_Q Q_0 Q_1 Q_2 Q_3 Q_4 Q_5
  have t_P := P.out.below bel3
  clear P
  have P := Lib.hid t_P
  clear t_P
  have t_Q := Q.out.below bel3
  clear Q
  have Q := Lib.hid t_Q
  clear t_Q
  have SB4 : Below w.heap.size w w3 := SB3h.out.trans (bel3.mono SB3h.out.size)
  clear SB3h
  have SB4h := Lib.hid SB4
  clear SB4 bel3
  have lt_P := P.out.lt
  have P_0 := P.out.cell 0
  have P_1 := P.out.cell 1
  have P_2 := P.out.cell 2
  have P_3 := P.out.cell 3
  have P_4 := P.out.cell 4
  have P_5 := P.out.cell 5
  simp at P_0 P_1 P_2 P_3 P_4 P_5
  have lt_Q := Q.out.lt
  have Q_0 := Q.out.cell 0
  have Q_1 := Q.out.cell 1
  have Q_2 := Q.out.cell 2
  have Q_3 := Q.out.cell 3
  have Q_4 := Q.out.cell 4
  have Q_5 := Q.out.cell 5
  simp at Q_0 Q_1 Q_2 Q_3 Q_4 Q_5
  have szB_w3 := SB4h.out.size
  by_cases hx : r3 = true
  rotate_left
  · have hx' : r3 = false := by simpa using hx
    subst hx'
    clear hx
    go_wp2
    go_ret
    exact ⟨⟨false, rfl, ⟨fun z => (by cases z), fun z => absurd (Hr3.out.2 ⟨z.2.2.2.1.1, z.2.2.2.1.2⟩) (by decide)⟩⟩, SB4h.out⟩
  subst hx
  go_wp2_with fail
  refine (eqints a4 a4' nt nt' kt kt' (fun i _ => T i) (fun i _ => T' i) _ (HTr.out.below SB4h.out) (HTr'.out.below SB4h.out) hnt).mono ?_
  rintro e w4 ⟨⟨r4, rfl, hr4⟩, bel4⟩
  have Hr4 := Lib.hid hr4
  clear hr4
  clear lt_P P_0 P_1 P_2 P_3 P_4 P_5 lt_Q Q_0 Q_1 Q_2 Q_3 Q_4 Q_5
  have t_P := P.out.below bel4
  clear P
  have P := Lib.hid t_P
  clear t_P
  have t_Q := Q.out.below bel4
  clear Q
  have Q := Lib.hid t_Q
  clear t_Q
  have SB5 : Below w.heap.size w w4 := SB4h.out.trans (bel4.mono SB4h.out.size)
  clear SB4h
  have SB5h := Lib.hid SB5
  clear SB5 bel4
  have lt_P := P.out.lt
  have P_0 := P.out.cell 0
  have P_1 := P.out.cell 1
  have P_2 := P.out.cell 2
  have P_3 := P.out.cell 3
  have P_4 := P.out.cell 4
  have P_5 := P.out.cell 5
  simp at P_0 P_1 P_2 P_3 P_4 P_5
  have lt_Q := Q.out.lt
  have Q_0 := Q.out.cell 0
  have Q_1 := Q.out.cell 1
  have Q_2 := Q.out.cell 2
  have Q_3 := Q.out.cell 3
  have Q_4 := Q.out.cell 4
  have Q_5 := Q.out.cell 5
  simp at Q_0 Q_1 Q_2 Q_3 Q_4 Q_5
  have szB_w4 := SB5h.out.size
  by_cases hx : r4 = true
  rotate_left
  · have hx' : r4 = false := by simpa using hx
    subst hx'
    clear hx
    go_wp2
    go_ret
    exact ⟨⟨false, rfl, ⟨fun z => (by cases z), fun z => absurd (Hr4.out.2 ⟨z.2.2.2.2.1, z.2.2.2.2.2⟩) (by decide)⟩⟩, SB5h.out⟩
  subst hx
  go_wp2
  go_ret
  exact ⟨⟨true, rfl, ⟨fun _ => ⟨⟨rfl, rfl⟩, ⟨(Hr1.out.1 (by trivial)).1, (Hr1.out.1 (by trivial)).2⟩, ⟨(Hr2.out.1 (by trivial)).1, (Hr2.out.1 (by trivial)).2⟩, ⟨(Hr3.out.1 (by trivial)).1, (Hr3.out.1 (by trivial)).2⟩, ⟨(Hr4.out.1 (by trivial)).1, (Hr4.out.1 (by trivial)).2⟩⟩, fun _ => rfl⟩⟩, SB5h.out⟩

/-- Is a frame more than statements go through? -/
def FD.Great (f : FD) : Prop := 5000 < f.nc ∨ 5000 < f.nd ∨ 5000 < f.ni ∨ 5000 < f.nt

set_option maxRecDepth 100000 in
set_option maxHeartbeats 4000000 in
theorem great_any (p : FP) (f : FD) (w : World) : Calls Try.prog 18 #[.agg #[.int .i64 f.W, .int .i64 f.H, .slice p.ac f.nc p.kc, .slice p.ad f.nd p.kd, .slice p.ai f.ni p.ki, .slice p.a4 f.nt p.kt]] w fun e w' => EqR f.Great e ∧ Below w.heap.size w w' := by
  obtain ⟨W, H, nc, nd, ni, nt, C, D, I, T⟩ := f
  obtain ⟨ac, ad, ai, a4, kc, kd, ki, kt⟩ := p
  dsimp only
  have hb0 : Below w.heap.size w (w.alloc (.cells #[.int .i64 W, .int .i64 H, .slice ac nc kc, .slice ad nd kd, .slice ai ni ki, .slice a4 nt kt] 29)) := (Below.refl _ _).alloc (Nat.le_refl _) _
  have HB0 := Lib.hid hb0
  clear hb0
  by_cases h0 : (5000 : Int) < nc
  · have g0 : decide ((5000 : Int) < nc) = true := decide_eq_true h0
    have Hk := Lib.hid (show 5000 < nc by omega)
    clear h0
    go_enter Try.func18, Try.ntmps18
    go_wp2
    go_ret
    exact ⟨⟨true, rfl, ⟨fun _ => Or.inl Hk.out, fun _ => rfl⟩⟩, HB0.out⟩
  have g0 : decide ((5000 : Int) < nc) = false := decide_eq_false h0
  have H0 := Lib.hid h0
  clear h0
  by_cases h1 : (5000 : Int) < nd
  · have g1 : decide ((5000 : Int) < nd) = true := decide_eq_true h1
    have Hk := Lib.hid (show 5000 < nd by omega)
    clear h1
    go_enter Try.func18, Try.ntmps18
    go_wp2
    go_ret
    exact ⟨⟨true, rfl, ⟨fun _ => Or.inr (.inl Hk.out), fun _ => rfl⟩⟩, HB0.out⟩
  have g1 : decide ((5000 : Int) < nd) = false := decide_eq_false h1
  have H1 := Lib.hid h1
  clear h1
  by_cases h2 : (5000 : Int) < ni
  · have g2 : decide ((5000 : Int) < ni) = true := decide_eq_true h2
    have Hk := Lib.hid (show 5000 < ni by omega)
    clear h2
    go_enter Try.func18, Try.ntmps18
    go_wp2
    go_ret
    exact ⟨⟨true, rfl, ⟨fun _ => Or.inr (.inr (.inl Hk.out)), fun _ => rfl⟩⟩, HB0.out⟩
  have g2 : decide ((5000 : Int) < ni) = false := decide_eq_false h2
  have H2 := Lib.hid h2
  clear h2
  by_cases h3 : (5000 : Int) < nt
  · have g3 : decide ((5000 : Int) < nt) = true := decide_eq_true h3
    have Hk := Lib.hid (show 5000 < nt by omega)
    clear h3
    go_enter Try.func18, Try.ntmps18
    go_wp2
    go_ret
    exact ⟨⟨true, rfl, ⟨fun _ => Or.inr (.inr (.inr Hk.out)), fun _ => rfl⟩⟩, HB0.out⟩
  have g3 : decide ((5000 : Int) < nt) = false := decide_eq_false h3
  have H3 := Lib.hid h3
  clear h3
  go_enter Try.func18, Try.ntmps18
  go_wp2
  go_ret
  exact ⟨⟨false, rfl, ⟨fun z => (by cases z), fun z => absurd z (by unfold FD.Great; dsimp only; have := H0.out; have := H1.out; have := H2.out; have := H3.out; omega)⟩⟩, HB0.out⟩
end Go.Proofs.Ytibeoeooajelgaa
