/- frame: the reference's Same. -/
import Derived.Test.YtibeoeooajelgaaFO
namespace Go.Proofs.Ytibeoeooajelgaa
open Go.RowKit
set_option linter.unusedVariables false
theorem eql_col (a0 a1 a2 a3 b0 b1 b2 b3 : Int) (w : World) : (binOp .eql 23 (.agg #[.int .u8 a0, .int .u8 a1, .int .u8 a2, .int .u8 a3]) (.agg #[.int .u8 b0, .int .u8 b1, .int .u8 b2, .int .u8 b3])).run Try.prog w = .ok (.bool (a0 == b0 && (a1 == b1 && (a2 == b2 && a3 == b3)))) w := by
  obtain ⟨ii, hii, _, _, _⟩ := info_parts u8_info
  exact eql_arr4 (P := Try.prog) (t := 23) (e := 5) (k := .u8) (i := ii) Try.underlying23 Try.underlying5 hii (by kernel_rfl) a0 a1 a2 a3 b0 b1 b2 b3 w

set_option maxRecDepth 100000 in
set_option maxHeartbeats 2000000 in
theorem sameints (A B : Option Addr) (n m c d : Nat) (F : Nat → Nat → Int) (G : Nat → Nat → Int) (w : World) (hA : Row w A n 1 (fun i j => .int .i64 (F i j))) (hB : Row w B m 1 (fun i j => .int .i64 (G i j))) (hn : (n : Int) ≤ 9223372036854775807) :
    Calls Try.prog 75 #[.slice A n c, .slice B m d] w fun e w' => EqR (n = m ∧ ∀ k, k < n → F k 0 = G k 0) e ∧ Below w.heap.size w w' := by
  by_cases hnm : n = m
  rotate_left
  · have g0 : ((n : Int) != (m : Int)) = true := by simp; omega
    clear hA hB
    go_enter Try.func75, Try.ntmps75
    go_wp2
    go_ret
    exact ⟨⟨false, rfl, ⟨fun h => (by cases h), fun h => absurd h.1 hnm⟩⟩, Below.refl _ _⟩
  subst hnm
  have HA := Lib.hid hA
  have HB := Lib.hid hB
  clear hA hB
  go_enter Try.func75, Try.ntmps75
  go_wp2
  go_loopw [5] (fun i wr => ∃ k : Nat, k ≤ n ∧ i = .int .i64 k ∧ (∃ q, wr = w.drewN q) ∧ ∀ k', k' < k → F k' 0 = G k' 0) (fun i wr => n - (intOf i).toNat)
  case atStart => exact ⟨0, Nat.zero_le _, rfl, ⟨0, rfl⟩, fun j hj => absurd hj (by omega)⟩
  case round =>
    obtain ⟨k, hk, rfl, ⟨q, rfl⟩, hall⟩ := hrel
    have Hall := Lib.hid hall
    clear hall
    by_cases hkn : k < n
    · obtain ⟨g, o, rfl, hg, hc⟩ := HA.out (by omega)
      obtain ⟨g', o', rfl, hg', hc'⟩ := HB.out (by omega)
      have c0 := hc k hkn 0 (by omega)
      have d0 := hc' k hkn 0 (by omega)
      dsimp only at c0 d0
      simp only [Nat.add_zero, Nat.mul_one] at c0 d0
      have hi : (k : Int) < (n : Int) := by omega
      have hi0 : (0 : Int) ≤ (k : Int) := by omega
      clear hc hc'
      by_cases hcmp : F k 0 = G k 0
      · have hv : (F k 0 == G k 0) = true := by simpa using hcmp
        have Hc := Lib.hid hcmp
        clear hcmp
        go_wp2_with fail
        go_quiet (fail)
        go_wp2
        go_roundw
        case rel =>
          refine ⟨k + 1, by omega, by go_num, ⟨_, rfl⟩, fun j hj => ?_⟩
          rcases Nat.lt_or_ge j k with h | h
          · exact Hall.out j h
          · obtain rfl : j = k := by omega
            exact Hc.out
        case measure => simp [intOf]; omega
      · have hv : (F k 0 == G k 0) = false := by simpa using hcmp
        have Hc := Lib.hid hcmp
        clear hcmp
        go_wp2_with fail
        go_quiet (fail)
        go_wp2
        go_ret
        exact ⟨⟨false, rfl, ⟨fun h => (by cases h), fun h => absurd (h.2 k hkn) Hc.out⟩⟩, by first | exact below_drewN (Below.refl _ _) _ | exact below_drewN (below_drewN (Below.refl _ _) _) _⟩
    · obtain rfl : k = n := by omega
      go_wp2
      go_ret
      exact ⟨⟨true, rfl, ⟨fun _ => ⟨by trivial, Hall.out⟩, fun _ => rfl⟩⟩, below_drewN (Below.refl _ _) _⟩

set_option maxRecDepth 100000 in
set_option maxHeartbeats 8000000 in
theorem same24_any (p q : FP) (f g : FD) (w : World) (h : FOk w p f) (k : FOk w q g) (hn : (f.nc : Int) ≤ 9223372036854775807 ∧ (f.nd : Int) ≤ 9223372036854775807 ∧ (f.ni : Int) ≤ 9223372036854775807 ∧ (f.nt : Int) ≤ 9223372036854775807) : Calls Try.prog 50 #[.agg #[.int .i64 f.W, .int .i64 f.H, .slice p.ac f.nc p.kc, .slice p.ad f.nd p.kd, .slice p.ai f.ni p.ki, .slice p.a4 f.nt p.kt], .agg #[.int .i64 g.W, .int .i64 g.H, .slice q.ac g.nc q.kc, .slice q.ad g.nd q.kd, .slice q.ai g.ni q.ki, .slice q.a4 g.nt q.kt]] w fun e w' => EqR (f.Same g) e ∧ Below w.heap.size w w' := by
  obtain ⟨W, H, nc, nd, ni, nt, C, D, I, T⟩ := f
  obtain ⟨ac, ad, ai, a4, kc, kd, ki, kt⟩ := p
  obtain ⟨W', H', nc', nd', ni', nt', C', D', I', T'⟩ := g
  obtain ⟨ac', ad', ai', a4', kc', kd', ki', kt'⟩ := q
  obtain ⟨hC, hD, hI, hT⟩ := h
  obtain ⟨hC', hD', hI', hT'⟩ := k
  dsimp only at hC hD hI hT hC' hD' hI' hT' hn ⊢
  have HDr := Lib.hid hD.row
  have HIr := Lib.hid hI.row
  have HTr := Lib.hid hT.row
  have HDr' := Lib.hid hD'.row
  have HIr' := Lib.hid hI'.row
  have HTr' := Lib.hid hT'.row
  have HC := Lib.hid hC
  have HC' := Lib.hid hC'
  obtain ⟨hnc, hnd, hni, hnt⟩ := hn
  clear hC hD hI hT hC' hD' hI' hT'
  by_cases h0 : W = W'
  rotate_left
  · have g0 : (W != W') = true := by simpa using h0
    have Hk := Lib.hid h0
    clear h0 hnc hnd hni hnt
    go_enter Try.func50, Try.ntmps50
    go_wp2
    go_ret
    exact ⟨⟨false, rfl, ⟨fun z => (by cases z), fun z => absurd z.1.1 Hk.out⟩⟩, by repeat' (first | assumption | refine Below.setCell ?_ (by first | omega | (simp; done) | (simp; omega)) _ | refine Below.alloc ?_ (by first | omega | (simp; done) | (simp; omega)) _ | exact Below.refl _ _ | apply Below.drew)⟩
  subst h0
  by_cases h1 : H = H'
  rotate_left
  · have g1 : (H != H') = true := by simpa using h1
    have Hk := Lib.hid h1
    clear h1 hnc hnd hni hnt
    go_enter Try.func50, Try.ntmps50
    go_wp2
    go_ret
    exact ⟨⟨false, rfl, ⟨fun z => (by cases z), fun z => absurd z.1.2 Hk.out⟩⟩, by repeat' (first | assumption | refine Below.setCell ?_ (by first | omega | (simp; done) | (simp; omega)) _ | refine Below.alloc ?_ (by first | omega | (simp; done) | (simp; omega)) _ | exact Below.refl _ _ | apply Below.drew)⟩
  subst h1
  by_cases h2 : nc = nc'
  rotate_left
  · have g2 : ((nc : Int) != (nc' : Int)) = true := by simp; omega
    have Hk := Lib.hid h2
    clear h2 hnc hnd hni hnt
    go_enter Try.func50, Try.ntmps50
    go_wp2
    go_ret
    exact ⟨⟨false, rfl, ⟨fun z => (by cases z), fun z => absurd z.2.1.1 Hk.out⟩⟩, by repeat' (first | assumption | refine Below.setCell ?_ (by first | omega | (simp; done) | (simp; omega)) _ | refine Below.alloc ?_ (by first | omega | (simp; done) | (simp; omega)) _ | exact Below.refl _ _ | apply Below.drew)⟩
  subst h2
  go_enter Try.func50, Try.ntmps50
  go_wp2_with fail
  have NE_P_Q := Lib.hid (show w.heap.size ≠ w.heap.size + 1 by omega)
  have s_P : HasBlk (w.alloc (.cells #[.int .i64 W, .int .i64 H, .slice ac nc kc, .slice ad nd kd, .slice ai ni ki, .slice a4 nt kt] 29)) (w.heap.size) 29 #[.int .i64 W, .int .i64 H, .slice ac nc kc, .slice ad nd kd, .slice ai ni ki, .slice a4 nt kt] := by simpa using hasBlk_new w 29 #[.int .i64 W, .int .i64 H, .slice ac nc kc, .slice ad nd kd, .slice ai ni ki, .slice a4 nt kt]
  replace s_P := s_P.alloc (.cells #[.int .i64 W, .int .i64 H, .slice ac' nc kc', .slice ad' nd' kd', .slice ai' ni' ki', .slice a4' nt' kt'] 29)
  have s_Q : HasBlk ((w.alloc (.cells #[.int .i64 W, .int .i64 H, .slice ac nc kc, .slice ad nd kd, .slice ai ni ki, .slice a4 nt kt] 29)).alloc (.cells #[.int .i64 W, .int .i64 H, .slice ac' nc kc', .slice ad' nd' kd', .slice ai' ni' ki', .slice a4' nt' kt'] 29)) (w.heap.size + 1) 29 #[.int .i64 W, .int .i64 H, .slice ac' nc kc', .slice ad' nd' kd', .slice ai' ni' ki', .slice a4' nt' kt'] := by simpa using hasBlk_new (w.alloc (.cells #[.int .i64 W, .int .i64 H, .slice ac nc kc, .slice ad nd kd, .slice ai ni ki, .slice a4 nt kt] 29)) 29 #[.int .i64 W, .int .i64 H, .slice ac' nc kc', .slice ad' nd' kd', .slice ai' ni' ki', .slice a4' nt' kt']
  have t_P : HasBlk ((w.alloc (.cells #[.int .i64 W, .int .i64 H, .slice ac nc kc, .slice ad nd kd, .slice ai ni ki, .slice a4 nt kt] 29)).alloc (.cells #[.int .i64 W, .int .i64 H, .slice ac' nc kc', .slice ad' nd' kd', .slice ai' ni' ki', .slice a4' nt' kt'] 29)) (w.heap.size) 29 #[.int .i64 W, .int .i64 H, .slice ac nc kc, .slice ad nd kd, .slice ai ni ki, .slice a4 nt kt] := by simpa using s_P
  clear s_P
  have t_Q : HasBlk ((w.alloc (.cells #[.int .i64 W, .int .i64 H, .slice ac nc kc, .slice ad nd kd, .slice ai ni ki, .slice a4 nt kt] 29)).alloc (.cells #[.int .i64 W, .int .i64 H, .slice ac' nc kc', .slice ad' nd' kd', .slice ai' ni' ki', .slice a4' nt' kt'] 29)) (w.heap.size + 1) 29 #[.int .i64 W, .int .i64 H, .slice ac' nc kc', .slice ad' nd' kd', .slice ai' ni' ki', .slice a4' nt' kt'] := by simpa using s_Q
  clear s_Q
  have SB1 : Below w.heap.size w ((w.alloc (.cells #[.int .i64 W, .int .i64 H, .slice ac nc kc, .slice ad nd kd, .slice ai ni ki, .slice a4 nt kt] 29)).alloc (.cells #[.int .i64 W, .int .i64 H, .slice ac' nc kc', .slice ad' nd' kd', .slice ai' ni' ki', .slice a4' nt' kt'] 29)) := by
    repeat' (first | exact Below.refl _ _ | assumption | apply Below.drew | refine Below.setCell ?_ (by first | omega | (simp; done) | (simp; omega)) _ | refine Below.alloc ?_ (by first | omega | (simp; done) | (simp; omega)) _)
  generalize gW_v0 : ((w.alloc (.cells #[.int .i64 W, .int .i64 H, .slice ac nc kc, .slice ad nd kd, .slice ai ni ki, .slice a4 nt kt] 29)).alloc (.cells #[.int .i64 W, .int .i64 H, .slice ac' nc kc', .slice ad' nd' kd', .slice ai' ni' ki', .slice a4' nt' kt'] 29)) = v0 at *
  clear gW_v0
  have P := Lib.hid t_P
  clear t_P
  have Q := Lib.hid t_Q
  clear t_Q
  have SB1h := Lib.hid SB1
  clear SB1
  have lt_P := P.out.lt
  have P_0 := P.out.cell 0
  have P_1 := P.out.cell 1
  have P_2 := P.out.cell 2
  have P_3 := P.out.cell 3
  have P_4 := P.out.cell 4
  have P_5 := P.out.cell 5
  simp at P_0 P_1 P_2 P_3 P_4 P_5
  have lt_Q := Q.out.lt
  have Q_0 := Q.out.cell 0
  have Q_1 := Q.out.cell 1
  have Q_2 := Q.out.cell 2
  have Q_3 := Q.out.cell 3
  have Q_4 := Q.out.cell 4
  have Q_5 := Q.out.cell 5
  simp at Q_0 Q_1 Q_2 Q_3 Q_4 Q_5
  have szB_v0 := SB1h.out.size
  have hcc := Lib.hid (And.intro (HC.out.below SB1h.out) (HC'.out.below SB1h.out))
  go_wp2
  go_loopw [5] (fun i wr => ∃ j : Nat, j ≤ nc ∧ i = .int .i64 j ∧ (∃ q, wr = v0.drewN q) ∧ ∀ m, m < j → C m 0 = C' m 0 ∧ C m 1 = C' m 1 ∧ C m 2 = C' m 2 ∧ C m 3 = C' m 3) (fun i wr => nc - (intOf i).toNat)
  case atStart => exact ⟨0, Nat.zero_le _, rfl, ⟨0, rfl⟩, fun m hm => absurd hm (by omega)⟩
  case round =>
    obtain ⟨j, hj, rfl, ⟨q0, rfl⟩, hall⟩ := hrel
    have Hall := Lib.hid hall
    clear hall
    by_cases hjn : j < nc
    · obtain ⟨gg, o, rfl, hg, hc⟩ := hcc.out.1 (by omega)
      obtain ⟨gg', o', rfl, hg', hc'⟩ := hcc.out.2 (by omega)
      have c0 := hc j hjn 0 (by omega)
      have c1 := hc j hjn 1 (by omega)
      have c2 := hc j hjn 2 (by omega)
      have c3 := hc j hjn 3 (by omega)
      have d0 := hc' j hjn 0 (by omega)
      have d1 := hc' j hjn 1 (by omega)
      have d2 := hc' j hjn 2 (by omega)
      have d3 := hc' j hjn 3 (by omega)
      simp only [Nat.add_zero] at c0 d0
      have hi : (j : Int) < (nc : Int) := by omega
      have hi0 : (0 : Int) ≤ (j : Int) := by omega
      clear hc hc'
      by_cases hcmp : C j 0 = C' j 0 ∧ C j 1 = C' j 1 ∧ C j 2 = C' j 2 ∧ C j 3 = C' j 3
      · have hq := fun W => equalIn_of_eql (eql_col (C j 0) (C j 1) (C j 2) (C j 3) (C' j 0) (C' j 1) (C' j 2) (C' j 3) W)
        have hv : ((C j 0 == C' j 0) && ((C j 1 == C' j 1) && ((C j 2 == C' j 2) && (C j 3 == C' j 3)))) = true := by simp [hcmp.1, hcmp.2.1, hcmp.2.2.1, hcmp.2.2.2]
        simp only [hv] at hq
        clear hv
        have Hc := Lib.hid hcmp
        clear hcmp
        go_wp2_with fail
        go_quiet (fail)
        go_wp2
        go_roundw
        case rel =>
          refine ⟨j + 1, by omega, by go_num, ⟨_, rfl⟩, fun m hm => ?_⟩
          rcases Nat.lt_or_ge m j with h | h
          · exact Hall.out m h
          · obtain rfl : m = j := by omega
            exact Hc.out
        case measure => simp [intOf]; omega
      · have hq := fun W => equalIn_of_eql (eql_col (C j 0) (C j 1) (C j 2) (C j 3) (C' j 0) (C' j 1) (C' j 2) (C' j 3) W)
        have hv : ((C j 0 == C' j 0) && ((C j 1 == C' j 1) && ((C j 2 == C' j 2) && (C j 3 == C' j 3)))) = false := by rw [Bool.eq_false_iff]; intro hh; apply hcmp; simpa using hh
        simp only [hv] at hq
        clear hv
        have Hc := Lib.hid hcmp
        clear hcmp
        go_wp2_with fail
        go_quiet (fail)
        go_wp2
        go_ret
        exact ⟨⟨false, rfl, ⟨fun z => (by cases z), fun z => absurd (z.2.1.2 j hjn) Hc.out⟩⟩, below_drewN (below_drewN SB1h.out _) _⟩
    · obtain rfl : nc = j := by omega
      have HB0 := Lib.hid (below_drewN SB1h.out q0)
      go_wp2_with fail
      refine (sameints ad ad' nd nd' kd kd' (fun i _ => D i) (fun i _ => D' i) _ (HDr.out.below HB0.out) (HDr'.out.below HB0.out) hnd).mono ?_
      rintro e w1 ⟨⟨r1, rfl, hr1⟩, bel1⟩
      have Hr1 := Lib.hid hr1
      have HB1 := Lib.hid (HB0.out.trans (bel1.mono HB0.out.size))
      have P := Lib.hid (show HasBlk (v0.drewN q0) _ _ _ from P.out)
      have Q := Lib.hid (show HasBlk (v0.drewN q0) _ _ _ from Q.out)
      clear lt_P P_0 P_1 P_2 P_3 P_4 P_5 lt_Q Q_0 Q_1 Q_2 Q_3 Q_4 Q_5
      have t_P := P.out.below bel1
      clear P
      have P := Lib.hid t_P
      clear t_P
      have t_Q := Q.out.below bel1
      clear Q
      have Q := Lib.hid t_Q
      clear t_Q
      clear bel1 hr1 HB0
      have P_0 := P.out.cell 0
      have P_1 := P.out.cell 1
      have P_2 := P.out.cell 2
      have P_3 := P.out.cell 3
      have P_4 := P.out.cell 4
      have P_5 := P.out.cell 5
      have Q_0 := Q.out.cell 0
      have Q_1 := Q.out.cell 1
      have Q_2 := Q.out.cell 2
      have Q_3 := Q.out.cell 3
      have Q_4 := Q.out.cell 4
      have Q_5 := Q.out.cell 5
      simp at P_0 P_1 P_2 P_3 P_4 P_5 Q_0 Q_1 Q_2 Q_3 Q_4 Q_5
      cases r1 with
      | false =>
        go_wp2
        go_ret
        exact ⟨⟨false, rfl, ⟨fun z => (by cases z), fun z => absurd (Hr1.out.2 ⟨z.2.2.1.1, z.2.2.1.2⟩) (by decide)⟩⟩, HB1.out⟩
      | true =>
        go_wp2_with fail
        clear P_0 P_1 P_2 P_3 P_4 P_5 Q_0 Q_1 Q_2 Q_3 Q_4 Q_5
        refine (sameints ai ai' ni ni' ki ki' (fun i _ => I i) (fun i _ => I' i) _ (HIr.out.below HB1.out) (HIr'.out.below HB1.out) hni).mono ?_
        rintro e w2 ⟨⟨r2, rfl, hr2⟩, bel2⟩
        have Hr2 := Lib.hid hr2
        have HB2 := Lib.hid (HB1.out.trans (bel2.mono HB1.out.size))
        have t_P := P.out.below bel2
        clear P
        have P := Lib.hid t_P
        clear t_P
        have t_Q := Q.out.below bel2
        clear Q
        have Q := Lib.hid t_Q
        clear t_Q
        clear bel2 hr2
        have P_0 := P.out.cell 0
        have P_1 := P.out.cell 1
        have P_2 := P.out.cell 2
        have P_3 := P.out.cell 3
        have P_4 := P.out.cell 4
        have P_5 := P.out.cell 5
        have Q_0 := Q.out.cell 0
        have Q_1 := Q.out.cell 1
        have Q_2 := Q.out.cell 2
        have Q_3 := Q.out.cell 3
        have Q_4 := Q.out.cell 4
        have Q_5 := Q.out.cell 5
        simp at P_0 P_1 P_2 P_3 P_4 P_5 Q_0 Q_1 Q_2 Q_3 Q_4 Q_5
        cases r2 with
        | false =>
          go_wp2
          go_ret
          exact ⟨⟨false, rfl, ⟨fun z => (by cases z), fun z => absurd (Hr2.out.2 ⟨z.2.2.2.1.1, z.2.2.2.1.2⟩) (by decide)⟩⟩, HB2.out⟩
        | true =>
          go_wp2_with fail
          clear P_0 P_1 P_2 P_3 P_4 P_5 Q_0 Q_1 Q_2 Q_3 Q_4 Q_5
          refine (sameints a4 a4' nt nt' kt kt' (fun i _ => T i) (fun i _ => T' i) _ (HTr.out.below HB2.out) (HTr'.out.below HB2.out) hnt).mono ?_
          rintro e w3 ⟨⟨r3, rfl, hr3⟩, bel3⟩
          have Hr3 := Lib.hid hr3
          have HB3 := Lib.hid (HB2.out.trans (bel3.mono HB2.out.size))
          have t_P := P.out.below bel3
          clear P
          have P := Lib.hid t_P
          clear t_P
          have t_Q := Q.out.below bel3
          clear Q
          have Q := Lib.hid t_Q
          clear t_Q
          clear bel3 hr3
          have P_0 := P.out.cell 0
          have P_1 := P.out.cell 1
          have P_2 := P.out.cell 2
          have P_3 := P.out.cell 3
          have P_4 := P.out.cell 4
          have P_5 := P.out.cell 5
          have Q_0 := Q.out.cell 0
          have Q_1 := Q.out.cell 1
          have Q_2 := Q.out.cell 2
          have Q_3 := Q.out.cell 3
          have Q_4 := Q.out.cell 4
          have Q_5 := Q.out.cell 5
          simp at P_0 P_1 P_2 P_3 P_4 P_5 Q_0 Q_1 Q_2 Q_3 Q_4 Q_5
          cases r3 with
          | false =>
            go_wp2
            go_ret
            exact ⟨⟨false, rfl, ⟨fun z => (by cases z), fun z => absurd (Hr3.out.2 ⟨z.2.2.2.2.1, z.2.2.2.2.2⟩) (by decide)⟩⟩, HB3.out⟩
          | true =>
            go_wp2
            go_ret
            exact ⟨⟨true, rfl, ⟨fun _ => ⟨⟨rfl, rfl⟩, ⟨rfl, Hall.out⟩, ⟨(Hr1.out.1 (by trivial)).1, (Hr1.out.1 (by trivial)).2⟩, ⟨(Hr2.out.1 (by trivial)).1, (Hr2.out.1 (by trivial)).2⟩, ⟨(Hr3.out.1 (by trivial)).1, (Hr3.out.1 (by trivial)).2⟩⟩, fun _ => rfl⟩⟩, HB3.out⟩

set_option maxHeartbeats 2000000 in
theorem refsame_any (p q : FP) (f g : FD) (w : World) (h : FOk w p f) (k : FOk w q g) (hn : (f.nc : Int) ≤ 9223372036854775807 ∧ (f.nd : Int) ≤ 9223372036854775807 ∧ (f.ni : Int) ≤ 9223372036854775807 ∧ (f.nt : Int) ≤ 9223372036854775807) : Calls Try.prog 15 #[.agg #[.int .i64 f.W, .int .i64 f.H, .slice p.ac f.nc p.kc, .slice p.ad f.nd p.kd, .slice p.ai f.ni p.ki, .slice p.a4 f.nt p.kt], .agg #[.int .i64 g.W, .int .i64 g.H, .slice q.ac g.nc q.kc, .slice q.ad g.nd q.kd, .slice q.ai g.ni q.ki, .slice q.a4 g.nt q.kt]] w fun e w' => EqR (f.Same g) e ∧ Below w.heap.size w w' := by
  have hs := Lib.hid (fun W (hb : Below w.heap.size w W) => same24_any p q f g W (h.below hb) (k.below hb) hn)
  clear h k
  go_enter Try.func15, Try.ntmps15
  go_wp2_with fail
  have hb0 : Below w.heap.size w ((w.alloc (.cells #[.int .i64 f.W, .int .i64 f.H, .slice p.ac f.nc p.kc, .slice p.ad f.nd p.kd, .slice p.ai f.ni p.ki, .slice p.a4 f.nt p.kt] 29)).alloc (.cells #[.int .i64 g.W, .int .i64 g.H, .slice q.ac g.nc q.kc, .slice q.ad g.nd q.kd, .slice q.ai g.ni q.ki, .slice q.a4 g.nt q.kt] 29)) := by
    repeat' (first | assumption | refine Below.setCell ?_ (by first | omega | (simp; done) | (simp; omega)) _ | refine Below.alloc ?_ (by first | omega | (simp; done) | (simp; omega)) _ | exact Below.refl _ _ | apply Below.drew)
  have HB0 := Lib.hid hb0
  refine (hs.out _ hb0).mono ?_
  rintro e w1 ⟨⟨r, rfl, hr⟩, bel1⟩
  have Hr := Lib.hid hr
  have HB1 := Lib.hid (HB0.out.trans (bel1.mono HB0.out.size))
  clear hr bel1 hb0
  go_wp2
  go_ret
  exact ⟨⟨r, rfl, Hr.out⟩, HB1.out⟩
end Go.Proofs.Ytibeoeooajelgaa
