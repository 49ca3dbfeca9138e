/- sched: the reference's Phased, busy, Check. -/
import Derived.Test.YtdilfcpgjkkjmaaS4
namespace Go.Proofs.Ytdilfcpgjkkjmaa
open Go.RowKit
set_option linter.unusedVariables false
set_option maxRecDepth 100000 in
set_option maxHeartbeats 2000000 in
theorem refphased_any (A : Option Addr) (n c : Nat) (l : Nat → Int) (w : World) (h : IS w A n l) :
    Calls Try.prog 33 #[.slice A n c] w fun e w' => e = .returned (.int .i64 (phv n l)) ∧ Below w.heap.size w w' := by
  by_cases h0 : 16 < n
  · have g0 : decide ((16 : Int) < (n : Int)) = true := decide_eq_true (by omega)
    rw [phv_many h0]
    clear h0 h
    go_enter Try.func33, Try.ntmps33
    go_wp2
    go_ret
    exact ⟨rfl, Below.refl _ _⟩
  have g0 : decide ((16 : Int) < (n : Int)) = false := decide_eq_false (by omega)
  have n16 : (n : Int) ≤ 16 := by omega
  have H0 := Lib.hid h0
  have HI := Lib.hid h
  clear h h0
  go_enter Try.func33, Try.ntmps33
  go_wp2
  go_loop [3] (fun i => ∃ k : Nat, k ≤ n ∧ i = .int .i64 k ∧ ∀ i, i < k → 0 ≤ l i ∧ l i ≤ 16384) (fun i => n - (intOf i).toNat)
  case atStart => exact ⟨0, Nat.zero_le _, rfl, fun i hi => absurd hi (by omega)⟩
  case round =>
    obtain ⟨k, hk, rfl, hall⟩ := hrel
    have Hall := Lib.hid hall
    clear hall
    by_cases hkn : k < n
    · obtain ⟨g, o, rfl, hg, hc⟩ := HI.out (by omega)
      have c0 := hc k hkn
      have hi0 : (0 : Int) ≤ (k : Int) := by omega
      have hi1 : (k : Int) < (n : Int) := by omega
      clear hc
      by_cases h1 : l k < 0
      · have g1 : decide (l k < 0) = true := decide_eq_true h1
        have Hn := Lib.hid (show ¬ SPh n l from fun h => by have := h.2 k hkn; omega)
        clear h1
        go_wp2
        go_ret
        exact ⟨ret_int (phv_bad H0.out Hn.out).symm, Below.refl _ _⟩
      have g1 : decide (l k < 0) = false := decide_eq_false h1
      by_cases h2 : 16384 < l k
      · have g2 : decide (16384 < l k) = true := decide_eq_true h2
        have Hn := Lib.hid (show ¬ SPh n l from fun h => by have := h.2 k hkn; omega)
        clear h1 h2
        go_wp2
        go_ret
        exact ⟨ret_int (phv_bad H0.out Hn.out).symm, Below.refl _ _⟩
      have g2 : decide (16384 < l k) = false := decide_eq_false h2
      have Hok := Lib.hid (show 0 ≤ l k ∧ l k ≤ 16384 by omega)
      clear h1 h2
      go_wp2
      go_round
      case rel =>
        refine ⟨k + 1, by omega, by go_num, fun i hi => ?_⟩
        rcases Nat.lt_or_ge i k with h | h
        · exact Hall.out i h
        · obtain rfl : i = k := by omega
          exact Hok.out
      case measure => simp [intOf]; omega
    · obtain rfl : k = n := by omega
      go_wp2
      go_ret
      exact ⟨ret_int (phv_ok ⟨by have := H0.out; omega, Hall.out⟩).symm, Below.refl _ _⟩
set_option maxRecDepth 100000 in
set_option maxHeartbeats 2000000 in
theorem busy_any (p : SP) (s : SD) (w : World) (h : IS w p.b s.nb s.bz) (hn : (s.nb : Int) ≤ 9223372036854775807) :
    Calls Try.prog 36 #[.agg #[.slice p.a s.np p.ka, .int .i64 s.p, .int .i64 s.n, .slice p.b s.nb p.kb, .int .i64 s.d]] w fun e w' => e = .returned (.int .i64 (wk s.bz s.nb)) ∧ Below w.heap.size w w' := by
  have HI := Lib.hid h
  clear h
  go_enter Try.func36, Try.ntmps36
  go_wp2
  go_loop [3, 4] (fun t i => ∃ k : Nat, k ≤ s.nb ∧ i = .int .i64 k ∧ t = .int .i64 (wk s.bz k)) (fun t i => s.nb - (intOf i).toNat)
  case atStart => exact ⟨0, Nat.zero_le _, rfl, rfl⟩
  case round =>
    obtain ⟨k, hk, rfl, rfl⟩ := hrel
    have hw := wk_le s.bz k
    by_cases hkn : k < s.nb
    · obtain ⟨g, o, hA, hg, hc⟩ := HI.out (by omega)
      have c0 := hc k hkn
      have HA := Lib.hid hA
      have HW := Lib.hid (wk_succ s.bz k)
      have hlt := hg
      clear hc hA hg
      rw [HA.out]
      have hi0 : (0 : Int) ≤ (k : Int) := by omega
      have hi1 : (k : Int) < (s.nb : Int) := by omega
      by_cases hb : 0 ≤ s.bz k
      · have g0 : decide (0 ≤ s.bz k) = true := decide_eq_true hb
        have Hb := Lib.hid hb
        clear hb
        go_wp2
        go_round
        case rel => exact ⟨k + 1, by omega, by go_num, by rw [HW.out, if_pos Hb.out]⟩
        case measure => simp [intOf]; omega
      · have g0 : decide (0 ≤ s.bz k) = false := decide_eq_false hb
        have Hb := Lib.hid hb
        clear hb
        go_wp2
        go_round
        case rel => exact ⟨k + 1, by omega, by go_num, by rw [HW.out, if_neg Hb.out, Int.add_zero]⟩
        case measure => simp [intOf]; omega
    · obtain rfl : k = s.nb := by omega
      go_wp2
      go_ret
      exact ⟨rfl, (Below.refl _ _).alloc (Nat.le_refl _) _⟩
theorem mayv_r {s : SD} (h : s.RMay) : mayv s = 0 := mayv_yes (s.rmay.1 h)
theorem mayv_nr {s : SD} (h : ¬ s.RMay) : mayv s = 8 := mayv_no (fun hm => h (s.rmay.2 hm))

set_option maxRecDepth 100000 in
set_option maxHeartbeats 16000000 in
theorem refcheck_any (p : SP) (s : SD) (w : World) (h : SOk w p s) :
    Calls Try.prog 23 #[.agg #[.slice p.a s.np p.ka, .int .i64 s.p, .int .i64 s.n, .slice p.b s.nb p.kb, .int .i64 s.d]] w fun e w' => e = .returned (.int .i64 (mayv s)) ∧ Below w.heap.size w w' := by
  have HS := Lib.hid h
  have KP := Lib.hid (fun W (hb : Below w.heap.size w W) => refphased_any p.a s.np p.ka s.ph W (h.1.below hb))
  have HBX := Lib.hid (And.intro (show Below w.heap.size w (w.alloc (.cells #[.slice p.a s.np p.ka, .int .i64 s.p, .int .i64 s.n, .slice p.b s.nb p.kb, .int .i64 s.d] 25)) by repeat' (first | exact Below.refl _ _ | assumption | apply Below.drew | refine Below.setCell ?_ (by first | omega | (simp; done) | (simp; omega)) _ | refine Below.alloc ?_ (by first | omega | (simp; done) | (simp; omega)) _)) (hasBlk_new w 25 #[.slice p.a s.np p.ka, .int .i64 s.p, .int .i64 s.n, .slice p.b s.nb p.kb, .int .i64 s.d]))
  clear h
  by_cases h0 : phv s.np s.ph ≠ 0
  · have g0 : (phv s.np s.ph != 0) = true := by simpa using h0
    have Hn := Lib.hid (show ¬ s.RMay from fun h => h0 (phv_ok h.1))
    clear h0
    go_enter Try.func23, Try.ntmps23
    go_wp2_with fail
    refine (KP.out _ HBX.out.1).mono ?_
    rintro e w1 ⟨rfl, bel1⟩
    have HB1 := Lib.hid (HBX.out.1.trans (bel1.mono HBX.out.1.size))
    have HQ1 := Lib.hid (HBX.out.2.below bel1)
    have ltQ := HQ1.out.lt
    have q0 := HQ1.out.cell 0
    have q1 := HQ1.out.cell 1
    have q2 := HQ1.out.cell 2
    have q3 := HQ1.out.cell 3
    have q4 := HQ1.out.cell 4
    simp at q0 q1 q2 q3 q4
    clear bel1
    go_wp2
    go_ret
    exact ⟨ret_int (mayv_nr Hn.out).symm, HB1.out⟩
  have g0 : (phv s.np s.ph != 0) = false := by simpa using h0
  by_cases h1 : (s.nb : Int) < 1
  · have g1 : decide ((s.nb : Int) < 1) = true := decide_eq_true h1
    have Hn := Lib.hid (show ¬ s.RMay from fun h => by have := h.2.1; omega)
    clear h0 h1
    go_enter Try.func23, Try.ntmps23
    go_wp2_with fail
    refine (KP.out _ HBX.out.1).mono ?_
    rintro e w1 ⟨rfl, bel1⟩
    have HB1 := Lib.hid (HBX.out.1.trans (bel1.mono HBX.out.1.size))
    have HQ1 := Lib.hid (HBX.out.2.below bel1)
    have ltQ := HQ1.out.lt
    have q0 := HQ1.out.cell 0
    have q1 := HQ1.out.cell 1
    have q2 := HQ1.out.cell 2
    have q3 := HQ1.out.cell 3
    have q4 := HQ1.out.cell 4
    simp at q0 q1 q2 q3 q4
    clear bel1
    go_wp2
    go_ret
    exact ⟨ret_int (mayv_nr Hn.out).symm, HB1.out⟩
  have g1 : decide ((s.nb : Int) < 1) = false := decide_eq_false h1
  by_cases h2 : (64 : Int) < (s.nb : Int)
  · have g2 : decide ((64 : Int) < (s.nb : Int)) = true := decide_eq_true h2
    have Hn := Lib.hid (show ¬ s.RMay from fun h => by have := h.2.1; omega)
    clear h0 h1 h2
    go_enter Try.func23, Try.ntmps23
    go_wp2_with fail
    refine (KP.out _ HBX.out.1).mono ?_
    rintro e w1 ⟨rfl, bel1⟩
    have HB1 := Lib.hid (HBX.out.1.trans (bel1.mono HBX.out.1.size))
    have HQ1 := Lib.hid (HBX.out.2.below bel1)
    have ltQ := HQ1.out.lt
    have q0 := HQ1.out.cell 0
    have q1 := HQ1.out.cell 1
    have q2 := HQ1.out.cell 2
    have q3 := HQ1.out.cell 3
    have q4 := HQ1.out.cell 4
    simp at q0 q1 q2 q3 q4
    clear bel1
    go_wp2
    go_ret
    exact ⟨ret_int (mayv_nr Hn.out).symm, HB1.out⟩
  have g2 : decide ((64 : Int) < (s.nb : Int)) = false := decide_eq_false h2
  by_cases h3 : s.p < 0
  · have g3 : decide (s.p < 0) = true := decide_eq_true h3
    have Hn := Lib.hid (show ¬ s.RMay from fun h => by have := h.2.2.1; omega)
    clear h0 h1 h2 h3
    go_enter Try.func23, Try.ntmps23
    go_wp2_with fail
    refine (KP.out _ HBX.out.1).mono ?_
    rintro e w1 ⟨rfl, bel1⟩
    have HB1 := Lib.hid (HBX.out.1.trans (bel1.mono HBX.out.1.size))
    have HQ1 := Lib.hid (HBX.out.2.below bel1)
    have ltQ := HQ1.out.lt
    have q0 := HQ1.out.cell 0
    have q1 := HQ1.out.cell 1
    have q2 := HQ1.out.cell 2
    have q3 := HQ1.out.cell 3
    have q4 := HQ1.out.cell 4
    simp at q0 q1 q2 q3 q4
    clear bel1
    go_wp2
    go_ret
    exact ⟨ret_int (mayv_nr Hn.out).symm, HB1.out⟩
  have g3 : decide (s.p < 0) = false := decide_eq_false h3
  by_cases h4 : (s.np : Int) < s.p
  · have g4 : decide ((s.np : Int) < s.p) = true := decide_eq_true h4
    have Hn := Lib.hid (show ¬ s.RMay from fun h => by have := h.2.2.1; omega)
    clear h0 h1 h2 h3 h4
    go_enter Try.func23, Try.ntmps23
    go_wp2_with fail
    refine (KP.out _ HBX.out.1).mono ?_
    rintro e w1 ⟨rfl, bel1⟩
    have HB1 := Lib.hid (HBX.out.1.trans (bel1.mono HBX.out.1.size))
    have HQ1 := Lib.hid (HBX.out.2.below bel1)
    have ltQ := HQ1.out.lt
    have q0 := HQ1.out.cell 0
    have q1 := HQ1.out.cell 1
    have q2 := HQ1.out.cell 2
    have q3 := HQ1.out.cell 3
    have q4 := HQ1.out.cell 4
    simp at q0 q1 q2 q3 q4
    clear bel1
    go_wp2
    go_ret
    exact ⟨ret_int (mayv_nr Hn.out).symm, HB1.out⟩
  have g4 : decide ((s.np : Int) < s.p) = false := decide_eq_false h4
  have HPre := Lib.hid (show SPh s.np s.ph ∧ (1 ≤ s.nb ∧ s.nb ≤ 64) ∧ (0 ≤ s.p ∧ s.p ≤ s.np) from ⟨(phv_spec s.np s.ph).zero.1 (by simpa using h0), by omega, by omega⟩)
  have hp0 : 0 ≤ s.p := by omega
  have hp1 : s.p ≤ s.np := by omega
  have hnb : (s.nb : Int) ≤ 64 := by omega
  clear h0 h1 h2 h3 h4
  by_cases hmax : 0 < s.n
  · go_enter Try.func23, Try.ntmps23
    go_wp2_with fail
    refine (KP.out _ HBX.out.1).mono ?_
    rintro e w1 ⟨rfl, bel1⟩
    have HB1 := Lib.hid (HBX.out.1.trans (bel1.mono HBX.out.1.size))
    have HQ1 := Lib.hid (HBX.out.2.below bel1)
    have ltQ := HQ1.out.lt
    have q0 := HQ1.out.cell 0
    have q1 := HQ1.out.cell 1
    have q2 := HQ1.out.cell 2
    have q3 := HQ1.out.cell 3
    have q4 := HQ1.out.cell 4
    simp at q0 q1 q2 q3 q4
    clear bel1
    go_wp2_with fail
    clear q0 q1 q2 q3 q4
    go_loopw [3] (fun i wr => ∃ k : Nat, k ≤ s.nb ∧ i = .int .i64 k ∧ (∀ i, i < k → (-1 ≤ s.bz i ∧ s.bz i < max 0 s.n) ∧ ∀ j, j < i → 0 ≤ s.bz i → s.bz i ≠ s.bz j) ∧ HasBlk wr w.heap.size 25 #[.slice p.a s.np p.ka, .int .i64 s.p, .int .i64 s.n, .slice p.b s.nb p.kb, .int .i64 s.d] ∧ Below w.heap.size w wr) (fun i wr => s.nb - (intOf i).toNat)
    case atStart => exact ⟨0, Nat.zero_le _, rfl, fun i hi => absurd hi (by omega), HQ1.out, HB1.out⟩
    case round =>
      obtain ⟨k, hk, rfl, hall, hq, hbel⟩ := hrel
      have Hall := Lib.hid hall
      have HQ := Lib.hid hq
      have HB := Lib.hid hbel
      have zb := hbel.size
      have ltQ := hq.lt
      have q0 := hq.cell 0
      have q1 := hq.cell 1
      have q2 := hq.cell 2
      have q3 := hq.cell 3
      have q4 := hq.cell 4
      simp at q0 q1 q2 q3 q4
      clear hall hq hbel
      by_cases hkn : k < s.nb
      · obtain ⟨g, o, hA, hg, hc⟩ := HS.out.2 (by omega)
        have d1 := (HB.out.cell (p := ⟨g, o + k, none⟩) hg).trans (hc k hkn)
        have HA := Lib.hid hA
        have ltg : g < wr.heap.size := by omega
        have hi0 : (0 : Int) ≤ (k : Int) := by omega
        have hi1 : (k : Int) < (s.nb : Int) := by omega
        clear hA
        rw [HA.out] at q3
        try rw [HA.out]
        go_upto_region 6 with fail
        have r0 := fun b : BW wr => BW.cell q0 ltQ b
        have r1 := fun b : BW wr => BW.cell q1 ltQ b
        have r2 := fun b : BW wr => BW.cell q2 ltQ b
        have r3 := fun b : BW wr => BW.cell q3 ltQ b
        have r4 := fun b : BW wr => BW.cell q4 ltQ b
        have x1 := fun b : BW wr => BW.cell d1 ltg b
        clear q0 q1 q2 q3 q4 d1
        by_cases h1 : s.bz k < -1
        · have g1' : decide (s.bz k < -1) = true := decide_eq_true h1
          have Hn := Lib.hid (show ¬ s.RMay from fun h => by have := (h.2.2.2.1.1 k hkn).1; omega)
          clear h1 hc
          refine wp_region_quiet_bw (by kernel_rfl) (by kernel_rfl) ?_
          repeat (go_big_quiet_step (fail))
          refine wpQuiet_nil ?_
          intro _ hw'
          obtain ⟨pq, hw''⟩ := hw'
          subst hw''
          have HBQ := Lib.hid (HB.out.trans (pq.h.mono zb))
          have HQQ := Lib.hid (HQ.out.below pq.h)
          have belq := Lib.hid pq.h
          generalize pq.W = w4 at *
          clear pq r0 r1 r2 r3 r4
          go_wp2
          go_ret
          exact ⟨ret_int (mayv_nr Hn.out).symm, HBQ.out⟩
        have g1' : decide (s.bz k < -1) = false := decide_eq_false h1
        by_cases h2 : s.n ≤ s.bz k
        · have g2' : decide (s.n ≤ s.bz k) = true := decide_eq_true h2
          have Hn := Lib.hid (show ¬ s.RMay from fun h => by have := (h.2.2.2.1.1 k hkn).2; omega)
          clear h1 h2 hc
          refine wp_region_quiet_bw (by kernel_rfl) (by kernel_rfl) ?_
          repeat (go_big_quiet_step (fail))
          refine wpQuiet_nil ?_
          intro _ hw'
          obtain ⟨pq, hw''⟩ := hw'
          subst hw''
          have HBQ := Lib.hid (HB.out.trans (pq.h.mono zb))
          have HQQ := Lib.hid (HQ.out.below pq.h)
          have belq := Lib.hid pq.h
          generalize pq.W = w4 at *
          clear pq r0 r1 r2 r3 r4
          go_wp2
          go_ret
          exact ⟨ret_int (mayv_nr Hn.out).symm, HBQ.out⟩
        have g2' : decide (s.n ≤ s.bz k) = false := decide_eq_false h2
        have HBd := Lib.hid (show -1 ≤ s.bz k ∧ s.bz k < max 0 s.n by omega)
        clear h1 h2
        have Hc0 := Lib.hid hc
        clear hc
        refine wp_region_quiet_bw (by kernel_rfl) (by kernel_rfl) ?_
        repeat (go_big_quiet_step (fail))
        refine wpQuiet_nil ?_
        intro _ hw'
        obtain ⟨pq, hw''⟩ := hw'
        subst hw''
        have HBQ := Lib.hid (HB.out.trans (pq.h.mono zb))
        have HQQ := Lib.hid (HQ.out.below pq.h)
        have belq := Lib.hid pq.h
        generalize pq.W = w4 at *
        clear pq r0 r1 r2 r3 r4
        clear x1
        have hc := Hc0.out
        obtain ⟨wo, rfl⟩ : ∃ wo : World, wo = wr := ⟨wr, rfl⟩
        go_wp2
        have Hzb := Lib.hid zb
        clear HB HQ zb ltg
        go_loopw [4] (fun i wr => ∃ j : Nat, j ≤ k ∧ i = .int .i64 j ∧ (∀ i, i < j → 0 ≤ s.bz k → s.bz k ≠ s.bz i) ∧ HasBlk wr w.heap.size 25 #[.slice p.a s.np p.ka, .int .i64 s.p, .int .i64 s.n, .slice p.b s.nb p.kb, .int .i64 s.d] ∧ Below w.heap.size w wr) (fun i wr => k - (intOf i).toNat)
        case atStart => exact ⟨0, Nat.zero_le _, rfl, fun i hi => absurd hi (by omega), (by have := HQQ.out; first | exact this | (rw [HA.out] at this; exact this) | (rw [← HA.out] at this; exact this)), HBQ.out⟩
        case round =>
          obtain ⟨j, hj, rfl, hall2, hq, hbel⟩ := hrel
          have Hall2 := Lib.hid hall2
          have HB := Lib.hid hbel
          have HQ := Lib.hid hq
          have zb := hbel.size
          have ltQ := hq.lt
          have q0 := hq.cell 0
          have q1 := hq.cell 1
          have q2 := hq.cell 2
          have q3 := hq.cell 3
          have q4 := hq.cell 4
          simp at q0 q1 q2 q3 q4
          rw [HA.out] at q3
          clear hall2 hq hbel
          by_cases hjk : j < k
          · have d1 := (HB.out.cell (p := ⟨g, o + k, none⟩) hg).trans (hc k hkn)
            have d2 := (HB.out.cell (p := ⟨g, o + j, none⟩) hg).trans (hc j (by omega))
            have ltg : g < wr.heap.size := by omega
            have hj0 : (0 : Int) ≤ (j : Int) := by omega
            have hj1 : (j : Int) < (s.nb : Int) := by omega
            have hjk1 : (j : Int) < (k : Int) := by omega
            go_upto_region 11 with fail
            have r0 := fun b : BW wr => BW.cell q0 ltQ b
            have r1 := fun b : BW wr => BW.cell q1 ltQ b
            have r2 := fun b : BW wr => BW.cell q2 ltQ b
            have r3 := fun b : BW wr => BW.cell q3 ltQ b
            have r4 := fun b : BW wr => BW.cell q4 ltQ b
            have x1 := fun b : BW wr => BW.cell d1 ltg b
            have x2 := fun b : BW wr => BW.cell d2 ltg b
            clear q0 q1 q2 q3 q4 d1 d2
            by_cases h6 : 0 ≤ s.bz k
            · have g6 : decide (0 ≤ s.bz k) = true := decide_eq_true h6
              by_cases h7 : s.bz k = s.bz j
              · have g7 : (s.bz k == s.bz j) = true := by simpa using h7
                have Hn := Lib.hid (show ¬ s.RMay from fun h => h.2.2.2.1.2 k hkn j hjk h6 h7)
                clear h6 h7 hc
                refine wp_region_quiet_bw (by kernel_rfl) (by kernel_rfl) ?_
                repeat (go_big_quiet_step (fail))
                refine wpQuiet_nil ?_
                intro _ hw'
                obtain ⟨pq, hw''⟩ := hw'
                subst hw''
                have HBQ := Lib.hid (HB.out.trans (pq.h.mono zb))
                have HQQ := Lib.hid (HQ.out.below pq.h)
                have belq := Lib.hid pq.h
                generalize pq.W = w4 at *
                clear pq r0 r1 r2 r3 r4
                go_wp2
                go_ret
                exact ⟨ret_int (mayv_nr Hn.out).symm, HBQ.out⟩
              · have g7 : (s.bz k == s.bz j) = false := by simpa using h7
                have Hne := Lib.hid h7
                have Hc := Lib.hid hc
                clear h6 h7 hc
                refine wp_region_quiet_bw (by kernel_rfl) (by kernel_rfl) ?_
                repeat (go_big_quiet_step (fail))
                refine wpQuiet_nil ?_
                intro _ hw'
                obtain ⟨pq, hw''⟩ := hw'
                subst hw''
                have HBQ := Lib.hid (HB.out.trans (pq.h.mono zb))
                have HQQ := Lib.hid (HQ.out.below pq.h)
                have belq := Lib.hid pq.h
                generalize pq.W = w4 at *
                clear pq r0 r1 r2 r3 r4
                clear x1 x2
                go_wp2
                go_roundw
                case rel =>
                  refine ⟨j + 1, by omega, by go_num, fun i hi h0 => ?_, (by have := HQQ.out; first | exact this | (rw [HA.out] at this; exact this) | (rw [← HA.out] at this; exact this)), HBQ.out⟩
                  rcases Nat.lt_or_ge i j with h | h
                  · exact Hall2.out i h h0
                  · obtain rfl : i = j := by omega
                    exact Hne.out
                case measure => simp [intOf]; omega
            · have g6 : decide (0 ≤ s.bz k) = false := decide_eq_false h6
              have Hne := Lib.hid h6
              have Hc := Lib.hid hc
              clear h6 hc
              refine wp_region_quiet_bw (by kernel_rfl) (by kernel_rfl) ?_
              repeat (go_big_quiet_step (fail))
              refine wpQuiet_nil ?_
              intro _ hw'
              obtain ⟨pq, hw''⟩ := hw'
              subst hw''
              have HBQ := Lib.hid (HB.out.trans (pq.h.mono zb))
              have HQQ := Lib.hid (HQ.out.below pq.h)
              have belq := Lib.hid pq.h
              generalize pq.W = w4 at *
              clear pq r0 r1 r2 r3 r4
              clear x1 x2
              go_wp2
              go_roundw
              case rel =>
                refine ⟨j + 1, by omega, by go_num, fun i hi h0 => absurd h0 Hne.out, (by have := HQQ.out; first | exact this | (rw [HA.out] at this; exact this) | (rw [← HA.out] at this; exact this)), HBQ.out⟩
              case measure => simp [intOf]; omega
          · obtain rfl : j = k := by omega
            clear hc
            go_wp2
            go_roundw
            case rel =>
              refine ⟨j + 1, by omega, by go_num, fun i hi => ?_, (by have := HQ.out; first | exact this | (rw [HA.out] at this; exact this) | (rw [← HA.out] at this; exact this)), HB.out⟩
              rcases Nat.lt_or_ge i j with h | h
              · exact Hall.out i h
              · obtain rfl : i = j := by omega
                exact ⟨HBd.out, fun q hq h0 => Hall2.out q hq h0⟩
            case measure => simp [intOf]; omega
      · have hkk : k = s.nb := by omega
        have Hkk := Lib.hid hkk
        clear hkk
        have HBusy := Lib.hid (show (∀ i, i < s.nb → -1 ≤ s.bz i ∧ s.bz i < max 0 s.n) ∧ ∀ i, i < s.nb → ∀ k, k < i → 0 ≤ s.bz i → s.bz i ≠ s.bz k from ⟨fun i hi => (Hall.out i (by have := Hkk.out; omega)).1, fun i hi j hj h0 => (Hall.out i (by have := Hkk.out; omega)).2 j hj h0⟩)
        clear Hall
        by_cases hov : s.p = s.np
        · have g5 : (s.p == (s.np : Int)) = true := by simpa using hov
          have Hov := Lib.hid hov
          clear hov
          by_cases hz : s.n = 0
          · have g6 : (s.n != 0) = false := by simpa using hz
            have Hz := Lib.hid hz
            clear hz
            by_cases hd : s.d = 0
            · have g7 : (s.d != 0) = false := by simpa using hd
              have Hd := Lib.hid hd
              clear hd
              go_wp2
              go_ret
              exact ⟨ret_int (mayv_r ⟨HPre.out.1, HPre.out.2.1, HPre.out.2.2, HBusy.out, .inl ⟨Hov.out, Hz.out, Hd.out⟩⟩).symm, HB.out⟩
            · have g7 : (s.d != 0) = true := by simpa using hd
              have Hd := Lib.hid hd
              clear hd
              go_wp2
              go_ret
              exact ⟨ret_int (mayv_nr fun h => by rcases h.2.2.2.2 with a | a; exact Hd.out a.2.2; exact a.1 Hov.out).symm, HB.out⟩
          · have g6 : (s.n != 0) = true := by simpa using hz
            have Hz := Lib.hid hz
            clear hz
            go_wp2
            go_ret
            exact ⟨ret_int (mayv_nr fun h => by rcases h.2.2.2.2 with a | a; exact Hz.out a.2.1; exact a.1 Hov.out).symm, HB.out⟩
        have g5 : (s.p == (s.np : Int)) = false := by simpa using hov
        have Hov := Lib.hid hov
        have hp2 : s.p < (s.np : Int) := by omega
        clear hov
        obtain ⟨g, o, hA, hg, hc⟩ := HS.out.1 (by omega)
        have c0 := (HB.out.cell (p := ⟨g, o + s.p.toNat, none⟩) hg).trans (hc s.p.toNat (by omega))
        have HA := Lib.hid hA
        have hw := wk_le s.bz s.nb
        clear hc hA hg
        rw [HA.out] at q0
        have hph := HPre.out.1.2 s.p.toNat (by omega)
        obtain ⟨t, ht⟩ : ∃ t, s.ph s.p.toNat = t := ⟨_, rfl⟩
        rw [ht] at c0 hph
        have Ht := Lib.hid ht
        clear ht
        have HIb := Lib.hid (HS.out.2.below HB.out)
        go_upto_region 18 with fail
        have r0 := fun b : BW wr => BW.cell q0 ltQ b
        have r1 := fun b : BW wr => BW.cell q1 ltQ b
        have r2 := fun b : BW wr => BW.cell q2 ltQ b
        have r3 := fun b : BW wr => BW.cell q3 ltQ b
        have r4 := fun b : BW wr => BW.cell q4 ltQ b
        clear q0 q1 q2 q3 q4 c0
        rw [← HA.out] at r0
        have KW := Lib.hid (fun b : BW wr => BW.call (fun W' (h : Below wr.heap.size wr W') => busy_any p s W' (HIb.out.below h) (by omega)) b)
        by_cases x0 : t = 0
        · have y0 : (t == 0) = true := by simpa using x0
          have Hn := Lib.hid (show ¬ s.RMay from fun h => by
            have ht := Ht.out
            rcases h.2.2.2.2 with a | a
            · exact Hov.out a.1
            · omega)

          clear x0
          refine wp_region_quiet_bw (by kernel_rfl) (by kernel_rfl) ?_
          repeat (go_big_quiet_step (((first | (go_at_call 36; with_reducible exact KW.out _)))))
          refine wpQuiet_nil ?_
          intro _ hw'
          obtain ⟨pq, hw''⟩ := hw'
          subst hw''
          have HBQ := Lib.hid (HB.out.trans (pq.h.mono zb))
          have HQQ := Lib.hid (HQ.out.below pq.h)
          have belq := Lib.hid pq.h
          generalize pq.W = w4 at *
          clear pq r0 r1 r2 r3 r4
          go_wp2
          go_ret
          exact ⟨ret_int (mayv_nr Hn.out).symm, HBQ.out⟩
        have y0 : (t == 0) = false := by simpa using x0
        by_cases x1 : s.n < 0
        · have y1 : decide (s.n < 0) = true := decide_eq_true x1
          have Hn := Lib.hid (show ¬ s.RMay from fun h => by
            have ht := Ht.out
            rcases h.2.2.2.2 with a | a
            · exact Hov.out a.1
            · omega)

          clear x0 x1
          refine wp_region_quiet_bw (by kernel_rfl) (by kernel_rfl) ?_
          repeat (go_big_quiet_step (((first | (go_at_call 36; with_reducible exact KW.out _)))))
          refine wpQuiet_nil ?_
          intro _ hw'
          obtain ⟨pq, hw''⟩ := hw'
          subst hw''
          have HBQ := Lib.hid (HB.out.trans (pq.h.mono zb))
          have HQQ := Lib.hid (HQ.out.below pq.h)
          have belq := Lib.hid pq.h
          generalize pq.W = w4 at *
          clear pq r0 r1 r2 r3 r4
          go_wp2
          go_ret
          exact ⟨ret_int (mayv_nr Hn.out).symm, HBQ.out⟩
        have y1 : decide (s.n < 0) = false := decide_eq_false x1
        by_cases x2 : t < s.n
        · have y2 : decide (t < s.n) = true := decide_eq_true x2
          have Hn := Lib.hid (show ¬ s.RMay from fun h => by
            have ht := Ht.out
            rcases h.2.2.2.2 with a | a
            · exact Hov.out a.1
            · omega)

          clear x0 x1 x2
          refine wp_region_quiet_bw (by kernel_rfl) (by kernel_rfl) ?_
          repeat (go_big_quiet_step (((first | (go_at_call 36; with_reducible exact KW.out _)))))
          refine wpQuiet_nil ?_
          intro _ hw'
          obtain ⟨pq, hw''⟩ := hw'
          subst hw''
          have HBQ := Lib.hid (HB.out.trans (pq.h.mono zb))
          have HQQ := Lib.hid (HQ.out.below pq.h)
          have belq := Lib.hid pq.h
          generalize pq.W = w4 at *
          clear pq r0 r1 r2 r3 r4
          go_wp2
          go_ret
          exact ⟨ret_int (mayv_nr Hn.out).symm, HBQ.out⟩
        have y2 : decide (t < s.n) = false := decide_eq_false x2
        by_cases x3 : s.d ≠ s.n - wk s.bz s.nb
        · have y3 : (s.d != s.n - wk s.bz s.nb) = true := by simpa using x3
          have Hn := Lib.hid (show ¬ s.RMay from fun h => by
            have ht := Ht.out
            rcases h.2.2.2.2 with a | a
            · exact Hov.out a.1
            · omega)
          have gw : IntKind.i64.wrap (s.n - wk s.bz s.nb) = s.n - wk s.bz s.nb := IntWalk.i64_in _ (by omega)
          clear x0 x1 x2 x3
          refine wp_region_quiet_bw (by kernel_rfl) (by kernel_rfl) ?_
          repeat (go_big_quiet_step (((first | (go_at_call 36; with_reducible exact KW.out _)))))
          refine wpQuiet_nil ?_
          intro _ hw'
          obtain ⟨pq, hw''⟩ := hw'
          subst hw''
          have HBQ := Lib.hid (HB.out.trans (pq.h.mono zb))
          have HQQ := Lib.hid (HQ.out.below pq.h)
          have belq := Lib.hid pq.h
          generalize pq.W = w4 at *
          clear pq r0 r1 r2 r3 r4
          go_wp2
          go_ret
          exact ⟨ret_int (mayv_nr Hn.out).symm, HBQ.out⟩
        have y3 : (s.d != s.n - wk s.bz s.nb) = false := by simpa using x3
        by_cases x4 : t ≤ s.d
        · have y4 : decide (t ≤ s.d) = true := decide_eq_true x4
          have Hn := Lib.hid (show ¬ s.RMay from fun h => by
            have ht := Ht.out
            rcases h.2.2.2.2 with a | a
            · exact Hov.out a.1
            · omega)
          have gw : IntKind.i64.wrap (s.n - wk s.bz s.nb) = s.n - wk s.bz s.nb := IntWalk.i64_in _ (by omega)
          clear x0 x1 x2 x3 x4
          refine wp_region_quiet_bw (by kernel_rfl) (by kernel_rfl) ?_
          repeat (go_big_quiet_step (((first | (go_at_call 36; with_reducible exact KW.out _)))))
          refine wpQuiet_nil ?_
          intro _ hw'
          obtain ⟨pq, hw''⟩ := hw'
          subst hw''
          have HBQ := Lib.hid (HB.out.trans (pq.h.mono zb))
          have HQQ := Lib.hid (HQ.out.below pq.h)
          have belq := Lib.hid pq.h
          generalize pq.W = w4 at *
          clear pq r0 r1 r2 r3 r4
          go_wp2
          go_ret
          exact ⟨ret_int (mayv_nr Hn.out).symm, HBQ.out⟩
        have y4 : decide (t ≤ s.d) = false := decide_eq_false x4
        have Hok := Lib.hid (show s.RMay from ⟨HPre.out.1, HPre.out.2.1, HPre.out.2.2, HBusy.out, .inr (by have ht := Ht.out; have h5 := Hov.out; refine ⟨h5, ?_⟩; omega)⟩)
        have gw : IntKind.i64.wrap (s.n - wk s.bz s.nb) = s.n - wk s.bz s.nb := IntWalk.i64_in _ (by omega)
        clear x0 x1 x2 x3 x4
        refine wp_region_quiet_bw (by kernel_rfl) (by kernel_rfl) ?_
        repeat (go_big_quiet_step (((first | (go_at_call 36; with_reducible exact KW.out _)))))
        refine wpQuiet_nil ?_
        intro _ hw'
        obtain ⟨pq, hw''⟩ := hw'
        subst hw''
        have HBQ := Lib.hid (HB.out.trans (pq.h.mono zb))
        have HQQ := Lib.hid (HQ.out.below pq.h)
        have belq := Lib.hid pq.h
        generalize pq.W = w4 at *
        clear pq r0 r1 r2 r3 r4
        go_wp2
        go_ret
        exact ⟨ret_int (mayv_r Hok.out).symm, HBQ.out⟩
  · go_enter Try.func23, Try.ntmps23
    go_wp2_with fail
    refine (KP.out _ HBX.out.1).mono ?_
    rintro e w1 ⟨rfl, bel1⟩
    have HB1 := Lib.hid (HBX.out.1.trans (bel1.mono HBX.out.1.size))
    have HQ1 := Lib.hid (HBX.out.2.below bel1)
    have ltQ := HQ1.out.lt
    have q0 := HQ1.out.cell 0
    have q1 := HQ1.out.cell 1
    have q2 := HQ1.out.cell 2
    have q3 := HQ1.out.cell 3
    have q4 := HQ1.out.cell 4
    simp at q0 q1 q2 q3 q4
    clear bel1
    go_wp2_with fail
    clear q0 q1 q2 q3 q4
    go_loopw [3] (fun i wr => ∃ k : Nat, k ≤ s.nb ∧ i = .int .i64 k ∧ (∀ i, i < k → (-1 ≤ s.bz i ∧ s.bz i < max 0 s.n) ∧ ∀ j, j < i → 0 ≤ s.bz i → s.bz i ≠ s.bz j) ∧ HasBlk wr w.heap.size 25 #[.slice p.a s.np p.ka, .int .i64 s.p, .int .i64 s.n, .slice p.b s.nb p.kb, .int .i64 s.d] ∧ Below w.heap.size w wr) (fun i wr => s.nb - (intOf i).toNat)
    case atStart => exact ⟨0, Nat.zero_le _, rfl, fun i hi => absurd hi (by omega), HQ1.out, HB1.out⟩
    case round =>
      obtain ⟨k, hk, rfl, hall, hq, hbel⟩ := hrel
      have Hall := Lib.hid hall
      have HQ := Lib.hid hq
      have HB := Lib.hid hbel
      have zb := hbel.size
      have ltQ := hq.lt
      have q0 := hq.cell 0
      have q1 := hq.cell 1
      have q2 := hq.cell 2
      have q3 := hq.cell 3
      have q4 := hq.cell 4
      simp at q0 q1 q2 q3 q4
      clear hall hq hbel
      by_cases hkn : k < s.nb
      · obtain ⟨g, o, hA, hg, hc⟩ := HS.out.2 (by omega)
        have d1 := (HB.out.cell (p := ⟨g, o + k, none⟩) hg).trans (hc k hkn)
        have HA := Lib.hid hA
        have ltg : g < wr.heap.size := by omega
        have hi0 : (0 : Int) ≤ (k : Int) := by omega
        have hi1 : (k : Int) < (s.nb : Int) := by omega
        clear hA
        rw [HA.out] at q3
        try rw [HA.out]
        go_upto_region 6 with fail
        have r0 := fun b : BW wr => BW.cell q0 ltQ b
        have r1 := fun b : BW wr => BW.cell q1 ltQ b
        have r2 := fun b : BW wr => BW.cell q2 ltQ b
        have r3 := fun b : BW wr => BW.cell q3 ltQ b
        have r4 := fun b : BW wr => BW.cell q4 ltQ b
        have x1 := fun b : BW wr => BW.cell d1 ltg b
        clear q0 q1 q2 q3 q4 d1
        by_cases h1 : s.bz k < -1
        · have g1' : decide (s.bz k < -1) = true := decide_eq_true h1
          have Hn := Lib.hid (show ¬ s.RMay from fun h => by have := (h.2.2.2.1.1 k hkn).1; omega)
          clear h1 hc
          refine wp_region_quiet_bw (by kernel_rfl) (by kernel_rfl) ?_
          repeat (go_big_quiet_step (fail))
          refine wpQuiet_nil ?_
          intro _ hw'
          obtain ⟨pq, hw''⟩ := hw'
          subst hw''
          have HBQ := Lib.hid (HB.out.trans (pq.h.mono zb))
          have HQQ := Lib.hid (HQ.out.below pq.h)
          have belq := Lib.hid pq.h
          generalize pq.W = w4 at *
          clear pq r0 r1 r2 r3 r4
          go_wp2
          go_ret
          exact ⟨ret_int (mayv_nr Hn.out).symm, HBQ.out⟩
        have g1' : decide (s.bz k < -1) = false := decide_eq_false h1
        by_cases h2 : 0 ≤ s.bz k
        · have g2' : decide (0 ≤ s.bz k) = true := decide_eq_true h2
          have Hn := Lib.hid (show ¬ s.RMay from fun h => by have := (h.2.2.2.1.1 k hkn).2; omega)
          clear h1 h2 hc
          refine wp_region_quiet_bw (by kernel_rfl) (by kernel_rfl) ?_
          repeat (go_big_quiet_step (fail))
          refine wpQuiet_nil ?_
          intro _ hw'
          obtain ⟨pq, hw''⟩ := hw'
          subst hw''
          have HBQ := Lib.hid (HB.out.trans (pq.h.mono zb))
          have HQQ := Lib.hid (HQ.out.below pq.h)
          have belq := Lib.hid pq.h
          generalize pq.W = w4 at *
          clear pq r0 r1 r2 r3 r4
          go_wp2
          go_ret
          exact ⟨ret_int (mayv_nr Hn.out).symm, HBQ.out⟩
        have g2' : decide (0 ≤ s.bz k) = false := decide_eq_false h2
        have HBd := Lib.hid (show -1 ≤ s.bz k ∧ s.bz k < max 0 s.n by omega)
        clear h1 h2
        have Hc0 := Lib.hid hc
        clear hc
        refine wp_region_quiet_bw (by kernel_rfl) (by kernel_rfl) ?_
        repeat (go_big_quiet_step (fail))
        refine wpQuiet_nil ?_
        intro _ hw'
        obtain ⟨pq, hw''⟩ := hw'
        subst hw''
        have HBQ := Lib.hid (HB.out.trans (pq.h.mono zb))
        have HQQ := Lib.hid (HQ.out.below pq.h)
        have belq := Lib.hid pq.h
        generalize pq.W = w4 at *
        clear pq r0 r1 r2 r3 r4
        clear x1
        have hc := Hc0.out
        obtain ⟨wo, rfl⟩ : ∃ wo : World, wo = wr := ⟨wr, rfl⟩
        go_wp2
        have Hzb := Lib.hid zb
        clear HB HQ zb ltg
        go_loopw [4] (fun i wr => ∃ j : Nat, j ≤ k ∧ i = .int .i64 j ∧ (∀ i, i < j → 0 ≤ s.bz k → s.bz k ≠ s.bz i) ∧ HasBlk wr w.heap.size 25 #[.slice p.a s.np p.ka, .int .i64 s.p, .int .i64 s.n, .slice p.b s.nb p.kb, .int .i64 s.d] ∧ Below w.heap.size w wr) (fun i wr => k - (intOf i).toNat)
        case atStart => exact ⟨0, Nat.zero_le _, rfl, fun i hi => absurd hi (by omega), (by have := HQQ.out; first | exact this | (rw [HA.out] at this; exact this) | (rw [← HA.out] at this; exact this)), HBQ.out⟩
        case round =>
          obtain ⟨j, hj, rfl, hall2, hq, hbel⟩ := hrel
          have Hall2 := Lib.hid hall2
          have HB := Lib.hid hbel
          have HQ := Lib.hid hq
          have zb := hbel.size
          have ltQ := hq.lt
          have q0 := hq.cell 0
          have q1 := hq.cell 1
          have q2 := hq.cell 2
          have q3 := hq.cell 3
          have q4 := hq.cell 4
          simp at q0 q1 q2 q3 q4
          rw [HA.out] at q3
          clear hall2 hq hbel
          by_cases hjk : j < k
          · have d1 := (HB.out.cell (p := ⟨g, o + k, none⟩) hg).trans (hc k hkn)
            have d2 := (HB.out.cell (p := ⟨g, o + j, none⟩) hg).trans (hc j (by omega))
            have ltg : g < wr.heap.size := by omega
            have hj0 : (0 : Int) ≤ (j : Int) := by omega
            have hj1 : (j : Int) < (s.nb : Int) := by omega
            have hjk1 : (j : Int) < (k : Int) := by omega
            go_upto_region 11 with fail
            have r0 := fun b : BW wr => BW.cell q0 ltQ b
            have r1 := fun b : BW wr => BW.cell q1 ltQ b
            have r2 := fun b : BW wr => BW.cell q2 ltQ b
            have r3 := fun b : BW wr => BW.cell q3 ltQ b
            have r4 := fun b : BW wr => BW.cell q4 ltQ b
            have x1 := fun b : BW wr => BW.cell d1 ltg b
            have x2 := fun b : BW wr => BW.cell d2 ltg b
            clear q0 q1 q2 q3 q4 d1 d2
            by_cases h6 : 0 ≤ s.bz k
            · exfalso
              have := HBd.out
              omega
            · have g6 : decide (0 ≤ s.bz k) = false := decide_eq_false h6
              have Hne := Lib.hid h6
              have Hc := Lib.hid hc
              clear h6 hc
              refine wp_region_quiet_bw (by kernel_rfl) (by kernel_rfl) ?_
              repeat (go_big_quiet_step (fail))
              refine wpQuiet_nil ?_
              intro _ hw'
              obtain ⟨pq, hw''⟩ := hw'
              subst hw''
              have HBQ := Lib.hid (HB.out.trans (pq.h.mono zb))
              have HQQ := Lib.hid (HQ.out.below pq.h)
              have belq := Lib.hid pq.h
              generalize pq.W = w4 at *
              clear pq r0 r1 r2 r3 r4
              clear x1 x2
              go_wp2
              go_roundw
              case rel =>
                refine ⟨j + 1, by omega, by go_num, fun i hi h0 => absurd h0 Hne.out, (by have := HQQ.out; first | exact this | (rw [HA.out] at this; exact this) | (rw [← HA.out] at this; exact this)), HBQ.out⟩
              case measure => simp [intOf]; omega
          · obtain rfl : j = k := by omega
            clear hc
            go_wp2
            go_roundw
            case rel =>
              refine ⟨j + 1, by omega, by go_num, fun i hi => ?_, (by have := HQ.out; first | exact this | (rw [HA.out] at this; exact this) | (rw [← HA.out] at this; exact this)), HB.out⟩
              rcases Nat.lt_or_ge i j with h | h
              · exact Hall.out i h
              · obtain rfl : i = j := by omega
                exact ⟨HBd.out, fun q hq h0 => Hall2.out q hq h0⟩
            case measure => simp [intOf]; omega
      · have hkk : k = s.nb := by omega
        have Hkk := Lib.hid hkk
        clear hkk
        have HBusy := Lib.hid (show (∀ i, i < s.nb → -1 ≤ s.bz i ∧ s.bz i < max 0 s.n) ∧ ∀ i, i < s.nb → ∀ k, k < i → 0 ≤ s.bz i → s.bz i ≠ s.bz k from ⟨fun i hi => (Hall.out i (by have := Hkk.out; omega)).1, fun i hi j hj h0 => (Hall.out i (by have := Hkk.out; omega)).2 j hj h0⟩)
        clear Hall
        by_cases hov : s.p = s.np
        · have g5 : (s.p == (s.np : Int)) = true := by simpa using hov
          have Hov := Lib.hid hov
          clear hov
          by_cases hz : s.n = 0
          · have g6 : (s.n != 0) = false := by simpa using hz
            have Hz := Lib.hid hz
            clear hz
            by_cases hd : s.d = 0
            · have g7 : (s.d != 0) = false := by simpa using hd
              have Hd := Lib.hid hd
              clear hd
              go_wp2
              go_ret
              exact ⟨ret_int (mayv_r ⟨HPre.out.1, HPre.out.2.1, HPre.out.2.2, HBusy.out, .inl ⟨Hov.out, Hz.out, Hd.out⟩⟩).symm, HB.out⟩
            · have g7 : (s.d != 0) = true := by simpa using hd
              have Hd := Lib.hid hd
              clear hd
              go_wp2
              go_ret
              exact ⟨ret_int (mayv_nr fun h => by rcases h.2.2.2.2 with a | a; exact Hd.out a.2.2; exact a.1 Hov.out).symm, HB.out⟩
          · have g6 : (s.n != 0) = true := by simpa using hz
            have Hz := Lib.hid hz
            clear hz
            go_wp2
            go_ret
            exact ⟨ret_int (mayv_nr fun h => by rcases h.2.2.2.2 with a | a; exact Hz.out a.2.1; exact a.1 Hov.out).symm, HB.out⟩
        have g5 : (s.p == (s.np : Int)) = false := by simpa using hov
        have Hov := Lib.hid hov
        have hp2 : s.p < (s.np : Int) := by omega
        clear hov
        obtain ⟨g, o, hA, hg, hc⟩ := HS.out.1 (by omega)
        have c0 := (HB.out.cell (p := ⟨g, o + s.p.toNat, none⟩) hg).trans (hc s.p.toNat (by omega))
        have HA := Lib.hid hA
        have hw := wk_le s.bz s.nb
        clear hc hA hg
        rw [HA.out] at q0
        have hph := HPre.out.1.2 s.p.toNat (by omega)
        obtain ⟨t, ht⟩ : ∃ t, s.ph s.p.toNat = t := ⟨_, rfl⟩
        rw [ht] at c0 hph
        have Ht := Lib.hid ht
        clear ht
        have HIb := Lib.hid (HS.out.2.below HB.out)
        go_upto_region 18 with fail
        have r0 := fun b : BW wr => BW.cell q0 ltQ b
        have r1 := fun b : BW wr => BW.cell q1 ltQ b
        have r2 := fun b : BW wr => BW.cell q2 ltQ b
        have r3 := fun b : BW wr => BW.cell q3 ltQ b
        have r4 := fun b : BW wr => BW.cell q4 ltQ b
        clear q0 q1 q2 q3 q4 c0
        rw [← HA.out] at r0
        have KW := Lib.hid (fun b : BW wr => BW.call (fun W' (h : Below wr.heap.size wr W') => busy_any p s W' (HIb.out.below h) (by omega)) b)
        by_cases x0 : t = 0
        · have y0 : (t == 0) = true := by simpa using x0
          have Hn := Lib.hid (show ¬ s.RMay from fun h => by
            have ht := Ht.out
            rcases h.2.2.2.2 with a | a
            · exact Hov.out a.1
            · omega)

          clear x0
          refine wp_region_quiet_bw (by kernel_rfl) (by kernel_rfl) ?_
          repeat (go_big_quiet_step (((first | (go_at_call 36; with_reducible exact KW.out _)))))
          refine wpQuiet_nil ?_
          intro _ hw'
          obtain ⟨pq, hw''⟩ := hw'
          subst hw''
          have HBQ := Lib.hid (HB.out.trans (pq.h.mono zb))
          have HQQ := Lib.hid (HQ.out.below pq.h)
          have belq := Lib.hid pq.h
          generalize pq.W = w4 at *
          clear pq r0 r1 r2 r3 r4
          go_wp2
          go_ret
          exact ⟨ret_int (mayv_nr Hn.out).symm, HBQ.out⟩
        have y0 : (t == 0) = false := by simpa using x0
        by_cases x1 : s.n < 0
        · have y1 : decide (s.n < 0) = true := decide_eq_true x1
          have Hn := Lib.hid (show ¬ s.RMay from fun h => by
            have ht := Ht.out
            rcases h.2.2.2.2 with a | a
            · exact Hov.out a.1
            · omega)

          clear x0 x1
          refine wp_region_quiet_bw (by kernel_rfl) (by kernel_rfl) ?_
          repeat (go_big_quiet_step (((first | (go_at_call 36; with_reducible exact KW.out _)))))
          refine wpQuiet_nil ?_
          intro _ hw'
          obtain ⟨pq, hw''⟩ := hw'
          subst hw''
          have HBQ := Lib.hid (HB.out.trans (pq.h.mono zb))
          have HQQ := Lib.hid (HQ.out.below pq.h)
          have belq := Lib.hid pq.h
          generalize pq.W = w4 at *
          clear pq r0 r1 r2 r3 r4
          go_wp2
          go_ret
          exact ⟨ret_int (mayv_nr Hn.out).symm, HBQ.out⟩
        have y1 : decide (s.n < 0) = false := decide_eq_false x1
        by_cases x2 : t < s.n
        · have y2 : decide (t < s.n) = true := decide_eq_true x2
          have Hn := Lib.hid (show ¬ s.RMay from fun h => by
            have ht := Ht.out
            rcases h.2.2.2.2 with a | a
            · exact Hov.out a.1
            · omega)

          clear x0 x1 x2
          refine wp_region_quiet_bw (by kernel_rfl) (by kernel_rfl) ?_
          repeat (go_big_quiet_step (((first | (go_at_call 36; with_reducible exact KW.out _)))))
          refine wpQuiet_nil ?_
          intro _ hw'
          obtain ⟨pq, hw''⟩ := hw'
          subst hw''
          have HBQ := Lib.hid (HB.out.trans (pq.h.mono zb))
          have HQQ := Lib.hid (HQ.out.below pq.h)
          have belq := Lib.hid pq.h
          generalize pq.W = w4 at *
          clear pq r0 r1 r2 r3 r4
          go_wp2
          go_ret
          exact ⟨ret_int (mayv_nr Hn.out).symm, HBQ.out⟩
        have y2 : decide (t < s.n) = false := decide_eq_false x2
        by_cases x3 : s.d ≠ s.n - wk s.bz s.nb
        · have y3 : (s.d != s.n - wk s.bz s.nb) = true := by simpa using x3
          have Hn := Lib.hid (show ¬ s.RMay from fun h => by
            have ht := Ht.out
            rcases h.2.2.2.2 with a | a
            · exact Hov.out a.1
            · omega)
          have gw : IntKind.i64.wrap (s.n - wk s.bz s.nb) = s.n - wk s.bz s.nb := IntWalk.i64_in _ (by omega)
          clear x0 x1 x2 x3
          refine wp_region_quiet_bw (by kernel_rfl) (by kernel_rfl) ?_
          repeat (go_big_quiet_step (((first | (go_at_call 36; with_reducible exact KW.out _)))))
          refine wpQuiet_nil ?_
          intro _ hw'
          obtain ⟨pq, hw''⟩ := hw'
          subst hw''
          have HBQ := Lib.hid (HB.out.trans (pq.h.mono zb))
          have HQQ := Lib.hid (HQ.out.below pq.h)
          have belq := Lib.hid pq.h
          generalize pq.W = w4 at *
          clear pq r0 r1 r2 r3 r4
          go_wp2
          go_ret
          exact ⟨ret_int (mayv_nr Hn.out).symm, HBQ.out⟩
        have y3 : (s.d != s.n - wk s.bz s.nb) = false := by simpa using x3
        by_cases x4 : t ≤ s.d
        · have y4 : decide (t ≤ s.d) = true := decide_eq_true x4
          have Hn := Lib.hid (show ¬ s.RMay from fun h => by
            have ht := Ht.out
            rcases h.2.2.2.2 with a | a
            · exact Hov.out a.1
            · omega)
          have gw : IntKind.i64.wrap (s.n - wk s.bz s.nb) = s.n - wk s.bz s.nb := IntWalk.i64_in _ (by omega)
          clear x0 x1 x2 x3 x4
          refine wp_region_quiet_bw (by kernel_rfl) (by kernel_rfl) ?_
          repeat (go_big_quiet_step (((first | (go_at_call 36; with_reducible exact KW.out _)))))
          refine wpQuiet_nil ?_
          intro _ hw'
          obtain ⟨pq, hw''⟩ := hw'
          subst hw''
          have HBQ := Lib.hid (HB.out.trans (pq.h.mono zb))
          have HQQ := Lib.hid (HQ.out.below pq.h)
          have belq := Lib.hid pq.h
          generalize pq.W = w4 at *
          clear pq r0 r1 r2 r3 r4
          go_wp2
          go_ret
          exact ⟨ret_int (mayv_nr Hn.out).symm, HBQ.out⟩
        have y4 : decide (t ≤ s.d) = false := decide_eq_false x4
        have Hok := Lib.hid (show s.RMay from ⟨HPre.out.1, HPre.out.2.1, HPre.out.2.2, HBusy.out, .inr (by have ht := Ht.out; have h5 := Hov.out; refine ⟨h5, ?_⟩; omega)⟩)
        have gw : IntKind.i64.wrap (s.n - wk s.bz s.nb) = s.n - wk s.bz s.nb := IntWalk.i64_in _ (by omega)
        clear x0 x1 x2 x3 x4
        refine wp_region_quiet_bw (by kernel_rfl) (by kernel_rfl) ?_
        repeat (go_big_quiet_step (((first | (go_at_call 36; with_reducible exact KW.out _)))))
        refine wpQuiet_nil ?_
        intro _ hw'
        obtain ⟨pq, hw''⟩ := hw'
        subst hw''
        have HBQ := Lib.hid (HB.out.trans (pq.h.mono zb))
        have HQQ := Lib.hid (HQ.out.below pq.h)
        have belq := Lib.hid pq.h
        generalize pq.W = w4 at *
        clear pq r0 r1 r2 r3 r4
        go_wp2
        go_ret
        exact ⟨ret_int (mayv_r Hok.out).symm, HBQ.out⟩
end Go.Proofs.Ytdilfcpgjkkjmaa
