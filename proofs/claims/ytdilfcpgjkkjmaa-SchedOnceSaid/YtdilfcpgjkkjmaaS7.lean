/- sched: Left. -/
import Derived.Test.YtdilfcpgjkkjmaaS6
namespace Go.Proofs.Ytdilfcpgjkkjmaa
open Go.RowKit
set_option linter.unusedVariables false
theorem ret_ii {a b c d : Int} (h : a = b) (k : c = d) : Ending.returned (.tuple #[.int .i64 a, .int .i64 c]) = .returned (.tuple #[.int .i64 b, .int .i64 d]) := by rw [h, k]
open Classical in
noncomputable def leftv (s : SD) : Int := if s.May then s.left else 0
theorem leftv_yes {s : SD} (h : s.May) : leftv s = s.left := if_pos h
theorem leftv_no {s : SD} (h : ¬ s.May) : leftv s = 0 := if_neg h
theorem sumTo_succ (f : Nat → Int) (k : Nat) : sumTo f (k + 1) = sumTo f k + f k := rfl
theorem sumTo_bd {f : Nat → Int} {n : Nat} (h : ∀ i, i < n → 0 ≤ f i ∧ f i ≤ 16384) : ∀ {k}, k ≤ n → 0 ≤ sumTo f k ∧ sumTo f k ≤ k * 16384
  | 0, _ => by simp [sumTo]
  | k + 1, hk => by
    have := sumTo_bd h (k := k) (by omega)
    have := h k (by omega)
    rw [sumTo_succ]; omega
theorem SD.left_over {s : SD} (h : s.p = s.np) (ht : s.tasks = 0) : s.left = wk s.bz s.nb + 2 * (s.tasks - s.n) := by unfold SD.left; rw [if_pos h]; omega
theorem SD.left_at {s : SD} (h : s.p ≠ s.np) : s.left = wk s.bz s.nb + 2 * (s.tasks - s.n) + 2 * (sumTo s.ph s.np - sumTo s.ph (s.p.toNat + 1)) := by unfold SD.left; rw [if_neg h]

set_option maxRecDepth 100000 in
set_option maxHeartbeats 4000000 in
theorem left_any (p : SP) (s : SD) (w : World) (h : SOk w p s) (hcap : s.np ≤ p.ka) :
    Calls Try.prog 11 #[.agg #[.slice p.a s.np p.ka, .int .i64 s.p, .int .i64 s.n, .slice p.b s.nb p.kb, .int .i64 s.d]] w fun e w' => e = .returned (.tuple #[.int .i64 (leftv s), .int .i64 (mayv s)]) ∧ Below w.heap.size w w' := by
  have hc := Lib.hid (fun W (hb : Below w.heap.size w W) => check_any p s W (h.below hb))
  have HBx := Lib.hid (And.intro (show Below w.heap.size w (w.alloc (.cells #[.slice p.a s.np p.ka, .int .i64 s.p, .int .i64 s.n, .slice p.b s.nb p.kb, .int .i64 s.d] 25)) by repeat' (first | exact Below.refl _ _ | assumption | apply Below.drew | refine Below.setCell ?_ (by first | omega | (simp; done) | (simp; omega)) _ | refine Below.alloc ?_ (by first | omega | (simp; done) | (simp; omega)) _)) (hasBlk_new w 25 #[.slice p.a s.np p.ka, .int .i64 s.p, .int .i64 s.n, .slice p.b s.nb p.kb, .int .i64 s.d]))
  have HS := Lib.hid h
  clear h
  go_enter Try.func11, Try.ntmps11
  go_wp2_with fail
  refine (hc.out _ HBx.out.1).mono ?_
  rintro e w1 ⟨rfl, bel1⟩
  have HB := Lib.hid (HBx.out.1.trans (bel1.mono HBx.out.1.size))
  have HP := Lib.hid (HBx.out.2.below bel1)
  have P_0 := HP.out.cell 0
  have P_1 := HP.out.cell 1
  have P_2 := HP.out.cell 2
  have P_3 := HP.out.cell 3
  have P_4 := HP.out.cell 4
  simp at P_0 P_1 P_2 P_3 P_4
  clear bel1 hc
  by_cases hm : s.May
  rotate_left
  · have Hm := Lib.hid hm
    rw [mayv_no hm]
    clear hm
    go_wp2
    go_ret2
    exact ⟨ret_ii (leftv_no Hm.out).symm (mayv_no Hm.out).symm, HB.out⟩
  have Hm := Lib.hid hm
  rw [mayv_yes hm]
  obtain ⟨hph, hn16, hb1, hb64, ⟨q, hq, hqn⟩, hn0, hnt, hbz, hd, hx⟩ := hm.parts
  have hw := wk_le s.bz s.nb
  have htb := hm.tasks_bd
  have ht0 : 0 ≤ s.tasks := htb.1
  have ht1 : s.tasks ≤ 16384 := htb.2
  have hp0 : 0 ≤ s.p := by omega
  have hp1 : s.p ≤ s.np := by omega
  have hsum := fun k (hk : k ≤ s.np) => sumTo_bd hph hk
  have Hph := Lib.hid hph
  have Hsum := Lib.hid hsum
  have Hq := Lib.hid hq
  clear hm hph hbz hd hx htb hsum hq
  have gw1 : IntKind.i64.wrap (s.tasks - s.n) = s.tasks - s.n := IntWalk.i64_in _ (by omega)
  have gw2 : IntKind.i64.wrap (2 * (s.tasks - s.n)) = 2 * (s.tasks - s.n) := IntWalk.i64_in _ (by omega)
  have gw3 : IntKind.i64.wrap (wk s.bz s.nb + 2 * (s.tasks - s.n)) = wk s.bz s.nb + 2 * (s.tasks - s.n) := IntWalk.i64_in _ (by omega)
  have GW := Lib.hid (And.intro gw1 (And.intro gw2 gw3))
  clear gw1 gw2 gw3
  have HB0 := Lib.hid (HB.out.alloc HB.out.size (.cells #[.slice p.a s.np p.ka, .int .i64 s.p, .int .i64 s.n, .slice p.b s.nb p.kb, .int .i64 s.d] 63))
  have HQ := Lib.hid (hasBlk_new w1 63 #[.slice p.a s.np p.ka, .int .i64 s.p, .int .i64 s.n, .slice p.b s.nb p.kb, .int .i64 s.d])
  have HI := Lib.hid (HS.out.below HB0.out)
  have Hsz := HB.out.size
  go_upto_region 5 with fail
  clear P_0 P_1 P_2 P_3 P_4
  generalize w1.alloc (.cells #[.slice p.a s.np p.ka, .int .i64 s.p, .int .i64 s.n, .slice p.b s.nb p.kb, .int .i64 s.d] 63) = v at *
  have ltQ := HQ.out.lt
  have q0 := HQ.out.cell 0
  have q1 := HQ.out.cell 1
  have q2 := HQ.out.cell 2
  have q3 := HQ.out.cell 3
  have q4 := HQ.out.cell 4
  simp at q0 q1 q2 q3 q4
  have r0 := fun b : BW v => BW.cell q0 ltQ b
  have r1 := fun b : BW v => BW.cell q1 ltQ b
  have r2 := fun b : BW v => BW.cell q2 ltQ b
  have r3 := fun b : BW v => BW.cell q3 ltQ b
  have r4 := fun b : BW v => BW.cell q4 ltQ b
  have KW := Lib.hid (fun b : BW v => BW.call (fun W' (h : Below v.heap.size v W') => working_any p s W' (HI.out.2.below h) (by omega)) b)
  have KT := Lib.hid (fun b : BW v => BW.call (fun W' (h : Below v.heap.size v W') => tasks_any p s W' (HI.out.1.below h) hp0 hp1) b)
  clear q0 q1 q2 q3 q4
  obtain ⟨gw1, gw2, gw3⟩ := GW.out
  refine wp_region_quiet_bw (by kernel_rfl) (by kernel_rfl) ?_
  repeat (go_big_quiet_step ((first | (go_at_call 31; with_reducible exact KW.out _) | (go_at_call 30; with_reducible exact KT.out _))))
  refine wpQuiet_nil ?_
  intro _ hw'
  obtain ⟨pq, hw''⟩ := hw'
  subst hw''
  clear gw1 gw2 gw3
  have HB2 := Lib.hid (HB0.out.trans (pq.h.mono HB0.out.size))
  have HQ2 := Lib.hid (HQ.out.below pq.h)
  generalize pq.W = w2 at *
  clear pq KW KT r0 r1 r2 r3 r4
  obtain ⟨T, hT⟩ : ∃ T, wk s.bz s.nb + 2 * (s.tasks - s.n) = T := ⟨_, rfl⟩
  have hTb : 0 ≤ T ∧ T ≤ 40000 := by omega
  obtain ⟨hTb0, hTb1⟩ := hTb
  rw [hT]
  have HT := Lib.hid hT
  clear hT
  have q0 := HQ2.out.cell 0
  have q1 := HQ2.out.cell 1
  have q2 := HQ2.out.cell 2
  have q3 := HQ2.out.cell 3
  have q4 := HQ2.out.cell 4
  simp at q0 q1 q2 q3 q4
  go_wp2_with fail
  refine (over_any p s _).mono ?_
  rintro e w3 ⟨rfl, bel3⟩
  have HB3 := Lib.hid (HB2.out.trans (bel3.mono HB2.out.size))
  have HQ3 := Lib.hid (HQ2.out.below bel3)
  clear q0 q1 q2 q3 q4 bel3
  cases hov : ovB s with
  | true =>
    have Ho := Lib.hid (ovB_true.1 hov)
    clear hov
    go_wp2
    go_ret2
    exact ⟨ret_ii (by rw [leftv_yes Hm.out, SD.left_over Ho.out (SD.tasks_over Ho.out), HT.out]) (mayv_yes Hm.out).symm, HB3.out⟩
  | false =>
    have hne : s.p ≠ s.np := fun e => by rw [ovB_true.2 e] at hov; cases hov
    have Hne := Lib.hid hne
    have q0 := HQ3.out.cell 0
    have q1 := HQ3.out.cell 1
    simp at q0 q1
    obtain ⟨g, o, hA, hg, hc⟩ := HS.out.1 (by omega)
    have HC := Lib.hid (fun i (hi : i < s.np) W (hb : Below w.heap.size w W) => (hb.cell (p := ⟨g, o + i, none⟩) hg).trans (hc i hi))
    have HA := Lib.hid hA
    have hpi : s.p + 1 ≤ (s.np : Int) := by omega
    have hpk : (s.np : Int) ≤ (p.ka : Int) := by omega
    have hp9 : 0 ≤ s.p + 1 := by omega
    have hlen : ((s.np : Int) - (s.p + 1)).toNat = s.np - (q + 1) := by have := Hq.out; omega
    have hq1 : (s.p + 1).toNat = q + 1 := by have := Hq.out; omega
    clear hov hc hA hg hne
    rw [HA.out] at q0
    have hd1 : s.p = (q : Int) := Hq.out
    by_cases hk : p.ka = q + 1
    · have hz : s.np - (q + 1) = 0 := by omega
      have Hk := Lib.hid hk
      have Hz := Lib.hid hz
      have Hd1 := Lib.hid hd1
      clear hd1 hz
      go_wp2_with fail
      go_loop [6, 38] (fun t i => t = .int .i64 T ∧ i = .int .i64 0) (fun t i => 0)
      case atStart => exact ⟨rfl, rfl⟩
      case round =>
        obtain ⟨rfl, rfl⟩ := hrel
        have hz := Hz.out
        have hl : ¬ (0 : Int) < ((s.np - (q + 1) : Nat) : Int) := by omega
        have hl' : decide ((0 : Int) < ((s.np - (q + 1) : Nat) : Int)) = false := decide_eq_false hl
        clear hz hl
        go_wp2
        go_ret2
        exact ⟨ret_ii (by rw [leftv_yes Hm.out, SD.left_at Hne.out, HT.out, Hd1.out, Int.toNat_natCast, show s.np = q + 1 by have := Hz.out; omega]; omega) (mayv_yes Hm.out).symm, HB3.out⟩
    · have Hd1 := Lib.hid hd1
      clear hd1
      go_wp2_with fail
      go_loop [6, 38] (fun t i => ∃ k : Nat, k ≤ s.np - (q + 1) ∧ i = .int .i64 k ∧ t = .int .i64 (T + 2 * (sumTo s.ph (q + 1 + k) - sumTo s.ph (q + 1)))) (fun t i => s.np - (q + 1) - (intOf i).toNat)
      case atStart => exact ⟨0, Nat.zero_le _, rfl, by rw [Nat.add_zero, Int.sub_self]; simp⟩
      case round =>
        obtain ⟨k, hk', rfl, rfl⟩ := hrel
        have b1 := Hsum.out (q + 1 + k) (by omega)
        have b2 := Hsum.out (q + 1) (by omega)
        obtain ⟨S, hS⟩ : ∃ S, T + 2 * (sumTo s.ph (q + 1 + k) - sumTo s.ph (q + 1)) = S := ⟨_, rfl⟩
        have hSb : -1000000 ≤ S ∧ S ≤ 1000000 := by omega
        obtain ⟨hS0, hS1⟩ := hSb
        rw [hS]
        have HSS := Lib.hid hS
        clear hS b1 b2
        by_cases hkn : k < s.np - (q + 1)
        · have c0 := HC.out (q + 1 + k) (by omega) _ HB3.out
          have hph := Hph.out (q + 1 + k) (by omega)
          obtain ⟨x, hx⟩ : ∃ x, s.ph (q + 1 + k) = x := ⟨_, rfl⟩
          rw [hx] at c0 hph
          rw [← Nat.add_assoc] at c0
          obtain ⟨hx0, hx1⟩ := hph
          have HX := Lib.hid hx
          clear hx
          have hi0 : (0 : Int) ≤ (k : Int) := by omega
          have hi1 : (k : Int) < ((s.np - (q + 1) : Nat) : Int) := by omega
          go_wp2
          go_round
          case rel => exact ⟨k + 1, by omega, by go_num, by rw [show q + 1 + (k + 1) = q + 1 + k + 1 from rfl, sumTo_succ, HX.out, ← HSS.out]; congr 1; omega⟩
          case measure => simp [intOf]; omega
        · have Hkk := Lib.hid (show k = s.np - (q + 1) by omega)
          go_wp2
          go_ret2
          exact ⟨ret_ii (by rw [leftv_yes Hm.out, SD.left_at Hne.out, HT.out, Hd1.out, Int.toNat_natCast, ← HSS.out, show q + 1 + k = s.np by have := Hkk.out; omega]) (mayv_yes Hm.out).symm, HB3.out⟩

set_option maxRecDepth 100000 in
set_option maxHeartbeats 4000000 in
theorem refleft_any (p : SP) (s : SD) (w : World) (h : SOk w p s) :
    Calls Try.prog 20 #[.agg #[.slice p.a s.np p.ka, .int .i64 s.p, .int .i64 s.n, .slice p.b s.nb p.kb, .int .i64 s.d]] w fun e w' => e = .returned (.tuple #[.int .i64 (leftv s), .int .i64 (mayv s)]) ∧ Below w.heap.size w w' := by
  have hc := Lib.hid (fun W (hb : Below w.heap.size w W) => refcheck_any p s W (h.below hb))
  have HBx := Lib.hid (And.intro (show Below w.heap.size w (w.alloc (.cells #[.slice p.a s.np p.ka, .int .i64 s.p, .int .i64 s.n, .slice p.b s.nb p.kb, .int .i64 s.d] 25)) by repeat' (first | exact Below.refl _ _ | assumption | apply Below.drew | refine Below.setCell ?_ (by first | omega | (simp; done) | (simp; omega)) _ | refine Below.alloc ?_ (by first | omega | (simp; done) | (simp; omega)) _)) (hasBlk_new w 25 #[.slice p.a s.np p.ka, .int .i64 s.p, .int .i64 s.n, .slice p.b s.nb p.kb, .int .i64 s.d]))
  have HS := Lib.hid h
  clear h
  go_enter Try.func20, Try.ntmps20
  go_wp2_with fail
  refine (hc.out _ HBx.out.1).mono ?_
  rintro e w1 ⟨rfl, bel1⟩
  have HB := Lib.hid (HBx.out.1.trans (bel1.mono HBx.out.1.size))
  have HP := Lib.hid (HBx.out.2.below bel1)
  have P_0 := HP.out.cell 0
  have P_1 := HP.out.cell 1
  have P_2 := HP.out.cell 2
  have P_3 := HP.out.cell 3
  have P_4 := HP.out.cell 4
  simp at P_0 P_1 P_2 P_3 P_4
  clear bel1 hc
  by_cases hm : s.May
  rotate_left
  · have Hm := Lib.hid hm
    rw [mayv_no hm]
    clear hm
    go_wp2
    go_ret2
    exact ⟨ret_ii (leftv_no Hm.out).symm (mayv_no Hm.out).symm, HB.out⟩
  have Hm := Lib.hid hm
  rw [mayv_yes hm]
  obtain ⟨hph, hn16, hb1, hb64, ⟨q, hq, hqn⟩, hn0, hnt, hbz, hd, hx⟩ := hm.parts
  have hw := wk_le s.bz s.nb
  have htb := hm.tasks_bd
  have ht0 : 0 ≤ s.tasks := htb.1
  have ht1 : s.tasks ≤ 16384 := htb.2
  have hp0 : 0 ≤ s.p := by omega
  have hp1 : s.p ≤ s.np := by omega
  have hsum := fun k (hk : k ≤ s.np) => sumTo_bd hph hk
  have Hph := Lib.hid hph
  have Hsum := Lib.hid hsum
  have Hq := Lib.hid hq
  clear hm hph hbz hd hx htb hsum hq
  have gw1 : IntKind.i64.wrap (s.tasks - s.n) = s.tasks - s.n := IntWalk.i64_in _ (by omega)
  have gw2 : IntKind.i64.wrap (2 * (s.tasks - s.n)) = 2 * (s.tasks - s.n) := IntWalk.i64_in _ (by omega)
  have gw3 : IntKind.i64.wrap (wk s.bz s.nb + 2 * (s.tasks - s.n)) = wk s.bz s.nb + 2 * (s.tasks - s.n) := IntWalk.i64_in _ (by omega)
  have GW := Lib.hid (And.intro gw1 (And.intro gw2 gw3))
  clear gw1 gw2 gw3
  have HIw := Lib.hid (HS.out.below HB.out)
  go_wp2_with fail
  refine (busy_any p s _ HIw.out.2 (by omega)).mono ?_
  rintro e w2 ⟨rfl, bel2⟩
  have HB2 := Lib.hid (HB.out.trans (bel2.mono HB.out.size))
  have HQ2 := Lib.hid (HP.out.below bel2)
  clear P_0 P_1 P_2 P_3 P_4 bel2
  have ltQ := HQ2.out.lt
  have q0 := HQ2.out.cell 0
  have q1 := HQ2.out.cell 1
  have q2 := HQ2.out.cell 2
  have q3 := HQ2.out.cell 3
  have q4 := HQ2.out.cell 4
  simp at q0 q1 q2 q3 q4
  have hd1 : s.p = (q : Int) := Hq.out
  have hwk : wk s.bz s.nb ≤ 64 := by omega
  by_cases hov : s.p = (s.np : Int)
  · have g0 : decide (s.p < (s.np : Int)) = false := decide_eq_false (by omega)
    have Ho := Lib.hid hov
    have hp9 : (s.np : Int) < s.p + 1 := by omega
    have g1 : decide (s.p + 1 < (s.np : Int)) = false := decide_eq_false (by omega)
    have Hd1 := Lib.hid hd1
    clear hov hd1
    go_wp2
    go_loop [5, 6] (fun t i => t = .int .i64 (wk s.bz s.nb) ∧ i = .int .i64 (s.p + 1)) (fun t i => 0)
    case atStart => exact ⟨rfl, rfl⟩
    case round =>
      obtain ⟨rfl, rfl⟩ := hrel
      go_wp2
      go_ret2
      exact ⟨ret_ii (by
        rw [leftv_yes Hm.out, SD.left_over Ho.out (SD.tasks_over Ho.out)]
        have h1 := SD.tasks_over Ho.out
        omega) (mayv_yes Hm.out).symm, HB2.out⟩
  have g0 : decide (s.p < (s.np : Int)) = true := decide_eq_true (by omega)
  have Hne := Lib.hid hov
  have ht := SD.tasks_at hov
  obtain ⟨g, o, hA, hg, hc⟩ := HS.out.1 (by omega)
  have HC := Lib.hid (fun i (hi : i < s.np) W (hb : Below w.heap.size w W) => (hb.cell (p := ⟨g, o + i, none⟩) hg).trans (hc i hi))
  have c0 := HC.out s.p.toNat (by omega) _ HB2.out
  rw [← ht] at c0
  have HA := Lib.hid hA
  rw [hA] at q0
  have hlt : g < w2.heap.size := by have := HB2.out.size; omega
  have hp3 : s.p < (s.np : Int) := by omega
  have Hd1 := Lib.hid hd1
  clear hov hc hA hg ht hd1
  obtain ⟨gw1, gw2, gw3⟩ := GW.out
  go_upto_region 6 with fail
  go_quiet (fail)
  clear gw1 gw2 gw3 c0
  obtain ⟨T, hT⟩ : ∃ T, wk s.bz s.nb + 2 * (s.tasks - s.n) = T := ⟨_, rfl⟩
  have hTb : 0 ≤ T ∧ T ≤ 40000 := by omega
  obtain ⟨hTb0, hTb1⟩ := hTb
  rw [hT]
  have HT := Lib.hid hT
  have hq1 : s.p + 1 = ((q + 1 : Nat) : Int) := by have := Hd1.out; omega
  have Hq1 := Lib.hid hq1
  clear hT hq1
  go_wp2
  go_loop [5, 6] (fun t i => ∃ k : Nat, q + 1 + k ≤ s.np ∧ i = .int .i64 ((q + 1 + k : Nat) : Int) ∧ t = .int .i64 (T + 2 * (sumTo s.ph (q + 1 + k) - sumTo s.ph (q + 1)))) (fun t i => s.np - (intOf i).toNat)
  case atStart => exact ⟨0, by have := Hd1.out; omega, by rw [Hq1.out], by rw [Nat.add_zero, Int.sub_self]; simp⟩
  case round =>
    obtain ⟨k, hk', rfl, rfl⟩ := hrel
    have b1 := Hsum.out (q + 1 + k) (by omega)
    have b2 := Hsum.out (q + 1) (by omega)
    obtain ⟨S, hS⟩ : ∃ S, T + 2 * (sumTo s.ph (q + 1 + k) - sumTo s.ph (q + 1)) = S := ⟨_, rfl⟩
    have hSb : -1000000 ≤ S ∧ S ≤ 1000000 := by omega
    obtain ⟨hS0, hS1⟩ := hSb
    rw [hS]
    have HSS := Lib.hid hS
    clear hS b1 b2
    obtain ⟨m, hm⟩ : ∃ m, q + 1 + k = m := ⟨_, rfl⟩
    have HM := Lib.hid hm
    rw [hm]
    rw [hm] at hk'
    clear hm
    by_cases hkn : m < s.np
    · have c0 := HC.out m hkn _ HB2.out
      have hph := Hph.out m hkn
      obtain ⟨x, hx⟩ : ∃ x, s.ph m = x := ⟨_, rfl⟩
      rw [hx] at c0 hph
      obtain ⟨hx0, hx1⟩ := hph
      have HX := Lib.hid hx
      clear hx
      have hi0 : (0 : Int) ≤ (m : Int) := by omega
      have hi1 : (m : Int) < (s.np : Int) := by omega
      go_wp2
      go_round
      case rel => exact ⟨k + 1, by have := HM.out; omega, by rw [show q + 1 + (k + 1) = m + 1 by have := HM.out; omega]; go_num, by rw [show q + 1 + (k + 1) = m + 1 by have := HM.out; omega, sumTo_succ, HX.out, ← HSS.out, HM.out]; congr 1; omega⟩
      case measure => simp [intOf]; omega
    · have Hkk := Lib.hid (show m = s.np by omega)
      go_wp2
      go_ret2
      exact ⟨ret_ii (by rw [leftv_yes Hm.out, SD.left_at Hne.out, HT.out, Hd1.out, Int.toNat_natCast, ← HSS.out, HM.out, Hkk.out]) (mayv_yes Hm.out).symm, below_drewN HB2.out _⟩
end Go.Proofs.Ytdilfcpgjkkjmaa
