/- ArenaAll: how arguments read; the walk. -/
import Derived.Test.YtapibgpjfliifaaR7
import Derived.Test.YtapibgpjfliifaaRd
import Derived.Test.YtapibgpjfliifaaQuiet
namespace Go.Proofs.Ytapibgpjfliifaa
open Go.RowKit
set_option linter.unusedVariables false

theorem cells_slot : Try.prog.cellsOf 33 = 2 := by kernel_rfl
theorem cells_ar : Try.prog.cellsOf 24 = 1 := by kernel_rfl
theorem cells_hd : Try.prog.cellsOf 26 = 2 := by kernel_rfl
theorem cells_sl : Try.prog.cellsOf 22 = 1 := by kernel_rfl
theorem cells_bool : Try.prog.cellsOf 4 = 1 := by kernel_rfl
theorem rd_slots {w : World} {cs : List Value} (h : Rd Try.prog w 22 cs) : ∃ (A : Option Addr) (n c : Nat) (g : Nat → Int) (b : Nat → Bool), cs = [.slice A n c] ∧ (n ≤ c ∧ c ≤ maxLen) ∧ Row w A n 2 (sv g b) := by
  obtain ⟨A, n, c, F, rfl, hnc, hF, hr⟩ := rd_rows 2 (fun f => ∃ (x : Int) (y : Bool), f 0 = .int .i64 x ∧ f 1 = .bool y) Try.underlying22 cells_slot (by omega) (fun cs hl hr => by
    obtain ⟨hl2, hf⟩ := hr.struct Try.underlying33
    match cs, hl with
    | [x, y], _ =>
      obtain ⟨a0, e0, _⟩ := Rd.int Try.underlying3 (hf 0 _ rfl)
      obtain ⟨a1, e1⟩ := Rd.bool Try.underlying4 (hf 1 _ rfl)
      simp [cells_int, cells_bool] at e0 e1
      subst e0 e1
      exact ⟨_, _, rfl, rfl⟩) ⟨fun j => if j = 0 then .int .i64 0 else .bool false, 0, false, rfl, rfl⟩ h
  obtain ⟨g, hg⟩ := Classical.axiomOfChoice hF
  obtain ⟨b, hb⟩ := Classical.axiomOfChoice hg
  refine ⟨A, n, c, g, b, rfl, hnc, hr.congr fun i _ j hj => ?_⟩
  unfold sv
  obtain rfl | rfl : j = 0 ∨ j = 1 := by omega
  · exact (hb i).1
  · exact (hb i).2
theorem arg_arena {w : World} {v : Value} (h : Arg Try.prog w 24 v) : ∃ (A : Option Addr) (n c : Nat) (g : Nat → Int) (b : Nat → Bool), v = .agg #[.slice A n c] ∧ (n ≤ c ∧ c ≤ maxLen) ∧ Row w A n 2 (sv g b) := by
  obtain ⟨cs, rfl, _, hr⟩ := h.struct Try.underlying24
  obtain ⟨hl, hf⟩ := hr.struct Try.underlying24
  rw [cells_ar] at hl
  match cs, hl with
  | [x], _ =>
    obtain ⟨A, n, c, g, b, e0, h0, hV⟩ := rd_slots (hf 0 _ rfl)
    simp [cells_sl] at e0
    subst e0
    exact ⟨A, n, c, g, b, rfl, h0, hV⟩
theorem arg_hd {w : World} {v : Value} (h : Arg Try.prog w 26 v) : ∃ (s q : Int), v = .agg #[.int .i64 s, .int .i64 q] ∧ (-9223372036854775808 ≤ s ∧ s ≤ 9223372036854775807) := by
  obtain ⟨cs, rfl, _, hr⟩ := h.struct Try.underlying26
  obtain ⟨hl, hf⟩ := hr.struct Try.underlying26
  rw [cells_hd] at hl
  match cs, hl with
  | [x, y], _ =>
    obtain ⟨a0, e0, hw⟩ := Rd.int Try.underlying3 (hf 0 _ rfl)
    obtain ⟨a1, e1, _⟩ := Rd.int Try.underlying3 (hf 1 _ rfl)
    simp [cells_int] at e0 e1
    subst e0 e1
    exact ⟨_, _, rfl, i64_bounds hw⟩
/-- The handles of these slots. -/
def hv (g : Nat → Int) (l : List Nat) (i j : Nat) : Value := if j = 0 then .int .i64 (l.getD i 0 : Nat) else .int .i64 (g (l.getD i 0))
theorem hdc_at (g : Nat → Int) : ∀ (l : List Nat) {i j : Nat}, i < l.length → j < 2 → (hdc g l)[i * 2 + j]? = some (hv g l i j)
  | k :: l, 0, j, _, hj => by
    obtain rfl | rfl : j = 0 ∨ j = 1 := by omega
    · simp [hdc, hv]
    · simp [hdc, hv]
  | k :: l, i + 1, j, hi, hj => by
    have h := hdc_at g l (i := i) (j := j) (by simpa using hi) hj
    have e : (hdc g (k :: l)) = .int .i64 k :: .int .i64 (g k) :: hdc g l := by simp [hdc]
    rw [e, show (i + 1) * 2 + j = (i * 2 + j) + 1 + 1 by omega, List.getElem?_cons_succ, List.getElem?_cons_succ, h]
    simp [hv]
theorem live_mem {b : Nat → Bool} {n k : Nat} : k ∈ liveL b n ↔ k < n ∧ b k = true := by simp [liveL]
theorem live_get {b : Nat → Bool} {n i : Nat} (h : i < (liveL b n).length) : (liveL b n).getD i 0 < n ∧ b ((liveL b n).getD i 0) = true := by
  have e : (liveL b n).getD i 0 = (liveL b n)[i] := by simp [List.getD, h]
  rw [e]
  exact live_mem.1 (List.getElem_mem h)
theorem live_lt {b : Nat → Bool} {n i : Nat} (h : i + 1 < (liveL b n).length) : (liveL b n).getD i 0 < (liveL b n).getD (i + 1) 0 := by
  have e : (liveL b n).getD i 0 = (liveL b n)[i] := by simp [List.getD, show i < (liveL b n).length by omega]
  have e2 : (liveL b n).getD (i + 1) 0 = (liveL b n)[i + 1] := by simp [List.getD, h]
  rw [e, e2]
  have hp : (liveL b n).Pairwise (· < ·) := List.Pairwise.filter b List.pairwise_lt_range
  exact List.pairwise_iff_getElem.1 hp i (i + 1) (by omega) h (by omega)
theorem live_of {b : Nat → Bool} {n k : Nat} (hk : k < n) (hb : b k = true) : ∃ i, i < (liveL b n).length ∧ (liveL b n).getD i 0 = k := by
  obtain ⟨i, hi, e⟩ := List.getElem_of_mem (live_mem.2 ⟨hk, hb⟩)
  exact ⟨i, hi, by simp [List.getD, hi, e]⟩
theorem holds_t {A : Option Addr} {n c : Nat} {g : Nat → Int} {b : Nat → Bool} {k : Nat} {w : World} (hA : Row w A n 2 (sv g b)) (hm : MayA n g) (hk : k < n) (hb : b k = true) :
    Calls Try.prog 11 #[.agg #[.slice A n c], .agg #[.int .i64 (k : Nat), .int .i64 (g k)]] w fun e w' => e = .returned (.bool true) ∧ Below w.heap.size w w' :=
  (holds_any A n c g b k (g k) w hA (by have := hm.1; omega)).mono fun e w' ⟨⟨r, he, hr⟩, hbel⟩ => by
    have : r = true := hr.2 ⟨hm, by omega, by omega, by simp, by simpa using hb⟩
    subst this
    exact ⟨he, hbel⟩

set_option maxRecDepth 100000 in
set_option maxHeartbeats 4000000 in
theorem arenaAll_walk (A : Option Addr) (n c : Nat) (g : Nat → Int) (b : Nat → Bool) (s q : Int) (w : World) (hA : Row w A n 2 (sv g b)) (hs : -9223372036854775808 ≤ s ∧ s ≤ 9223372036854775807) :
    Calls Try.prog 5 #[.agg #[.slice A n c], .agg #[.int .i64 s, .int .i64 q]] w fun e w' => e = .returned (.bool true) ∧ Below w.heap.size w w' := by
  have HA := Lib.hid hA
  clear hA
  go_enter Try.func5, Try.ntmps5
  go_wp2_with fail
  have NE_P_Q := Lib.hid (show w.heap.size ≠ w.heap.size + 1 by omega)
  have s_P : HasBlk (w.alloc (.cells #[.slice A n c] 24)) (w.heap.size) 24 #[.slice A n c] := by simpa using hasBlk_new w 24 #[.slice A n c]
  replace s_P := s_P.alloc (.cells #[.int .i64 s, .int .i64 q] 26)
  have s_Q : HasBlk ((w.alloc (.cells #[.slice A n c] 24)).alloc (.cells #[.int .i64 s, .int .i64 q] 26)) (w.heap.size + 1) 26 #[.int .i64 s, .int .i64 q] := by simpa using hasBlk_new (w.alloc (.cells #[.slice A n c] 24)) 26 #[.int .i64 s, .int .i64 q]
  have t_P : HasBlk ((w.alloc (.cells #[.slice A n c] 24)).alloc (.cells #[.int .i64 s, .int .i64 q] 26)) (w.heap.size) 24 #[.slice A n c] := by simpa using s_P
  clear s_P
  have t_Q : HasBlk ((w.alloc (.cells #[.slice A n c] 24)).alloc (.cells #[.int .i64 s, .int .i64 q] 26)) (w.heap.size + 1) 26 #[.int .i64 s, .int .i64 q] := by simpa using s_Q
  clear s_Q
  have SB1 : Below w.heap.size w ((w.alloc (.cells #[.slice A n c] 24)).alloc (.cells #[.int .i64 s, .int .i64 q] 26)) := by
    repeat' (first | exact Below.refl _ _ | assumption | apply Below.drew | refine Below.setCell ?_ (by first | omega | (simp; done) | (simp; omega)) _ | refine Below.alloc ?_ (by first | omega | (simp; done) | (simp; omega)) _)
  generalize gW_v0 : ((w.alloc (.cells #[.slice A n c] 24)).alloc (.cells #[.int .i64 s, .int .i64 q] 26)) = v0 at *
  clear gW_v0
  have P := Lib.hid t_P
  clear t_P
  have Q := Lib.hid t_Q
  clear t_Q
  have SB1h := Lib.hid SB1
  clear SB1
  refine (alive_any _).mono ?_
  rintro e w1 ⟨rfl, bel1⟩
  have t_P := P.out.below bel1
  clear P
  have P := Lib.hid t_P
  clear t_P
  have t_Q := Q.out.below bel1
  clear Q
  have Q := Lib.hid t_Q
  clear t_Q
  have SB2 : Below w.heap.size w w1 := SB1h.out.trans (bel1.mono SB1h.out.size)
  clear SB1h
  have SB2h := Lib.hid SB2
  clear SB2 bel1
  have lt_P := P.out.lt
  have P_0 := P.out.cell 0
  simp at P_0
  have lt_Q := Q.out.lt
  have Q_0 := Q.out.cell 0
  have Q_1 := Q.out.cell 1
  simp at Q_0 Q_1
  have szB_w1 := SB2h.out.size
  by_cases hbig : 1000 < n
  · have g0 : decide ((1000 : Int) < (n : Int)) = true := decide_eq_true (by omega)
    go_wp2
    go_ret
    exact ⟨rfl, SB2h.out⟩
  have g0 : decide ((1000 : Int) < (n : Int)) = false := decide_eq_false (by omega)
  go_wp2_with fail
  clear lt_P P_0 lt_Q Q_0 Q_1
  refine (all_any A n c g b _ (HA.out.below SB2h.out) (by omega)).mono ?_
  rintro e w2 ⟨hx, bel2⟩
  have t_P := P.out.below bel2
  clear P
  have P := Lib.hid t_P
  clear t_P
  have t_Q := Q.out.below bel2
  clear Q
  have Q := Lib.hid t_Q
  clear t_Q
  have SB3 : Below w.heap.size w w2 := SB2h.out.trans (bel2.mono SB2h.out.size)
  clear SB2h
  have SB3h := Lib.hid SB3
  clear SB3 bel2
  have lt_P := P.out.lt
  have P_0 := P.out.cell 0
  simp at P_0
  have lt_Q := Q.out.lt
  have Q_0 := Q.out.cell 0
  have Q_1 := Q.out.cell 1
  simp at Q_0 Q_1
  have szB_w2 := SB3h.out.size
  rcases hx with ⟨_, rfl⟩ | ⟨hm, X, cx, rfl, ho⟩
  · go_wp2
    go_ret
    exact ⟨rfl, SB3h.out⟩
  have hlen := liveL_len b n
  have HR := Lib.hid (Row.of_own (F := hv g (liveL b n)) ho (fun i hi j hj => hdc_at g _ hi hj))
  have Hm := Lib.hid hm
  clear ho hm
  generalize hmm : (liveL b n).length = m at *
  go_wp2
  go_loopw [8, 9] (fun o i wr => ∃ k : Nat, k ≤ m ∧ i = .int .i64 k ∧ (∃ r : Bool, o = .bool r ∧ (r = true ↔ ∃ i', i' < k ∧ (((liveL b n).getD i' 0 : Nat) : Int) = s ∧ g ((liveL b n).getD i' 0) = q)) ∧ Below w2.heap.size w2 wr) (fun o i wr => m - (intOf i).toNat)
  case atStart => exact ⟨0, Nat.zero_le _, rfl, ⟨false, rfl, ⟨fun h => (by cases h), fun h => (by obtain ⟨i', h, _⟩ := h; omega)⟩⟩, Below.refl _ _⟩
  case round =>
    obtain ⟨k, hk, rfl, ⟨r, rfl, hr⟩, hbel⟩ := hrel
    clear lt_P P_0 lt_Q Q_0 Q_1
    have tP := P.out.below hbel
    have tQ := Q.out.below hbel
    have P_0 := tP.cell 0
    have Q_0 := tQ.cell 0
    have Q_1 := tQ.cell 1
    have lP := tP.lt
    have lQ := tQ.lt
    simp at P_0 Q_0 Q_1
    have hbw := Lib.hid (SB3h.out.trans (hbel.mono SB3h.out.size))
    have Hr := Lib.hid hr
    clear hr
    by_cases hkm : k < m
    · obtain ⟨gg, oo, rfl, hg, hc⟩ := HR.out.below hbel (by omega)
      have c0 := hc k hkm 0 (by omega)
      have c1 := hc k hkm 1 (by omega)
      simp only [Nat.add_zero, hv, if_true, if_pos rfl] at c0
      simp only [hv] at c1
      rw [if_neg (by decide)] at c1
      obtain ⟨hxn, hxb⟩ := live_get (b := b) (n := n) (i := k) (by omega)
      have hho := Lib.hid (fun W (h : Below wr.heap.size wr W) => holds_t (c := c) (((HA.out.below hbw.out).below h)) Hm.out hxn hxb)
      have hi : (k : Int) < (m : Int) := by omega
      have hi0' : (0 : Int) ≤ (k : Int) := by omega
      have HL := Lib.hid (fun (h : 0 < k) => hc (k - 1) (by omega) 0 (by omega))
      have Hlt := Lib.hid (fun (h : 0 < k) => live_lt (b := b) (n := n) (i := k - 1) (by omega))
      have Hbel := Lib.hid hbel
      clear hc hxn hxb hbel tP tQ
      have hx0 : (0 : Int) ≤ (((liveL b n).getD k 0 : Nat) : Int) := by omega
      generalize hX : (liveL b n).getD k 0 = x at *
      have lg : gg < wr.heap.size := hg
      have P_0' := fun p : BW wr => BW.cell P_0 lP p
      have c0' := fun p : BW wr => BW.cell c0 hg p
      have c1' := fun p : BW wr => BW.cell c1 hg p
      have hcall := Lib.hid (fun p : BW wr => BW.call hho.out p)
      by_cases hk0 : k = 0
      · have g1 : decide ((0 : Int) < (k : Int)) = false := decide_eq_false (by omega)
        have g2 : decide (0 < k) = false := decide_eq_false (by omega)
        have Hk0 := Lib.hid hk0
        clear HL Hlt hk0
        go_wp2_with fail
        clear P_0 c0 c1
        refine wp_region_quiet_bw (by kernel_rfl) (by kernel_rfl) ?_
        repeat (go_big_quiet_step ((go_at_call 11; exact hcall.out _)))
        refine wpQuiet_nil ?_
        intro _ hw'
        obtain ⟨pq, hw''⟩ := hw'
        subst hw''
        have q0 := BW.cell Q_0 lQ pq
        have q1 := BW.cell Q_1 lQ pq
        have e0 := c0' pq
        have e1 := c1' pq
        have hpq := Lib.hid pq.h
        clear P_0' c0' c1'  Q_0 Q_1
        generalize pq.W = wz at *
        clear pq
        cases r with
        | true =>
          go_wp2_with fail
          go_quiet (fail)
          go_wp2
          go_roundw
          case rel =>
            refine ⟨k + 1, by omega, by go_num, ⟨true, rfl, ?_⟩, below_drewN (Hbel.out.trans (hpq.out.mono Hbel.out.size)) _⟩
            exact ⟨fun _ => (by obtain ⟨i', h1, h2⟩ := Hr.out.1 (by trivial); exact ⟨i', by omega, h2⟩), fun _ => rfl⟩
          case measure => simp [intOf]; omega
        | false =>
          have hq := fun W => equalIn_of_eql (eql_hd (x : Int) s (g x) q W)
          by_cases e : (x : Int) = s ∧ g x = q
          · have hv : (((x : Int) == s) && (g x == q)) = true := by simp [e.1, e.2]
            simp only [hv] at hq
            have He := Lib.hid e
            clear e hv
            go_wp2_with fail
            go_quiet (fail)
            go_wp2
            go_roundw
            case rel =>
              refine ⟨k + 1, by omega, by go_num, ⟨true, rfl, ?_⟩, below_drewN (Hbel.out.trans (hpq.out.mono Hbel.out.size)) _⟩
              exact ⟨fun _ => ⟨k, by omega, by rw [hX]; exact He.out⟩, fun _ => rfl⟩
            case measure => simp [intOf]; omega
          · have hv : (((x : Int) == s) && (g x == q)) = false := by rw [Bool.eq_false_iff]; intro hh; apply e; simpa using hh
            simp only [hv] at hq
            have He := Lib.hid e
            clear e hv
            go_wp2_with fail
            go_quiet (fail)
            go_wp2
            go_roundw
            case rel =>
              refine ⟨k + 1, by omega, by go_num, ⟨false, rfl, ?_⟩, below_drewN (Hbel.out.trans (hpq.out.mono Hbel.out.size)) _⟩
              refine ⟨fun h => (by cases h), fun h => ?_⟩
              obtain ⟨i', h1, h2⟩ := h
              rcases Nat.lt_or_ge i' k with h | h
              · exact absurd (Hr.out.2 ⟨i', h, h2⟩) (by decide)
              · obtain rfl : i' = k := by omega
                rw [hX] at h2
                exact absurd h2 He.out
            case measure => simp [intOf]; omega
      · have g1 : decide ((0 : Int) < (k : Int)) = true := decide_eq_true (by omega)
        have g2 : decide (0 < k) = true := decide_eq_true (by omega)
        have hk1 : 0 < k := by omega
        have c2 := HL.out (by omega)
        have hlt := Hlt.out (by omega)
        simp only [Nat.add_zero, hv, if_true, if_pos rfl] at c2
        rw [show k - 1 + 1 = k by omega, hX] at hlt
        generalize (liveL b n).getD (k - 1) 0 = y at *
        have c2' := fun p : BW wr => BW.cell c2 hg p
        have gl : decide ((x : Int) ≤ (y : Int)) = false := decide_eq_false (by omega)
        have gl2 : decide (x ≤ y) = false := decide_eq_false (by omega)
        have qa : (0 : Int) ≤ (k : Int) - 1 := by omega
        have qb : (k : Int) - 1 < (m : Int) := by omega
        have qc : IntKind.i64.wrap ((k : Int) - 1) = (k : Int) - 1 := IntWalk.i64_in _ (by omega)
        have qd : ((k : Int) - 1).toNat = k - 1 := by omega
        have Hk0 := Lib.hid hk0
        clear HL Hlt hk0
        go_wp2_with fail
        clear P_0 c0 c1 c2
        refine wp_region_quiet_bw (by kernel_rfl) (by kernel_rfl) ?_
        repeat (go_big_quiet_step ((go_at_call 11; exact hcall.out _)))
        refine wpQuiet_nil ?_
        intro _ hw'
        obtain ⟨pq, hw''⟩ := hw'
        subst hw''
        have q0 := BW.cell Q_0 lQ pq
        have q1 := BW.cell Q_1 lQ pq
        have e0 := c0' pq
        have e1 := c1' pq
        have hpq := Lib.hid pq.h
        clear P_0' c0' c1' c2' Q_0 Q_1
        generalize pq.W = wz at *
        clear pq
        cases r with
        | true =>
          go_wp2_with fail
          go_quiet (fail)
          go_wp2
          go_roundw
          case rel =>
            refine ⟨k + 1, by omega, by go_num, ⟨true, rfl, ?_⟩, below_drewN (Hbel.out.trans (hpq.out.mono Hbel.out.size)) _⟩
            exact ⟨fun _ => (by obtain ⟨i', h1, h2⟩ := Hr.out.1 (by trivial); exact ⟨i', by omega, h2⟩), fun _ => rfl⟩
          case measure => simp [intOf]; omega
        | false =>
          have hq := fun W => equalIn_of_eql (eql_hd (x : Int) s (g x) q W)
          by_cases e : (x : Int) = s ∧ g x = q
          · have hv : (((x : Int) == s) && (g x == q)) = true := by simp [e.1, e.2]
            simp only [hv] at hq
            have He := Lib.hid e
            clear e hv
            go_wp2_with fail
            go_quiet (fail)
            go_wp2
            go_roundw
            case rel =>
              refine ⟨k + 1, by omega, by go_num, ⟨true, rfl, ?_⟩, below_drewN (Hbel.out.trans (hpq.out.mono Hbel.out.size)) _⟩
              exact ⟨fun _ => ⟨k, by omega, by rw [hX]; exact He.out⟩, fun _ => rfl⟩
            case measure => simp [intOf]; omega
          · have hv : (((x : Int) == s) && (g x == q)) = false := by rw [Bool.eq_false_iff]; intro hh; apply e; simpa using hh
            simp only [hv] at hq
            have He := Lib.hid e
            clear e hv
            go_wp2_with fail
            go_quiet (fail)
            go_wp2
            go_roundw
            case rel =>
              refine ⟨k + 1, by omega, by go_num, ⟨false, rfl, ?_⟩, below_drewN (Hbel.out.trans (hpq.out.mono Hbel.out.size)) _⟩
              refine ⟨fun h => (by cases h), fun h => ?_⟩
              obtain ⟨i', h1, h2⟩ := h
              rcases Nat.lt_or_ge i' k with h | h
              · exact absurd (Hr.out.2 ⟨i', h, h2⟩) (by decide)
              · obtain rfl : i' = k := by omega
                rw [hX] at h2
                exact absurd h2 He.out
            case measure => simp [intOf]; omega
    · obtain rfl : k = m := by omega
      have hho := Lib.hid (fun W (h : Below wr.heap.size wr W) => holds_any A n c g b s q W ((HA.out.below hbw.out).below h) (by omega))
      have Hbel := Lib.hid hbel
      clear hbel tP tQ
      go_wp2_with fail
      refine (hho.out _ (Below.refl _ _)).mono ?_
      rintro e wz ⟨⟨r2, rfl, hr2⟩, bel3⟩
      have hrr : (r == r2) = true := by
        rw [beq_iff_eq, Bool.eq_iff_iff, Hr.out, hr2]
        constructor
        · rintro ⟨i', hi', h1, h2⟩
          obtain ⟨hl1, hl2⟩ := live_get (b := b) (n := n) (i := i') (by omega)
          refine ⟨Hm.out, by omega, by omega, ?_, ?_⟩
          · rw [← h1, Int.toNat_natCast]; exact h2
          · rw [← h1, Int.toNat_natCast]; exact hl2
        · rintro ⟨_, h0, h1, h2, h3⟩
          obtain ⟨i, hi, e⟩ := live_of (b := b) (n := n) (k := s.toNat) (by omega) h3
          exact ⟨i, by omega, by rw [e]; omega, by rw [e]; exact h2⟩
      have Hfin := Lib.hid (hbw.out.trans (bel3.mono hbw.out.size))
      clear hr2 bel3 Hr
      go_wp2
      go_ret
      exact ⟨rfl, Hfin.out⟩
theorem arenaAll_arg (v0 v1 : Value) (w : World) (h0 : Arg Try.prog w 24 v0) (h1 : Arg Try.prog w 26 v1) : Calls Try.prog 5 #[v0, v1] w fun e w' => e = .returned (.bool true) ∧ Below w.heap.size w w' := by
  obtain ⟨A, n, c, g, b, rfl, _, hA⟩ := arg_arena h0
  obtain ⟨s, q, rfl, hs⟩ := arg_hd h1
  exact arenaAll_walk A n c g b s q w hA hs
end Go.Proofs.Ytapibgpjfliifaa
