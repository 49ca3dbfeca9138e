/- ArenaKeeps: the walk. -/
import Derived.Test.YtapibgpjfliifaaR16
import Derived.Test.YtapibgpjfliifaaQuiet
import Derived.Deep.AppendLies
import Derived.Deep.CutRange
import Derived.Deep.DeepCutAuto
namespace Go.Proofs.Ytapibgpjfliifaa
open Go.RowKit
set_option linter.unusedVariables false
/-- Where an arena's slots lie: as they were at the call, or in a row of the call's own. -/
def RA (w wr : World) (A : Option Addr) (n : Nat) (F : Nat → Nat → Value) : Prop := Row w A n 2 F ∨ ∃ c, wr.ownsRow w.heap.size 33 2 (.slice A n c) n (cellsR 2 F n)
theorem RA.row {w W : World} {A : Option Addr} {n : Nat} {F : Nat → Nat → Value} (h : RA w W A n F) (hb : Below w.heap.size w W) : Row W A n 2 F := by
  rcases h with h | ⟨c, h⟩
  · exact h.below hb
  · exact Row.of_cells h
theorem RA.below {w W W' : World} {A : Option Addr} {n : Nat} {F : Nat → Nat → Value} (h : RA w W A n F) (hb : Below W.heap.size W W') : RA w W' A n F := by
  rcases h with h | ⟨c, h⟩
  · exact .inl h
  · exact .inr ⟨c, own_below h hb⟩
theorem RA.set {w W : World} {A : Option Addr} {n B e s k c : Nat} {x : Nat} {F : Nat → Nat → Value} {xs : List Value} (h : RA w W A n F) (ho : W.ownsRow B e s (.slice (some ⟨x, 0, none⟩) k c) k xs) (hne : 33 ≠ e) (j : Nat) (u : Value) : RA w (W.setCell ⟨x, j, none⟩ u) A n F := by
  rcases h with h | ⟨c, h⟩
  · exact .inl h
  · refine .inr ⟨c, ownsRow_setCell_other h ?_ u⟩
    rcases own_apart h ho hne with q | q
    · rw [q]; simp
    · exact q
theorem own_ne {w : World} {b1 b2 e1 e2 s1 s2 n1 n2 : Nat} {v1 : Value} {x c : Nat} {x1 x2 : List Value} (h1 : w.ownsRow b1 e1 s1 v1 n1 x1) (h2 : w.ownsRow b2 e2 s2 (.slice (some ⟨x, 0, none⟩) n2 c) n2 x2) (hne : e1 ≠ e2) : v1.ownBlock ≠ some x := by
  rcases own_apart h1 h2 hne with q | q
  · rw [q]; simp
  · exact q
theorem underlying_ints : Try.prog.underlying 36 = some (.slice 3) := Try.underlying36

set_option maxRecDepth 100000 in
set_option maxHeartbeats 4000000 in
theorem arenaKeeps_walk (A A9 : Option Addr) (n c l0 d : Nat) (g : Nat → Int) (b : Nat → Bool) (l : Nat → Int) (w : World) (hA : Row w A n 2 (sv g b)) (hL : IS w A9 l0 l) :
    Calls Try.prog 4 #[.agg #[.slice A n c], .slice A9 l0 d] w fun e w' => e = .returned (.bool true) ∧ Below w.heap.size w w' := by
  obtain ⟨i0, hi0, hz0, hz1, hz2⟩ := info_parts hd_info
  obtain ⟨j0, hj0, hy0, hy1, hy2⟩ := info_parts bool_info
  have HA := Lib.hid hA
  have HL := Lib.hid hL
  clear hA hL
  go_enter Try.func4, Try.ntmps4
  go_wp2_with fail
  have s_P : HasBlk (w.alloc (.cells #[.slice A n c] 24)) (w.heap.size) 24 #[.slice A n c] := by simpa using hasBlk_new w 24 #[.slice A n c]
  have t_P : HasBlk (w.alloc (.cells #[.slice A n c] 24)) (w.heap.size) 24 #[.slice A n c] := by simpa using s_P
  clear s_P
  have SB1 : Below w.heap.size w (w.alloc (.cells #[.slice A n c] 24)) := by
    repeat' (first | exact Below.refl _ _ | assumption | apply Below.drew | refine Below.setCell ?_ (by first | omega | (simp; done) | (simp; omega)) _ | refine Below.alloc ?_ (by first | omega | (simp; done) | (simp; omega)) _)
  generalize gW_v0 : (w.alloc (.cells #[.slice A n c] 24)) = v0 at *
  clear gW_v0
  have P := Lib.hid t_P
  clear t_P
  have SB1h := Lib.hid SB1
  clear SB1
  refine (alive_any _).mono ?_
  rintro e w1 ⟨rfl, bel1⟩
  have t_P := P.out.below bel1
  clear P
  have P := Lib.hid t_P
  clear t_P
  have SB2 : Below w.heap.size w w1 := SB1h.out.trans (bel1.mono SB1h.out.size)
  clear SB1h
  have SB2h := Lib.hid SB2
  clear SB2 bel1
  have lt_P := P.out.lt
  have P_0 := P.out.cell 0
  have P_f0 := P.out.frozen 0
  simp at P_0
  have szB_w1 := SB2h.out.size
  by_cases hbig : 1000 < n
  · have g0 : decide ((1000 : Int) < (n : Int)) = true := decide_eq_true (by omega)
    go_wp2
    go_ret
    exact ⟨rfl, SB2h.out⟩
  have g0 : decide ((1000 : Int) < (n : Int)) = false := decide_eq_false (by omega)
  by_cases hbig2 : 300 < l0
  · have g1 : decide ((300 : Int) < (l0 : Int)) = true := decide_eq_true (by omega)
    go_wp2
    go_ret
    exact ⟨rfl, SB2h.out⟩
  have g1 : decide ((300 : Int) < (l0 : Int)) = false := decide_eq_false (by omega)
  go_wp2_with fail
  clear lt_P P_0 P_f0
  refine (check_may A n c g b _ (HA.out.below SB2h.out) (by omega)).mono ?_
  rintro e w2 ⟨⟨x, rfl, hx⟩, bel2⟩
  have t_P := P.out.below bel2
  clear P
  have P := Lib.hid t_P
  clear t_P
  have SB3 : Below w.heap.size w w2 := SB2h.out.trans (bel2.mono SB2h.out.size)
  clear SB2h
  have SB3h := Lib.hid SB3
  clear SB3 bel2
  have lt_P := P.out.lt
  have P_0 := P.out.cell 0
  have P_f0 := P.out.frozen 0
  simp at P_0
  have szB_w2 := SB3h.out.size
  rcases hx with ⟨hm, rfl⟩ | ⟨hm, rfl⟩
  rotate_left
  · go_wp2
    go_ret
    exact ⟨rfl, SB3h.out⟩
  have Hm := Lib.hid hm
  clear hm
  go_wp2
  go_loopw [6, 7, 8] (fun V VL i wr => ∃ k : Nat, k ≤ l0 ∧ i = .int .i64 k ∧ ∃ m Xg cg Xl cl S Q lv A1 n1 k1 g1 b1, m ≤ k ∧ V = .slice Xg m cg ∧ VL = .slice Xl m cl ∧ wr.ownsRow w.heap.size 26 2 (.slice Xg m cg) m (cellsR 2 (hs S Q) m) ∧ wr.ownsRow w.heap.size 4 1 (.slice Xl m cl) m (cellsR 1 (ls lv) m) ∧ HasBlk wr w.heap.size 24 #[.slice A1 n1 k1] ∧ RA w wr A1 n1 (sv g1 b1) ∧ Below w.heap.size w wr ∧ KInv m S Q lv n1 g1 b1) (fun V VL i wr => l0 - (intOf i).toNat)
  case atStart => exact ⟨0, Nat.zero_le _, rfl, 0, none, 0, none, 0, fun _ => 0, fun _ => 0, fun _ => false, A, n, c, g, b, Nat.zero_le _, rfl, rfl, own_nil _ _ _ _, own_nil _ _ _ _, P.out, .inl HA.out, SB3h.out, KInv.zero _ _ _ Hm.out⟩
  case round =>
    obtain ⟨k, hk, rfl, m, Xg, cg, Xl, cl, S, Q, lv, A1, n1, k1, g1, b1, hmk, rfl, rfl, hog, hol, hp, hr, hbel, hkv⟩ := hrel
    obtain ⟨wo, rfl⟩ : ∃ wo : World, wo = wr := ⟨wr, rfl⟩
    have HLw := Lib.hid (HL.out.below hbel)
    clear lt_P P_0 P_f0 P HA Hm HL SB3h
    have hn1 := hkv.1.1
    have zb := hbel.size
    have pne : w.heap.size < wo.heap.size := hp.lt
    have OG := Lib.hid hog
    have OL := Lib.hid hol
    have P := Lib.hid hp
    have HRA := Lib.hid hr
    have HR := Lib.hid (hr.row hbel)
    have HB := Lib.hid hbel
    have HK := Lib.hid hkv
    clear hog hol hp hr hbel hkv
    by_cases hkL : k < l0
    · obtain ⟨lg, lo, rfl, llt, lc⟩ := HLw.out (by omega)
      have lk := lc k hkL
      clear lc HLw
      have hi : (k : Int) < (l0 : Int) := by omega
      have hi0' : (0 : Int) ≤ (k : Int) := by omega
      generalize l k = x at *
      have P_0 := P.out.cell 0
      have P_f0 := P.out.frozen 0
      simp at P_0
      by_cases hx0 : x < 0
      · have fx0 : decide (x < 0) = true := decide_eq_true hx0
        go_wp2_with fail
        clear P_0 P_f0 lk llt
        refine (make_any A1 n1 k1 g1 b1 _ HR.out (by omega)).mono ?_
        rintro e w1 ⟨hx, bel1⟩
        rcases hx with ⟨hm, _⟩ | ⟨hm, hfull, h128, rfl⟩ | ⟨hm, s2, n2, g2, b2, A2, c2, hmd, rfl, ho⟩
        · exact absurd HK.out.1 hm
        · have Bel1 := Lib.hid bel1
          have lt_P := (P.out.below bel1).lt
          have z1 := bel1.size
          clear hfull bel1
          go_wp2
          go_roundw
          case rel =>
            refine ⟨k + 1, by omega, by go_num, m, Xg, cg, Xl, cl, S, Q, lv, A1, n1, k1, g1, b1, by omega, rfl, rfl, own_below OG.out ?_, own_below OL.out ?_, P.out.below ?_, HRA.out.below ?_, HB.out.trans (Below.mono ?_ HB.out.size), HK.out⟩ <;> (have bel0 := Bel1.out; repeat' (first | exact Below.refl _ _ | assumption | apply Below.drew | refine Below.setCell ?_ (by first | omega | (simp; done) | (simp; omega)) _ | refine Below.alloc ?_ (by first | omega | (simp; done) | (simp; omega)) _))
          case measure => simp [intOf]; omega
        have O2 := Lib.hid ho
        have Hmd := Lib.hid hmd
        have hs2 := made_lt hmd
        obtain ⟨s2l, _, s2a, s2b⟩ := hs2
        have hmay2 := (may_made HK.out.1 hmd).1
        clear ho hmd hm
        have t_P := P.out.below bel1
        clear P
        have P := Lib.hid t_P
        clear t_P
        have t_OG := own_below OG.out bel1
        clear OG
        have OG := Lib.hid t_OG
        clear t_OG
        have t_OL := own_below OL.out bel1
        clear OL
        have OL := Lib.hid t_OL
        clear t_OL
        have SB1 : Below wo.heap.size wo w1 := bel1
        have SB1h := Lib.hid SB1
        clear SB1 
        have lt_P := P.out.lt
        have P_0 := P.out.cell 0
        have P_f0 := P.out.frozen 0
        simp at P_0
        have szB_w1 := SB1h.out.size
        go_wp2
        have NE_P_T1 := Lib.hid (show w.heap.size ≠ w1.heap.size by omega)
        have NE_P_T2 := Lib.hid (show w.heap.size ≠ w1.heap.size + 1 by omega)
        have NE_T1_T2 := Lib.hid (show w1.heap.size ≠ w1.heap.size + 1 by omega)
        have s_P := P.out
        have s_OG := OG.out
        have s_OL := OL.out
        have s_O2 := O2.out
        replace s_P := s_P.alloc (.cells #[.slice A2 n2 c2] 24)
        replace s_OG := World.ownsRow.alloc s_OG (.cells #[.slice A2 n2 c2] 24)
        replace s_OL := World.ownsRow.alloc s_OL (.cells #[.slice A2 n2 c2] 24)
        replace s_O2 := World.ownsRow.alloc s_O2 (.cells #[.slice A2 n2 c2] 24)
        have s_T1 : HasBlk (w1.alloc (.cells #[.slice A2 n2 c2] 24)) (w1.heap.size) 24 #[.slice A2 n2 c2] := by simpa using hasBlk_new w1 24 #[.slice A2 n2 c2]
        replace s_P := s_P.alloc (.cells #[.int .i64 s2, .int .i64 (g2 s2)] 26)
        replace s_T1 := s_T1.alloc (.cells #[.int .i64 s2, .int .i64 (g2 s2)] 26)
        replace s_OG := World.ownsRow.alloc s_OG (.cells #[.int .i64 s2, .int .i64 (g2 s2)] 26)
        replace s_OL := World.ownsRow.alloc s_OL (.cells #[.int .i64 s2, .int .i64 (g2 s2)] 26)
        replace s_O2 := World.ownsRow.alloc s_O2 (.cells #[.int .i64 s2, .int .i64 (g2 s2)] 26)
        have s_T2 : HasBlk ((w1.alloc (.cells #[.slice A2 n2 c2] 24)).alloc (.cells #[.int .i64 s2, .int .i64 (g2 s2)] 26)) (w1.heap.size + 1) 26 #[.int .i64 s2, .int .i64 (g2 s2)] := by simpa using hasBlk_new (w1.alloc (.cells #[.slice A2 n2 c2] 24)) 26 #[.int .i64 s2, .int .i64 (g2 s2)]
        have t_P : HasBlk ((w1.alloc (.cells #[.slice A2 n2 c2] 24)).alloc (.cells #[.int .i64 s2, .int .i64 (g2 s2)] 26)) (w.heap.size) 24 #[.slice A1 n1 k1] := by simpa using s_P
        clear s_P P
        have t_T1 : HasBlk ((w1.alloc (.cells #[.slice A2 n2 c2] 24)).alloc (.cells #[.int .i64 s2, .int .i64 (g2 s2)] 26)) (w1.heap.size) 24 #[.slice A2 n2 c2] := by simpa using s_T1
        clear s_T1
        have t_T2 : HasBlk ((w1.alloc (.cells #[.slice A2 n2 c2] 24)).alloc (.cells #[.int .i64 s2, .int .i64 (g2 s2)] 26)) (w1.heap.size + 1) 26 #[.int .i64 s2, .int .i64 (g2 s2)] := by simpa using s_T2
        clear s_T2
        have t_OG : (((w1.alloc (.cells #[.slice A2 n2 c2] 24)).alloc (.cells #[.int .i64 s2, .int .i64 (g2 s2)] 26))).ownsRow (w.heap.size) 26 2 (.slice Xg (m) (cg)) (m) (cellsR 2 (hs S Q) m) := s_OG
        clear s_OG OG
        have t_OL : (((w1.alloc (.cells #[.slice A2 n2 c2] 24)).alloc (.cells #[.int .i64 s2, .int .i64 (g2 s2)] 26))).ownsRow (w.heap.size) 4 1 (.slice Xl (m) (cl)) (m) (cellsR 1 (ls lv) m) := s_OL
        clear s_OL OL
        have t_O2 : (((w1.alloc (.cells #[.slice A2 n2 c2] 24)).alloc (.cells #[.int .i64 s2, .int .i64 (g2 s2)] 26))).ownsRow (wo.heap.size) 33 2 (.slice A2 (n2) (c2)) (n2) (cellsR 2 (sv g2 b2) n2) := s_O2
        clear s_O2 O2
        have SB2 : Below wo.heap.size wo ((w1.alloc (.cells #[.slice A2 n2 c2] 24)).alloc (.cells #[.int .i64 s2, .int .i64 (g2 s2)] 26)) := by
          have bel0 := SB1h.out
          repeat' (first | exact Below.refl _ _ | assumption | apply Below.drew | refine Below.setCell ?_ (by first | omega | (simp; done) | (simp; omega)) _ | refine Below.alloc ?_ (by first | omega | (simp; done) | (simp; omega)) _)
        clear lt_P P_0 P_f0
        generalize gW_v1 : ((w1.alloc (.cells #[.slice A2 n2 c2] 24)).alloc (.cells #[.int .i64 s2, .int .i64 (g2 s2)] 26)) = v1 at *
        clear gW_v1
        have P := Lib.hid t_P
        clear t_P
        have T1 := Lib.hid t_T1
        clear t_T1
        have T2 := Lib.hid t_T2
        clear t_T2
        have OG := Lib.hid t_OG
        clear t_OG
        have OL := Lib.hid t_OL
        clear t_OL
        have O2 := Lib.hid t_O2
        clear t_O2
        clear SB1h
        have SB2h := Lib.hid SB2
        clear SB2
        go_loopw [12] (fun i wr => ∃ t : Nat, t ≤ m ∧ i = .int .i64 t ∧ ∃ q, wr = v1.drewN q) (fun i wr => m - (intOf i).toNat)
        case atStart => exact ⟨0, Nat.zero_le _, rfl, 0, rfl⟩
        case round =>
          obtain ⟨t, ht, rfl, q, rfl⟩ := hrel
          by_cases htm : t < m
          · obtain ⟨gg, oo, rfl, hg, hc⟩ := Row.of_cells OG.out (by omega)
            have c0 := hc t htm 0 (by omega)
            have c1 := hc t htm 1 (by omega)
            simp only [Nat.add_zero, hs, if_true, if_pos rfl] at c0
            simp only [hs] at c1
            rw [if_neg (by decide)] at c1
            have hfr := HK.out.fresh Hmd.out htm
            have hv : ((S t == (s2 : Int)) && (Q t == g2 s2)) = false := by rw [Bool.eq_false_iff]; intro hh; apply hfr; simpa using hh
            have hq := fun W => equalIn_of_eql (eql_hd (S t) s2 (Q t) (g2 s2) W)
            simp only [hv] at hq
            have hi : (t : Int) < (m : Nat) := by omega
            have hi0' : (0 : Int) ≤ (t : Int) := by omega
            have T2_0 := T2.out.cell 0
            have T2_1 := T2.out.cell 1
            simp at T2_0 T2_1
            clear hc hfr hv
            go_wp2_with fail
            go_quiet (fail)
            go_wp2
            go_roundw
            case rel => exact ⟨t + 1, by omega, by go_num, _, rfl⟩
            case measure => simp [intOf]; omega
          · obtain rfl : m = t := by omega
            have t_P : HasBlk (v1.drewN q) (w.heap.size) 24 #[.slice A1 n1 k1] := P.out
            clear P
            have t_T1 : HasBlk (v1.drewN q) (w1.heap.size) 24 #[.slice A2 n2 c2] := T1.out
            clear T1
            have t_T2 : HasBlk (v1.drewN q) (w1.heap.size + 1) 26 #[.int .i64 s2, .int .i64 (g2 s2)] := T2.out
            clear T2
            have t_OG : ((v1.drewN q)).ownsRow (w.heap.size) 26 2 (.slice Xg (m) (cg)) (m) (cellsR 2 (hs S Q) m) := OG.out
            clear OG
            have t_OL : ((v1.drewN q)).ownsRow (w.heap.size) 4 1 (.slice Xl (m) (cl)) (m) (cellsR 1 (ls lv) m) := OL.out
            clear OL
            have t_O2 : ((v1.drewN q)).ownsRow (wo.heap.size) 33 2 (.slice A2 (n2) (c2)) (n2) (cellsR 2 (sv g2 b2) n2) := O2.out
            clear O2
            have t_B : Below wo.heap.size wo (v1.drewN q) := below_drewN SB2h.out _
            clear SB2h
            generalize v1.drewN q = v2 at *
            have P := Lib.hid t_P
            clear t_P
            have T1 := Lib.hid t_T1
            clear t_T1
            have T2 := Lib.hid t_T2
            clear t_T2
            have OG := Lib.hid t_OG
            clear t_OG
            have OL := Lib.hid t_OL
            clear t_OL
            have O2 := Lib.hid t_O2
            clear t_O2
            have Bv2 := Lib.hid t_B
            clear t_B
            have lt_P := P.out.lt
            have P_0 := P.out.cell 0
            have P_f0 := P.out.frozen 0
            simp at P_0
            have lt_T1 := T1.out.lt
            have T1_0 := T1.out.cell 0
            have T1_f0 := T1.out.frozen 0
            simp at T1_0
            have lt_T2 := T2.out.lt
            have T2_0 := T2.out.cell 0
            have T2_1 := T2.out.cell 1
            have T2_f0 := T2.out.frozen 0
            have T2_f1 := T2.out.frozen 1
            simp at T2_0 T2_1
            have szB_v2 := Bv2.out.size
            go_wp2_with fail
            clear lt_P P_0 P_f0 lt_T1 T1_0 T1_f0 lt_T2 T2_0 T2_1 T2_f0 T2_f1
            refine (holds_any A1 n1 k1 g1 b1 s2 (g2 s2) _ (HR.out.below Bv2.out) (by omega)).mono ?_
            rintro e w3 ⟨⟨r, rfl, hr⟩, bel3⟩
            have er : r = false := by
              cases r with
              | false => rfl
              | true => exact absurd (hr.1 rfl) (KInv.nothold Hmd.out)
            subst er
            clear hr
            have t_P := P.out.below bel3
            clear P
            have P := Lib.hid t_P
            clear t_P
            have t_T1 := T1.out.below bel3
            clear T1
            have T1 := Lib.hid t_T1
            clear t_T1
            have t_T2 := T2.out.below bel3
            clear T2
            have T2 := Lib.hid t_T2
            clear t_T2
            have t_OG := own_below OG.out bel3
            clear OG
            have OG := Lib.hid t_OG
            clear t_OG
            have t_OL := own_below OL.out bel3
            clear OL
            have OL := Lib.hid t_OL
            clear t_OL
            have t_O2 := own_below O2.out bel3
            clear O2
            have O2 := Lib.hid t_O2
            clear t_O2
            have SB3 : Below wo.heap.size wo w3 := Bv2.out.trans (bel3.mono Bv2.out.size)
            clear Bv2
            have SB3h := Lib.hid SB3
            clear SB3 bel3
            have lt_P := P.out.lt
            have P_0 := P.out.cell 0
            have P_f0 := P.out.frozen 0
            simp at P_0
            have lt_T1 := T1.out.lt
            have T1_0 := T1.out.cell 0
            have T1_f0 := T1.out.frozen 0
            simp at T1_0
            have lt_T2 := T2.out.lt
            have T2_0 := T2.out.cell 0
            have T2_1 := T2.out.cell 1
            have T2_f0 := T2.out.frozen 0
            have T2_f1 := T2.out.frozen 1
            simp at T2_0 T2_1
            have szB_w3 := SB3h.out.size
            have hown := ownsRow_setCell_other (a := ⟨w.heap.size, 0, none⟩) OG.out (P.out.ne_own OG.out (by decide)) (.slice A2 n2 c2)
            have tL := ownsRow_setCell_other (a := ⟨w.heap.size, 0, none⟩) OL.out (P.out.ne_own OL.out (by decide)) (.slice A2 n2 c2)
            have t2 := ownsRow_setCell_other (a := ⟨w.heap.size, 0, none⟩) O2.out (P.out.ne_own O2.out (by decide)) (.slice A2 n2 c2)
            have tP : HasBlk (w3.setCell ⟨w.heap.size, 0, none⟩ (.slice A2 n2 c2)) w.heap.size 24 #[.slice A2 n2 c2] := P.out.set 0 (.slice A2 n2 c2)
            have tB : Below w.heap.size w (w3.setCell ⟨w.heap.size, 0, none⟩ (.slice A2 n2 c2)) := (HB.out.trans (SB3h.out.mono HB.out.size)).setCell (by simp) _
            have zz := tB.size
            have zz2 := SB3h.out.size
            have NE1 := Lib.hid (tP.ne_own hown (by decide))
            have NE2 := Lib.hid (own_apart tL hown (by decide))
            have NE3 := Lib.hid (own_apart t2 hown (by decide))
            have tP := Lib.hid tP
            have tL := Lib.hid tL
            have t2 := Lib.hid t2
            have tB := Lib.hid tB
            clear HB HR SB3h
            have hnew : ((w3.setCell ⟨w.heap.size, 0, none⟩ (.slice A2 n2 c2)).alloc (.cells #[.int .i64 s2, .int .i64 (g2 s2)] 26)).heap[w3.heap.size]? = some (.cells #[.int .i64 s2, .int .i64 (g2 s2)] 26 (0, 0)) := by
              have := heap_alloc_new (w3.setCell ⟨w.heap.size, 0, none⟩ (.slice A2 n2 c2)) (.cells #[.int .i64 s2, .int .i64 (g2 s2)] 26)
              simpa using this
            go_wp2_with (first | (at_builtin; refine wpList_append_lies _ rfl (.tmp 73) (.tmp 75) _ rfl w.heap.size 26 i0 _ 2 16 Try.underlying37 hi0 hz0 hz1 hz2 rfl (by omega) (.slice Xg m cg) (m) (cellsR 2 (hs S Q) m) rfl (hown.alloc _) ⟨w3.heap.size, 0, none⟩ 1 1 [.int .i64 s2, .int .i64 (g2 s2)] (by rfl) rfl (World.news_of_block (cs := #[.int .i64 s2, .int .i64 (g2 s2)]) (t := 26) (fr := (0, 0)) hnew) (by simp [Value.oneCell']) (by omega) (by unfold maxLen; omega) (by omega) (by simp; omega) (w3.heap.size + 1) (by simp) ?_; intro gA capA w5 hown3 hgrow hat hlt; have uP := (tP.out.alloc _).grown hgrow NE1.out; have uL := own_grown (tL.out.alloc _) hgrow NE2.out; have u2 := own_grown (t2.out.alloc _) hgrow NE3.out; have uB := below_grown (v := .slice Xg m cg) (tB.out.alloc (by omega) _) hgrow (hown.alloc _) (Nat.le_refl _) (by simp; omega); rw [← hs_grow m S Q s2 (g2 s2)] at hown3; have GN := Lib.hid hown3; have uP := Lib.hid uP; have u2 := Lib.hid u2; have NE4 := Lib.hid (uP.out.ne_own uL (by decide)); have NE5 := Lib.hid (own_apart GN.out uL (by decide)); have NE6 := Lib.hid (own_apart u2.out uL (by decide)); have hown9 := uL; have zz3 := uB.size; have uB := Lib.hid uB; clear hown3 hgrow hown tP tL t2 tB NE1 NE2 NE3 uL hat) | (at_builtin; refine wpList_append_lies _ rfl (.tmp 77) (.tmp 78) _ rfl w.heap.size 4 j0 _ 1 1 Try.underlying38 hj0 hy0 hy1 hy2 rfl (by omega) (.slice Xl m cl) (m) (cellsR 1 (ls lv) m) rfl (hown9.alloc _) ⟨w5.heap.size, 0, none⟩ 1 1 [.bool true] (by rfl) rfl (World.news_of_block (cs := #[.bool true]) (t := 4) (fr := (0, 0)) (heap_alloc_new w5 _)) (by simp [Value.oneCell']) (by omega) (by unfold maxLen; omega) (by omega) (by simp; omega) (w5.heap.size + 1) (by simp) ?_; intro gB capB w6 hown3 hgrow hat hlt; have vB := below_grown (v := .slice Xl m cl) (uB.out.alloc (by omega) _) hgrow (hown9.alloc _) (Nat.le_refl _) (by simp; omega); have vP := (uP.out.alloc _).grown hgrow NE4.out; have vG := own_grown (GN.out.alloc _) hgrow NE5.out; have v2 := own_grown (u2.out.alloc _) hgrow NE6.out; rw [← ls_grow m lv true] at hown3; have OG2 := Lib.hid vG; have OL2 := Lib.hid hown3; have P2 := Lib.hid vP; have HB2 := Lib.hid vB; have HR2 := Lib.hid (Row.of_cells v2); have HRA2 := Lib.hid (show RA w w6 A2 n2 (sv g2 b2) from .inr ⟨_, own_base v2 (by omega)⟩); have HK2 := Lib.hid (HK.out.make Hmd.out); clear hown3 hgrow hown9 hat vP vG v2 vB uP uB GN u2 NE4 NE5 NE6))
            clear OG OL P HK HRA
            have HRA := HRA2
            have OG := OG2
            have OL := OL2
            have P := P2
            have HR := HR2
            have HB := HB2
            have HK := HK2
            clear HRA2 OG2 OL2 P2 HR2 HB2 HK2 Hmd
            go_loopw [15] (fun i wr => ∃ t : Nat, t ≤ (m + 1) ∧ i = .int .i64 t ∧ Below w6.heap.size w6 wr) (fun i wr => (m + 1) - (intOf i).toNat)
            case atStart => exact ⟨0, Nat.zero_le _, rfl, Below.refl _ _⟩
            case round =>
              obtain ⟨t, ht, rfl, hbt⟩ := hrel
              by_cases htm : t < (m + 1)
              · obtain ⟨gg, oo, eg, hg, hc⟩ := (Row.of_cells OG.out).below hbt (by omega)
                obtain ⟨gl, ol, el, hl, hd⟩ := (Row.of_cells OL.out).below hbt (by omega)
                have c0 := hc t htm 0 (by omega)
                have c1 := hc t htm 1 (by omega)
                have d0 := hd t htm 0 (by omega)
                simp only [Nat.add_zero, Nat.mul_one, hs, ls, if_true, if_pos rfl] at c0 d0
                simp only [hs] at c1
                rw [if_neg (by decide)] at c1
                have tP := P.out.below hbt
                have P_0 := tP.cell 0
                have lP := tP.lt
                simp at P_0
                have hho := Lib.hid (fun W (h : Below wr.heap.size wr W) => (holds_any A2 n2 c2 g2 b2 ((upd S m s2) t) ((upd Q m (g2 s2)) t) W ((HR.out.below hbt).below h) (by omega)).mono (fun (e : Ending) w' ⟨hx, hb⟩ => (⟨(by obtain ⟨r, rfl, hr⟩ := hx; rw [show r = (upd lv m true) t by rw [Bool.eq_iff_iff, hr]; exact HK.out.holds htm]), hb⟩ : e = Ending.returned (.bool ((upd lv m true) t)) ∧ Below W.heap.size W w')))
                have hi : (t : Int) < (((m + 1) : Nat) : Int) := by omega
                have hi2 : (t : Int) < (m : Int) + 1 := by omega
                have hi0' : (0 : Int) ≤ (t : Int) := by omega
                have P_0' := fun p : BW wr => BW.cell P_0 lP p
                have c0' := fun p : BW wr => BW.cell c0 hg p
                have c1' := fun p : BW wr => BW.cell c1 hg p
                have d0' := fun p : BW wr => BW.cell d0 hl p
                have hcall := Lib.hid (fun p : BW wr => BW.call hho.out p)
                have hyy : ((upd lv m true) t != (upd lv m true) t) = false := by simp
                have Hbt := Lib.hid hbt
                clear hc hd tP P_0 c0 c1 d0 hbt
                generalize (upd lv m true) t = yy at *
                generalize (upd S m s2) t = ys at *
                generalize (upd Q m (g2 s2)) t = yq at *
                cases eg
                cases el
                try simp only [Nat.zero_add] at c0' c1' d0'
                go_wp2_with fail
                refine wp_region_quiet_bw (by kernel_rfl) (by kernel_rfl) ?_
                repeat (go_big_quiet_step ((go_at_call 11; exact hcall.out _)))
                refine wpQuiet_nil ?_
                intro _ hw'
                obtain ⟨pq, hw''⟩ := hw'
                subst hw''
                have hpq := Lib.hid pq.h
                clear P_0' c0' c1' d0'
                generalize pq.W = wz at *
                clear pq
                go_wp2
                go_roundw
                case rel => exact ⟨t + 1, by omega, by go_num, Hbt.out.trans (hpq.out.mono Hbt.out.size)⟩
                case measure => simp [intOf]; omega
              · obtain rfl : t = (m + 1) := by omega
                have Hbt := Lib.hid hbt
                clear hbt
                go_wp2
                go_roundw
                case rel =>
                  refine ⟨k + 1, by omega, by go_num, (m + 1), (some ⟨gA, 0, none⟩), capA, (some ⟨gB, 0, none⟩), capB, (upd S m s2), (upd Q m (g2 s2)), (upd lv m true), A2, n2, c2, g2, b2, by omega, rfl, rfl, own_below OG.out Hbt.out, own_below OL.out Hbt.out, P.out.below Hbt.out, HRA.out.below Hbt.out, HB.out.trans (Hbt.out.mono HB.out.size), HK.out⟩
                case measure => simp [intOf]; omega
      · have fx0 : decide (x < 0) = false := decide_eq_false hx0
        by_cases hxm : x < (m : Int)
        rotate_left
        · have fx1 : decide (x < (m : Int)) = false := decide_eq_false hxm
          go_wp2
          go_loopw [15] (fun i wr => ∃ t : Nat, t ≤ m ∧ i = .int .i64 t ∧ Below wo.heap.size wo wr) (fun i wr => m - (intOf i).toNat)
          case atStart => exact ⟨0, Nat.zero_le _, rfl, Below.refl _ _⟩
          case round =>
            obtain ⟨t, ht, rfl, hbt⟩ := hrel
            by_cases htm : t < m
            · obtain ⟨gg, oo, eg, hg, hc⟩ := (Row.of_cells OG.out).below hbt (by omega)
              obtain ⟨gl, ol, el, hl, hd⟩ := (Row.of_cells OL.out).below hbt (by omega)
              have c0 := hc t htm 0 (by omega)
              have c1 := hc t htm 1 (by omega)
              have d0 := hd t htm 0 (by omega)
              simp only [Nat.add_zero, Nat.mul_one, hs, ls, if_true, if_pos rfl] at c0 d0
              simp only [hs] at c1
              rw [if_neg (by decide)] at c1
              have tP := P.out.below hbt
              have P_0 := tP.cell 0
              have lP := tP.lt
              simp at P_0
              have hho := Lib.hid (fun W (h : Below wr.heap.size wr W) => (holds_any A1 n1 k1 g1 b1 (S t) (Q t) W ((HR.out.below hbt).below h) (by omega)).mono (fun (e : Ending) w' ⟨hx, hb⟩ => (⟨(by obtain ⟨r, rfl, hr⟩ := hx; rw [show r = lv t by rw [Bool.eq_iff_iff, hr]; exact HK.out.holds htm]), hb⟩ : e = Ending.returned (.bool (lv t)) ∧ Below W.heap.size W w')))
              have hi : (t : Int) < ((m : Nat) : Int) := by omega
              skip
              have hi0' : (0 : Int) ≤ (t : Int) := by omega
              have P_0' := fun p : BW wr => BW.cell P_0 lP p
              have c0' := fun p : BW wr => BW.cell c0 hg p
              have c1' := fun p : BW wr => BW.cell c1 hg p
              have d0' := fun p : BW wr => BW.cell d0 hl p
              have hcall := Lib.hid (fun p : BW wr => BW.call hho.out p)
              have hyy : (lv t != lv t) = false := by simp
              have Hbt := Lib.hid hbt
              clear hc hd tP P_0 c0 c1 d0 hbt
              generalize lv t = yy at *
              generalize S t = ys at *
              generalize Q t = yq at *
              subst eg
              subst el
              try simp only [Nat.zero_add] at c0' c1' d0'
              go_wp2_with fail
              refine wp_region_quiet_bw (by kernel_rfl) (by kernel_rfl) ?_
              repeat (go_big_quiet_step ((go_at_call 11; exact hcall.out _)))
              refine wpQuiet_nil ?_
              intro _ hw'
              obtain ⟨pq, hw''⟩ := hw'
              subst hw''
              have hpq := Lib.hid pq.h
              clear P_0' c0' c1' d0'
              generalize pq.W = wz at *
              clear pq
              go_wp2
              go_roundw
              case rel => exact ⟨t + 1, by omega, by go_num, Hbt.out.trans (hpq.out.mono Hbt.out.size)⟩
              case measure => simp [intOf]; omega
            · obtain rfl : m = t := by omega
              have Hbt := Lib.hid hbt
              clear hbt
              go_wp2
              go_roundw
              case rel =>
                refine ⟨k + 1, by omega, by go_num, m, Xg, cg, Xl, cl, S, Q, lv, A1, n1, k1, g1, b1, by omega, rfl, rfl, own_below OG.out Hbt.out, own_below OL.out Hbt.out, P.out.below Hbt.out, HRA.out.below Hbt.out, HB.out.trans (Hbt.out.mono HB.out.size), HK.out⟩
              case measure => simp [intOf]; omega
        obtain ⟨j, rfl⟩ : ∃ j : Nat, x = j := ⟨x.toNat, by omega⟩
        have hjm : j < m := by omega
        have fx1 : decide ((j : Int) < (m : Int)) = true := decide_eq_true hxm
        have j0 : (0 : Int) ≤ (j : Int) := by omega
        obtain ⟨gg, oo, rfl, hg, hc⟩ := Row.of_cells OG.out (by omega)
        have e0 := hc j hjm 0 (by omega)
        have e1 := hc j hjm 1 (by omega)
        simp only [Nat.add_zero, hs, if_true, if_pos rfl] at e0
        simp only [hs] at e1
        rw [if_neg (by decide)] at e1
        have hki := Lib.hid (fun W (h : Below wo.heap.size wo W) => kill_any A1 n1 k1 g1 b1 (S j) (Q j) W (HR.out.below h) (by omega))
        have n1a : lg ≠ wo.heap.size := by omega
        have n1b : wo.heap.size ≠ lg := by omega
        have n2a : gg ≠ wo.heap.size := by omega
        have n2b : wo.heap.size ≠ gg := by omega
        have n3a : w.heap.size ≠ wo.heap.size := by omega
        have n3b : wo.heap.size ≠ w.heap.size := by omega
        clear hc P_f0
        have hkp : Keeps (fun Wo => (Below wo.heap.size wo Wo ∧ wo.heap.size ≤ Wo.heap.size) ∧ Wo.cell? ⟨w.heap.size, 0, none⟩ = some (.slice A1 n1 k1) ∧ Wo.cell? ⟨lg, lo + k, none⟩ = some (.int .i64 (j : Nat)) ∧ Wo.cell? ⟨gg, oo + j * 2, none⟩ = some (.int .i64 (S j)) ∧ Wo.cell? ⟨gg, oo + j * 2 + 1, none⟩ = some (.int .i64 (Q j))) := by
          repeat' (first | exact Keeps.below _ | exact Keeps.size _ | exact Keeps.cell _ _ | apply Keeps.and)
        go_upto_region 25 with fail
        go_cut [13, 14] from 36 to 134 (fun s13 s14 wx => ∃ q X8 n8 c8 g8 b8 code, s13 = .pointer (some ⟨q, 0, none⟩) ∧ s14 = .int .i64 code ∧ wo.heap.size ≤ q ∧ HasBlk wx q 24 #[.slice X8 n8 c8] ∧ wx.ownsRow wo.heap.size 33 2 (.slice X8 n8 c8) n8 (cellsR 2 (sv g8 b8) n8) ∧ KillV n1 g1 b1 (S j) (Q j) n8 g8 b8 code ∧ Below wo.heap.size wo wx)
        case first =>
          go_region_held3 (fun Wo => (Below wo.heap.size wo Wo ∧ wo.heap.size ≤ Wo.heap.size) ∧ Wo.cell? ⟨w.heap.size, 0, none⟩ = some (.slice A1 n1 k1) ∧ Wo.cell? ⟨lg, lo + k, none⟩ = some (.int .i64 (j : Nat)) ∧ Wo.cell? ⟨gg, oo + j * 2, none⟩ = some (.int .i64 (S j)) ∧ Wo.cell? ⟨gg, oo + j * 2 + 1, none⟩ = some (.int .i64 (Q j)))
            (first | exact hkp _ _ hbel (by assumption) | exact hkp _ _ ((Below.refl _ _).alloc (Nat.le_refl _) _) (by assumption) | exact hkp _ _ ((Below.refl _ _).alloc (Nat.le_refl _) _) q9 | (obtain ⟨⟨p1, p2⟩, p3, p4, p5, p6⟩ := ‹(Below wo.heap.size wo _ ∧ _) ∧ _›; refine ⟨⟨?_, by simp; omega⟩, by simp [go_sem, *], by simp [go_sem, *], by simp [go_sem, *], by simp [go_sem, *]⟩; repeat' (first | exact Below.refl _ _ | assumption | apply Below.drew | refine Below.setCell ?_ (by first | omega | (simp; done) | (simp; omega)) _ | refine Below.alloc ?_ (by first | omega | (simp; done) | (simp; omega)) _)) | (refine ⟨⟨?_, by first | omega | (simp; done) | (simp; omega)⟩, by simp [go_sem, *], by simp [go_sem, *], by simp [go_sem, *], by simp [go_sem, *]⟩; repeat' (first | exact Below.refl _ _ | assumption | apply Below.drew | refine Below.setCell ?_ (by first | omega | (simp; done) | (simp; omega)) _ | refine Below.alloc ?_ (by first | omega | (simp; done) | (simp; omega)) _)) | fail "keep")
            (first | (go_at_call 8; (with_reducible refine (hki.out _ ?_).mono ?_); (first | exact (‹(Below wo.heap.size wo _ ∧ _) ∧ _›).1.1 | (repeat' (first | exact Below.refl _ _ | assumption | apply Below.drew | refine Below.setCell ?_ (by first | omega | (simp; done) | (simp; omega)) _ | refine Below.alloc ?_ (by first | omega | (simp; done) | (simp; omega)) _))); rintro e w' ⟨hx, hbel⟩; have q9 := hkp _ _ hbel (by assumption); obtain ⟨X8, n8, c8, g8, b8, code, rfl, ho, hv⟩ := hx.val (by omega); (try (have hzb := (hasBlk_new wo 24 #[.slice none 0 0]).drew.below hbel; have hzc := hzb.cell 0; have hzf := hzb.frozen 0; simp at hzc)); have HO := Lib.hid ho; have HV := Lib.hid hv; clear ho hv hx))
          all_goals (go_wp2_with fail; go_meet; first
            | exact ⟨_, X8, n8, c8, g8, b8, code, rfl, rfl, q9.1.2, hasBlk_new _ _ _, (own_base HO.out (by simp)).alloc _, HV.out, Below.alloc q9.1.1 q9.1.2 _⟩
            | exact ⟨_, X8, n8, c8, g8, b8, code, rfl, rfl, Nat.le_refl _, (by have := hzb.set 0 (.slice X8 n8 c8); simpa using this), ownsRow_setCell_other (own_base HO.out (by simp)) (hzb.ne_own HO.out (by decide)) _, HV.out, Below.setCell q9.1.1 (by simp) _⟩)
        case rest =>
          obtain ⟨q, X8, n8, c8, g8, b8, code, rfl, rfl, hq, hbq, ho, hv, hbel8⟩ := hcut
          have OG8 := Lib.hid (own_below OG.out hbel8)
          have hol8 := own_below OL.out hbel8
          have P8 := Lib.hid (P.out.below hbel8)
          have HRA8 := Lib.hid (HRA.out.below hbel8)
          have HB8 := Lib.hid (HB.out.trans (hbel8.mono zb))
          have l8 := (hbel8.cell (p := ⟨lg, lo + k, none⟩) llt).trans lk
          have z8 := hbel8.size
          obtain ⟨xl, rfl, hxl, hxs, hxf⟩ := own_some hol8 (by omega)
          obtain ⟨gl, ol, el, hl, hd⟩ := Row.of_cells hol8 (by omega)
          cases el
          have d0 := hd j hjm 0 (by omega)
          have hxf0 := hxf j
          simp only [Nat.add_zero, Nat.mul_one, Nat.zero_add, ls] at d0
          have OL8 := Lib.hid hol8
          have p8 := P8.out.cell 0
          have pf8 := P8.out.frozen 0
          have q8 := hbq.cell 0
          have qf8 := hbq.frozen 0
          simp at p8 q8
          have HBQ := Lib.hid hbq
          have HO := Lib.hid ho
          have nx : xl ≠ w.heap.size := by have := P8.out.ne_own hol8 (by decide); simpa [Value.ownBlock] using this
          have nx2 : w.heap.size ≠ xl := Ne.symm nx
          have nq : q ≠ w.heap.size := by omega
          have nq2 : w.heap.size ≠ q := by omega
          clear hd hxf hol8 hbq ho hbel8 P_0 lk e0 e1 OG OL P HR HRA HB hki hkp
          rcases hv with ⟨h, _⟩ | ⟨_, hnh, rfl, rfl⟩ | ⟨_, hh, en, eg, rfl, rfl⟩
          · exact absurd HK.out.1 h
          · have hlv : lv j = false := by
              cases h : lv j with
              | false => rfl
              | true => exact absurd ((HK.out.held hjm).2 h) hnh
            rw [hlv] at d0
            have HK9 := Lib.hid (HK.out.lapse (j := j) hlv)
            clear hnh hlv HK
            go_wp2_with fail
            have hog := ownsRow_setCell_other (a := ⟨xl, j, none⟩) OG8.out (own_ne OG8.out OL8.out (by decide)) (.bool false)
            have hol := own_set (j := j) OL8.out (.bool false)
            rw [ls_set hjm] at hol
            have hp := P8.out.far (p := ⟨xl, j, none⟩) nx (.bool false)
            have hra := HRA8.out.set OL8.out (by decide) j (.bool false)
            have hb : Below w.heap.size w (wc.setCell ⟨xl, j, none⟩ (.bool false)) := HB8.out.setCell hxl _
            clear OG8 OL8 P8 HRA8 HB8 d0 p8 pf8 q8 qf8 HBQ HO l8
            generalize gW : wc.setCell ⟨xl, j, none⟩ (.bool false) = v9 at *
            clear gW
            have OG := Lib.hid hog
            have OL := Lib.hid hol
            have P := Lib.hid hp
            have HRA := Lib.hid hra
            have HB := Lib.hid hb
            have HK := HK9
            have HR := Lib.hid (hra.row hb)
            clear hog hol hp hra hb HK9
            go_wp2
            go_loopw [15] (fun i wr => ∃ t : Nat, t ≤ m ∧ i = .int .i64 t ∧ Below v9.heap.size v9 wr) (fun i wr => m - (intOf i).toNat)
            case atStart => exact ⟨0, Nat.zero_le _, rfl, Below.refl _ _⟩
            case round =>
              obtain ⟨t, ht, rfl, hbt⟩ := hrel
              by_cases htm : t < m
              · obtain ⟨gg, oo, eg, hg, hc⟩ := (Row.of_cells OG.out).below hbt (by omega)
                obtain ⟨gl, ol, el, hl, hd⟩ := (Row.of_cells OL.out).below hbt (by omega)
                have c0 := hc t htm 0 (by omega)
                have c1 := hc t htm 1 (by omega)
                have d0 := hd t htm 0 (by omega)
                simp only [Nat.add_zero, Nat.mul_one, hs, ls, if_true, if_pos rfl] at c0 d0
                simp only [hs] at c1
                rw [if_neg (by decide)] at c1
                have tP := P.out.below hbt
                have P_0 := tP.cell 0
                have lP := tP.lt
                simp at P_0
                have hho := Lib.hid (fun W (h : Below wr.heap.size wr W) => (holds_any A1 n1 k1 g1 b1 (S t) (Q t) W ((HR.out.below hbt).below h) (by omega)).mono (fun (e : Ending) w' ⟨hx, hb⟩ => (⟨(by obtain ⟨r, rfl, hr⟩ := hx; rw [show r = (upd lv j false) t by rw [Bool.eq_iff_iff, hr]; exact HK.out.holds htm]), hb⟩ : e = Ending.returned (.bool ((upd lv j false) t)) ∧ Below W.heap.size W w')))
                have hi : (t : Int) < ((m : Nat) : Int) := by omega
                skip
                have hi0' : (0 : Int) ≤ (t : Int) := by omega
                have P_0' := fun p : BW wr => BW.cell P_0 lP p
                have c0' := fun p : BW wr => BW.cell c0 hg p
                have c1' := fun p : BW wr => BW.cell c1 hg p
                have d0' := fun p : BW wr => BW.cell d0 hl p
                have hcall := Lib.hid (fun p : BW wr => BW.call hho.out p)
                have hyy : ((upd lv j false) t != (upd lv j false) t) = false := by simp
                have Hbt := Lib.hid hbt
                clear hc hd tP P_0 c0 c1 d0 hbt
                generalize (upd lv j false) t = yy at *
                generalize S t = ys at *
                generalize Q t = yq at *
                cases eg
                cases el
                try simp only [Nat.zero_add] at c0' c1' d0'
                go_wp2_with fail
                refine wp_region_quiet_bw (by kernel_rfl) (by kernel_rfl) ?_
                repeat (go_big_quiet_step ((go_at_call 11; exact hcall.out _)))
                refine wpQuiet_nil ?_
                intro _ hw'
                obtain ⟨pq, hw''⟩ := hw'
                subst hw''
                have hpq := Lib.hid pq.h
                clear P_0' c0' c1' d0'
                generalize pq.W = wz at *
                clear pq
                go_wp2
                go_roundw
                case rel => exact ⟨t + 1, by omega, by go_num, Hbt.out.trans (hpq.out.mono Hbt.out.size)⟩
                case measure => simp [intOf]; omega
              · obtain rfl : m = t := by omega
                have Hbt := Lib.hid hbt
                clear hbt
                go_wp2
                go_roundw
                case rel =>
                  refine ⟨k + 1, by omega, by go_num, m, (some ⟨gg, oo, none⟩), cg, (some ⟨xl, 0, none⟩), cl, S, Q, (upd lv j false), A1, n1, k1, g1, b1, by omega, rfl, rfl, own_below OG.out Hbt.out, own_below OL.out Hbt.out, P.out.below Hbt.out, HRA.out.below Hbt.out, HB.out.trans (Hbt.out.mono HB.out.size), HK.out⟩
                case measure => simp [intOf]; omega
          · have en' := en.symm
            have eg' := eg.symm
            clear en eg
            subst en' eg'
            have hlv : lv j = true := (HK.out.held hjm).1 hh
            rw [hlv] at d0
            have HK9 := Lib.hid (HK.out.kill hjm hlv)
            clear hh hlv HK
            go_wp2_with fail
            have hog := ownsRow_setCell_other (a := ⟨xl, j, none⟩) (ownsRow_setCell_other (a := ⟨w.heap.size, 0, none⟩) OG8.out (P8.out.ne_own OG8.out (by decide)) (.slice X8 n1 c8)) (own_ne OG8.out OL8.out (by decide)) (.bool false)
            have hol := own_set (j := j) (ownsRow_setCell_other (a := ⟨w.heap.size, 0, none⟩) OL8.out (P8.out.ne_own OL8.out (by decide)) (.slice X8 n1 c8)) (.bool false)
            rw [ls_set hjm] at hol
            have hp := (P8.out.set 0 (.slice X8 n1 c8)).far (p := ⟨xl, j, none⟩) nx (.bool false)
            have hra := own_base (b := w.heap.size) (ownsRow_setCell_other (a := ⟨xl, j, none⟩) (ownsRow_setCell_other (a := ⟨w.heap.size, 0, none⟩) HO.out (P8.out.ne_own HO.out (by decide)) (.slice X8 n1 c8)) (own_ne HO.out OL8.out (by decide)) (.bool false)) (by omega)
            have hb : Below w.heap.size w ((wc.setCell ⟨w.heap.size, 0, none⟩ (.slice X8 n1 c8)).setCell ⟨xl, j, none⟩ (.bool false)) := (HB8.out.setCell (Nat.le_refl _) _).setCell hxl _
            clear OG8 OL8 P8 HRA8 HB8 d0 p8 pf8 q8 qf8 HBQ HO l8
            generalize gW : (wc.setCell ⟨w.heap.size, 0, none⟩ (.slice X8 n1 c8)).setCell ⟨xl, j, none⟩ (.bool false) = v9 at *
            clear gW
            have OG := Lib.hid hog
            have OL := Lib.hid hol
            have P := Lib.hid (show HasBlk v9 w.heap.size 24 #[.slice X8 n1 c8] by simpa using hp)
            have HRA := Lib.hid (show RA w v9 X8 n1 (sv g1 (upd b1 (S j).toNat false)) from .inr ⟨_, hra⟩)
            have HB := Lib.hid hb
            have HK := HK9
            have HR := Lib.hid (HRA.out.row hb)
            clear hog hol hp hra hb HK9
            go_wp2
            go_loopw [15] (fun i wr => ∃ t : Nat, t ≤ m ∧ i = .int .i64 t ∧ Below v9.heap.size v9 wr) (fun i wr => m - (intOf i).toNat)
            case atStart => exact ⟨0, Nat.zero_le _, rfl, Below.refl _ _⟩
            case round =>
              obtain ⟨t, ht, rfl, hbt⟩ := hrel
              by_cases htm : t < m
              · obtain ⟨gg, oo, eg, hg, hc⟩ := (Row.of_cells OG.out).below hbt (by omega)
                obtain ⟨gl, ol, el, hl, hd⟩ := (Row.of_cells OL.out).below hbt (by omega)
                have c0 := hc t htm 0 (by omega)
                have c1 := hc t htm 1 (by omega)
                have d0 := hd t htm 0 (by omega)
                simp only [Nat.add_zero, Nat.mul_one, hs, ls, if_true, if_pos rfl] at c0 d0
                simp only [hs] at c1
                rw [if_neg (by decide)] at c1
                have tP := P.out.below hbt
                have P_0 := tP.cell 0
                have lP := tP.lt
                simp at P_0
                have hho := Lib.hid (fun W (h : Below wr.heap.size wr W) => (holds_any X8 n1 c8 g1 (upd b1 (S j).toNat false) (S t) (Q t) W ((HR.out.below hbt).below h) (by omega)).mono (fun (e : Ending) w' ⟨hx, hb⟩ => (⟨(by obtain ⟨r, rfl, hr⟩ := hx; rw [show r = (upd lv j false) t by rw [Bool.eq_iff_iff, hr]; exact HK.out.holds htm]), hb⟩ : e = Ending.returned (.bool ((upd lv j false) t)) ∧ Below W.heap.size W w')))
                have hi : (t : Int) < ((m : Nat) : Int) := by omega
                skip
                have hi0' : (0 : Int) ≤ (t : Int) := by omega
                have P_0' := fun p : BW wr => BW.cell P_0 lP p
                have c0' := fun p : BW wr => BW.cell c0 hg p
                have c1' := fun p : BW wr => BW.cell c1 hg p
                have d0' := fun p : BW wr => BW.cell d0 hl p
                have hcall := Lib.hid (fun p : BW wr => BW.call hho.out p)
                have hyy : ((upd lv j false) t != (upd lv j false) t) = false := by simp
                have Hbt := Lib.hid hbt
                clear hc hd tP P_0 c0 c1 d0 hbt
                generalize (upd lv j false) t = yy at *
                generalize S t = ys at *
                generalize Q t = yq at *
                cases eg
                cases el
                try simp only [Nat.zero_add] at c0' c1' d0'
                go_wp2_with fail
                refine wp_region_quiet_bw (by kernel_rfl) (by kernel_rfl) ?_
                repeat (go_big_quiet_step ((go_at_call 11; exact hcall.out _)))
                refine wpQuiet_nil ?_
                intro _ hw'
                obtain ⟨pq, hw''⟩ := hw'
                subst hw''
                have hpq := Lib.hid pq.h
                clear P_0' c0' c1' d0'
                generalize pq.W = wz at *
                clear pq
                go_wp2
                go_roundw
                case rel => exact ⟨t + 1, by omega, by go_num, Hbt.out.trans (hpq.out.mono Hbt.out.size)⟩
                case measure => simp [intOf]; omega
              · obtain rfl : m = t := by omega
                have Hbt := Lib.hid hbt
                clear hbt
                go_wp2
                go_roundw
                case rel =>
                  refine ⟨k + 1, by omega, by go_num, m, (some ⟨gg, oo, none⟩), cg, (some ⟨xl, 0, none⟩), cl, S, Q, (upd lv j false), X8, n1, c8, g1, (upd b1 (S j).toNat false), by omega, rfl, rfl, own_below OG.out Hbt.out, own_below OL.out Hbt.out, P.out.below Hbt.out, HRA.out.below Hbt.out, HB.out.trans (Hbt.out.mono HB.out.size), HK.out⟩
                case measure => simp [intOf]; omega
    · obtain rfl : l0 = k := by omega
      have P_0 := P.out.cell 0
      simp at P_0
      go_wp2_with fail
      refine (check_ok A1 n1 k1 g1 b1 _ HR.out HK.out.1).mono ?_
      rintro e w3 ⟨rfl, bel3⟩
      have HF := Lib.hid (HB.out.trans (bel3.mono HB.out.size))
      clear bel3
      go_wp2
      go_ret
      exact ⟨rfl, HF.out⟩
theorem cells_int9 : Try.prog.cellsOf 3 = 1 := by kernel_rfl
theorem arenaKeeps_arg (v0 v1 : Value) (w : World) (h0 : Arg Try.prog w 24 v0) (h1 : Arg Try.prog w 36 v1) : Calls Try.prog 4 #[v0, v1] w fun e w' => e = .returned (.bool true) ∧ Below w.heap.size w w' := by
  obtain ⟨A, n, c, g, b, rfl, _, hA⟩ := arg_arena h0
  obtain ⟨A9, l0, d, l, rfl, _, _, hL⟩ := arg_ints Try.underlying36 Try.underlying3 cells_int9 h1
  exact arenaKeeps_walk A A9 n c l0 d g b l w hA hL
end Go.Proofs.Ytapibgpjfliifaa
