/- arena: the reference's Make. -/
import Derived.Test.YtgkeiaggldahnaaR11
import Derived.Deep.RegionHeld3
namespace Go.Proofs.Ytgkeiaggldahnaa
open Go.RowKit
set_option linter.unusedVariables false


set_option maxRecDepth 100000 in
set_option maxHeartbeats 4000000 in
theorem refmake_any (A : Option Addr) (n c : Nat) (g : Nat → Int) (b : Nat → Bool) (w : World) (hA : Row w A n 2 (sv g b)) (hn : (n : Int) ≤ 9223372036854775807) :
    Calls Try.prog 60 #[.agg #[.slice A n c]] w fun e w' => MakeR n g b w.heap.size e w' ∧ Below w.heap.size w w' := by
  obtain ⟨i0, hi0, hz0, hz1, hz2⟩ := info_parts slot_info
  have hmay := Lib.hid (fun W (h : Below w.heap.size w W) => refmay_any A n c g b W (hA.below h) hn)
  have htw := Lib.hid (fun W (h : Below w.heap.size w W) (hn : (n : Int) ≤ 1000000) => reftwin_any A n c g b W (hA.below h) hn)
  clear hA
  go_enter Try.func60, Try.ntmps60
  go_wp2_with fail
  have NE_P_Z := Lib.hid (show w.heap.size ≠ w.heap.size + 1 by omega)
  have NE_P_Y := Lib.hid (show w.heap.size ≠ w.heap.size + 1 + 1 by omega)
  have NE_Z_Y := Lib.hid (show w.heap.size + 1 ≠ w.heap.size + 1 + 1 by omega)
  have s_P : HasBlk (w.alloc (.cells #[.slice A n c] 24)) (w.heap.size) 24 #[.slice A n c] := by simpa using hasBlk_new w 24 #[.slice A n c]
  replace s_P := s_P.alloc (.cells #[.slice none 0 0] 24)
  have s_Z : HasBlk ((w.alloc (.cells #[.slice A n c] 24)).alloc (.cells #[.slice none 0 0] 24)) (w.heap.size + 1) 24 #[.slice none 0 0] := by simpa using hasBlk_new (w.alloc (.cells #[.slice A n c] 24)) 24 #[.slice none 0 0]
  replace s_P := s_P.alloc (.cells #[.int .i64 0, .int .i64 0] 29)
  replace s_Z := s_Z.alloc (.cells #[.int .i64 0, .int .i64 0] 29)
  have s_Y : HasBlk (((w.alloc (.cells #[.slice A n c] 24)).alloc (.cells #[.slice none 0 0] 24)).alloc (.cells #[.int .i64 0, .int .i64 0] 29)) (w.heap.size + 1 + 1) 29 #[.int .i64 0, .int .i64 0] := by simpa using hasBlk_new ((w.alloc (.cells #[.slice A n c] 24)).alloc (.cells #[.slice none 0 0] 24)) 29 #[.int .i64 0, .int .i64 0]
  have t_P : HasBlk (((w.alloc (.cells #[.slice A n c] 24)).alloc (.cells #[.slice none 0 0] 24)).alloc (.cells #[.int .i64 0, .int .i64 0] 29)) (w.heap.size) 24 #[.slice A n c] := by simpa using s_P
  clear s_P
  have t_Z : HasBlk (((w.alloc (.cells #[.slice A n c] 24)).alloc (.cells #[.slice none 0 0] 24)).alloc (.cells #[.int .i64 0, .int .i64 0] 29)) (w.heap.size + 1) 24 #[.slice none 0 0] := by simpa using s_Z
  clear s_Z
  have t_Y : HasBlk (((w.alloc (.cells #[.slice A n c] 24)).alloc (.cells #[.slice none 0 0] 24)).alloc (.cells #[.int .i64 0, .int .i64 0] 29)) (w.heap.size + 1 + 1) 29 #[.int .i64 0, .int .i64 0] := by simpa using s_Y
  clear s_Y
  have SB1 : Below w.heap.size w (((w.alloc (.cells #[.slice A n c] 24)).alloc (.cells #[.slice none 0 0] 24)).alloc (.cells #[.int .i64 0, .int .i64 0] 29)) := by
    repeat' (first | exact Below.refl _ _ | assumption | apply Below.drew | refine Below.setCell ?_ (by first | omega | (simp; done) | (simp; omega)) _ | refine Below.alloc ?_ (by first | omega | (simp; done) | (simp; omega)) _)
  generalize gW_v0 : (((w.alloc (.cells #[.slice A n c] 24)).alloc (.cells #[.slice none 0 0] 24)).alloc (.cells #[.int .i64 0, .int .i64 0] 29)) = v0 at *
  clear gW_v0
  have P := Lib.hid t_P
  clear t_P
  have Z := Lib.hid t_Z
  clear t_Z
  have Y := Lib.hid t_Y
  clear t_Y
  have SB1h := Lib.hid SB1
  clear SB1
  refine (hmay.out _ SB1h.out).mono ?_
  rintro e w1 ⟨⟨r, rfl, hr⟩, bel1⟩
  have Hr := Lib.hid hr
  clear hr hmay
  have t_P := P.out.below bel1
  clear P
  have P := Lib.hid t_P
  clear t_P
  have t_Z := Z.out.below bel1
  clear Z
  have Z := Lib.hid t_Z
  clear t_Z
  have t_Y := Y.out.below bel1
  clear Y
  have Y := Lib.hid t_Y
  clear t_Y
  have SB2 : Below w.heap.size w w1 := SB1h.out.trans (bel1.mono SB1h.out.size)
  clear SB1h
  have SB2h := Lib.hid SB2
  clear SB2 bel1
  have lt_P := P.out.lt
  have P_0 := P.out.cell 0
  simp at P_0
  have lt_Z := Z.out.lt
  have Z_0 := Z.out.cell 0
  have Z_f0 := Z.out.frozen 0
  simp at Z_0
  have lt_Y := Y.out.lt
  have Y_0 := Y.out.cell 0
  have Y_1 := Y.out.cell 1
  have Y_f0 := Y.out.frozen 0
  have Y_f1 := Y.out.frozen 1
  simp at Y_0 Y_1
  have szB_w1 := SB2h.out.size
  cases r with
  | false =>
    go_wp2
    refine bodyPost_ret (v := .tuple #[.agg #[.slice none 0 0], .agg #[.int .i64 0, .int .i64 0], .int .i64 8]) (by simp [results, Try.results60, go_sem, *]) rfl ⟨.inl ⟨fun h => absurd (Hr.out.2 h) (by decide), rfl⟩, ?_⟩
    have bel0 := SB2h.out
    repeat' (first | exact Below.refl _ _ | assumption | apply Below.drew | refine Below.setCell ?_ (by first | omega | (simp; done) | (simp; omega)) _ | refine Below.alloc ?_ (by first | omega | (simp; done) | (simp; omega)) _)
  | true =>
    have hm : MayA n g := Hr.out.1 (by trivial)
    have hn' := hm.1
    have Hm := Lib.hid hm
    clear hm Hr
    go_wp2_with fail
    clear lt_P P_0 lt_Z Z_0 Z_f0 lt_Y Y_0 Y_1 Y_f0 Y_f1
    refine (htw.out _ SB2h.out (by omega)).mono ?_
    rintro e w2 ⟨⟨v, rfl, hv⟩, bel2⟩
    have z12 := bel2.size
    obtain ⟨X, c2, rfl, ho⟩ := hv
    have O := Lib.hid ho
    clear ho htw
    have t_P := P.out.below bel2
    clear P
    have P := Lib.hid t_P
    clear t_P
    have t_Z := Z.out.below bel2
    clear Z
    have Z := Lib.hid t_Z
    clear t_Z
    have t_Y := Y.out.below bel2
    clear Y
    have Y := Lib.hid t_Y
    clear t_Y
    have SB3 : Below w.heap.size w w2 := SB2h.out.trans (bel2.mono SB2h.out.size)
    clear SB2h
    have SB3h := Lib.hid SB3
    clear SB3 bel2
    have lt_P := P.out.lt
    have P_0 := P.out.cell 0
    simp at P_0
    have lt_Z := Z.out.lt
    have Z_0 := Z.out.cell 0
    have Z_f0 := Z.out.frozen 0
    simp at Z_0
    have lt_Y := Y.out.lt
    have Y_0 := Y.out.cell 0
    have Y_1 := Y.out.cell 1
    have Y_f0 := Y.out.frozen 0
    have Y_f1 := Y.out.frozen 1
    simp at Y_0 Y_1
    have szB_w2 := SB3h.out.size
    go_wp2
    have NE_P_Tb := Lib.hid (show w.heap.size ≠ w2.heap.size by omega)
    have NE_Z_Tb := Lib.hid (show w.heap.size + 1 ≠ w2.heap.size by omega)
    have NE_Y_Tb := Lib.hid (show w.heap.size + 1 + 1 ≠ w2.heap.size by omega)
    have s_P := P.out
    have s_Z := Z.out
    have s_Y := Y.out
    have s_O := O.out
    replace s_P := s_P.alloc (.cells #[.slice X n c2] 24)
    replace s_Z := s_Z.alloc (.cells #[.slice X n c2] 24)
    replace s_Y := s_Y.alloc (.cells #[.slice X n c2] 24)
    replace s_O := World.ownsRow.alloc s_O (.cells #[.slice X n c2] 24)
    have s_Tb : HasBlk (w2.alloc (.cells #[.slice X n c2] 24)) (w2.heap.size) 24 #[.slice X n c2] := by simpa using hasBlk_new w2 24 #[.slice X n c2]
    have t_P : HasBlk (w2.alloc (.cells #[.slice X n c2] 24)) (w.heap.size) 24 #[.slice A n c] := by simpa using s_P
    clear s_P P
    have t_Z : HasBlk (w2.alloc (.cells #[.slice X n c2] 24)) (w.heap.size + 1) 24 #[.slice none 0 0] := by simpa using s_Z
    clear s_Z Z
    have t_Y : HasBlk (w2.alloc (.cells #[.slice X n c2] 24)) (w.heap.size + 1 + 1) 29 #[.int .i64 0, .int .i64 0] := by simpa using s_Y
    clear s_Y Y
    have t_Tb : HasBlk (w2.alloc (.cells #[.slice X n c2] 24)) (w2.heap.size) 24 #[.slice X n c2] := by simpa using s_Tb
    clear s_Tb
    have t_O : ((w2.alloc (.cells #[.slice X n c2] 24))).ownsRow (w1.heap.size) 58 2 (.slice X (n) (c2)) (n) (cellsR 2 (sv g b) n) := s_O
    clear s_O O
    have SB4 : Below w.heap.size w (w2.alloc (.cells #[.slice X n c2] 24)) := by
      have bel0 := SB3h.out
      repeat' (first | exact Below.refl _ _ | assumption | apply Below.drew | refine Below.setCell ?_ (by first | omega | (simp; done) | (simp; omega)) _ | refine Below.alloc ?_ (by first | omega | (simp; done) | (simp; omega)) _)
    clear lt_P P_0 lt_Z Z_0 Z_f0 lt_Y Y_0 Y_1 Y_f0 Y_f1
    generalize gW_v2 : (w2.alloc (.cells #[.slice X n c2] 24)) = v2 at *
    clear gW_v2
    have P := Lib.hid t_P
    clear t_P
    have Z := Lib.hid t_Z
    clear t_Z
    have Y := Lib.hid t_Y
    clear t_Y
    have Tb := Lib.hid t_Tb
    clear t_Tb
    have O := Lib.hid t_O
    clear t_O
    clear SB3h
    have SB4h := Lib.hid SB4
    clear SB4
    have lt_P := P.out.lt
    have P_0 := P.out.cell 0
    simp at P_0
    have lt_Z := Z.out.lt
    have Z_0 := Z.out.cell 0
    have Z_f0 := Z.out.frozen 0
    simp at Z_0
    have lt_Y := Y.out.lt
    have Y_0 := Y.out.cell 0
    have Y_1 := Y.out.cell 1
    have Y_f0 := Y.out.frozen 0
    have Y_f1 := Y.out.frozen 1
    simp at Y_0 Y_1
    have lt_Tb := Tb.out.lt
    have Tb_0 := Tb.out.cell 0
    have Tb_f0 := Tb.out.frozen 0
    simp at Tb_0
    have szB_v2 := SB4h.out.size
    go_loopw [6] (fun i wr => ∃ k : Nat, k ≤ n ∧ i = .int .i64 k ∧ (∃ q, wr = v2.drewN q) ∧ ∀ i, i < k → freeS (g i) (b i) = false) (fun i wr => n - (intOf i).toNat)
    case atStart => exact ⟨0, Nat.zero_le _, rfl, ⟨0, rfl⟩, fun j hj => absurd hj (by omega)⟩
    case round =>
      obtain ⟨k, hk, rfl, ⟨q, rfl⟩, hall⟩ := hrel
      have Hall := Lib.hid hall
      clear hall
      by_cases hkn : k < n
      · obtain ⟨x, rfl, hx0, hx1, hx2⟩ := own_some O.out (by omega)
        obtain ⟨gg, oo, e, hg, hc⟩ := Row.of_cells O.out (by omega)
        cases e
        have c0 := hc k hkn 0 (by omega)
        have c1 := hc k hkn 1 (by omega)
        simp only [Nat.zero_add, Nat.add_zero, sv, if_true] at c0
        simp only [Nat.zero_add, sv] at c1
        rw [if_neg (by decide)] at c1
        have f0 := hx2 (k * 2)
        have f1 := hx2 (k * 2 + 1)
        have hi : (k : Int) < (n : Int) := by omega
        have hi0' : (0 : Int) ≤ (k : Int) := by omega
        have nxs : x ≠ w2.heap.size ∧ x ≠ w.heap.size + 1 ∧ x ≠ w.heap.size + 1 + 1 := ⟨fun e => Tb.out.ne_own O.out (by decide) (by rw [e]; rfl), fun e => Z.out.ne_own O.out (by decide) (by rw [e]; rfl), fun e => Y.out.ne_own O.out (by decide) (by rw [e]; rfl)⟩
        obtain ⟨nx1, nx2, nx3⟩ := nxs
        have ny1 := Ne.symm nx1
        have ny2 := Ne.symm nx2
        have ny3 := Ne.symm nx3
        clear hc hx2
        by_cases hb : b k = true
        · simp only [hb] at c1
          have Hnf := Lib.hid (show freeS (g k) (b k) = false by unfold freeS; simp [hb])
          clear hb
          go_wp2
          go_roundw
          case rel =>
            refine ⟨k + 1, by omega, by go_num, ⟨_, rfl⟩, fun j hj => ?_⟩
            rcases Nat.lt_or_ge j k with h | h
            · exact Hall.out j h
            · obtain rfl : j = k := by omega
              exact Hnf.out
          case measure => simp [intOf]; omega
        have hb' : b k = false := by simpa using hb
        simp only [hb'] at c1
        by_cases hgk : g k < 1073741824
        rotate_left
        · have g1 : decide (g k < 1073741824) = false := decide_eq_false hgk
          have Hnf := Lib.hid (show freeS (g k) (b k) = false by unfold freeS; simp [hb', g1])
          clear hb hgk hb'
          go_wp2
          go_roundw
          case rel =>
            refine ⟨k + 1, by omega, by go_num, ⟨_, rfl⟩, fun j hj => ?_⟩
            rcases Nat.lt_or_ge j k with h | h
            · exact Hall.out j h
            · obtain rfl : j = k := by omega
              exact Hnf.out
          case measure => simp [intOf]; omega
        have g1 : decide (g k < 1073741824) = true := decide_eq_true hgk
        have Hfr := Lib.hid (show freeS (g k) (b k) = true by unfold freeS; simp [hb', g1])
        have hok := Hm.out.2 k hkn
        unfold okS at hok
        have hok2 := of_decide_eq_true hok
        obtain ⟨o1, o2⟩ := hok2
        clear hb hgk hb' hok
        have hO : (((v2.drewN q).setCell ⟨x, k * 2 + 1, none⟩ (.bool true)).setCell ⟨x, k * 2, none⟩ (.int .i64 (g k + 1))).ownsRow w1.heap.size 58 2 (.slice (some ⟨x, 0, none⟩) n c2) n (cellsR 2 (sv (upd g k (g k + 1)) (upd b k true)) n) := by
          have h := own_set (j := k * 2) (own_set (w := v2.drewN q) (j := k * 2 + 1) O.out (.bool true)) (.int .i64 (g k + 1))
          rw [set_b hkn, set_g hkn] at h
          exact h
        have far2 : ∀ {a t cs}, x ≠ a → HasBlk v2 a t cs → HasBlk (((v2.drewN q).setCell ⟨x, k * 2 + 1, none⟩ (.bool true)).setCell ⟨x, k * 2, none⟩ (.int .i64 (g k + 1))) a t cs := fun hne h => ((show HasBlk (v2.drewN q) _ _ _ from h).far (p := ⟨x, k * 2 + 1, none⟩) hne _).far (p := ⟨x, k * 2, none⟩) hne _
        have hT := far2 nx1 Tb.out
        have hZ := far2 nx2 Z.out
        have hY := far2 nx3 Y.out
        have hbel : Below w.heap.size w (((v2.drewN q).setCell ⟨x, k * 2 + 1, none⟩ (.bool true)).setCell ⟨x, k * 2, none⟩ (.int .i64 (g k + 1))) := ((below_drewN SB4h.out q).setCell (by simp; omega) _).setCell (by simp; omega) _
        go_wp2
        clear lt_P P_0 lt_Z Z_0 Z_f0 lt_Y Y_0 Y_1 Y_f0 Y_f1 lt_Tb Tb_0 Tb_f0 SB4h Tb Z Y O c0 c1 f0 f1 far2 P
        generalize ((v2.drewN q).setCell ⟨x, k * 2 + 1, none⟩ (.bool true)).setCell ⟨x, k * 2, none⟩ (.int .i64 (g k + 1)) = ww at *
        have T_0 := hT.cell 0
        have Z_0 := hZ.cell 0
        have Z_f0 := hZ.frozen 0
        have Y_0 := hY.cell 0
        have Y_1 := hY.cell 1
        have Y_f0 := hY.frozen 0
        have Y_f1 := hY.frozen 1
        have tl := hT.lt
        have zl := hZ.lt
        have ql := hY.lt
        simp at T_0 Z_0 Y_0 Y_1
        have x0 : ww.cell? ⟨x, k * 2, none⟩ = some (.int .i64 (g k + 1)) := by
          obtain ⟨gg, oo, e, hg, hc⟩ := Row.of_cells hO (by omega)
          cases e
          have c1 := hc k (by omega) 0 (by omega)
          simpa [sv, upd] using c1
        have m1 : w2.heap.size ≠ w.heap.size + 1 := NE_Z_Tb.out.symm
        have m1' : w.heap.size + 1 ≠ w2.heap.size := NE_Z_Tb.out
        have m2 : w2.heap.size ≠ w.heap.size + 1 + 1 := NE_Y_Tb.out.symm
        have m2' : w.heap.size + 1 + 1 ≠ w2.heap.size := NE_Y_Tb.out
        have m3 : w.heap.size + 1 ≠ w.heap.size + 1 + 1 := by omega
        have m3' : w.heap.size + 1 + 1 ≠ w.heap.size + 1 := by omega
        have GN1 := Lib.hid (hZ.ne_own hO (by decide))
        have GN2 := Lib.hid (hY.ne_own hO (by decide))
        have HO := Lib.hid hO
        have HBel := Lib.hid hbel
        clear hT hZ hY hO hbel
        go_region_held3 (fun Wo => Wo.cell? ⟨w2.heap.size, 0, none⟩ = some (.slice (some ⟨x, 0, none⟩) n c2) ∧ Wo.cell? ⟨x, k * 2, none⟩ = some (.int .i64 (g k + 1)))
          (first | go_keep | (refine ⟨?_, ?_⟩ <;> simp [go_sem, *]) | fail "keep")
          (fail)
        go_wp2
        refine bodyPost_ret (v := .tuple #[.agg #[.slice (some ⟨x, 0, none⟩) n c2], .agg #[.int .i64 k, .int .i64 (g k + 1)], .int .i64 0]) (by simp [results, Try.results60, go_sem, *]) rfl ⟨.inr (.inr ⟨Hm.out, k, n, upd g k (g k + 1), upd b k true, _, c2, .inl ⟨hkn, Hfr.out, Hall.out, rfl, rfl, rfl⟩, by rw [upd_at], ?_⟩), ?_⟩
        · have h := own_base (b := w.heap.size) HO.out (by omega)
          repeat' (first | exact h | refine ownsRow_setCell_other ?_ (by first | exact GN1.out | exact GN2.out) _)
        · have bel0 := HBel.out
          repeat' (first | exact Below.refl _ _ | assumption | apply Below.drew | refine Below.setCell ?_ (by first | omega | (simp; done) | (simp; omega)) _ | refine Below.alloc ?_ (by first | omega | (simp; done) | (simp; omega)) _)
      · obtain rfl : k = n := by omega
        by_cases h128 : k = 128
        · have g0 : ((k : Int) == 128) = true := by simp; omega
          have H128 := Lib.hid h128
          clear h128
          go_wp2
          refine bodyPost_ret (v := .tuple #[.agg #[.slice none 0 0], .agg #[.int .i64 0, .int .i64 0], .int .i64 9]) (by simp [results, Try.results60, go_sem, *]) rfl ⟨.inr (.inl ⟨Hm.out, Hall.out, H128.out, rfl⟩), ?_⟩
          have bel0 := below_drewN SB4h.out q
          repeat' (first | exact Below.refl _ _ | assumption | apply Below.drew | refine Below.setCell ?_ (by first | omega | (simp; done) | (simp; omega)) _ | refine Below.alloc ?_ (by first | omega | (simp; done) | (simp; omega)) _)
        have g0 : ((k : Int) == 128) = false := by simp; omega
        have hown : (v2.drewN q).ownsRow w1.heap.size 58 2 (.slice X k c2) k (cellsR 2 (sv g b) k) := O.out
        have dT : HasBlk (v2.drewN q) (w2.heap.size) 24 #[.slice X k c2] := Tb.out
        have dZ : HasBlk (v2.drewN q) (w.heap.size + 1) 24 #[.slice none 0 0] := Z.out
        have dY : HasBlk (v2.drewN q) (w.heap.size + 1 + 1) 29 #[.int .i64 0, .int .i64 0] := Y.out
        have hbq := Lib.hid (below_drewN SB4h.out q)
        go_wp2_with (at_builtin; refine wpList_append_lies _ rfl (.tmp 69) (.tmp 71) _ rfl w1.heap.size 58 i0 _ 2 16 Try.underlying22 hi0 hz0 hz1 hz2 rfl (by omega) (.slice X k c2) (k) (cellsR 2 (sv g b) k) rfl (hown.alloc _) ⟨(v2.drewN q).heap.size, 0, none⟩ 1 1 [.int .i64 1, .bool true] (by rfl) rfl (World.news_of_block (cs := #[.int .i64 1, .bool true]) (t := 58) (fr := (0, 0)) (heap_alloc_new (v2.drewN q) _)) (by simp [Value.oneCell']) (by omega) (by unfold maxLen; omega) (by omega) (by simp; omega) ((v2.drewN q).heap.size + 1) (by simp) ?_; intro g' cap w3 hown3 hgrow hat hlt; have kT := ((dT.alloc _).grown hgrow (dT.ne_own hown (by decide))); have kZ := ((dZ.alloc _).grown hgrow (dZ.ne_own hown (by decide))); have kY := ((dY.alloc _).grown hgrow (dY.ne_own hown (by decide))); have T_0' := kT.cell 0; have T_f' := kT.frozen 0; have lT' := kT.lt; have Z_0' := kZ.cell 0; have Z_f' := kZ.frozen 0; have lZ' := kZ.lt; have Y_0' := kY.cell 0; have Y_f' := kY.frozen 0; have Y_1' := kY.cell 1; have Y_f1' := kY.frozen 1; have lY' := kY.lt; have TT := Lib.hid kT; have TZ := Lib.hid kZ; have TY := Lib.hid kY; have Hown := Lib.hid hown3; have Hgrow := Lib.hid hgrow; clear kT kZ kY hown3 hgrow dT dZ dY; have lNE1 := NE_Z_Tb.out; have rNE1 := Ne.symm lNE1; have lNE2 := NE_Y_Tb.out; have rNE2 := Ne.symm lNE2; simp at T_0' Z_0' Y_0' Y_1')
        have hT : HasBlk (w3.setCell ⟨w2.heap.size, 0, none⟩ (.slice (some ⟨g', 0, none⟩) (k + 1) cap)) (w2.heap.size) 24 #[.slice (some ⟨g', 0, none⟩) (k + 1) cap] := by
          have := TT.out.set 0 (.slice (some ⟨g', 0, none⟩) (k + 1) cap)
          simpa using this
        have hZ := TZ.out.far (p := ⟨w2.heap.size, 0, none⟩) NE_Z_Tb.out.symm (.slice (some ⟨g', 0, none⟩) (k + 1) cap)
        have hY := TY.out.far (p := ⟨w2.heap.size, 0, none⟩) NE_Y_Tb.out.symm (.slice (some ⟨g', 0, none⟩) (k + 1) cap)
        have hO := ownsRow_setCell_other (a := ⟨w2.heap.size, 0, none⟩) Hown.out (TT.out.ne_own Hown.out (by decide)) (.slice (some ⟨g', 0, none⟩) (k + 1) cap)
        have hbel : Below w.heap.size w (w3.setCell ⟨w2.heap.size, 0, none⟩ (.slice (some ⟨g', 0, none⟩) (k + 1) cap)) :=
          (below_grown (v := .slice X k c2) (base := w1.heap.size) (hbq.out.alloc (by simp; omega) _) Hgrow.out (hown.alloc _) (by omega) (by simp; omega)).setCell (by simp; omega) _
        have GN1 := Lib.hid (hZ.ne_own hO (by decide))
        have GN2 := Lib.hid (hY.ne_own hO (by decide))
        have HO := Lib.hid hO
        have HBel := Lib.hid hbel
        refine bodyPost_ret (v := .tuple #[.agg #[.slice (some ⟨g', 0, none⟩) (k + 1) cap], .agg #[.int .i64 k, .int .i64 1], .int .i64 0]) (by simp [results, Try.results60, go_sem, *]) rfl ⟨.inr (.inr ⟨Hm.out, k, k + 1, upd g k 1, upd b k true, _, cap, .inr ⟨rfl, by omega, Hall.out, rfl, rfl, rfl⟩, by rw [upd_at], ?_⟩), ?_⟩
        · rw [cellsR_grow]
          have h := own_base (b := w.heap.size) HO.out (by omega)
          repeat' (first | exact h | refine ownsRow_setCell_other ?_ (by first | exact GN1.out | exact GN2.out) _)
        · have bel0 := HBel.out
          repeat' (first | exact Below.refl _ _ | assumption | apply Below.drew | refine Below.setCell ?_ (by first | omega | (simp; done) | (simp; omega)) _ | refine Below.alloc ?_ (by first | omega | (simp; done) | (simp; omega)) _)
end Go.Proofs.Ytgkeiaggldahnaa
