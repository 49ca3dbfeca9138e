/- BytesBack from its arguments. -/
import Derived.Test.YtkblladjabpllaaB7
import Derived.Deep.QuietTactic
import Derived.BigQuiet
namespace Go.Proofs.Ytkblladjabpllaa
open Go.RowKit
set_option linter.unusedVariables false

set_option maxRecDepth 100000 in
set_option maxHeartbeats 2000000 in
theorem bytesBack_arg (v0 v1 : Value) (w : World) (h0 : Arg Try.prog w 3 v0) (h1 : Arg Try.prog w 22 v1) :
    Calls Try.prog 4 #[v0, v1] w fun e w' => e = .returned (.bool true) ∧ Below w.heap.size w w' := by
  obtain ⟨n0, rfl, _⟩ := h0.int Try.underlying3
  obtain ⟨A, n, c, b, rfl, ⟨hnc, hml⟩, hb, hs⟩ := arg_bytes h1
  clear h1 h0
  have c12 := Lib.hid alive_any
  have Hb := Lib.hid hb
  have Hs := Lib.hid hs
  clear hb hs
  unfold maxLen at hml
  by_cases hn : n ≤ 20000
  case neg =>
    go_enter Try.func4, Try.ntmps4
    go_wp2_with fail
    refine (c12.out _).mono ?_
    rintro e w1 ⟨rfl, bel1⟩
    go_wp2
    go_ret
    exact ⟨rfl, bel1⟩
  obtain ⟨i0, hi0, hz0, hz1, hz2⟩ := info_parts u8_info
  have c8 := Lib.hid (num8_calls n0)
  have hback := rd_back (n := n) Hb.out
  have c10 := Lib.hid (fun A w (hs : BS w A n b) c => read_any A n c b w hs Hb.out (by omega))
  have hL := enc_len 6 (rank n0)
  have hL1 := enc_pos 5 (rank n0)
  go_enter Try.func4, Try.ntmps4
  go_wp2_with fail
  refine (c12.out _).mono ?_
  rintro e w1 ⟨rfl, bel1⟩
  have S1 := Lib.hid (Hs.out.below bel1)
  have z1 := bel1.size
  go_wp2_with fail
  refine (c8.out _).mono ?_
  rintro e w2 ⟨hx, bel2⟩
  have S2 := Lib.hid (S1.out.below bel2)
  have z2 := bel2.size
  have bel02 := Lib.hid (bel1.trans (bel2.mono z1))
  clear bel1 bel2
  rcases hx with ⟨hin, rfl⟩ | ⟨hin, X, cx, rfl, hbx⟩
  · clear hL hL1

    go_wp2_with fail
    refine (c10.out _ _ S2.out _).mono ?_
    rintro e w9 ⟨rfl, rfl⟩
    rcases hback with hr | ⟨m, v, hr, hm, hvn, hv1, hv6, henc⟩
    · rw [hr]
      go_wp2
      go_ret
      exact ⟨rfl, bel02.out⟩
    · rw [hr]
      obtain ⟨g, off, rfl, hg, hc⟩ := S2.out (by omega)
      have c8m := Lib.hid (num8_calls m)
      have Hc := Lib.hid hc
      have Henc := Lib.hid henc
      have Hm := Lib.hid hm
      clear hc henc hm
      go_wp2_with fail
      refine (c8m.out _).mono ?_
      rintro e wy ⟨hy, bely⟩
      rcases hy with ⟨hin', rfl⟩ | ⟨hin', Y, cy, rfl, hby⟩
      · exact absurd Hm.out hin'
      · have k1 := fun q => conv_bytes (w := wy.drewN q) (c := cy) (show BS (wy.drewN q) _ _ _ from BS.of_bytes (w := wy) (hby))
        have hv : BS wy (some ⟨g, off, none⟩) v b := fun _ => ⟨g, off, rfl, Nat.lt_of_lt_of_le hg bely.size, fun i hi => (bely.cell (p := ⟨g, off + i, none⟩) hg).trans (Hc.out i (by omega))⟩
        have k2 := fun q => conv_bytes (w := wy.drewN q) (c := c) (show BS (wy.drewN q) _ v b from hv)
        have hlen : (enc 6 (rank m)).length = v := by rw [Henc.out]; simp
        have hst : strB (enc 6 (rank m)).length (fun i => (enc 6 (rank m)).getD i 0) = strB v b := by
          rw [hlen]
          refine strB_congr fun i hi => ?_
          rw [Henc.out]
          simp [List.getD, hi]
        have hcv : (v : Int) ≤ (c : Int) := by omega
        have hcv' : v ≤ c := by omega
        have hc0 : ¬ c = 0 := by omega
        have bel9 := Lib.hid (bel02.out.trans (bely.mono (by omega)))
        clear hby hv
        simp only [hst] at k1
        simp only [hlen] at k1
        rw [hlen]
        generalize strB v b = st at *
        clear hst hlen bely
        go_wp2_with fail
        go_quiet (fail)
        go_wp2
        go_ret
        exact ⟨rfl, below_drewN bel9.out _⟩

  · have hnews := S2.out.news
    unfold Bytes at hbx
    have Hin := Lib.hid hin
    have hgt : ∀ A1 c1 (w3 : World), w3.ownsRow w1.heap.size 5 1 (.slice A1 ((enc 6 (rank n0)).length + n) c1) ((enc 6 (rank n0)).length + n) ((enc 6 (rank n0)).map bv ++ cellsB n b) →
        Calls Try.prog 10 #[.slice A1 ((enc 6 (rank n0)).length + n) c1] w3 fun e w' => e = .returned (.tuple #[.int .i64 n0, .int .i64 ((enc 6 (rank n0)).length : Nat), .int .i64 0]) ∧ w3 = w' := by
      intro A1 c1 w3 hown
      have hbs : BS w3 A1 ((enc 6 (rank n0)).length + n) (fun i => if i < (enc 6 (rank n0)).length then (enc 6 (rank n0)).getD i 0 else b (i - (enc 6 (rank n0)).length)) := by
        refine BS.of_own hown _ fun i hi => ?_
        by_cases h : i < (enc 6 (rank n0)).length
        · rw [if_pos h, List.getElem?_append_left (by simpa using h)]
          simp [List.getD, h]
        · rw [if_neg h, List.getElem?_append_right (by simpa using h), List.length_map, cellsB_at (by omega)]
      have hbb : ∀ i, (if i < (enc 6 (rank n0)).length then (enc 6 (rank n0)).getD i 0 else b (i - (enc 6 (rank n0)).length)) < 256 := by
        intro i
        split
        · rename_i h
          refine enc_byte 6 (rank n0) _ ?_
          simp [List.getD, h]
        · exact Hb.out _
      have hrd := rd_enc Hin.out (fun i => if i < (enc 6 (rank n0)).length then (enc 6 (rank n0)).getD i 0 else b (i - (enc 6 (rank n0)).length)) ((enc 6 (rank n0)).length + n) (by omega) (fun j hj => by rw [if_pos hj])
      have := read_any A1 _ c1 _ w3 hbs hbb (by omega)
      rw [hrd] at this
      exact this
    have Hgt := Lib.hid hgt
    clear hgt hin
    have hl0 : ((enc 6 (rank n0)).map bv).length = (enc 6 (rank n0)).length := by simp
    generalize (enc 6 (rank n0)).map bv = EV at *
    generalize (enc 6 (rank n0)).length = L at *
    go_wp2_with (at_builtin; refine wpList_app rfl (.tmp 33) (.tmp 34) 22 rfl w1.heap.size 5 i0 _ 1 1 Try.underlying22 hi0 hz0 hz1 hz2 rfl (by omega) X cx L EV rfl hbx A n c (cellsB n b) rfl (by simp [cellsB]) hnews (cellsB_one n b) (by unfold maxLen; omega) (by omega) (by omega) ?_; intro A1 cc1 w3 hown3 hgr3)
    have bel03 := Lib.hid (below_grown (v := .slice X L cx) bel02.out hgr3 hbx (by omega) (by omega))
    have z3 := hgr3.size
    have S3 : Hid (BS w3 A n b) := Lib.hid (Hs.out.below bel03.out)
    have D3 := Lib.hid hown3
    clear hown3 hgr3 hbx hnews
    go_wp2_with fail
    refine (Hgt.out _ _ _ D3.out).mono ?_
    rintro e w4 ⟨rfl, rfl⟩
    clear Hgt D3

    go_wp2_with fail
    refine (c10.out _ _ S3.out _).mono ?_
    rintro e w9 ⟨rfl, rfl⟩
    rcases hback with hr | ⟨m, v, hr, hm, hvn, hv1, hv6, henc⟩
    · rw [hr]
      go_wp2
      go_ret
      exact ⟨rfl, bel03.out⟩
    · rw [hr]
      obtain ⟨g, off, rfl, hg, hc⟩ := S3.out (by omega)
      have c8m := Lib.hid (num8_calls m)
      have Hc := Lib.hid hc
      have Henc := Lib.hid henc
      have Hm := Lib.hid hm
      clear hc henc hm
      go_wp2_with fail
      refine (c8m.out _).mono ?_
      rintro e wy ⟨hy, bely⟩
      rcases hy with ⟨hin', rfl⟩ | ⟨hin', Y, cy, rfl, hby⟩
      · exact absurd Hm.out hin'
      · have k1 := fun q => conv_bytes (w := wy.drewN q) (c := cy) (show BS (wy.drewN q) _ _ _ from BS.of_bytes (w := wy) (hby))
        have hv : BS wy (some ⟨g, off, none⟩) v b := fun _ => ⟨g, off, rfl, Nat.lt_of_lt_of_le hg bely.size, fun i hi => (bely.cell (p := ⟨g, off + i, none⟩) hg).trans (Hc.out i (by omega))⟩
        have k2 := fun q => conv_bytes (w := wy.drewN q) (c := c) (show BS (wy.drewN q) _ v b from hv)
        have hlen : (enc 6 (rank m)).length = v := by rw [Henc.out]; simp
        have hst : strB (enc 6 (rank m)).length (fun i => (enc 6 (rank m)).getD i 0) = strB v b := by
          rw [hlen]
          refine strB_congr fun i hi => ?_
          rw [Henc.out]
          simp [List.getD, hi]
        have hcv : (v : Int) ≤ (c : Int) := by omega
        have hcv' : v ≤ c := by omega
        have hc0 : ¬ c = 0 := by omega
        have bel9 := Lib.hid (bel03.out.trans (bely.mono (by omega)))
        clear hby hv
        simp only [hst] at k1
        simp only [hlen] at k1
        rw [hlen]
        generalize strB v b = st at *
        clear hst hlen bely
        go_wp2_with fail
        go_quiet (fail)
        go_wp2
        go_ret
        exact ⟨rfl, below_drewN bel9.out _⟩

end Go.Proofs.Ytkblladjabpllaa
