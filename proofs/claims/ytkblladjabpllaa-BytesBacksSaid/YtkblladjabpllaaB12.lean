/- BytesBacks from its arguments. -/
import Derived.Test.YtkblladjabpllaaB11
import Derived.Test.YtkblladjabpllaaBacks
import Derived.Deep.QuietTactic
import Derived.BigQuiet
namespace Go.Proofs.Ytkblladjabpllaa
open Go.RowKit
set_option linter.unusedVariables false
theorem lres_ok {n : Nat} {l : Nat → Int} (hn : n ≤ 65536) (hin : ∀ i, i < n → InB (l i)) : lres n l = (lst l n n, 0) := by
  unfold lres; rw [if_neg (by omega), if_neg (fun ⟨i, hi, hn⟩ => hn (hin i hi))]
theorem lst_len2 (l : Nat → Int) (n : Nat) : (lst l n n).length ≤ 6 * n + 6 := lst_len l n n

set_option maxRecDepth 100000 in
set_option maxHeartbeats 4000000 in
theorem bytesBacks_arg (v0 v1 v2 : Value) (w : World) (h0 : Arg Try.prog w 34 v0) (h1 : Arg Try.prog w 22 v1) (h2 : Arg Try.prog w 3 v2) :
    Calls Try.prog 7 #[v0, v1, v2] w fun e w' => e = .returned (.bool true) ∧ Below w.heap.size w w' := by
  obtain ⟨most, rfl, _⟩ := h2.int Try.underlying3
  obtain ⟨A, n, c, l, rfl, ⟨hnc, hcm⟩, -, hl⟩ := arg_ints Try.underlying34 Try.underlying3 (by kernel_rfl) h0
  obtain ⟨D, nb, d, b, rfl, ⟨hnb, hcm'⟩, hb, hs⟩ := arg_bytes h1
  clear h0 h1 h2
  have HL := Lib.hid hl
  have Hs := Lib.hid hs
  have Hb := Lib.hid hb
  have hcm2 := hcm'
  unfold maxLen at hcm hcm2
  have c12 := Lib.hid alive_any
  clear hl hs hb
  by_cases hn1 : 5000 < n
  · go_enter Try.func7, Try.ntmps7
    go_wp2_with fail
    refine (c12.out _).mono ?_
    rintro e w1 ⟨rfl, bel1⟩
    go_wp2
    go_ret
    exact ⟨rfl, bel1⟩
  by_cases hn2 : 20000 < nb
  · go_enter Try.func7, Try.ntmps7
    go_wp2_with fail
    refine (c12.out _).mono ?_
    rintro e w1 ⟨rfl, bel1⟩
    go_wp2
    go_ret
    exact ⟨rfl, bel1⟩
  obtain ⟨i0, hi0, hz0, hz1, hz2⟩ := info_parts u8_info
  have hsecond : Hid (rdList b nb most = rdList b nb most) := rfl
  have hback := Lib.hid (rdList_back (n := nb) (most := most) Hb.out)
  go_enter Try.func7, Try.ntmps7
  go_wp2_with fail
  refine (c12.out _).mono ?_
  rintro e w1 ⟨rfl, bel1⟩
  have L1 := Lib.hid (HL.out.below bel1)
  have S1 := Lib.hid (Hs.out.below bel1)
  have z1 := bel1.size
  clear c12 hsecond
  go_wp2_with fail
  refine (list13_calls _ _ _ l _ L1.out (by omega)).mono ?_
  rintro e w2 ⟨hx, bel2⟩
  have L2 := Lib.hid (L1.out.below bel2)
  have S2 := Lib.hid (S1.out.below bel2)
  have z2 := bel2.size
  have B2 := Lib.hid (bel1.trans (bel2.mono z1))
  clear bel1 bel2 L1 S1
  rcases hx with ⟨h1, rfl⟩ | ⟨h1, h2, rfl⟩ | ⟨h1, h2, X, cx, rfl, hbx⟩
  · exact absurd h1 (by omega)
  · clear h2
    go_wp2_with fail
    refine (readlist_calls _ _ _ b most _ S2.out Hb.out hnb hcm').mono ?_
    rintro e w8 ⟨⟨M, cm, rfl, hM⟩, bel8⟩
    have z8 := bel8.size
    have S8 := Lib.hid (S2.out.below bel8)
    have B8 := Lib.hid (B2.out.trans (bel8.mono (by omega)))
    clear bel8
    rcases hback.out with ⟨e, he0, he, hr⟩ | ⟨ms, q, hr, hm1, hm2, hm3, hq, hq1, hlst⟩
    · rw [hr]
      clear hM
      rcases he with rfl | rfl
      all_goals
        go_wp2
        go_ret
        exact ⟨rfl, B8.out⟩
    · rw [hr] at hM ⊢
      have M8 := Lib.hid (IS.of_own hM (fun i => ms.getD i 0) (fun i hi => by simp [List.getD, hi]))
      obtain ⟨g, off, rfl, hg, hc⟩ := S8.out (by omega)
      have Hc := Lib.hid hc
      have Hlst := Lib.hid hlst
      have Hm3 := Lib.hid hm3
      clear hM hc hlst hm3 S8
      generalize hml : ms.length = ml at *
      have Hml := Lib.hid hml
      clear hml
      go_wp2_with fail
      refine (list13_calls _ _ _ (fun i => ms.getD i 0) _ M8.out (by omega)).mono ?_
      rintro e wy ⟨hy, bely⟩
      obtain ⟨Y, cy, rfl, hby⟩ := hy.res
      have hok : lres ml (fun i => ms.getD i 0) = (lst (fun i => ms.getD i 0) ml ml, 0) := lres_ok hm1 fun i hi => Hm3.out _ (by
        have hi' : i < ms.length := by rw [Hml.out]; exact hi
        simp [List.getD, List.getElem?_eq_getElem hi'])
      rw [hok] at hby ⊢
      dsimp only at hby ⊢
      clear hok hy
      have hlen : (lst (fun i => ms.getD i 0) ml ml).length = q := by rw [Hlst.out]; simp
      have hst : strB (lst (fun i => ms.getD i 0) ml ml).length (fun i => (lst (fun i => ms.getD i 0) ml ml).getD i 0) = strB q b := by
        rw [hlen]
        refine strB_congr fun i hi => ?_
        rw [Hlst.out]
        simp [List.getD, hi]
      have hv : BS wy (some ⟨g, off, none⟩) q b := fun _ => ⟨g, off, rfl, Nat.lt_of_lt_of_le hg bely.size, fun i hi => (bely.cell (p := ⟨g, off + i, none⟩) hg).trans (Hc.out i (by omega))⟩
      have k1 := fun t => conv_bytes (w := wy.drewN t) (c := cy) (show BS (wy.drewN t) _ _ _ from BS.of_bytes (w := wy) hby)
      have k2 := fun t => conv_bytes (w := wy.drewN t) (c := d) (show BS (wy.drewN t) _ q b from hv)
      have hcv : (q : Int) ≤ (d : Int) := by omega
      have hcv' : q ≤ d := by omega
      have hc0 : ¬ d = 0 := by omega
      have B9 := Lib.hid (B8.out.trans (bely.mono (by omega)))
      clear hby hv bely B8 hback
      simp only [hst] at k1
      simp only [hlen] at k1
      rw [hlen]
      generalize strB q b = st at *
      clear hst hlen M8
      go_wp2_with fail
      go_quiet (fail)
      go_wp2
      go_ret
      exact ⟨rfl, below_drewN B9.out _⟩

  · have hnews := S2.out.news
    unfold Bytes at hbx
    have hll := lst_len2 l n
    have Hin := Lib.hid h2
    have hgt : ∀ A1 c1 (w3 : World), w3.ownsRow w2.heap.size 5 1 (.slice A1 ((lst l n n).length + nb) c1) ((lst l n n).length + nb) ((lst l n n).map bv ++ cellsB nb b) → 
        Calls Try.prog 15 #[.slice A1 ((lst l n n).length + nb) c1, .int .i64 (n : Int)] w3 fun e w' => (∃ A c, e = .returned (.tuple #[.slice A n c, .int .i64 ((lst l n n).length : Nat), .int .i64 0]) ∧ IS w' A n l) ∧ Below w3.heap.size w3 w' := by
      intro A1 c1 w3 hown
      have hbs : BS w3 A1 ((lst l n n).length + nb) (fun i => if i < (lst l n n).length then (lst l n n).getD i 0 else b (i - (lst l n n).length)) := by
        refine BS.of_own hown _ fun i hi => ?_
        by_cases h : i < (lst l n n).length
        · rw [if_pos h, List.getElem?_append_left (by simpa using h)]
          simp [List.getD, h]
        · rw [if_neg h, List.getElem?_append_right (by simpa using h), List.length_map, cellsB_at (by omega)]
      have hbb : ∀ i, (if i < (lst l n n).length then (lst l n n).getD i 0 else b (i - (lst l n n).length)) < 256 := by
        intro i
        split
        · rename_i h
          refine lst_byte l n n _ ?_
          simp [List.getD, h]
        · exact Hb.out _
      have hcc : (lst l n n).length + nb ≤ c1 ∧ c1 ≤ maxLen := by
        obtain ⟨A', c', e, k1, k2, _⟩ := own_at hown
        injection e with _ _ e3
        subst e3
        exact ⟨k1, k2⟩
      have hrd := rdList_lst l n ((lst l n n).length + nb) (fun i => if i < (lst l n n).length then (lst l n n).getD i 0 else b (i - (lst l n n).length)) h1 Hin.out (by omega) (fun j hj => by rw [if_pos hj])
      have := readlist_calls A1 _ c1 _ (n : Int) w3 hbs hbb hcc.1 hcc.2
      rw [hrd] at this
      refine this.mono ?_
      rintro e w' ⟨⟨M, cm, rfl, hM⟩, bel⟩
      have hl0 : ((List.range n).map l).length = n := by simp
      dsimp only at hM
      rw [hl0] at hM
      refine ⟨⟨M, cm, by rw [hl0], IS.of_own hM l fun i hi => by simp [hi]⟩, bel⟩
    have Hgt := Lib.hid hgt
    have X2 := own_at hbx
    obtain ⟨A', c', e, _, _, hat⟩ := X2
    injection e with e1 _ e3
    subst e1
    subst e3
    have hone : ∀ u ∈ (lst l n n).map bv, u.oneCell' = true := by
      intro u hu
      obtain ⟨y, _, rfl⟩ := List.mem_map.1 hu
      rfl
    have hl0 : ((lst l n n).map bv).length = (lst l n n).length := by simp
    have hn1' : 0 < (lst l n n).length → ∃ ad, X = some ad ∧ ∀ j u, ((lst l n n).map bv)[j]? = some u → w2.cell? (ad.add j) = some u := by
      intro h0
      obtain ⟨g, rfl, _, _, hcc⟩ := hat h0
      refine ⟨_, rfl, fun j u hj => ?_⟩
      have hjl : j < (lst l n n).length := by
        have := (List.getElem?_eq_some_iff.1 hj).1
        simpa using this
      rw [Addr.add_lit, Nat.zero_add, hcc j (by omega), hj]
    clear hgt hbx hat h2 Hin
    generalize (lst l n n).map bv = LB at *
    generalize (lst l n n).length = L at *
    have hlit : (w2.alloc (.cells #[] 5)).ownsRow w2.heap.size 5 1 (.slice (some ⟨w2.heap.size, 0, none⟩) 0 0) 0 [] := World.ownsRow_lit w2 #[] 0 (Nat.le_refl _) (Nat.zero_le _) rfl
    have hal : Below w2.heap.size w2 (w2.alloc (.cells #[] 5)) := (Below.refl w2.heap.size w2).alloc (Nat.le_refl _) _
    have hn1a : 0 < L → ∃ ad, X = some ad ∧ ∀ j u, LB[j]? = some u → (w2.alloc (.cells #[] 5)).cell? (ad.add j) = some u := by
      intro h0
      obtain ⟨ad, e, h⟩ := hn1' h0
      refine ⟨ad, e, fun j u hj => ?_⟩
      have h' := h j u hj
      have hb : (ad.add j).block < w2.heap.size := World.block_lt_of_cell? w2 _ h'
      exact (hal.cell hb).trans h'
    have Hal := Lib.hid hal
    clear hn1' hal hnews
    go_wp2_with (first
      | (at_builtin; refine wpList_app rfl (.tmp 40) (.tmp 41) 22 rfl w2.heap.size 5 i0 _ 1 1 Try.underlying22 hi0 hz0 hz1 hz2 rfl (by omega) (some ⟨w2.heap.size, 0, none⟩) 0 0 [] rfl hlit X L _ LB rfl (by rw [hl0, Nat.mul_one]) hn1a hone (by unfold maxLen; omega) (by omega) (by simp) ?_; intro A1 c1 w3 hown1 hgr1; simp only [Nat.zero_add, List.nil_append] at hown1 ⊢; have hb3 := Lib.hid (below_grown (v := .slice (some ⟨w2.heap.size, 0, none⟩) 0 0) Hal.out hgr1 hlit (Nat.le_refl _) (by simp)); have hs3 := (S2.out.below hb3.out).news; have zz3 := hb3.out.size)
      | (at_builtin; refine wpList_app rfl (.tmp 42) (.tmp 43) 22 rfl w2.heap.size 5 i0 _ 1 1 Try.underlying22 hi0 hz0 hz1 hz2 rfl (by omega) A1 c1 L LB rfl hown1 D nb d (cellsB nb b) rfl (by simp [cellsB]) hs3 (cellsB_one nb b) (by unfold maxLen; omega) (by omega) (by omega) ?_; intro A2 c2 w4 hown2 hgr2))
    have hb4 := below_grown (v := .slice A1 L c1) hb3.out hgr2 hown1 (Nat.le_refl _) (by omega)
    have z4 := hb4.size
    have B4 := Lib.hid (B2.out.trans (hb4.mono (by omega)))
    have L4 := Lib.hid (L2.out.below hb4)
    have S4 := Lib.hid (S2.out.below hb4)
    have D4 := Lib.hid hown2
    clear hown2 hgr2 hown1 hgr1 hs3 hlit hn1a hb3 hb4
    go_wp2_with fail
    refine (Hgt.out _ _ _ D4.out).mono ?_
    rintro e w5 ⟨⟨M, cm, rfl, hM⟩, bel5⟩
    have M5 := Lib.hid hM
    have z5 := bel5.size
    have B5 := Lib.hid (B4.out.trans (bel5.mono (by omega)))
    have L5 := Lib.hid (L4.out.below bel5)
    have S5 := Lib.hid (S4.out.below bel5)
    clear Hgt D4 hM bel5 B4 L4 S4
    go_wp2_with fail
    refine (numbers_true _ _ n _ _ l l _ M5.out L5.out (by omega) (fun _ _ => rfl)).mono ?_
    rintro e w6 ⟨rfl, bel6⟩
    have z6 := bel6.size
    have B6 := Lib.hid (B5.out.trans (bel6.mono (by omega)))
    have S6 := Lib.hid (S5.out.below bel6)
    clear bel6 B5 S5 M5 L5
    go_wp2_with fail
    refine (readlist_calls _ _ _ b most _ S6.out Hb.out hnb hcm').mono ?_
    rintro e w8 ⟨⟨M, cm, rfl, hM⟩, bel8⟩
    have z8 := bel8.size
    have S8 := Lib.hid (S6.out.below bel8)
    have B8 := Lib.hid (B6.out.trans (bel8.mono (by omega)))
    clear bel8
    rcases hback.out with ⟨e, he0, he, hr⟩ | ⟨ms, q, hr, hm1, hm2, hm3, hq, hq1, hlst⟩
    · rw [hr]
      clear hM
      rcases he with rfl | rfl
      all_goals
        go_wp2
        go_ret
        exact ⟨rfl, B8.out⟩
    · rw [hr] at hM ⊢
      have M8 := Lib.hid (IS.of_own hM (fun i => ms.getD i 0) (fun i hi => by simp [List.getD, hi]))
      obtain ⟨g, off, rfl, hg, hc⟩ := S8.out (by omega)
      have Hc := Lib.hid hc
      have Hlst := Lib.hid hlst
      have Hm3 := Lib.hid hm3
      clear hM hc hlst hm3 S8
      generalize hml : ms.length = ml at *
      have Hml := Lib.hid hml
      clear hml
      go_wp2_with fail
      refine (list13_calls _ _ _ (fun i => ms.getD i 0) _ M8.out (by omega)).mono ?_
      rintro e wy ⟨hy, bely⟩
      obtain ⟨Y, cy, rfl, hby⟩ := hy.res
      have hok : lres ml (fun i => ms.getD i 0) = (lst (fun i => ms.getD i 0) ml ml, 0) := lres_ok hm1 fun i hi => Hm3.out _ (by
        have hi' : i < ms.length := by rw [Hml.out]; exact hi
        simp [List.getD, List.getElem?_eq_getElem hi'])
      rw [hok] at hby ⊢
      dsimp only at hby ⊢
      clear hok hy
      have hlen : (lst (fun i => ms.getD i 0) ml ml).length = q := by rw [Hlst.out]; simp
      have hst : strB (lst (fun i => ms.getD i 0) ml ml).length (fun i => (lst (fun i => ms.getD i 0) ml ml).getD i 0) = strB q b := by
        rw [hlen]
        refine strB_congr fun i hi => ?_
        rw [Hlst.out]
        simp [List.getD, hi]
      have hv : BS wy (some ⟨g, off, none⟩) q b := fun _ => ⟨g, off, rfl, Nat.lt_of_lt_of_le hg bely.size, fun i hi => (bely.cell (p := ⟨g, off + i, none⟩) hg).trans (Hc.out i (by omega))⟩
      have k1 := fun t => conv_bytes (w := wy.drewN t) (c := cy) (show BS (wy.drewN t) _ _ _ from BS.of_bytes (w := wy) hby)
      have k2 := fun t => conv_bytes (w := wy.drewN t) (c := d) (show BS (wy.drewN t) _ q b from hv)
      have hcv : (q : Int) ≤ (d : Int) := by omega
      have hcv' : q ≤ d := by omega
      have hc0 : ¬ d = 0 := by omega
      have B9 := Lib.hid (B8.out.trans (bely.mono (by omega)))
      clear hby hv bely B8 hback
      simp only [hst] at k1
      simp only [hlen] at k1
      rw [hlen]
      generalize strB q b = st at *
      clear hst hlen M8
      go_wp2_with fail
      go_quiet (fail)
      go_wp2
      go_ret
      exact ⟨rfl, below_drewN B9.out _⟩

end Go.Proofs.Ytkblladjabpllaa
