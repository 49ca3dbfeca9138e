/- nodes: NodesNames. -/
import Derived.Test.YtgkeiaggldahnaaKl
namespace Go.Proofs.Ytgkeiaggldahnaa
open Go.RowKit
set_option linter.unusedVariables false
theorem mk_lists (W : World) : (Instr.makeSlice 25 (.int .i64 1) (.int .i64 1)).run Try.prog W = .ok (.slice (some ⟨W.heap.size, 0, none⟩) 1 1) (W.alloc (.cells #[.slice none 0 0] 32)) := by
  obtain ⟨i0, hi0, hz0, hz1, hz2⟩ := info_parts list_info
  have h := make_full Try.underlying25 hi0 hz0 1 (by omega) (by omega) W
  rw [hz1] at h
  have e : madeCells (Value.slice none 0 0).cells (1 * 1) = #[.slice none 0 0] := by kernel_rfl
  rw [e] at h
  exact h
theorem zlist_ok (W : World) : GOk (W.alloc (.cells #[.slice none 0 0] 32)) ⟨none, 0, some ⟨W.heap.size, 0, none⟩, 1, fun _ => none, fun _ => 0⟩ (⟨0, fun _ => 0, fun _ => false, 1, fun _ => 0, fun _ _ => 0, fun _ _ => 0⟩ : GD) :=
  ⟨Row.zero _ _ _ _, Row.of_blk (hasBlk_new W 32 #[.slice none 0 0]) (fun i hi j hj => by
    have hi : i < 1 := hi
    obtain rfl : i = 0 := by omega
    obtain rfl : j = 0 := by omega
    rfl), fun i hi => Row.zero _ _ _ _⟩
set_option maxRecDepth 100000 in
set_option maxHeartbeats 8000000 in
theorem nodesNames_arg (w : World) : Calls Try.prog 6 #[] w fun e w' => e = .returned (.bool true) ∧ Below w.heap.size w w' := by
  go_enter Try.func6, Try.ntmps6
  go_wp2_with fail
  refine (three_any w).mono ?_
  rintro e w1 ⟨⟨d, p, th, rfl, ok⟩, bel⟩
  have TH := Lib.hid th
  have B0 := Lib.hid bel
  have OK0 := Lib.hid ok
  clear th ok bel
  go_upto_region 2 with fail
  have bA := ((Below.refl w1.heap.size w1).alloc (Nat.le_refl _) (.cells #[.slice p.A d.n p.c, .slice p.K d.m p.kc] 27)).alloc (by simp) (.cells #[.int .i64 0, .int .i64 1, .int .i64 1, .int .i64 1, .int .i64 2, .int .i64 1] 51)
  have G := Lib.hid (show HasBlk ((w1.alloc (.cells #[.slice p.A d.n p.c, .slice p.K d.m p.kc] 27)).alloc (.cells #[.int .i64 0, .int .i64 1, .int .i64 1, .int .i64 1, .int .i64 2, .int .i64 1] 51)) w1.heap.size 27 #[.slice p.A d.n p.c, .slice p.K d.m p.kc] from (hasBlk_new w1 27 _).alloc _)
  have H := Lib.hid (show HasBlk ((w1.alloc (.cells #[.slice p.A d.n p.c, .slice p.K d.m p.kc] 27)).alloc (.cells #[.int .i64 0, .int .i64 1, .int .i64 1, .int .i64 1, .int .i64 2, .int .i64 1] 51)) (w1.heap.size + 1) 51 #[.int .i64 0, .int .i64 1, .int .i64 1, .int .i64 1, .int .i64 2, .int .i64 1] by simpa using hasBlk_new (w1.alloc (.cells #[.slice p.A d.n p.c, .slice p.K d.m p.kc] 27)) 51 #[.int .i64 0, .int .i64 1, .int .i64 1, .int .i64 1, .int .i64 2, .int .i64 1])
  have OK := Lib.hid (OK0.out.below bA)
  have B := Lib.hid (B0.out.trans (bA.mono B0.out.size))
  clear bA OK0 B0
  generalize gw : ((w1.alloc (.cells #[.slice p.A d.n p.c, .slice p.K d.m p.kc] 27)).alloc (.cells #[.int .i64 0, .int .i64 1, .int .i64 1, .int .i64 1, .int .i64 2, .int .i64 1] 51)) = w2 at *
  obtain ⟨a, ha⟩ : ∃ a, a = w1.heap.size := ⟨_, rfl⟩
  rw [← ha] at G H ⊢
  clear ha gw
  have KX := Lib.hid (linkg_any d.ex p TH.out.ex.2.1 2 1 0 1 0 w2 OK.out)
  have gc0 := G.out.cell 0
  have gc1 := G.out.cell 1
  have gz := G.out.lt
  have hc0 := H.out.cell 0
  have hc1 := H.out.cell 1
  have hc2 := H.out.cell 2
  have hc3 := H.out.cell 3
  have hc4 := H.out.cell 4
  have hc5 := H.out.cell 5
  have hz := H.out.lt
  simp at gc0 gc1 hc0 hc1 hc2 hc3 hc4 hc5
  go_wp2_with fail
  refine KX.out.mono ?_
  rintro e w3 ⟨hx, bel⟩
  clear gc0 gc1 hc0 hc1 hc2 hc3 hc4 hc5 gz hz
  clear KX
  have G' := Lib.hid (G.out.below bel)
  clear G
  have G := Lib.hid G'.out
  clear G'
  have H' := Lib.hid (H.out.below bel)
  clear H
  have H := Lib.hid H'.out
  clear H'
  have OK' := Lib.hid (OK.out.below bel)
  clear OK
  have OK := Lib.hid OK'.out
  clear OK'
  have B' := Lib.hid (B.out.trans (bel.mono B.out.size))
  clear B
  have B := Lib.hid B'.out
  clear B'
  clear bel
  rcases hx with ⟨_, rfl⟩ | ⟨h, _⟩
  rotate_left
  · rw [show linkE d.ex 2 1 0 1 0 = 60 from TH.out.e1] at h
    exact absurd h (by decide)
  rw [show linkE d.ex 2 1 0 1 0 = 60 from TH.out.e1]
  go_upto_region 3 with fail
  have bel := (Below.refl w3.heap.size w3).alloc (Nat.le_refl _) (.cells #[.slice none 0 0, .slice none 0 0] 27)
  have E1 := Lib.hid (show HasBlk (w3.alloc (.cells #[.slice none 0 0, .slice none 0 0] 27)) w3.heap.size 27 #[.slice none 0 0, .slice none 0 0] from hasBlk_new w3 27 _)
  have G' := Lib.hid (G.out.below bel)
  clear G
  have G := Lib.hid G'.out
  clear G'
  have H' := Lib.hid (H.out.below bel)
  clear H
  have H := Lib.hid H'.out
  clear H'
  have OK' := Lib.hid (OK.out.below bel)
  clear OK
  have OK := Lib.hid OK'.out
  clear OK'
  have B' := Lib.hid (B.out.trans (bel.mono B.out.size))
  clear B
  have B := Lib.hid B'.out
  clear B'
  obtain ⟨xE1, hxE1⟩ : ∃ x, x = w3.heap.size := ⟨_, rfl⟩
  rw [← hxE1] at E1 ⊢
  clear hxE1 bel
  generalize (w3.alloc (.cells #[.slice none 0 0, .slice none 0 0] 27)) = w4 at *
  have KX := Lib.hid (linkg_any d.ex p TH.out.ex.2.1 2 1 2 1 0 w4 OK.out)
  have gc0 := G.out.cell 0
  have gc1 := G.out.cell 1
  have gz := G.out.lt
  have hc0 := H.out.cell 0
  have hc1 := H.out.cell 1
  have hc2 := H.out.cell 2
  have hc3 := H.out.cell 3
  have hc4 := H.out.cell 4
  have hc5 := H.out.cell 5
  have hz := H.out.lt
  simp at gc0 gc1 hc0 hc1 hc2 hc3 hc4 hc5
  go_wp2_with fail
  refine KX.out.mono ?_
  rintro e w5 ⟨hx, bel⟩
  clear gc0 gc1 hc0 hc1 hc2 hc3 hc4 hc5 gz hz
  clear KX
  have G' := Lib.hid (G.out.below bel)
  clear G
  have G := Lib.hid G'.out
  clear G'
  have H' := Lib.hid (H.out.below bel)
  clear H
  have H := Lib.hid H'.out
  clear H'
  have OK' := Lib.hid (OK.out.below bel)
  clear OK
  have OK := Lib.hid OK'.out
  clear OK'
  have E1' := Lib.hid (E1.out.below bel)
  clear E1
  have E1 := Lib.hid E1'.out
  clear E1'
  have B' := Lib.hid (B.out.trans (bel.mono B.out.size))
  clear B
  have B := Lib.hid B'.out
  clear B'
  clear bel
  rcases hx with ⟨_, rfl⟩ | ⟨h, _⟩
  rotate_left
  · rw [show linkE d.ex 2 1 2 1 0 = 60 from TH.out.e2] at h
    exact absurd h (by decide)
  rw [show linkE d.ex 2 1 2 1 0 = 60 from TH.out.e2]
  go_upto_region 4 with fail
  have bel := (Below.refl w5.heap.size w5).alloc (Nat.le_refl _) (.cells #[.slice none 0 0, .slice none 0 0] 27)
  have E2 := Lib.hid (show HasBlk (w5.alloc (.cells #[.slice none 0 0, .slice none 0 0] 27)) w5.heap.size 27 #[.slice none 0 0, .slice none 0 0] from hasBlk_new w5 27 _)
  have G' := Lib.hid (G.out.below bel)
  clear G
  have G := Lib.hid G'.out
  clear G'
  have H' := Lib.hid (H.out.below bel)
  clear H
  have H := Lib.hid H'.out
  clear H'
  have OK' := Lib.hid (OK.out.below bel)
  clear OK
  have OK := Lib.hid OK'.out
  clear OK'
  have E1' := Lib.hid (E1.out.below bel)
  clear E1
  have E1 := Lib.hid E1'.out
  clear E1'
  have B' := Lib.hid (B.out.trans (bel.mono B.out.size))
  clear B
  have B := Lib.hid B'.out
  clear B'
  obtain ⟨xE2, hxE2⟩ : ∃ x, x = w5.heap.size := ⟨_, rfl⟩
  rw [← hxE2] at E2 ⊢
  clear hxE2 bel
  generalize (w5.alloc (.cells #[.slice none 0 0, .slice none 0 0] 27)) = w6 at *
  have KX := Lib.hid (linkg_any d.ex p TH.out.ex.2.1 0 1 2 1 3 w6 OK.out)
  have gc0 := G.out.cell 0
  have gc1 := G.out.cell 1
  have gz := G.out.lt
  have hc0 := H.out.cell 0
  have hc1 := H.out.cell 1
  have hc2 := H.out.cell 2
  have hc3 := H.out.cell 3
  have hc4 := H.out.cell 4
  have hc5 := H.out.cell 5
  have hz := H.out.lt
  simp at gc0 gc1 hc0 hc1 hc2 hc3 hc4 hc5
  go_wp2_with fail
  refine KX.out.mono ?_
  rintro e w7 ⟨hx, bel⟩
  clear gc0 gc1 hc0 hc1 hc2 hc3 hc4 hc5 gz hz
  clear KX
  have G' := Lib.hid (G.out.below bel)
  clear G
  have G := Lib.hid G'.out
  clear G'
  have H' := Lib.hid (H.out.below bel)
  clear H
  have H := Lib.hid H'.out
  clear H'
  have OK' := Lib.hid (OK.out.below bel)
  clear OK
  have OK := Lib.hid OK'.out
  clear OK'
  have E1' := Lib.hid (E1.out.below bel)
  clear E1
  have E1 := Lib.hid E1'.out
  clear E1'
  have E2' := Lib.hid (E2.out.below bel)
  clear E2
  have E2 := Lib.hid E2'.out
  clear E2'
  have B' := Lib.hid (B.out.trans (bel.mono B.out.size))
  clear B
  have B := Lib.hid B'.out
  clear B'
  clear bel
  rcases hx with ⟨_, rfl⟩ | ⟨h, _⟩
  rotate_left
  · rw [show linkE d.ex 0 1 2 1 3 = 2 from TH.out.e3] at h
    exact absurd h (by decide)
  rw [show linkE d.ex 0 1 2 1 3 = 2 from TH.out.e3]
  go_upto_region 5 with fail
  have bel := (Below.refl w7.heap.size w7).alloc (Nat.le_refl _) (.cells #[.slice none 0 0, .slice none 0 0] 27)
  have E3 := Lib.hid (show HasBlk (w7.alloc (.cells #[.slice none 0 0, .slice none 0 0] 27)) w7.heap.size 27 #[.slice none 0 0, .slice none 0 0] from hasBlk_new w7 27 _)
  have G' := Lib.hid (G.out.below bel)
  clear G
  have G := Lib.hid G'.out
  clear G'
  have H' := Lib.hid (H.out.below bel)
  clear H
  have H := Lib.hid H'.out
  clear H'
  have OK' := Lib.hid (OK.out.below bel)
  clear OK
  have OK := Lib.hid OK'.out
  clear OK'
  have E1' := Lib.hid (E1.out.below bel)
  clear E1
  have E1 := Lib.hid E1'.out
  clear E1'
  have E2' := Lib.hid (E2.out.below bel)
  clear E2
  have E2 := Lib.hid E2'.out
  clear E2'
  have B' := Lib.hid (B.out.trans (bel.mono B.out.size))
  clear B
  have B := Lib.hid B'.out
  clear B'
  obtain ⟨xE3, hxE3⟩ : ∃ x, x = w7.heap.size := ⟨_, rfl⟩
  rw [← hxE3] at E3 ⊢
  clear hxE3 bel
  generalize (w7.alloc (.cells #[.slice none 0 0, .slice none 0 0] 27)) = w8 at *
  have AV := Lib.hid (show askv (d.ex.link 0 1 2 1) (HeldA (d.ex.link 0 1 2 1).n (d.ex.link 0 1 2 1).g (d.ex.link 0 1 2 1).b 0 1) = 0 from askv_ok TH.out.e4.2.1 (TH.out.ex.2.2.1 0 (by omega)))
  have KN := Lib.hid (show kidN (d.ex.link 0 1 2 1) 0 1 = 3 by
    unfold kidN
    rw [if_pos AV.out]
    exact TH.out.e4.2.2.1)
  have KX := Lib.hid (linkg_any d.ex p TH.out.ex.2.1 0 1 2 1 1 w8 OK.out)
  have gc0 := G.out.cell 0
  have gc1 := G.out.cell 1
  have gz := G.out.lt
  have hc0 := H.out.cell 0
  have hc1 := H.out.cell 1
  have hc2 := H.out.cell 2
  have hc3 := H.out.cell 3
  have hc4 := H.out.cell 4
  have hc5 := H.out.cell 5
  have hz := H.out.lt
  simp at gc0 gc1 hc0 hc1 hc2 hc3 hc4 hc5
  go_wp2_with fail
  refine KX.out.mono ?_
  rintro e w9 ⟨hx, bel⟩
  clear gc0 gc1 hc0 hc1 hc2 hc3 hc4 hc5 gz hz
  clear KX
  have G' := Lib.hid (G.out.below bel)
  clear G
  have G := Lib.hid G'.out
  clear G'
  have H' := Lib.hid (H.out.below bel)
  clear H
  have H := Lib.hid H'.out
  clear H'
  have OK' := Lib.hid (OK.out.below bel)
  clear OK
  have OK := Lib.hid OK'.out
  clear OK'
  have E1' := Lib.hid (E1.out.below bel)
  clear E1
  have E1 := Lib.hid E1'.out
  clear E1'
  have E2' := Lib.hid (E2.out.below bel)
  clear E2
  have E2 := Lib.hid E2'.out
  clear E2'
  have E3' := Lib.hid (E3.out.below bel)
  clear E3
  have E3 := Lib.hid E3'.out
  clear E3'
  have B' := Lib.hid (B.out.trans (bel.mono B.out.size))
  clear B
  have B := Lib.hid B'.out
  clear B'
  clear bel
  rcases hx with ⟨h, _⟩ | ⟨_, pl, rfl, hown⟩
  · exact absurd (show linkE d.ex 0 1 2 1 1 = 0 from TH.out.e4.1) h
  have OL := Lib.hid (show GOk _ pl (d.ex.link 0 1 2 1) from hown.ok)
  clear hown
  go_upto_region 6 with fail
  have bel := (Below.refl w9.heap.size w9).alloc (Nat.le_refl _) (.cells #[.slice pl.A d.ex.n pl.c, .slice pl.K d.ex.m pl.kc] 27)
  have X := Lib.hid (show HasBlk (w9.alloc (.cells #[.slice pl.A d.ex.n pl.c, .slice pl.K d.ex.m pl.kc] 27)) w9.heap.size 27 #[.slice pl.A d.ex.n pl.c, .slice pl.K d.ex.m pl.kc] from hasBlk_new w9 27 _)
  have G' := Lib.hid (G.out.below bel)
  clear G
  have G := Lib.hid G'.out
  clear G'
  have H' := Lib.hid (H.out.below bel)
  clear H
  have H := Lib.hid H'.out
  clear H'
  have OK' := Lib.hid (OK.out.below bel)
  clear OK
  have OK := Lib.hid OK'.out
  clear OK'
  have E1' := Lib.hid (E1.out.below bel)
  clear E1
  have E1 := Lib.hid E1'.out
  clear E1'
  have E2' := Lib.hid (E2.out.below bel)
  clear E2
  have E2 := Lib.hid E2'.out
  clear E2'
  have E3' := Lib.hid (E3.out.below bel)
  clear E3
  have E3 := Lib.hid E3'.out
  clear E3'
  have OL' := Lib.hid (OL.out.below bel)
  clear OL
  have OL := Lib.hid OL'.out
  clear OL'
  have B' := Lib.hid (B.out.trans (bel.mono B.out.size))
  clear B
  have B := Lib.hid B'.out
  clear B'
  obtain ⟨xX, hxX⟩ : ∃ x, x = w9.heap.size := ⟨_, rfl⟩
  rw [← hxX] at X ⊢
  clear hxX bel
  generalize (w9.alloc (.cells #[.slice pl.A d.ex.n pl.c, .slice pl.K d.ex.m pl.kc] 27)) = w10 at *
  have KX := Lib.hid (kids_any (d.ex.link 0 1 2 1) pl (GD.May.sm TH.out.e4.2.1) 0 1 w10 OL.out)
  have xc0 := X.out.cell 0
  have xc1 := X.out.cell 1
  have xz := X.out.lt
  have hc0 := H.out.cell 0
  have hc1 := H.out.cell 1
  have hc2 := H.out.cell 2
  have hc3 := H.out.cell 3
  have hc4 := H.out.cell 4
  have hc5 := H.out.cell 5
  have hz := H.out.lt
  simp at xc0 xc1 hc0 hc1 hc2 hc3 hc4 hc5
  go_wp2_with fail
  refine KX.out.mono ?_
  rintro e w11 ⟨⟨A1, c1, rfl, ho⟩, bel⟩
  clear xc0 xc1 hc0 hc1 hc2 hc3 hc4 hc5 xz hz
  clear KX
  have G' := Lib.hid (G.out.below bel)
  clear G
  have G := Lib.hid G'.out
  clear G'
  have H' := Lib.hid (H.out.below bel)
  clear H
  have H := Lib.hid H'.out
  clear H'
  have OK' := Lib.hid (OK.out.below bel)
  clear OK
  have OK := Lib.hid OK'.out
  clear OK'
  have E1' := Lib.hid (E1.out.below bel)
  clear E1
  have E1 := Lib.hid E1'.out
  clear E1'
  have E2' := Lib.hid (E2.out.below bel)
  clear E2
  have E2 := Lib.hid E2'.out
  clear E2'
  have E3' := Lib.hid (E3.out.below bel)
  clear E3
  have E3 := Lib.hid E3'.out
  clear E3'
  have OL' := Lib.hid (OL.out.below bel)
  clear OL
  have OL := Lib.hid OL'.out
  clear OL'
  have X' := Lib.hid (X.out.below bel)
  clear X
  have X := Lib.hid X'.out
  clear X'
  have B' := Lib.hid (B.out.trans (bel.mono B.out.size))
  clear B
  have B := Lib.hid B'.out
  clear B'
  clear bel
  rw [AV.out, KN.out] at *
  have K1 := Lib.hid ho
  clear ho
  have AK := Lib.hid (show askv (d.ex.kill 1) (HeldA (d.ex.kill 1).n (d.ex.kill 1).g (d.ex.kill 1).b 0 1) = 0 from askv_ok TH.out.e5.1 TH.out.e5.2.2.1)
  have AK1 := Lib.hid (show askv (d.ex.kill 1) (HeldA (d.ex.kill 1).n (d.ex.kill 1).g (d.ex.kill 1).b 1 1) = 50 from askv_no TH.out.e5.1 TH.out.e5.2.2.2)
  have KK := Lib.hid (show kidN (d.ex.kill 1) 0 1 = 0 by
    unfold kidN
    rw [if_pos AK.out]
    exact TH.out.e5.2.1)
  have KK1 := Lib.hid (show kidN (d.ex.kill 1) 1 1 = 0 by
    unfold kidN
    rw [AK1.out]
    rfl)
  have NK := Lib.hid (show (d.ex.kill 1).n = d.ex.n from (killN_n (d.ex.dead 1) ((1 : Nat) : Int) (d.ex.g 1) d.ex.m).1)
  have MK := Lib.hid (show (d.ex.kill 1).m = d.ex.m from (killN_n (d.ex.dead 1) ((1 : Nat) : Int) (d.ex.g 1) d.ex.m).2)
  have KX := Lib.hid (killg_any d.ex p TH.out.ex.2.1 1 1 w11 OK.out)
  have gc0 := G.out.cell 0
  have gc1 := G.out.cell 1
  have gz := G.out.lt
  have hc0 := H.out.cell 0
  have hc1 := H.out.cell 1
  have hc2 := H.out.cell 2
  have hc3 := H.out.cell 3
  have hc4 := H.out.cell 4
  have hc5 := H.out.cell 5
  have hz := H.out.lt
  simp at gc0 gc1 hc0 hc1 hc2 hc3 hc4 hc5
  go_wp2_with fail
  refine KX.out.mono ?_
  rintro e w12 ⟨hx, bel⟩
  clear gc0 gc1 hc0 hc1 hc2 hc3 hc4 hc5 gz hz
  clear KX
  have G' := Lib.hid (G.out.below bel)
  clear G
  have G := Lib.hid G'.out
  clear G'
  have H' := Lib.hid (H.out.below bel)
  clear H
  have H := Lib.hid H'.out
  clear H'
  have OK' := Lib.hid (OK.out.below bel)
  clear OK
  have OK := Lib.hid OK'.out
  clear OK'
  have E1' := Lib.hid (E1.out.below bel)
  clear E1
  have E1 := Lib.hid E1'.out
  clear E1'
  have E2' := Lib.hid (E2.out.below bel)
  clear E2
  have E2 := Lib.hid E2'.out
  clear E2'
  have E3' := Lib.hid (E3.out.below bel)
  clear E3
  have E3 := Lib.hid E3'.out
  clear E3'
  have OL' := Lib.hid (OL.out.below bel)
  clear OL
  have OL := Lib.hid OL'.out
  clear OL'
  have X' := Lib.hid (X.out.below bel)
  clear X
  have X := Lib.hid X'.out
  clear X'
  have K1' := Lib.hid (own_below K1.out bel)
  clear K1
  have K1 := Lib.hid K1'.out
  clear K1'
  have B' := Lib.hid (B.out.trans (bel.mono B.out.size))
  clear B
  have B := Lib.hid B'.out
  clear B'
  clear bel
  rcases hx with ⟨h, _⟩ | ⟨_, pk, rfl, hown⟩
  · exact absurd (show askv d.ex (HeldA d.ex.n d.ex.g d.ex.b 1 1) = 0 from TH.out.ask (i := 1) (by omega)) h
  rw [show (1 : Int).toNat = 1 from rfl] at hown
  have OY := Lib.hid hown.ok
  clear hown
  go_upto_region 8 with fail
  have bel := (Below.refl w12.heap.size w12).alloc (Nat.le_refl _) (.cells #[.slice pk.A d.ex.n pk.c, .slice pk.K d.ex.m pk.kc] 27)
  have Y := Lib.hid (show HasBlk (w12.alloc (.cells #[.slice pk.A d.ex.n pk.c, .slice pk.K d.ex.m pk.kc] 27)) w12.heap.size 27 #[.slice pk.A d.ex.n pk.c, .slice pk.K d.ex.m pk.kc] from hasBlk_new w12 27 _)
  have G' := Lib.hid (G.out.below bel)
  clear G
  have G := Lib.hid G'.out
  clear G'
  have H' := Lib.hid (H.out.below bel)
  clear H
  have H := Lib.hid H'.out
  clear H'
  have OK' := Lib.hid (OK.out.below bel)
  clear OK
  have OK := Lib.hid OK'.out
  clear OK'
  have E1' := Lib.hid (E1.out.below bel)
  clear E1
  have E1 := Lib.hid E1'.out
  clear E1'
  have E2' := Lib.hid (E2.out.below bel)
  clear E2
  have E2 := Lib.hid E2'.out
  clear E2'
  have E3' := Lib.hid (E3.out.below bel)
  clear E3
  have E3 := Lib.hid E3'.out
  clear E3'
  have OL' := Lib.hid (OL.out.below bel)
  clear OL
  have OL := Lib.hid OL'.out
  clear OL'
  have X' := Lib.hid (X.out.below bel)
  clear X
  have X := Lib.hid X'.out
  clear X'
  have K1' := Lib.hid (own_below K1.out bel)
  clear K1
  have K1 := Lib.hid K1'.out
  clear K1'
  have OY' := Lib.hid (OY.out.below bel)
  clear OY
  have OY := Lib.hid OY'.out
  clear OY'
  have B' := Lib.hid (B.out.trans (bel.mono B.out.size))
  clear B
  have B := Lib.hid B'.out
  clear B'
  obtain ⟨xY, hxY⟩ : ∃ x, x = w12.heap.size := ⟨_, rfl⟩
  rw [← hxY] at Y ⊢
  clear hxY bel
  generalize (w12.alloc (.cells #[.slice pk.A d.ex.n pk.c, .slice pk.K d.ex.m pk.kc] 27)) = w13 at *
  have hk := kids_any (d.ex.kill 1) pk (GD.May.sm TH.out.e5.1) 0 1 w13 OY.out
  rw [AK.out, KK.out, NK.out, MK.out] at hk
  have KX := Lib.hid hk
  clear hk
  have yc0 := Y.out.cell 0
  have yc1 := Y.out.cell 1
  have yz := Y.out.lt
  have hc0 := H.out.cell 0
  have hc1 := H.out.cell 1
  have hc2 := H.out.cell 2
  have hc3 := H.out.cell 3
  have hc4 := H.out.cell 4
  have hc5 := H.out.cell 5
  have hz := H.out.lt
  simp at yc0 yc1 hc0 hc1 hc2 hc3 hc4 hc5
  go_wp2_with fail
  refine KX.out.mono ?_
  rintro e w14 ⟨⟨A2, c2, rfl, ho⟩, bel⟩
  clear yc0 yc1 hc0 hc1 hc2 hc3 hc4 hc5 yz hz
  clear KX
  have G' := Lib.hid (G.out.below bel)
  clear G
  have G := Lib.hid G'.out
  clear G'
  have H' := Lib.hid (H.out.below bel)
  clear H
  have H := Lib.hid H'.out
  clear H'
  have OK' := Lib.hid (OK.out.below bel)
  clear OK
  have OK := Lib.hid OK'.out
  clear OK'
  have E1' := Lib.hid (E1.out.below bel)
  clear E1
  have E1 := Lib.hid E1'.out
  clear E1'
  have E2' := Lib.hid (E2.out.below bel)
  clear E2
  have E2 := Lib.hid E2'.out
  clear E2'
  have E3' := Lib.hid (E3.out.below bel)
  clear E3
  have E3 := Lib.hid E3'.out
  clear E3'
  have OL' := Lib.hid (OL.out.below bel)
  clear OL
  have OL := Lib.hid OL'.out
  clear OL'
  have X' := Lib.hid (X.out.below bel)
  clear X
  have X := Lib.hid X'.out
  clear X'
  have K1' := Lib.hid (own_below K1.out bel)
  clear K1
  have K1 := Lib.hid K1'.out
  clear K1'
  have OY' := Lib.hid (OY.out.below bel)
  clear OY
  have OY := Lib.hid OY'.out
  clear OY'
  have Y' := Lib.hid (Y.out.below bel)
  clear Y
  have Y := Lib.hid Y'.out
  clear Y'
  have B' := Lib.hid (B.out.trans (bel.mono B.out.size))
  clear B
  have B := Lib.hid B'.out
  clear B'
  clear bel
  clear ho
  have hk := kids_any (d.ex.kill 1) pk (GD.May.sm TH.out.e5.1) 1 1 w14 OY.out
  rw [AK1.out, KK1.out, NK.out, MK.out] at hk
  have KX := Lib.hid hk
  clear hk
  have yc0 := Y.out.cell 0
  have yc1 := Y.out.cell 1
  have yz := Y.out.lt
  have hc0 := H.out.cell 0
  have hc1 := H.out.cell 1
  have hc2 := H.out.cell 2
  have hc3 := H.out.cell 3
  have hc4 := H.out.cell 4
  have hc5 := H.out.cell 5
  have hz := H.out.lt
  simp at yc0 yc1 hc0 hc1 hc2 hc3 hc4 hc5
  go_wp2_with fail
  refine KX.out.mono ?_
  rintro e w15 ⟨⟨A3, c3, rfl, ho⟩, bel⟩
  clear yc0 yc1 hc0 hc1 hc2 hc3 hc4 hc5 yz hz
  clear KX
  have G' := Lib.hid (G.out.below bel)
  clear G
  have G := Lib.hid G'.out
  clear G'
  have H' := Lib.hid (H.out.below bel)
  clear H
  have H := Lib.hid H'.out
  clear H'
  have OK' := Lib.hid (OK.out.below bel)
  clear OK
  have OK := Lib.hid OK'.out
  clear OK'
  have E1' := Lib.hid (E1.out.below bel)
  clear E1
  have E1 := Lib.hid E1'.out
  clear E1'
  have E2' := Lib.hid (E2.out.below bel)
  clear E2
  have E2 := Lib.hid E2'.out
  clear E2'
  have E3' := Lib.hid (E3.out.below bel)
  clear E3
  have E3 := Lib.hid E3'.out
  clear E3'
  have OL' := Lib.hid (OL.out.below bel)
  clear OL
  have OL := Lib.hid OL'.out
  clear OL'
  have X' := Lib.hid (X.out.below bel)
  clear X
  have X := Lib.hid X'.out
  clear X'
  have K1' := Lib.hid (own_below K1.out bel)
  clear K1
  have K1 := Lib.hid K1'.out
  clear K1'
  have OY' := Lib.hid (OY.out.below bel)
  clear OY
  have OY := Lib.hid OY'.out
  clear OY'
  have Y' := Lib.hid (Y.out.below bel)
  clear Y
  have Y := Lib.hid Y'.out
  clear Y'
  have B' := Lib.hid (B.out.trans (bel.mono B.out.size))
  clear B
  have B := Lib.hid B'.out
  clear B'
  clear bel
  clear ho
  have KX := Lib.hid (unlinkg_any d.ex p TH.out.ex.2.1 0 1 2 w15 OK.out)
  have gc0 := G.out.cell 0
  have gc1 := G.out.cell 1
  have gz := G.out.lt
  have hc0 := H.out.cell 0
  have hc1 := H.out.cell 1
  have hc2 := H.out.cell 2
  have hc3 := H.out.cell 3
  have hc4 := H.out.cell 4
  have hc5 := H.out.cell 5
  have hz := H.out.lt
  simp at gc0 gc1 hc0 hc1 hc2 hc3 hc4 hc5
  go_wp2_with fail
  refine KX.out.mono ?_
  rintro e w16 ⟨hx, bel⟩
  clear gc0 gc1 hc0 hc1 hc2 hc3 hc4 hc5 gz hz
  clear KX
  have G' := Lib.hid (G.out.below bel)
  clear G
  have G := Lib.hid G'.out
  clear G'
  have H' := Lib.hid (H.out.below bel)
  clear H
  have H := Lib.hid H'.out
  clear H'
  have OK' := Lib.hid (OK.out.below bel)
  clear OK
  have OK := Lib.hid OK'.out
  clear OK'
  have E1' := Lib.hid (E1.out.below bel)
  clear E1
  have E1 := Lib.hid E1'.out
  clear E1'
  have E2' := Lib.hid (E2.out.below bel)
  clear E2
  have E2 := Lib.hid E2'.out
  clear E2'
  have E3' := Lib.hid (E3.out.below bel)
  clear E3
  have E3 := Lib.hid E3'.out
  clear E3'
  have OL' := Lib.hid (OL.out.below bel)
  clear OL
  have OL := Lib.hid OL'.out
  clear OL'
  have X' := Lib.hid (X.out.below bel)
  clear X
  have X := Lib.hid X'.out
  clear X'
  have K1' := Lib.hid (own_below K1.out bel)
  clear K1
  have K1 := Lib.hid K1'.out
  clear K1'
  have OY' := Lib.hid (OY.out.below bel)
  clear OY
  have OY := Lib.hid OY'.out
  clear OY'
  have Y' := Lib.hid (Y.out.below bel)
  clear Y
  have Y := Lib.hid Y'.out
  clear Y'
  have B' := Lib.hid (B.out.trans (bel.mono B.out.size))
  clear B
  have B := Lib.hid B'.out
  clear B'
  clear bel
  rcases hx with ⟨_, rfl⟩ | ⟨h, _⟩
  rotate_left
  · rw [show unlinkE d.ex 0 1 2 = 2 from TH.out.e8] at h
    exact absurd h (by decide)
  rw [show unlinkE d.ex 0 1 2 = 2 from TH.out.e8]
  go_upto_region 11 with fail
  have bel := (Below.refl w16.heap.size w16).alloc (Nat.le_refl _) (.cells #[.slice none 0 0, .slice none 0 0] 27)
  have U := Lib.hid (show HasBlk (w16.alloc (.cells #[.slice none 0 0, .slice none 0 0] 27)) w16.heap.size 27 #[.slice none 0 0, .slice none 0 0] from hasBlk_new w16 27 _)
  have G' := Lib.hid (G.out.below bel)
  clear G
  have G := Lib.hid G'.out
  clear G'
  have H' := Lib.hid (H.out.below bel)
  clear H
  have H := Lib.hid H'.out
  clear H'
  have OK' := Lib.hid (OK.out.below bel)
  clear OK
  have OK := Lib.hid OK'.out
  clear OK'
  have E1' := Lib.hid (E1.out.below bel)
  clear E1
  have E1 := Lib.hid E1'.out
  clear E1'
  have E2' := Lib.hid (E2.out.below bel)
  clear E2
  have E2 := Lib.hid E2'.out
  clear E2'
  have E3' := Lib.hid (E3.out.below bel)
  clear E3
  have E3 := Lib.hid E3'.out
  clear E3'
  have OL' := Lib.hid (OL.out.below bel)
  clear OL
  have OL := Lib.hid OL'.out
  clear OL'
  have X' := Lib.hid (X.out.below bel)
  clear X
  have X := Lib.hid X'.out
  clear X'
  have K1' := Lib.hid (own_below K1.out bel)
  clear K1
  have K1 := Lib.hid K1'.out
  clear K1'
  have OY' := Lib.hid (OY.out.below bel)
  clear OY
  have OY := Lib.hid OY'.out
  clear OY'
  have Y' := Lib.hid (Y.out.below bel)
  clear Y
  have Y := Lib.hid Y'.out
  clear Y'
  have B' := Lib.hid (B.out.trans (bel.mono B.out.size))
  clear B
  have B := Lib.hid B'.out
  clear B'
  obtain ⟨xU, hxU⟩ : ∃ x, x = w16.heap.size := ⟨_, rfl⟩
  rw [← hxU] at U ⊢
  clear hxU bel
  generalize (w16.alloc (.cells #[.slice none 0 0, .slice none 0 0] 27)) = w17 at *
  obtain ⟨g1, hg1, _, zg1, _⟩ := own_some K1.out (by omega)
  subst hg1
  obtain ⟨_, _, e1, _, _, hc1⟩ := own_at K1.out
  cases e1
  obtain ⟨_, e2, _, _, hd1⟩ := hc1 (by omega)
  cases e2
  have x2 := hd1 2 (by omega)
  have x3 := hd1 3 (by omega)
  have t5 := TH.out.e4
  have s2 := t5.2.2.2.1
  have q2 := t5.2.2.2.2
  simp [cellsR, hv, s2, q2, List.range, List.range.loop] at x2 x3
  have h4 := H.out.cell 4
  have h5 := H.out.cell 5
  have zh := H.out.lt
  simp at h4 h5
  clear hd1 hc1 t5 s2 q2
  have e1 := fun b : BW w17 => BW.cell x2 zg1 b
  have e2 := fun b : BW w17 => BW.cell x3 zg1 b
  have e3 := fun b : BW w17 => BW.cell h4 zh b
  have e4 := fun b : BW w17 => BW.cell h5 zh b
  clear x2 x3 h4 h5 zh zg1 G H E1 E2 E3 OL X K1 OY Y U AV KN AK AK1 KK KK1 NK MK OK TH
  refine wp_region_quiet_bw (by kernel_rfl) (by kernel_rfl) ?_
  repeat (go_big_quiet_step (fail))
  refine wpQuiet_nil ?_
  intro _ hw'
  obtain ⟨pq, hw''⟩ := hw'
  subst hw''
  clear e1 e2 e3 e4
  have B1 := Lib.hid (B.out.trans (pq.h.mono B.out.size))
  clear B
  have hmk := mk_lists
  go_wp2_with fail
  refine (alive_any _).mono ?_
  rintro e v1 ⟨rfl, bel⟩
  have B2 := Lib.hid (B1.out.trans (bel.mono B1.out.size))
  clear bel B1
  go_wp2_with fail
  have hg := zlist_ok v1
  refine (check_any (⟨0, fun _ => 0, fun _ => false, 1, fun _ => 0, fun _ _ => 0, fun _ _ => 0⟩ : GD) ⟨none, 0, some ⟨v1.heap.size, 0, none⟩, 1, fun _ => none, fun _ => 0⟩ ⟨by show 0 ≤ 1000; omega, by show 1 ≤ 1000; omega, fun i hi => by show 0 ≤ 1000; omega⟩ _ hg).mono ?_
  rintro e v2 ⟨⟨x, rfl, hx⟩, bel⟩
  obtain rfl : x = 8 := by
    rcases hx with ⟨h, _⟩ | ⟨_, h⟩
    · have : (1 : Nat) = 0 := h.2.1
      omega
    · exact h
  have B3 := Lib.hid ((B2.out.alloc B2.out.size _).trans (bel.mono (by have := B2.out.size; simp; omega)))
  clear bel B2
  go_wp2
  go_ret
  exact ⟨rfl, B3.out⟩
end Go.Proofs.Ytgkeiaggldahnaa
