/- nodes: NodesBack. -/
import Derived.Test.YtgkeiaggldahnaaN20
import Derived.Test.YtgkeiaggldahnaaN17
namespace Go.Proofs.Ytgkeiaggldahnaa
open Go.RowKit
set_option linter.unusedVariables false
theorem unlink_L {d : GD} {s a : Nat} : (d.unlink s a).L s = d.L s - 1 := upd_at _ _ _
theorem unlink_Lne {d : GD} {s a i : Nat} (h : i ≠ s) : (d.unlink s a).L i = d.L i := upd_ne _ _ h
theorem unlink_S {d : GD} {s a : Nat} : (d.unlink s a).S s = delF (d.S s) a := if_pos rfl
theorem unlink_Q {d : GD} {s a : Nat} : (d.unlink s a).Q s = delF (d.Q s) a := if_pos rfl
theorem unlink_Sne {d : GD} {s a i : Nat} (h : i ≠ s) : (d.unlink s a).S i = d.S i := if_neg h
theorem unlink_Qne {d : GD} {s a i : Nat} (h : i ≠ s) : (d.unlink s a).Q i = d.Q i := if_neg h
theorem unlink_sm {d : GD} {s a : Nat} (h : d.Sm) : (d.unlink s a).Sm := ⟨h.n, h.m, fun i hi => by
  by_cases e : i = s
  · subst e; rw [unlink_L]; have := h.L i hi; omega
  · rw [unlink_Lne e]; exact h.L i hi⟩
/-- What is linked and taken out is as it was. -/
theorem link_unlink {d : GD} {s a : Nat} {x y : Int} : SameG ((d.link s a x y).unlink s a) d := by
  refine ⟨⟨rfl, fun _ _ => ⟨rfl, rfl⟩⟩, rfl, fun i hi => ?_⟩
  by_cases e : i = s
  · subst e
    rw [unlink_L, unlink_S, unlink_Q, link_L, link_S, link_Q]
    exact ⟨by omega, fun k _ => ⟨del_ins _ _ _ _, del_ins _ _ _ _⟩⟩
  · rw [unlink_Lne e, unlink_Sne e, unlink_Qne e, link_Lne e, link_Sne e, link_Qne e]
    exact ⟨rfl, fun _ _ => ⟨rfl, rfl⟩⟩
set_option maxRecDepth 100000 in
set_option maxHeartbeats 8000000 in
theorem nodesBack_walk (d : GD) (p : GP) (hrc : d.Rch) (s q s' q' at' : Int) (w : World) (hok : GOk w p d) :
    Calls Try.prog 5 #[.agg #[.slice p.A d.n p.c, .slice p.K d.m p.kc], hval s q, hval s' q', .int .i64 at'] w fun e w' => e = .returned (.bool true) ∧ Below w.heap.size w w' := by
  obtain ⟨A, c, K, kc, KA, KC⟩ := p
  dsimp only
  have B0 := Lib.hid (show Below w.heap.size w (((w.alloc (.cells #[.slice A d.n c, .slice K d.m kc] 27)).alloc (.cells #[.int .i64 s, .int .i64 q] 29)).alloc (.cells #[.int .i64 s', .int .i64 q'] 29)) by
    repeat' (first | exact Below.refl _ _ | assumption | apply Below.drew | refine Below.setCell ?_ (by first | omega | (simp; done) | (simp; omega)) _ | refine Below.alloc ?_ (by first | omega | (simp; done) | (simp; omega)) _))
  have P0 := Lib.hid (show HasBlk (((w.alloc (.cells #[.slice A d.n c, .slice K d.m kc] 27)).alloc (.cells #[.int .i64 s, .int .i64 q] 29)).alloc (.cells #[.int .i64 s', .int .i64 q'] 29)) (w.heap.size) 27 #[.slice A d.n c, .slice K d.m kc] by simpa using (((hasBlk_new w 27 #[.slice A d.n c, .slice K d.m kc]).alloc (.cells #[.int .i64 s, .int .i64 q] 29)).alloc (.cells #[.int .i64 s', .int .i64 q'] 29)))
  have H0 := Lib.hid (show HasBlk (((w.alloc (.cells #[.slice A d.n c, .slice K d.m kc] 27)).alloc (.cells #[.int .i64 s, .int .i64 q] 29)).alloc (.cells #[.int .i64 s', .int .i64 q'] 29)) (w.heap.size + 1) 29 #[.int .i64 s, .int .i64 q] by simpa using ((hasBlk_new (w.alloc (.cells #[.slice A d.n c, .slice K d.m kc] 27)) 29 #[.int .i64 s, .int .i64 q]).alloc (.cells #[.int .i64 s', .int .i64 q'] 29)))
  have J0 := Lib.hid (show HasBlk (((w.alloc (.cells #[.slice A d.n c, .slice K d.m kc] 27)).alloc (.cells #[.int .i64 s, .int .i64 q] 29)).alloc (.cells #[.int .i64 s', .int .i64 q'] 29)) (w.heap.size + 1 + 1) 29 #[.int .i64 s', .int .i64 q'] by simpa using (hasBlk_new ((w.alloc (.cells #[.slice A d.n c, .slice K d.m kc] 27)).alloc (.cells #[.int .i64 s, .int .i64 q] 29)) 29 #[.int .i64 s', .int .i64 q']))
  have OK := Lib.hid hok
  have RC := Lib.hid hrc
  clear hok hrc
  go_enter Try.func5, Try.ntmps5
  go_wp2_with fail
  refine (alive_any _).mono ?_
  rintro e w1 ⟨rfl, bel⟩
  have P1 := Lib.hid (P0.out.below bel)
  have H1 := Lib.hid (H0.out.below bel)
  have J1 := Lib.hid (J0.out.below bel)
  have B1 := Lib.hid (B0.out.trans (bel.mono B0.out.size))
  clear bel P0 H0 J0 B0
  have KX := Lib.hid (great_any d _ RC.out w1 (OK.out.below B1.out))
  have p0 := P1.out.cell 0
  have p1 := P1.out.cell 1
  have h0 := H1.out.cell 0
  have h1 := H1.out.cell 1
  have j0 := J1.out.cell 0
  have j1 := J1.out.cell 1
  have zp := P1.out.lt
  have zh := H1.out.lt
  have zj := J1.out.lt
  simp at p0 p1 h0 h1 j0 j1
  go_wp2_with fail
  refine KX.out.mono ?_
  rintro e w2 ⟨⟨r, rfl, hr⟩, bel⟩
  clear p0 p1 h0 h1 j0 j1 zp zh zj
  clear KX
  have P2 := Lib.hid (P1.out.below bel)
  have H2 := Lib.hid (H1.out.below bel)
  have J2 := Lib.hid (J1.out.below bel)
  have B2 := Lib.hid (B1.out.trans (bel.mono B1.out.size))
  clear bel P1 H1 J1 B1
  cases r with
  | true =>
    clear hr P2 H2 J2
    go_wp2
    go_ret
    exact ⟨rfl, B2.out⟩
  | false =>
    have Sm := Lib.hid (GD.Sm.mk2 (hr rfl))
    clear hr
    have KX := Lib.hid (linkg_any d _ Sm.out s q s' q' at' w2 (OK.out.below B2.out))
    have p0 := P2.out.cell 0
    have p1 := P2.out.cell 1
    have h0 := H2.out.cell 0
    have h1 := H2.out.cell 1
    have j0 := J2.out.cell 0
    have j1 := J2.out.cell 1
    have zp := P2.out.lt
    have zh := H2.out.lt
    have zj := J2.out.lt
    simp at p0 p1 h0 h1 j0 j1
    go_wp2_with fail
    refine KX.out.mono ?_
    rintro e w3 ⟨hx, bel⟩
    clear p0 p1 h0 h1 j0 j1 zp zh zj
    clear KX
    have HX := Lib.hid hx
    clear hx
    have P3 := Lib.hid (P2.out.below bel)
    have H3 := Lib.hid (H2.out.below bel)
    have J3 := Lib.hid (J2.out.below bel)
    have B3 := Lib.hid (B2.out.trans (bel.mono B2.out.size))
    clear bel P2 H2 J2 B2
    rcases HX.out with ⟨hne, rfl⟩ | ⟨h0, pl, rfl, hown⟩
    · clear HX
      generalize linkE d s q s' q' at' = E at *
      have e1 : (E == 0) = false := by simpa using hne
      have e2 : (E != 0) = true := by simpa using hne
      clear hne
      go_upto_region 6 with fail
      have bel := (Below.refl w3.heap.size w3).alloc (Nat.le_refl _) (.cells #[.slice none 0 0, .slice none 0 0] 27)
      have X4 := Lib.hid (show HasBlk (w3.alloc (.cells #[.slice none 0 0, .slice none 0 0] 27)) w3.heap.size 27 #[.slice none 0 0, .slice none 0 0] from hasBlk_new w3 27 _)
      have P4 := Lib.hid (P3.out.below bel)
      have H4 := Lib.hid (H3.out.below bel)
      have J4 := Lib.hid (J3.out.below bel)
      have B4 := Lib.hid (B3.out.trans (bel.mono B3.out.size))
      clear P3 H3 J3 B3
      obtain ⟨xX, hxX⟩ : ∃ x, x = w3.heap.size := ⟨_, rfl⟩
      rw [← hxX] at X4 ⊢
      clear hxX bel
      generalize (w3.alloc (.cells #[.slice none 0 0, .slice none 0 0] 27)) = w4 at *
      have KX := Lib.hid (sameg_any GD.nil GD.nil ⟨none, 0, none, 0, fun _ => none, fun _ => 0⟩ ⟨none, 0, none, 0, fun _ => none, fun _ => 0⟩ w4 (GD.nil_ok _ _ _) (GD.nil_ok _ _ _) (GD.May.sm GD.nil_up.may))
      have p0 := P4.out.cell 0
      have p1 := P4.out.cell 1
      have h0 := H4.out.cell 0
      have h1 := H4.out.cell 1
      have j0 := J4.out.cell 0
      have j1 := J4.out.cell 1
      have x0 := X4.out.cell 0
      have x1 := X4.out.cell 1
      have zp := P4.out.lt
      have zh := H4.out.lt
      have zj := J4.out.lt
      have zx := X4.out.lt
      simp at p0 p1 h0 h1 j0 j1 x0 x1
      go_wp2_with fail
      refine KX.out.mono ?_
      rintro e w5 ⟨⟨r, rfl, hr⟩, bel⟩
      obtain rfl : r = true := hr.2 (SameG.refl _)
      have B5 := Lib.hid (B4.out.trans (bel.mono B4.out.size))
      clear bel hr KX
      clear p0 p1 h0 h1 j0 j1 x0 x1 zp zh zj zx
      go_wp2
      go_ret
      exact ⟨rfl, B5.out⟩
    clear HX
    obtain ⟨k, t, a, rfl, rfl, rfl, rfl, rfl, hm, hk, ht, ha, h16, hr⟩ := linkE_zero h0
    have ML := Lib.hid (link_may hm (by have := hk.2.1; omega) hk.2.2.2 ht ha h16 hr)
    have AV := Lib.hid (show askv (d.link k a t (d.g t)) (HeldA (d.link k a t (d.g t)).n (d.link k a t (d.g t)).g (d.link k a t (d.g t)).b (k : Nat) (d.g k)) = 0 from askv_ok ML.out hk)
    have KN := Lib.hid (show kidN (d.link k a t (d.g t)) (k : Nat) (d.g k) = d.L k + 1 by
      unfold kidN
      rw [if_pos AV.out]
      exact link_L)
    have UV := Lib.hid (show unlinkE (d.link k a t (d.g t)) (k : Nat) (d.g k) (a : Nat) = 0 by
      unfold unlinkE
      rw [if_pos AV.out, if_neg]
      show ¬ ((a : Int) < 0 ∨ (((d.link k a t (d.g t)).L k : Nat) : Int) ≤ (a : Int))
      rw [link_L]
      omega)
    have SK := Lib.hid (show (d.link k a t (d.g t)).S ((k : Nat) : Int).toNat a = t ∧ (d.link k a t (d.g t)).Q ((k : Nat) : Int).toNat a = d.g t by
      show (d.link k a t (d.g t)).S k a = t ∧ (d.link k a t (d.g t)).Q k a = d.g t
      rw [link_S, link_Q, insF_at, insF_at]
      exact ⟨rfl, rfl⟩)
    obtain ⟨M, hM⟩ : ∃ M, d.L k + 1 = M := ⟨_, rfl⟩
    rw [hM] at KN
    have KA2 := Lib.hid (show a < M by omega)
    clear hM
    have SMU := Lib.hid (unlink_sm (GD.May.sm ML.out) (s := k) (a := a))
    have SG := Lib.hid (link_unlink (d := d) (s := k) (a := a) (x := t) (y := d.g t))
    have OL := Lib.hid (show GOk w3 pl (d.link k a t (d.g t)) from hown.ok)
    clear hm hk ht ha h16 hr hown h0
    go_upto_region 5 with fail
    have bel := (Below.refl w3.heap.size w3).alloc (Nat.le_refl _) (.cells #[.slice pl.A d.n pl.c, .slice pl.K d.m pl.kc] 27)
    have X4 := Lib.hid (show HasBlk (w3.alloc (.cells #[.slice pl.A d.n pl.c, .slice pl.K d.m pl.kc] 27)) w3.heap.size 27 #[.slice pl.A d.n pl.c, .slice pl.K d.m pl.kc] from hasBlk_new w3 27 _)
    have P4 := Lib.hid (P3.out.below bel)
    have H4 := Lib.hid (H3.out.below bel)
    have J4 := Lib.hid (J3.out.below bel)
    have B4 := Lib.hid (B3.out.trans (bel.mono B3.out.size))
    clear P3 H3 J3 B3
    obtain ⟨xX, hxX⟩ : ∃ x, x = w3.heap.size := ⟨_, rfl⟩
    rw [← hxX] at X4 ⊢
    have OL4 := Lib.hid (OL.out.below bel)
    clear hxX bel OL
    generalize (w3.alloc (.cells #[.slice pl.A d.n pl.c, .slice pl.K d.m pl.kc] 27)) = w4 at *
    have KX := Lib.hid (kids_any (d.link k a t (d.g t)) pl (GD.May.sm ML.out) (k : Nat) (d.g k) w4 OL4.out)
    have p0 := P4.out.cell 0
    have p1 := P4.out.cell 1
    have h0 := H4.out.cell 0
    have h1 := H4.out.cell 1
    have j0 := J4.out.cell 0
    have j1 := J4.out.cell 1
    have x0 := X4.out.cell 0
    have x1 := X4.out.cell 1
    have zp := P4.out.lt
    have zh := H4.out.lt
    have zj := J4.out.lt
    have zx := X4.out.lt
    simp at p0 p1 h0 h1 j0 j1 x0 x1
    go_wp2_with fail
    refine KX.out.mono ?_
    rintro e w5 ⟨⟨A1, c1, rfl, ho⟩, bel⟩
    clear p0 p1 h0 h1 j0 j1 x0 x1 zp zh zj zx
    clear KX
    rw [AV.out, KN.out] at *
    have OL5 := Lib.hid (OL4.out.below bel)
    have RK5 := Lib.hid (Row.of_cells ho)
    clear ho OL4
    have P5 := Lib.hid (P4.out.below bel)
    have H5 := Lib.hid (H4.out.below bel)
    have J5 := Lib.hid (J4.out.below bel)
    have X5 := Lib.hid (X4.out.below bel)
    have B5 := Lib.hid (B4.out.trans (bel.mono B4.out.size))
    clear bel P4 H4 J4 X4 B4
    have KX := Lib.hid (unlinkg_any (d.link k a t (d.g t)) pl (GD.May.sm ML.out) (k : Nat) (d.g k) (a : Nat) w5 OL5.out)
    have p0 := P5.out.cell 0
    have p1 := P5.out.cell 1
    have h0 := H5.out.cell 0
    have h1 := H5.out.cell 1
    have j0 := J5.out.cell 0
    have j1 := J5.out.cell 1
    have x0 := X5.out.cell 0
    have x1 := X5.out.cell 1
    have zp := P5.out.lt
    have zh := H5.out.lt
    have zj := J5.out.lt
    have zx := X5.out.lt
    simp at p0 p1 h0 h1 j0 j1 x0 x1
    go_wp2_with fail
    refine KX.out.mono ?_
    rintro e w6 ⟨hx, bel⟩
    clear p0 p1 h0 h1 j0 j1 x0 x1 zp zh zj zx
    clear KX
    have RK6 := Lib.hid (RK5.out.below bel)
    clear OL5 RK5
    rcases hx with ⟨h, _⟩ | ⟨_, pu, rfl, hown⟩
    · exact absurd UV.out h
    have OU := Lib.hid hown.ok
    clear hown
    have P6 := Lib.hid (P5.out.below bel)
    have H6 := Lib.hid (H5.out.below bel)
    have J6 := Lib.hid (J5.out.below bel)
    have X6 := Lib.hid (X5.out.below bel)
    have B6 := Lib.hid (B5.out.trans (bel.mono B5.out.size))
    clear bel P5 H5 J5 X5 B5
    go_upto_region 9 with fail
    have bel := (Below.refl w6.heap.size w6).alloc (Nat.le_refl _) (.cells #[.slice pu.A (d.link k a t (d.g t)).n pu.c, .slice pu.K (d.link k a t (d.g t)).m pu.kc] 27)
    have Y7 := Lib.hid (show HasBlk (w6.alloc (.cells #[.slice pu.A (d.link k a t (d.g t)).n pu.c, .slice pu.K (d.link k a t (d.g t)).m pu.kc] 27)) w6.heap.size 27 #[.slice pu.A (d.link k a t (d.g t)).n pu.c, .slice pu.K (d.link k a t (d.g t)).m pu.kc] from hasBlk_new w6 27 _)
    have P7 := Lib.hid (P6.out.below bel)
    have H7 := Lib.hid (H6.out.below bel)
    have J7 := Lib.hid (J6.out.below bel)
    have X7 := Lib.hid (X6.out.below bel)
    have B7 := Lib.hid (B6.out.trans (bel.mono B6.out.size))
    clear P6 H6 J6 X6 B6
    obtain ⟨xY, hxY⟩ : ∃ x, x = w6.heap.size := ⟨_, rfl⟩
    rw [← hxY] at Y7 ⊢
    have OU7 := Lib.hid (OU.out.below bel)
    have RK7 := Lib.hid (RK6.out.below bel)
    clear hxY bel OU RK6
    generalize (w6.alloc (.cells #[.slice pu.A (d.link k a t (d.g t)).n pu.c, .slice pu.K (d.link k a t (d.g t)).m pu.kc] 27)) = w7 at *
    obtain ⟨ga, oa, hA, hga, hca⟩ := RK7.out (by have := KA2.out; omega)
    subst hA
    have c0 := hca a (by have := KA2.out; omega) 0 (by omega)
    have c1' := hca a (by have := KA2.out; omega) 1 (by omega)
    simp only [hv, Nat.add_zero, if_true] at c0
    simp only [hv] at c1'
    rw [if_neg (by decide)] at c1'
    rw [SK.out.1] at c0
    rw [SK.out.2] at c1'
    have i1 : (a : Int) < (M : Int) := by have := KA2.out; omega
    have i1n : a < M := KA2.out
    have i1d : decide ((a : Int) < (M : Int)) = true := decide_eq_true i1
    have i0 : (0 : Int) ≤ (a : Int) := by omega
    have p0 := P7.out.cell 0
    have p1 := P7.out.cell 1
    have h0 := H7.out.cell 0
    have h1 := H7.out.cell 1
    have j0 := J7.out.cell 0
    have j1 := J7.out.cell 1
    have x0 := X7.out.cell 0
    have x1 := X7.out.cell 1
    have y0 := Y7.out.cell 0
    have y1 := Y7.out.cell 1
    have zp := P7.out.lt
    have zh := H7.out.lt
    have zj := J7.out.lt
    have zx := X7.out.lt
    have zy := Y7.out.lt
    simp at p0 p1 h0 h1 j0 j1 x0 x1 y0 y1
    have f0 := fun b : BW w7 => BW.cell c0 hga b
    have f1 := fun b : BW w7 => BW.cell c1' hga b
    have f2 := fun b : BW w7 => BW.cell j0 zj b
    have f3 := fun b : BW w7 => BW.cell j1 zj b
    have f4 := fun b : BW w7 => BW.cell p0 zp b
    have f5 := fun b : BW w7 => BW.cell p1 zp b
    have f6 := fun b : BW w7 => BW.cell y0 zy b
    have f7 := fun b : BW w7 => BW.cell y1 zy b
    have hq := fun W => eql_hdl ((t : Nat) : Int) (d.g t) ((t : Nat) : Int) (d.g t) W
    simp only [beq_self_eq_true, Bool.and_self] at hq
    have KS := Lib.hid (show ∀ b : BW w7, Calls Try.prog 22 #[.agg #[.slice pu.A (d.link k a t (d.g t)).n pu.c, .slice pu.K (d.link k a t (d.g t)).m pu.kc], .agg #[.slice A d.n c, .slice K d.m kc]] b.W fun e w'' => e = .returned (.bool true) ∧ ∃ p' : BW w7, w'' = p'.W from fun b => BW.call (fun W' (h : Below w7.heap.size w7 W') => (sameg_any ((d.link k a t (d.g t)).unlink k a) d pu ⟨A, c, K, kc, KA, KC⟩ W' (OU7.out.below h) (OK.out.below (B7.out.trans (h.mono B7.out.size))) SMU.out).mono (fun e w' ⟨⟨r, hr, hx⟩, hb⟩ => ⟨by rw [hr, hx.2 SG.out], hb⟩)) b)
    clear hca
    clear h0 h1 j0 j1 p0 p1 x0 x1 y0 y1 c0 c1'
    refine wp_region_quiet_bw (by kernel_rfl) (by kernel_rfl) ?_
    repeat (go_big_quiet_step ((go_at_call 22; with_reducible exact KS.out _)))
    refine wpQuiet_nil ?_
    intro _ hw'
    obtain ⟨pq, hw''⟩ := hw'
    subst hw''
    go_wp2
    go_ret
    exact ⟨rfl, B7.out.trans (pq.h.mono B7.out.size)⟩

theorem nodesBack_arg (v0 v1 v2 v3 : Value) (w : World) (h0 : Arg Try.prog w 27 v0) (s0 : RdS Try.prog w 27 v0.cells.toList) (h1 : Arg Try.prog w 29 v1) (s1 : RdS Try.prog w 29 v1.cells.toList) (h2 : Arg Try.prog w 29 v2) (s2 : RdS Try.prog w 29 v2.cells.toList) (h3 : Arg Try.prog w 3 v3) (s3 : RdS Try.prog w 3 v3.cells.toList) : Calls Try.prog 5 #[v0, v1, v2, v3] w fun e w' => e = .returned (.bool true) ∧ Below w.heap.size w w' := by
  obtain ⟨p, d, rfl, hrc, hok⟩ := arg_graph h0 s0
  obtain ⟨s, q, rfl⟩ := arg_hdl h1
  obtain ⟨s', q', rfl⟩ := arg_hdl h2
  obtain ⟨n, rfl, _⟩ := h3.int Try.underlying3
  exact nodesBack_walk d p hrc s q s' q' n w hok
end Go.Proofs.Ytgkeiaggldahnaa
