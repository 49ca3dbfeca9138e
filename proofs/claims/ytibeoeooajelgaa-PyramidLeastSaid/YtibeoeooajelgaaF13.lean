/- alive. -/
import Derived.Test.YtibeoeooajelgaaF12
import Derived.Test.YtibeoeooajelgaaQuiet
namespace Go.Proofs.Ytibeoeooajelgaa
open Go.RowKit
set_option linter.unusedVariables false
theorem two_reads : (twoF false).nc = 2 ∧ (twoF false).nd = 2 ∧ (twoF false).ni = 2 ∧ (twoF false).nt = 2 ∧ (twoF false).C 1 0 = 0 ∧ (twoF false).C 1 1 = 0 ∧ (twoF false).C 1 2 = 255 ∧ (twoF false).C 1 3 = 255 ∧ (twoF false).D 1 = 600 ∧ (twoF false).I 1 = 2 ∧ (twoF false).I 0 = -1 := by
  have e1 : (FDnew 2 1 2 cbk).Over 1 600 3 0 := .inl (by decide)
  have e2 : ((FDnew 2 1 2 cbk).set 1 600 3 0 crd).Over 1 600 2 0 := .inr (by unfold NearP; simp [FD.set, upd])
  have e : twoF false = ((FDnew 2 1 2 cbk).set 1 600 3 0 crd).set 1 600 2 0 cbl := by
    show ((FDnew 2 1 2 cbk).put 1 600 3 0 crd).put 1 600 2 0 cbl = _
    unfold FD.put
    rw [if_pos e1, if_pos e2]
  rw [e]
  refine ⟨rfl, rfl, rfl, rfl, ?_, ?_, ?_, ?_, ?_, ?_, ?_⟩ <;> simp [FD.set, upd, cbl, FDnew]

set_option maxRecDepth 100000 in
set_option maxHeartbeats 8000000 in
theorem alive_any (w : World) : Calls Try.prog 28 #[] w fun e w' => e = .returned (.bool true) ∧ Below w.heap.size w w' := by
  go_enter Try.func28, Try.ntmps28
  go_wp2_with fail
  refine (two_false w).mono ?_
  rintro e w1 ⟨⟨p, f, rfl, ho, hf⟩, bel1⟩
  have SB0h := Lib.hid bel1
  have szw1 := bel1.size
  have HO := Lib.hid ho
  obtain ⟨q1, q2, q3, q4, c0, c1, c2, c3, q5, q6, q7⟩ := two_reads
  rw [← hf] at q1 q2 q3 q4 c0 c1 c2 c3 q5 q6 q7
  clear bel1 ho hf
  obtain ⟨W, H, nc, nd, ni, nt, C, D, I, T⟩ := f
  obtain ⟨ac, ad, ai, a4, kc, kd, ki, kt⟩ := p
  dsimp only at q1 q2 q3 q4 c0 c1 c2 c3 q5 q6 q7 HO ⊢
  subst q1 q2 q3 q4
  go_wp2_with fail
  have HOa := HO.out.below ((Below.refl w1.heap.size w1).alloc (Nat.le_refl _) (.cells #[.int .i64 W, .int .i64 H, .slice ac 2 kc, .slice ad 2 kd, .slice ai 2 ki, .slice a4 2 kt] 29))
  clear HO
  have s_T : HasBlk (w1.alloc (.cells #[.int .i64 W, .int .i64 H, .slice ac 2 kc, .slice ad 2 kd, .slice ai 2 ki, .slice a4 2 kt] 29)) (w1.heap.size) 29 #[.int .i64 W, .int .i64 H, .slice ac 2 kc, .slice ad 2 kd, .slice ai 2 ki, .slice a4 2 kt] := by simpa using hasBlk_new w1 29 #[.int .i64 W, .int .i64 H, .slice ac 2 kc, .slice ad 2 kd, .slice ai 2 ki, .slice a4 2 kt]
  have t_T : HasBlk (w1.alloc (.cells #[.int .i64 W, .int .i64 H, .slice ac 2 kc, .slice ad 2 kd, .slice ai 2 ki, .slice a4 2 kt] 29)) (w1.heap.size) 29 #[.int .i64 W, .int .i64 H, .slice ac 2 kc, .slice ad 2 kd, .slice ai 2 ki, .slice a4 2 kt] := by simpa using s_T
  clear s_T
  have SB1 : Below w.heap.size w (w1.alloc (.cells #[.int .i64 W, .int .i64 H, .slice ac 2 kc, .slice ad 2 kd, .slice ai 2 ki, .slice a4 2 kt] 29)) := by
    have bel0 := SB0h.out
    repeat' (first | exact Below.refl _ _ | assumption | apply Below.drew | refine Below.setCell ?_ (by first | omega | (simp; done) | (simp; omega)) _ | refine Below.alloc ?_ (by first | omega | (simp; done) | (simp; omega)) _)
  generalize gW_v1 : (w1.alloc (.cells #[.int .i64 W, .int .i64 H, .slice ac 2 kc, .slice ad 2 kd, .slice ai 2 ki, .slice a4 2 kt] 29)) = v1 at *
  clear gW_v1
  have T := Lib.hid t_T
  clear t_T
  clear SB0h
  have SB1h := Lib.hid SB1
  clear SB1
  have HO := Lib.hid HOa
  clear HOa
  have lt_T := T.out.lt
  have T_0 := T.out.cell 0
  have T_1 := T.out.cell 1
  have T_2 := T.out.cell 2
  have T_3 := T.out.cell 3
  have T_4 := T.out.cell 4
  have T_5 := T.out.cell 5
  simp at T_0 T_1 T_2 T_3 T_4 T_5
  have szB_v1 := SB1h.out.size
  obtain ⟨hC, hD, hI, hT⟩ := HO.out.ok
  dsimp only at hC hD hI hT
  obtain ⟨gc, oc, rfl, lc, rC⟩ := hC (by decide)
  obtain ⟨gd, od, rfl, ld, rD⟩ := hD (by decide)
  obtain ⟨gi, oi, rfl, li, rI⟩ := hI (by decide)
  have x0 := rC 1 (by decide) 0 (by decide)
  have x1 := rC 1 (by decide) 1 (by decide)
  have x2 := rC 1 (by decide) 2 (by decide)
  have x3 := rC 1 (by decide) 3 (by decide)
  have xd := rD 1 (by decide)
  have xi := rI 1 (by decide)
  have xj := rI 0 (by decide)
  simp only [Nat.add_zero, Nat.one_mul, c0, c1, c2, c3, q5, q6, q7] at x0 x1 x2 x3 xd xi xj
  have pX0 := fun b : BW v1 => BW.cell x0 lc b
  have pX1 := fun b : BW v1 => BW.cell x1 lc b
  have pX2 := fun b : BW v1 => BW.cell x2 lc b
  have pX3 := fun b : BW v1 => BW.cell x3 lc b
  have pXd := fun b : BW v1 => BW.cell xd ld b
  have pXi := fun b : BW v1 => BW.cell xi li b
  have pXj := fun b : BW v1 => BW.cell xj li b
  have pT0 := fun b : BW v1 => BW.cell T_0 lt_T b
  have pT1 := fun b : BW v1 => BW.cell T_1 lt_T b
  have pT2 := fun b : BW v1 => BW.cell T_2 lt_T b
  have pT3 := fun b : BW v1 => BW.cell T_3 lt_T b
  have pT4 := fun b : BW v1 => BW.cell T_4 lt_T b
  have pT5 := fun b : BW v1 => BW.cell T_5 lt_T b
  have k1 := Lib.hid (fun b : BW v1 => BW.call (v := .agg #[.int .u8 0, .int .u8 0, .int .u8 255, .int .u8 255]) (fun W' (h : Below v1.heap.size v1 W') => blue_any W') b)
  clear lt_T T_0 T_1 T_2 T_3 T_4 T_5
  clear x0 x1 x2 x3 xd xi xj hC hD hI hT rC rD rI
  have hq := fun W => equalIn_of_eql (eql_col 0 0 255 255 0 0 255 255 W)
  simp only [beq_self_eq_true, Bool.and_self] at hq
  refine wp_region_quiet_bw (by kernel_rfl) (by kernel_rfl) ?_
  repeat (go_big_quiet_step ((go_at_call 66; with_reducible exact k1.out _)))
  refine wpQuiet_nil ?_
  intro _ hw'
  obtain ⟨pq, hw''⟩ := hw'
  subst hw''
  have hpq := Lib.hid ((SB1h.out).trans (pq.h.mono SB1h.out.size))
  go_wp2
  go_ret
  exact ⟨rfl, hpq.out⟩
end Go.Proofs.Ytibeoeooajelgaa
