/- nodes: three, alive. -/
import Derived.Test.YtgkeiaggldahnaaGLaw
namespace Go.Proofs.Ytgkeiaggldahnaa
open Go.RowKit
set_option linter.unusedVariables false
/-- The handles made so far. -/
def hb3 : Nat → Array Value
  | 0 => #[.int .i64 0, .int .i64 0, .int .i64 0, .int .i64 0, .int .i64 0, .int .i64 0]
  | 1 => #[.int .i64 0, .int .i64 1, .int .i64 0, .int .i64 0, .int .i64 0, .int .i64 0]
  | 2 => #[.int .i64 0, .int .i64 1, .int .i64 1, .int .i64 1, .int .i64 0, .int .i64 0]
  | _ => #[.int .i64 0, .int .i64 1, .int .i64 1, .int .i64 1, .int .i64 2, .int .i64 1]
set_option maxRecDepth 100000 in
set_option maxHeartbeats 8000000 in
theorem three_any (w : World) :
    Calls Try.prog 24 #[] w fun e w' => (∃ (d : GD) (p : GP), d.Three ∧ e = .returned (.tuple #[.agg #[.slice p.A d.n p.c, .slice p.K d.m p.kc], .agg #[.int .i64 0, .int .i64 1, .int .i64 1, .int .i64 1, .int .i64 2, .int .i64 1], .bool true]) ∧ GOk w' p d.ex) ∧ Below w.heap.size w w' := by
  have B0 := Lib.hid (show Below w.heap.size w ((((w.alloc (.cells #[.slice none 0 0, .slice none 0 0] 27)).alloc (.cells #[.int .i64 0, .int .i64 0, .int .i64 0, .int .i64 0, .int .i64 0, .int .i64 0] 51)).alloc (.cells #[.slice none 0 0, .slice none 0 0] 27)).alloc (.cells #[.int .i64 0, .int .i64 0, .int .i64 0, .int .i64 0, .int .i64 0, .int .i64 0] 51)) by
    repeat' (first | exact Below.refl _ _ | assumption | apply Below.drew | refine Below.setCell ?_ (by first | omega | (simp; done) | (simp; omega)) _ | refine Below.alloc ?_ (by first | omega | (simp; done) | (simp; omega)) _))
  have R0 := Lib.hid (show HasBlk ((((w.alloc (.cells #[.slice none 0 0, .slice none 0 0] 27)).alloc (.cells #[.int .i64 0, .int .i64 0, .int .i64 0, .int .i64 0, .int .i64 0, .int .i64 0] 51)).alloc (.cells #[.slice none 0 0, .slice none 0 0] 27)).alloc (.cells #[.int .i64 0, .int .i64 0, .int .i64 0, .int .i64 0, .int .i64 0, .int .i64 0] 51)) (w.heap.size) 27 #[.slice none 0 0, .slice none 0 0] by simpa using ((((hasBlk_new w 27 #[.slice none 0 0, .slice none 0 0]).alloc (.cells #[.int .i64 0, .int .i64 0, .int .i64 0, .int .i64 0, .int .i64 0, .int .i64 0] 51)).alloc (.cells #[.slice none 0 0, .slice none 0 0] 27)).alloc (.cells #[.int .i64 0, .int .i64 0, .int .i64 0, .int .i64 0, .int .i64 0, .int .i64 0] 51)))
  have R1 := Lib.hid (show HasBlk ((((w.alloc (.cells #[.slice none 0 0, .slice none 0 0] 27)).alloc (.cells #[.int .i64 0, .int .i64 0, .int .i64 0, .int .i64 0, .int .i64 0, .int .i64 0] 51)).alloc (.cells #[.slice none 0 0, .slice none 0 0] 27)).alloc (.cells #[.int .i64 0, .int .i64 0, .int .i64 0, .int .i64 0, .int .i64 0, .int .i64 0] 51)) (w.heap.size + 1) 51 #[.int .i64 0, .int .i64 0, .int .i64 0, .int .i64 0, .int .i64 0, .int .i64 0] by simpa using (((hasBlk_new (w.alloc (.cells #[.slice none 0 0, .slice none 0 0] 27)) 51 #[.int .i64 0, .int .i64 0, .int .i64 0, .int .i64 0, .int .i64 0, .int .i64 0]).alloc (.cells #[.slice none 0 0, .slice none 0 0] 27)).alloc (.cells #[.int .i64 0, .int .i64 0, .int .i64 0, .int .i64 0, .int .i64 0, .int .i64 0] 51)))
  have GB := Lib.hid (show HasBlk ((((w.alloc (.cells #[.slice none 0 0, .slice none 0 0] 27)).alloc (.cells #[.int .i64 0, .int .i64 0, .int .i64 0, .int .i64 0, .int .i64 0, .int .i64 0] 51)).alloc (.cells #[.slice none 0 0, .slice none 0 0] 27)).alloc (.cells #[.int .i64 0, .int .i64 0, .int .i64 0, .int .i64 0, .int .i64 0, .int .i64 0] 51)) (w.heap.size + 1 + 1) 27 #[.slice none 0 0, .slice none 0 0] by simpa using ((hasBlk_new ((w.alloc (.cells #[.slice none 0 0, .slice none 0 0] 27)).alloc (.cells #[.int .i64 0, .int .i64 0, .int .i64 0, .int .i64 0, .int .i64 0, .int .i64 0] 51)) 27 #[.slice none 0 0, .slice none 0 0]).alloc (.cells #[.int .i64 0, .int .i64 0, .int .i64 0, .int .i64 0, .int .i64 0, .int .i64 0] 51)))
  have HB := Lib.hid (show HasBlk ((((w.alloc (.cells #[.slice none 0 0, .slice none 0 0] 27)).alloc (.cells #[.int .i64 0, .int .i64 0, .int .i64 0, .int .i64 0, .int .i64 0, .int .i64 0] 51)).alloc (.cells #[.slice none 0 0, .slice none 0 0] 27)).alloc (.cells #[.int .i64 0, .int .i64 0, .int .i64 0, .int .i64 0, .int .i64 0, .int .i64 0] 51)) (w.heap.size + 1 + 1 + 1) 51 #[.int .i64 0, .int .i64 0, .int .i64 0, .int .i64 0, .int .i64 0, .int .i64 0] by simpa using (hasBlk_new (((w.alloc (.cells #[.slice none 0 0, .slice none 0 0] 27)).alloc (.cells #[.int .i64 0, .int .i64 0, .int .i64 0, .int .i64 0, .int .i64 0, .int .i64 0] 51)).alloc (.cells #[.slice none 0 0, .slice none 0 0] 27)) 51 #[.int .i64 0, .int .i64 0, .int .i64 0, .int .i64 0, .int .i64 0, .int .i64 0]))
  go_enter Try.func24, Try.ntmps24
  go_wp2
  go_loopw [6, 5] (fun i o wr => ∃ (k : Nat) (d : GD) (p : GP), k ≤ 3 ∧ i = .int .i64 k ∧ o = .bool true ∧ d.Up k ∧ GOk wr p d ∧ HasBlk wr w.heap.size 27 #[.slice none 0 0, .slice none 0 0] ∧ HasBlk wr (w.heap.size + 1) 51 #[.int .i64 0, .int .i64 0, .int .i64 0, .int .i64 0, .int .i64 0, .int .i64 0] ∧ HasBlk wr (w.heap.size + 1 + 1) 27 #[.slice p.A d.n p.c, .slice p.K d.m p.kc] ∧ HasBlk wr (w.heap.size + 1 + 1 + 1) 51 (hb3 k) ∧ Below w.heap.size w wr) (fun i o wr => 3 - (intOf i).toNat)
  case atStart => exact ⟨0, GD.nil, ⟨none, 0, none, 0, fun _ => none, fun _ => 0⟩, by omega, rfl, rfl, GD.nil_up, GD.nil_ok _ _ _, R0.out, R1.out, GB.out, HB.out, B0.out⟩
  case round =>
    clear R0 R1 GB HB B0
    obtain ⟨k, d, p, hk, rfl, rfl, hUp, hok, hR0, hR1, hG, hH, hbel⟩ := hrel
    obtain rfl | rfl | rfl | rfl : k = 0 ∨ k = 1 ∨ k = 2 ∨ k = 3 := by omega
    ·     have KX := Lib.hid (makeg_any d p (hUp.sm (by omega)) wr hok)
          have UP := Lib.hid hUp
          have B0 := Lib.hid hbel
          have R0 := Lib.hid hR0
          have R1 := Lib.hid hR1
          have GB := Lib.hid hG
          have HB := Lib.hid hH
          have p0 := hG.cell 0
          have p1 := hG.cell 1
          have zp := hG.lt
          have zb := hbel.size
          simp at p0 p1
          have ZP := Lib.hid zp
          have ZH := Lib.hid hH.lt
          clear hUp hbel hR0 hR1 hG hH hok
          go_wp2_with fail
          refine KX.out.mono ?_
          rintro e w1 ⟨hx, bel⟩
          have B1 := Lib.hid (B0.out.trans (bel.mono zb))
          have R01 := Lib.hid (R0.out.below bel)
          have R11 := Lib.hid (R1.out.below bel)
          have GB1 := Lib.hid (GB.out.below bel)
          have HB1 := Lib.hid (HB.out.below bel)
          have ZB := Lib.hid zb
          clear p0 p1 zp zb bel KX R0 R1 GB HB B0
          rcases hx with ⟨h, _⟩ | ⟨_, _, h, _⟩ | ⟨_, j, n', g', b', p', hmd, rfl, hown⟩
          · exact absurd UP.out.may h
          · have := UP.out.n
            omega
          obtain ⟨rfl, rfl, hgj, hup'⟩ := UP.out.made hmd
          rw [hgj]
          have UP' := Lib.hid hup'
          have OW := Lib.hid hown
          clear hmd hgj hup' hown UP
          go_upto_region 8 with fail
          have bA := ((Below.refl w1.heap.size w1).alloc (Nat.le_refl _) (.cells #[.slice p'.A 1 p'.c, .slice p'.K 1 p'.kc] 27)).alloc (by simp) (.cells #[.int .i64 0, .int .i64 1] 29)
          have T7 := Lib.hid (show HasBlk ((w1.alloc (.cells #[.slice p'.A 1 p'.c, .slice p'.K 1 p'.kc] 27)).alloc (.cells #[.int .i64 0, .int .i64 1] 29)) w1.heap.size 27 #[.slice p'.A 1 p'.c, .slice p'.K 1 p'.kc] from (hasBlk_new w1 27 _).alloc _)
          have T8 := Lib.hid (show HasBlk ((w1.alloc (.cells #[.slice p'.A 1 p'.c, .slice p'.K 1 p'.kc] 27)).alloc (.cells #[.int .i64 0, .int .i64 1] 29)) (w1.heap.size + 1) 29 #[.int .i64 0, .int .i64 1] by simpa using hasBlk_new (w1.alloc (.cells #[.slice p'.A 1 p'.c, .slice p'.K 1 p'.kc] 27)) 29 #[.int .i64 0, .int .i64 1])
          have B2 := Lib.hid (B1.out.trans (bA.mono B1.out.size))
          have R02 := Lib.hid (R01.out.below bA)
          have R12 := Lib.hid (R11.out.below bA)
          have GB2 := Lib.hid (GB1.out.below bA)
          have HB2 := Lib.hid (HB1.out.below bA)
          have OW2 := Lib.hid (OW.out.below bA)
          have zz1 := GB1.out.lt
          have zz2 := HB1.out.lt
          have zz3 := R11.out.lt
          clear B1 R01 R11 GB1 HB1 OW
          clear bA
          generalize ((w1.alloc (.cells #[.slice p'.A 1 p'.c, .slice p'.K 1 p'.kc] 27)).alloc (.cells #[.int .i64 0, .int .i64 1] 29)) = v2 at *
          obtain ⟨a7, ha7⟩ : ∃ a7, a7 = w1.heap.size := ⟨_, rfl⟩
          rw [← ha7] at T7 T8 zz1 zz2 zz3 ⊢
          clear ha7
          have g0 := GB2.out.cell 0
          have g1 := GB2.out.cell 1
          have gf0 := GB2.out.frozen 0
          have gf1 := GB2.out.frozen 1
          have zg := GB2.out.lt
          have h0 := HB2.out.cell 0
          have h1 := HB2.out.cell 1
          have hf0 := HB2.out.frozen 0
          have hf1 := HB2.out.frozen 1
          have zh := HB2.out.lt
          have t0 := T7.out.cell 0
          have t1 := T7.out.cell 1
          have z7 := T7.out.lt
          have s0 := T8.out.cell 0
          have s1 := T8.out.cell 1
          have z8 := T8.out.lt
          simp [hb3] at g0 g1 h0 h1 t0 t1 s0 s1
          go_wp2
          go_roundw
          case rel =>
            have q1 := ZP.out
            have q2 := ZH.out
            have hg := ((GB2.out.set 0 (.slice p'.A 1 p'.c)).set 1 (.slice p'.K 1 p'.kc)).far (p := ⟨w.heap.size + 1 + 1 + 1, 0, none⟩) (by simp) (.int .i64 0) |>.far (p := ⟨w.heap.size + 1 + 1 + 1, 1, none⟩) (by simp) (.int .i64 1)
            have hh := (((HB2.out.far (p := ⟨w.heap.size + 1 + 1, 0, none⟩) (by simp) (.slice p'.A 1 p'.c)).far (p := ⟨w.heap.size + 1 + 1, 1, none⟩) (by simp) (.slice p'.K 1 p'.kc)).set 0 (.int .i64 0)).set 1 (.int .i64 1)
            simp [hb3] at hg hh
            refine ⟨1, _, p', by omega, rfl, rfl, UP'.out, ((((OW2.out.lset (by omega) _).lset (by omega) _).lset (by omega) _).lset (by omega) _).ok, ?_, ?_, hg, hh, ?_⟩
            · exact (((R02.out.far (by first | omega | (simp; done) | (simp; omega)) _).far (by first | omega | (simp; done) | (simp; omega)) _).far (by first | omega | (simp; done) | (simp; omega)) _).far (by first | omega | (simp; done) | (simp; omega)) _
            · exact (((R12.out.far (by first | omega | (simp; done) | (simp; omega)) _).far (by first | omega | (simp; done) | (simp; omega)) _).far (by first | omega | (simp; done) | (simp; omega)) _).far (by first | omega | (simp; done) | (simp; omega)) _
            · exact Below.setCell (Below.setCell (Below.setCell (Below.setCell B2.out (by first | omega | (simp; done) | (simp; omega)) _) (by first | omega | (simp; done) | (simp; omega)) _) (by first | omega | (simp; done) | (simp; omega)) _) (by first | omega | (simp; done) | (simp; omega)) _
          case measure => simp [intOf]
    ·     have KX := Lib.hid (makeg_any d p (hUp.sm (by omega)) wr hok)
          have UP := Lib.hid hUp
          have B0 := Lib.hid hbel
          have R0 := Lib.hid hR0
          have R1 := Lib.hid hR1
          have GB := Lib.hid hG
          have HB := Lib.hid hH
          have p0 := hG.cell 0
          have p1 := hG.cell 1
          have zp := hG.lt
          have zb := hbel.size
          simp at p0 p1
          have ZP := Lib.hid zp
          have ZH := Lib.hid hH.lt
          clear hUp hbel hR0 hR1 hG hH hok
          go_wp2_with fail
          refine KX.out.mono ?_
          rintro e w1 ⟨hx, bel⟩
          have B1 := Lib.hid (B0.out.trans (bel.mono zb))
          have R01 := Lib.hid (R0.out.below bel)
          have R11 := Lib.hid (R1.out.below bel)
          have GB1 := Lib.hid (GB.out.below bel)
          have HB1 := Lib.hid (HB.out.below bel)
          have ZB := Lib.hid zb
          clear p0 p1 zp zb bel KX R0 R1 GB HB B0
          rcases hx with ⟨h, _⟩ | ⟨_, _, h, _⟩ | ⟨_, j, n', g', b', p', hmd, rfl, hown⟩
          · exact absurd UP.out.may h
          · have := UP.out.n
            omega
          obtain ⟨rfl, rfl, hgj, hup'⟩ := UP.out.made hmd
          rw [hgj]
          have UP' := Lib.hid hup'
          have OW := Lib.hid hown
          clear hmd hgj hup' hown UP
          go_upto_region 8 with fail
          have bA := ((Below.refl w1.heap.size w1).alloc (Nat.le_refl _) (.cells #[.slice p'.A 2 p'.c, .slice p'.K 2 p'.kc] 27)).alloc (by simp) (.cells #[.int .i64 1, .int .i64 1] 29)
          have T7 := Lib.hid (show HasBlk ((w1.alloc (.cells #[.slice p'.A 2 p'.c, .slice p'.K 2 p'.kc] 27)).alloc (.cells #[.int .i64 1, .int .i64 1] 29)) w1.heap.size 27 #[.slice p'.A 2 p'.c, .slice p'.K 2 p'.kc] from (hasBlk_new w1 27 _).alloc _)
          have T8 := Lib.hid (show HasBlk ((w1.alloc (.cells #[.slice p'.A 2 p'.c, .slice p'.K 2 p'.kc] 27)).alloc (.cells #[.int .i64 1, .int .i64 1] 29)) (w1.heap.size + 1) 29 #[.int .i64 1, .int .i64 1] by simpa using hasBlk_new (w1.alloc (.cells #[.slice p'.A 2 p'.c, .slice p'.K 2 p'.kc] 27)) 29 #[.int .i64 1, .int .i64 1])
          have B2 := Lib.hid (B1.out.trans (bA.mono B1.out.size))
          have R02 := Lib.hid (R01.out.below bA)
          have R12 := Lib.hid (R11.out.below bA)
          have GB2 := Lib.hid (GB1.out.below bA)
          have HB2 := Lib.hid (HB1.out.below bA)
          have OW2 := Lib.hid (OW.out.below bA)
          have zz1 := GB1.out.lt
          have zz2 := HB1.out.lt
          have zz3 := R11.out.lt
          clear B1 R01 R11 GB1 HB1 OW
          clear bA
          generalize ((w1.alloc (.cells #[.slice p'.A 2 p'.c, .slice p'.K 2 p'.kc] 27)).alloc (.cells #[.int .i64 1, .int .i64 1] 29)) = v2 at *
          obtain ⟨a7, ha7⟩ : ∃ a7, a7 = w1.heap.size := ⟨_, rfl⟩
          rw [← ha7] at T7 T8 zz1 zz2 zz3 ⊢
          clear ha7
          have g0 := GB2.out.cell 0
          have g1 := GB2.out.cell 1
          have gf0 := GB2.out.frozen 0
          have gf1 := GB2.out.frozen 1
          have zg := GB2.out.lt
          have h0 := HB2.out.cell 2
          have h1 := HB2.out.cell 3
          have hf0 := HB2.out.frozen 2
          have hf1 := HB2.out.frozen 3
          have zh := HB2.out.lt
          have t0 := T7.out.cell 0
          have t1 := T7.out.cell 1
          have z7 := T7.out.lt
          have s0 := T8.out.cell 0
          have s1 := T8.out.cell 1
          have z8 := T8.out.lt
          simp [hb3] at g0 g1 h0 h1 t0 t1 s0 s1
          go_wp2
          go_roundw
          case rel =>
            have q1 := ZP.out
            have q2 := ZH.out
            have hg := ((GB2.out.set 0 (.slice p'.A 2 p'.c)).set 1 (.slice p'.K 2 p'.kc)).far (p := ⟨w.heap.size + 1 + 1 + 1, 2, none⟩) (by simp) (.int .i64 1) |>.far (p := ⟨w.heap.size + 1 + 1 + 1, 3, none⟩) (by simp) (.int .i64 1)
            have hh := (((HB2.out.far (p := ⟨w.heap.size + 1 + 1, 0, none⟩) (by simp) (.slice p'.A 2 p'.c)).far (p := ⟨w.heap.size + 1 + 1, 1, none⟩) (by simp) (.slice p'.K 2 p'.kc)).set 2 (.int .i64 1)).set 3 (.int .i64 1)
            simp [hb3] at hg hh
            refine ⟨2, _, p', by omega, rfl, rfl, UP'.out, ((((OW2.out.lset (by omega) _).lset (by omega) _).lset (by omega) _).lset (by omega) _).ok, ?_, ?_, hg, hh, ?_⟩
            · exact (((R02.out.far (by first | omega | (simp; done) | (simp; omega)) _).far (by first | omega | (simp; done) | (simp; omega)) _).far (by first | omega | (simp; done) | (simp; omega)) _).far (by first | omega | (simp; done) | (simp; omega)) _
            · exact (((R12.out.far (by first | omega | (simp; done) | (simp; omega)) _).far (by first | omega | (simp; done) | (simp; omega)) _).far (by first | omega | (simp; done) | (simp; omega)) _).far (by first | omega | (simp; done) | (simp; omega)) _
            · exact Below.setCell (Below.setCell (Below.setCell (Below.setCell B2.out (by first | omega | (simp; done) | (simp; omega)) _) (by first | omega | (simp; done) | (simp; omega)) _) (by first | omega | (simp; done) | (simp; omega)) _) (by first | omega | (simp; done) | (simp; omega)) _
          case measure => simp [intOf]
    ·     have KX := Lib.hid (makeg_any d p (hUp.sm (by omega)) wr hok)
          have UP := Lib.hid hUp
          have B0 := Lib.hid hbel
          have R0 := Lib.hid hR0
          have R1 := Lib.hid hR1
          have GB := Lib.hid hG
          have HB := Lib.hid hH
          have p0 := hG.cell 0
          have p1 := hG.cell 1
          have zp := hG.lt
          have zb := hbel.size
          simp at p0 p1
          have ZP := Lib.hid zp
          have ZH := Lib.hid hH.lt
          clear hUp hbel hR0 hR1 hG hH hok
          go_wp2_with fail
          refine KX.out.mono ?_
          rintro e w1 ⟨hx, bel⟩
          have B1 := Lib.hid (B0.out.trans (bel.mono zb))
          have R01 := Lib.hid (R0.out.below bel)
          have R11 := Lib.hid (R1.out.below bel)
          have GB1 := Lib.hid (GB.out.below bel)
          have HB1 := Lib.hid (HB.out.below bel)
          have ZB := Lib.hid zb
          clear p0 p1 zp zb bel KX R0 R1 GB HB B0
          rcases hx with ⟨h, _⟩ | ⟨_, _, h, _⟩ | ⟨_, j, n', g', b', p', hmd, rfl, hown⟩
          · exact absurd UP.out.may h
          · have := UP.out.n
            omega
          obtain ⟨rfl, rfl, hgj, hup'⟩ := UP.out.made hmd
          rw [hgj]
          have UP' := Lib.hid hup'
          have OW := Lib.hid hown
          clear hmd hgj hup' hown UP
          go_upto_region 8 with fail
          have bA := ((Below.refl w1.heap.size w1).alloc (Nat.le_refl _) (.cells #[.slice p'.A 3 p'.c, .slice p'.K 3 p'.kc] 27)).alloc (by simp) (.cells #[.int .i64 2, .int .i64 1] 29)
          have T7 := Lib.hid (show HasBlk ((w1.alloc (.cells #[.slice p'.A 3 p'.c, .slice p'.K 3 p'.kc] 27)).alloc (.cells #[.int .i64 2, .int .i64 1] 29)) w1.heap.size 27 #[.slice p'.A 3 p'.c, .slice p'.K 3 p'.kc] from (hasBlk_new w1 27 _).alloc _)
          have T8 := Lib.hid (show HasBlk ((w1.alloc (.cells #[.slice p'.A 3 p'.c, .slice p'.K 3 p'.kc] 27)).alloc (.cells #[.int .i64 2, .int .i64 1] 29)) (w1.heap.size + 1) 29 #[.int .i64 2, .int .i64 1] by simpa using hasBlk_new (w1.alloc (.cells #[.slice p'.A 3 p'.c, .slice p'.K 3 p'.kc] 27)) 29 #[.int .i64 2, .int .i64 1])
          have B2 := Lib.hid (B1.out.trans (bA.mono B1.out.size))
          have R02 := Lib.hid (R01.out.below bA)
          have R12 := Lib.hid (R11.out.below bA)
          have GB2 := Lib.hid (GB1.out.below bA)
          have HB2 := Lib.hid (HB1.out.below bA)
          have OW2 := Lib.hid (OW.out.below bA)
          have zz1 := GB1.out.lt
          have zz2 := HB1.out.lt
          have zz3 := R11.out.lt
          clear B1 R01 R11 GB1 HB1 OW
          clear bA
          generalize ((w1.alloc (.cells #[.slice p'.A 3 p'.c, .slice p'.K 3 p'.kc] 27)).alloc (.cells #[.int .i64 2, .int .i64 1] 29)) = v2 at *
          obtain ⟨a7, ha7⟩ : ∃ a7, a7 = w1.heap.size := ⟨_, rfl⟩
          rw [← ha7] at T7 T8 zz1 zz2 zz3 ⊢
          clear ha7
          have g0 := GB2.out.cell 0
          have g1 := GB2.out.cell 1
          have gf0 := GB2.out.frozen 0
          have gf1 := GB2.out.frozen 1
          have zg := GB2.out.lt
          have h0 := HB2.out.cell 4
          have h1 := HB2.out.cell 5
          have hf0 := HB2.out.frozen 4
          have hf1 := HB2.out.frozen 5
          have zh := HB2.out.lt
          have t0 := T7.out.cell 0
          have t1 := T7.out.cell 1
          have z7 := T7.out.lt
          have s0 := T8.out.cell 0
          have s1 := T8.out.cell 1
          have z8 := T8.out.lt
          simp [hb3] at g0 g1 h0 h1 t0 t1 s0 s1
          go_wp2
          go_roundw
          case rel =>
            have q1 := ZP.out
            have q2 := ZH.out
            have hg := ((GB2.out.set 0 (.slice p'.A 3 p'.c)).set 1 (.slice p'.K 3 p'.kc)).far (p := ⟨w.heap.size + 1 + 1 + 1, 4, none⟩) (by simp) (.int .i64 2) |>.far (p := ⟨w.heap.size + 1 + 1 + 1, 5, none⟩) (by simp) (.int .i64 1)
            have hh := (((HB2.out.far (p := ⟨w.heap.size + 1 + 1, 0, none⟩) (by simp) (.slice p'.A 3 p'.c)).far (p := ⟨w.heap.size + 1 + 1, 1, none⟩) (by simp) (.slice p'.K 3 p'.kc)).set 4 (.int .i64 2)).set 5 (.int .i64 1)
            simp [hb3] at hg hh
            refine ⟨3, _, p', by omega, rfl, rfl, UP'.out, ((((OW2.out.lset (by omega) _).lset (by omega) _).lset (by omega) _).lset (by omega) _).ok, ?_, ?_, hg, hh, ?_⟩
            · exact (((R02.out.far (by first | omega | (simp; done) | (simp; omega)) _).far (by first | omega | (simp; done) | (simp; omega)) _).far (by first | omega | (simp; done) | (simp; omega)) _).far (by first | omega | (simp; done) | (simp; omega)) _
            · exact (((R12.out.far (by first | omega | (simp; done) | (simp; omega)) _).far (by first | omega | (simp; done) | (simp; omega)) _).far (by first | omega | (simp; done) | (simp; omega)) _).far (by first | omega | (simp; done) | (simp; omega)) _
            · exact Below.setCell (Below.setCell (Below.setCell (Below.setCell B2.out (by first | omega | (simp; done) | (simp; omega)) _) (by first | omega | (simp; done) | (simp; omega)) _) (by first | omega | (simp; done) | (simp; omega)) _) (by first | omega | (simp; done) | (simp; omega)) _
          case measure => simp [intOf]
    ·     have UP := Lib.hid hUp
          have B0 := Lib.hid hbel
          have R0 := Lib.hid hR0
          have R1 := Lib.hid hR1
          have GB := Lib.hid hG
          have HB := Lib.hid hH
          have OK := Lib.hid hok
          clear hUp hbel hR0 hR1 hG hH hok
          have KX := Lib.hid (linkg_any d p (UP.out.sm (by omega)) 0 1 1 1 0 wr OK.out)
          have p0 := GB.out.cell 0
          have p1 := GB.out.cell 1
          have zp := GB.out.lt
          have zb := B0.out.size
          have h0 := HB.out.cell 0
          have h1 := HB.out.cell 1
          have h2 := HB.out.cell 2
          have h3 := HB.out.cell 3
          have h4 := HB.out.cell 4
          have h5 := HB.out.cell 5
          have zh := HB.out.lt
          simp [hb3] at p0 p1 h0 h1 h2 h3 h4 h5
          have ZH := Lib.hid zh
          go_wp2_with fail
          refine KX.out.mono ?_
          rintro e w1 ⟨hx, bel⟩
          have B1 := Lib.hid (B0.out.trans (bel.mono zb))
          have R01 := Lib.hid (R0.out.below bel)
          have R11 := Lib.hid (R1.out.below bel)
          have HB1 := Lib.hid (HB.out.below bel)
          clear p0 p1 zp zb h0 h1 h2 h3 h4 h5 zh bel KX R0 R1 GB HB B0 OK
          rcases hx with ⟨h, _⟩ | ⟨_, p', rfl, hown⟩
          · exact absurd UP.out.three.one.2 h
          have OW := Lib.hid (show GOwn (w.heap.size + 1 + 1 + 1 + 1) w1 p' (d.link 0 0 1 1) from hown.base (by have := ZH.out; omega))
          clear hown
          go_upto_region 12 with fail
          have bA := (Below.refl w1.heap.size w1).alloc (Nat.le_refl _) (.cells #[.slice p'.A d.n p'.c, .slice p'.K d.m p'.kc] 27)
          have zz0 := R01.out.lt
          have zz1 := R11.out.lt
          have zz2 := HB1.out.lt
          have B0 := Lib.hid (B1.out.trans (bA.mono B1.out.size))
          have R0 := Lib.hid (R01.out.below bA)
          have R1 := Lib.hid (R11.out.below bA)
          have HB := Lib.hid (HB1.out.below bA)
          have OK := Lib.hid (OW.out.below bA)
          have GB := Lib.hid (show HasBlk (w1.alloc (.cells #[.slice p'.A d.n p'.c, .slice p'.K d.m p'.kc] 27)) w1.heap.size 27 #[.slice p'.A d.n p'.c, .slice p'.K d.m p'.kc] from hasBlk_new w1 27 _)
          clear B1 R01 R11 HB1 OW bA ZH
          generalize gw : w1.alloc (.cells #[.slice p'.A d.n p'.c, .slice p'.K d.m p'.kc] 27) = v0 at *
          obtain ⟨a0, ha⟩ : ∃ a0, a0 = w1.heap.size := ⟨_, rfl⟩
          rw [← ha] at GB zz0 zz1 zz2 ⊢
          clear ha gw
          obtain ⟨wr, rfl⟩ : ∃ w5 : World, w5 = v0 := ⟨_, rfl⟩
          obtain ⟨p, rfl⟩ : ∃ p5 : GP, p5 = p' := ⟨_, rfl⟩
          have KX := Lib.hid (linkg_any (d.link 0 0 1 1) p (GD.May.sm UP.out.three.one.1) 0 1 1 1 1 wr OK.out.ok)
          have p0 := GB.out.cell 0
          have p1 := GB.out.cell 1
          have zp := GB.out.lt
          have zb := B0.out.size
          have h0 := HB.out.cell 0
          have h1 := HB.out.cell 1
          have h2 := HB.out.cell 2
          have h3 := HB.out.cell 3
          have h4 := HB.out.cell 4
          have h5 := HB.out.cell 5
          have zh := HB.out.lt
          simp [hb3] at p0 p1 h0 h1 h2 h3 h4 h5
          have ZH := Lib.hid zh
          go_wp2_with fail
          refine KX.out.mono ?_
          rintro e w1 ⟨hx, bel⟩
          have B1 := Lib.hid (B0.out.trans (bel.mono zb))
          have R01 := Lib.hid (R0.out.below bel)
          have R11 := Lib.hid (R1.out.below bel)
          have HB1 := Lib.hid (HB.out.below bel)
          clear p0 p1 zp zb h0 h1 h2 h3 h4 h5 zh bel KX R0 R1 GB HB B0 OK
          rcases hx with ⟨h, _⟩ | ⟨_, p', rfl, hown⟩
          · exact absurd UP.out.three.two.2 h
          have OW := Lib.hid (show GOwn (w.heap.size + 1 + 1 + 1 + 1) w1 p' ((d.link 0 0 1 1).link 0 1 1 1) from hown.base (by have := ZH.out; omega))
          clear hown
          go_upto_region 13 with fail
          have bA := (Below.refl w1.heap.size w1).alloc (Nat.le_refl _) (.cells #[.slice p'.A (d.link 0 0 1 1).n p'.c, .slice p'.K (d.link 0 0 1 1).m p'.kc] 27)
          have zz0 := R01.out.lt
          have zz1 := R11.out.lt
          have zz2 := HB1.out.lt
          have B0 := Lib.hid (B1.out.trans (bA.mono B1.out.size))
          have R0 := Lib.hid (R01.out.below bA)
          have R1 := Lib.hid (R11.out.below bA)
          have HB := Lib.hid (HB1.out.below bA)
          have OK := Lib.hid (OW.out.below bA)
          have GB := Lib.hid (show HasBlk (w1.alloc (.cells #[.slice p'.A (d.link 0 0 1 1).n p'.c, .slice p'.K (d.link 0 0 1 1).m p'.kc] 27)) w1.heap.size 27 #[.slice p'.A (d.link 0 0 1 1).n p'.c, .slice p'.K (d.link 0 0 1 1).m p'.kc] from hasBlk_new w1 27 _)
          clear B1 R01 R11 HB1 OW bA ZH
          generalize gw : w1.alloc (.cells #[.slice p'.A (d.link 0 0 1 1).n p'.c, .slice p'.K (d.link 0 0 1 1).m p'.kc] 27) = v1 at *
          obtain ⟨a1, ha⟩ : ∃ a1, a1 = w1.heap.size := ⟨_, rfl⟩
          rw [← ha] at GB zz0 zz1 zz2 ⊢
          clear ha gw
          obtain ⟨wr, rfl⟩ : ∃ w5 : World, w5 = v1 := ⟨_, rfl⟩
          obtain ⟨p, rfl⟩ : ∃ p5 : GP, p5 = p' := ⟨_, rfl⟩
          have KX := Lib.hid (linkg_any ((d.link 0 0 1 1).link 0 1 1 1) p (GD.May.sm UP.out.three.two.1) 1 1 2 1 0 wr OK.out.ok)
          have p0 := GB.out.cell 0
          have p1 := GB.out.cell 1
          have zp := GB.out.lt
          have zb := B0.out.size
          have h0 := HB.out.cell 0
          have h1 := HB.out.cell 1
          have h2 := HB.out.cell 2
          have h3 := HB.out.cell 3
          have h4 := HB.out.cell 4
          have h5 := HB.out.cell 5
          have zh := HB.out.lt
          simp [hb3] at p0 p1 h0 h1 h2 h3 h4 h5
          have ZH := Lib.hid zh
          go_wp2_with fail
          refine KX.out.mono ?_
          rintro e w1 ⟨hx, bel⟩
          have B1 := Lib.hid (B0.out.trans (bel.mono zb))
          have R01 := Lib.hid (R0.out.below bel)
          have R11 := Lib.hid (R1.out.below bel)
          have HB1 := Lib.hid (HB.out.below bel)
          clear p0 p1 zp zb h0 h1 h2 h3 h4 h5 zh bel KX R0 R1 GB HB B0 OK
          rcases hx with ⟨h, _⟩ | ⟨_, p', rfl, hown⟩
          · exact absurd UP.out.three.three.2 h
          have OW := Lib.hid (show GOwn (w.heap.size + 1 + 1 + 1 + 1) w1 p' (((d.link 0 0 1 1).link 0 1 1 1).link 1 0 2 1) from hown.base (by have := ZH.out; omega))
          clear hown
          go_upto_region 14 with fail
          have bA := (Below.refl w1.heap.size w1).alloc (Nat.le_refl _) (.cells #[.slice p'.A ((d.link 0 0 1 1).link 0 1 1 1).n p'.c, .slice p'.K ((d.link 0 0 1 1).link 0 1 1 1).m p'.kc] 27)
          have zz0 := R01.out.lt
          have zz1 := R11.out.lt
          have zz2 := HB1.out.lt
          have B0 := Lib.hid (B1.out.trans (bA.mono B1.out.size))
          have R0 := Lib.hid (R01.out.below bA)
          have R1 := Lib.hid (R11.out.below bA)
          have HB := Lib.hid (HB1.out.below bA)
          have OK := Lib.hid (OW.out.below bA)
          have GB := Lib.hid (show HasBlk (w1.alloc (.cells #[.slice p'.A ((d.link 0 0 1 1).link 0 1 1 1).n p'.c, .slice p'.K ((d.link 0 0 1 1).link 0 1 1 1).m p'.kc] 27)) w1.heap.size 27 #[.slice p'.A ((d.link 0 0 1 1).link 0 1 1 1).n p'.c, .slice p'.K ((d.link 0 0 1 1).link 0 1 1 1).m p'.kc] from hasBlk_new w1 27 _)
          clear B1 R01 R11 HB1 OW bA ZH
          generalize gw : w1.alloc (.cells #[.slice p'.A ((d.link 0 0 1 1).link 0 1 1 1).n p'.c, .slice p'.K ((d.link 0 0 1 1).link 0 1 1 1).m p'.kc] 27) = v2 at *
          obtain ⟨a2, ha⟩ : ∃ a2, a2 = w1.heap.size := ⟨_, rfl⟩
          rw [← ha] at GB zz0 zz1 zz2 ⊢
          clear ha gw
          obtain ⟨wr, rfl⟩ : ∃ w5 : World, w5 = v2 := ⟨_, rfl⟩
          obtain ⟨p, rfl⟩ : ∃ p5 : GP, p5 = p' := ⟨_, rfl⟩
          have p0 := GB.out.cell 0
          have p1 := GB.out.cell 1
          have zp := GB.out.lt
          have zh := HB.out.lt
          have h0 := HB.out.cell 0
          have h1 := HB.out.cell 1
          have h2 := HB.out.cell 2
          have h3 := HB.out.cell 3
          have h4 := HB.out.cell 4
          have h5 := HB.out.cell 5
          have q0 := R1.out.cell 0
          have qf0 := R1.out.frozen 0
          have q1 := R1.out.cell 1
          have qf1 := R1.out.frozen 1
          have q2 := R1.out.cell 2
          have qf2 := R1.out.frozen 2
          have q3 := R1.out.cell 3
          have qf3 := R1.out.frozen 3
          have q4 := R1.out.cell 4
          have qf4 := R1.out.frozen 4
          have q5 := R1.out.cell 5
          have qf5 := R1.out.frozen 5
          have r0 := R0.out.cell 0
          have rf0 := R0.out.frozen 0
          have r1 := R0.out.cell 1
          have rf1 := R0.out.frozen 1
          have zr0 := R0.out.lt
          have zr1 := R1.out.lt
          simp [hb3] at p0 p1 r0 r1 h0 h1 h2 h3 h4 h5 q0 q1 q2 q3 q4 q5
          clear GB HB R0 R1
          go_region
          all_goals
            go_wp2
            refine bodyPost_ret (v := .tuple #[.agg #[.slice p.A ((d.link 0 0 1 1).link 0 1 1 1).n p.c, .slice p.K ((d.link 0 0 1 1).link 0 1 1 1).m p.kc], .agg #[.int .i64 0, .int .i64 1, .int .i64 1, .int .i64 1, .int .i64 2, .int .i64 1], .bool true]) (by simp [results, Try.results24, go_sem, *]) rfl ⟨⟨d, p, UP.out.three, rfl, ?_⟩, ?_⟩
            · exact ((((((((OK.out.lset (by omega) _).lset (by omega) _).lset (by omega) _).lset (by omega) _).lset (by omega) _).lset (by omega) _).lset (by omega) _).lset (by omega) _).ok.below (Below.refl _ _).drew
            · exact Below.drew (Below.setCell (Below.setCell (Below.setCell (Below.setCell (Below.setCell (Below.setCell (Below.setCell (Below.setCell B0.out (by first | omega | (simp; done) | (simp; omega)) _) (by first | omega | (simp; done) | (simp; omega)) _) (by first | omega | (simp; done) | (simp; omega)) _) (by first | omega | (simp; done) | (simp; omega)) _) (by first | omega | (simp; done) | (simp; omega)) _) (by first | omega | (simp; done) | (simp; omega)) _) (by first | omega | (simp; done) | (simp; omega)) _) (by first | omega | (simp; done) | (simp; omega)) _)

set_option maxRecDepth 100000 in
set_option maxHeartbeats 8000000 in
theorem alive_any (w : World) : Calls Try.prog 19 #[] w fun e w' => e = .returned (.bool true) ∧ Below w.heap.size w w' := by
  go_enter Try.func19, Try.ntmps19
  go_wp2_with fail
  refine (three_any w).mono ?_
  rintro e w1 ⟨⟨d, p, th, rfl, ok⟩, bel⟩
  have TH := Lib.hid th
  have B0 := Lib.hid bel
  have OK0 := Lib.hid ok
  clear th ok bel
  go_upto_region 2 with fail
  have bA := ((Below.refl w1.heap.size w1).alloc (Nat.le_refl _) (.cells #[.slice p.A d.n p.c, .slice p.K d.m p.kc] 27)).alloc (by simp) (.cells #[.int .i64 0, .int .i64 1, .int .i64 1, .int .i64 1, .int .i64 2, .int .i64 1] 51)
  have GB2 := Lib.hid (show HasBlk ((w1.alloc (.cells #[.slice p.A d.n p.c, .slice p.K d.m p.kc] 27)).alloc (.cells #[.int .i64 0, .int .i64 1, .int .i64 1, .int .i64 1, .int .i64 2, .int .i64 1] 51)) w1.heap.size 27 #[.slice p.A d.n p.c, .slice p.K d.m p.kc] from (hasBlk_new w1 27 _).alloc _)
  have HB2 := Lib.hid (show HasBlk ((w1.alloc (.cells #[.slice p.A d.n p.c, .slice p.K d.m p.kc] 27)).alloc (.cells #[.int .i64 0, .int .i64 1, .int .i64 1, .int .i64 1, .int .i64 2, .int .i64 1] 51)) (w1.heap.size + 1) 51 #[.int .i64 0, .int .i64 1, .int .i64 1, .int .i64 1, .int .i64 2, .int .i64 1] by simpa using hasBlk_new (w1.alloc (.cells #[.slice p.A d.n p.c, .slice p.K d.m p.kc] 27)) 51 #[.int .i64 0, .int .i64 1, .int .i64 1, .int .i64 1, .int .i64 2, .int .i64 1])
  have OK2 := Lib.hid (OK0.out.below bA)
  have B2 := Lib.hid (B0.out.trans (bA.mono B0.out.size))
  clear bA OK0 B0
  generalize gw : ((w1.alloc (.cells #[.slice p.A d.n p.c, .slice p.K d.m p.kc] 27)).alloc (.cells #[.int .i64 0, .int .i64 1, .int .i64 1, .int .i64 1, .int .i64 2, .int .i64 1] 51)) = w2 at *
  obtain ⟨a, ha⟩ : ∃ a, a = w1.heap.size := ⟨_, rfl⟩
  rw [← ha] at GB2 HB2 ⊢
  clear ha gw
  have hk := kids_any d.ex p TH.out.ex.2.1 0 1 w2 OK2.out
  rw [show kidN d.ex 0 1 = 2 from TH.out.kidN, show askv d.ex (HeldA d.ex.n d.ex.g d.ex.b 0 1) = 0 from TH.out.ask (i := 0) (by omega)] at hk
  have KX := Lib.hid hk
  clear hk
  have p0 := GB2.out.cell 0
  have p1 := GB2.out.cell 1
  have zp := GB2.out.lt
  have zh := HB2.out.lt
  have h0 := HB2.out.cell 0
  have h1 := HB2.out.cell 1
  have h2 := HB2.out.cell 2
  have h3 := HB2.out.cell 3
  have h4 := HB2.out.cell 4
  have h5 := HB2.out.cell 5
  simp at p0 p1 h0 h1 h2 h3 h4 h5
  go_wp2_with fail
  refine KX.out.mono ?_
  rintro e w3 ⟨⟨A1, c1, rfl, ho⟩, bel⟩
  have K1 := Lib.hid ho
  have GB3 := Lib.hid (GB2.out.below bel)
  have HB3 := Lib.hid (HB2.out.below bel)
  have OK3 := Lib.hid (OK2.out.below bel)
  have B3 := Lib.hid (B2.out.trans (bel.mono B2.out.size))
  clear p0 p1 zp zh h0 h1 h2 h3 h4 h5
  clear KX ho bel GB2 HB2 OK2 B2
  have hk := parents_any d.ex p TH.out.ex.2.1 1 1 w3 OK3.out
  rw [show parV d.ex 1 1 = [0, 0] from TH.out.par, show askv d.ex (HeldA d.ex.n d.ex.g d.ex.b 1 1) = 0 from TH.out.ask (i := 1) (by omega)] at hk
  have KX := Lib.hid hk
  clear hk
  have p0 := GB3.out.cell 0
  have p1 := GB3.out.cell 1
  have zp := GB3.out.lt
  have zh := HB3.out.lt
  have h0 := HB3.out.cell 0
  have h1 := HB3.out.cell 1
  have h2 := HB3.out.cell 2
  have h3 := HB3.out.cell 3
  have h4 := HB3.out.cell 4
  have h5 := HB3.out.cell 5
  simp at p0 p1 h0 h1 h2 h3 h4 h5
  go_wp2_with fail
  refine KX.out.mono ?_
  rintro e w4 ⟨⟨A2, c2, rfl, ho⟩, bel⟩
  have K2 := Lib.hid ho
  have K14 := Lib.hid (own_below K1.out bel)
  have GB4 := Lib.hid (GB3.out.below bel)
  have HB4 := Lib.hid (HB3.out.below bel)
  have OK4 := Lib.hid (OK3.out.below bel)
  have B4 := Lib.hid (B3.out.trans (bel.mono B3.out.size))
  clear p0 p1 zp zh h0 h1 h2 h3 h4 h5
  clear KX ho bel GB3 HB3 OK3 B3 K1
  have hk := rch_any d.ex p TH.out.ex.2.1 0 1 2 1 w4 OK4.out
  rw [show rchv d.ex 0 1 2 1 = true from TH.out.rch.1, show askv d.ex (HeldA d.ex.n d.ex.g d.ex.b 0 1 ∧ HeldA d.ex.n d.ex.g d.ex.b 2 1) = 0 from TH.out.ask2 (i := 0) (j := 2) (by omega) (by omega)] at hk
  have KX := Lib.hid hk
  clear hk
  have p0 := GB4.out.cell 0
  have p1 := GB4.out.cell 1
  have zp := GB4.out.lt
  have zh := HB4.out.lt
  have h0 := HB4.out.cell 0
  have h1 := HB4.out.cell 1
  have h2 := HB4.out.cell 2
  have h3 := HB4.out.cell 3
  have h4 := HB4.out.cell 4
  have h5 := HB4.out.cell 5
  simp at p0 p1 h0 h1 h2 h3 h4 h5
  go_wp2_with fail
  refine KX.out.mono ?_
  rintro e w5 ⟨rfl, bel⟩
  have K25 := Lib.hid (own_below K2.out bel)
  have K15 := Lib.hid (own_below K14.out bel)
  have GB5 := Lib.hid (GB4.out.below bel)
  have HB5 := Lib.hid (HB4.out.below bel)
  have OK5 := Lib.hid (OK4.out.below bel)
  have B5 := Lib.hid (B4.out.trans (bel.mono B4.out.size))
  clear p0 p1 zp zh h0 h1 h2 h3 h4 h5
  clear KX bel GB4 HB4 OK4 B4 K14 K2
  have hk := rch_any d.ex p TH.out.ex.2.1 2 1 0 1 w5 OK5.out
  rw [show rchv d.ex 2 1 0 1 = false from TH.out.rch.2, show askv d.ex (HeldA d.ex.n d.ex.g d.ex.b 2 1 ∧ HeldA d.ex.n d.ex.g d.ex.b 0 1) = 0 from TH.out.ask2 (i := 2) (j := 0) (by omega) (by omega)] at hk
  have KX := Lib.hid hk
  clear hk
  have p0 := GB5.out.cell 0
  have p1 := GB5.out.cell 1
  have zp := GB5.out.lt
  have zh := HB5.out.lt
  have h0 := HB5.out.cell 0
  have h1 := HB5.out.cell 1
  have h2 := HB5.out.cell 2
  have h3 := HB5.out.cell 3
  have h4 := HB5.out.cell 4
  have h5 := HB5.out.cell 5
  simp at p0 p1 h0 h1 h2 h3 h4 h5
  go_wp2_with fail
  refine KX.out.mono ?_
  rintro e w6 ⟨rfl, bel⟩
  have K26 := own_below K25.out bel
  have K16 := own_below K15.out bel
  have HB6 := Lib.hid (HB5.out.below bel)
  have B6 := Lib.hid (B5.out.trans (bel.mono B5.out.size))
  clear p0 p1 zp zh h0 h1 h2 h3 h4 h5
  clear KX bel GB5 HB5 OK5 B5 K25 K15
  obtain ⟨g1, hg1, _, zg1, _⟩ := own_some K16 (by omega)
  obtain ⟨g2, hg2, _, zg2, _⟩ := own_some K26 (by simp)
  subst hg1 hg2
  obtain ⟨_, _, e1, _, _, hc1⟩ := own_at K16
  cases e1
  obtain ⟨_, e2, _, _, hd1⟩ := hc1 (by omega)
  cases e2
  obtain ⟨_, _, e1, _, _, hc2⟩ := own_at K26
  cases e1
  obtain ⟨_, e2, _, _, hd2⟩ := hc2 (by simp)
  cases e2
  have x0 := hd1 0 (by omega)
  have x1 := hd1 1 (by omega)
  have y2 := hd2 2 (by simp)
  have y3 := hd2 3 (by simp)
  have s00 := (TH.out.ex.2.2.2.2.2.2.1 0 (by omega)).1
  have q00 := (TH.out.ex.2.2.2.2.2.2.1 0 (by omega)).2
  have g00 : d.ex.g 0 = 1 := TH.out.g 0 (by omega)
  simp [cellsR, hv, hdc, s00, q00, g00, List.range, List.range.loop] at x0 x1 y2 y3



  have zh := HB6.out.lt
  have h0 := HB6.out.cell 0
  have h1 := HB6.out.cell 1
  have h2 := HB6.out.cell 2
  have h3 := HB6.out.cell 3
  have h4 := HB6.out.cell 4
  have h5 := HB6.out.cell 5
  simp at h0 h1 h2 h3 h4 h5
  clear hd1 hd2 hc1 hc2 K16 K26 s00 q00 g00
  have e1 := fun b : BW w6 => BW.cell x0 zg1 b
  have e2 := fun b : BW w6 => BW.cell x1 zg1 b
  have e3 := fun b : BW w6 => BW.cell y2 zg2 b
  have e4 := fun b : BW w6 => BW.cell y3 zg2 b
  have e5 := fun b : BW w6 => BW.cell h0 zh b
  have e6 := fun b : BW w6 => BW.cell h1 zh b
  have e7 := fun b : BW w6 => BW.cell h2 zh b
  have e8 := fun b : BW w6 => BW.cell h3 zh b
  go_upto_region 6 with fail
  clear x0 x1 y2 y3 h0 h1 h2 h3 h4 h5
  refine wp_region_quiet_bw (by kernel_rfl) (by kernel_rfl) ?_
  repeat (go_big_quiet_step (fail))
  refine wpQuiet_nil ?_
  intro _ hw'
  obtain ⟨pq, hw''⟩ := hw'
  subst hw''
  clear e1 e2 e3 e4 e5 e6 e7 e8
  go_wp2
  go_ret
  exact ⟨rfl, B6.out.trans (pq.h.mono B6.out.size)⟩
end Go.Proofs.Ytgkeiaggldahnaa
