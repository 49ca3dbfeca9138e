/- sched: SchedNames. -/
import Derived.Test.YtdilfcpgjkkjmaaS12
namespace Go.Proofs.Ytdilfcpgjkkjmaa
open Go.RowKit
set_option linter.unusedVariables false
def sdA : SD := SDnew 3 l3 2 1
def sdB : SD := sdA.take 0
def sdC : SD := (sdB.fin 0).begin 2
def fz : Nat → Int := fun _ => 0
def fm : Nat → Int := fun _ => -1
def sdN : SD := SDnew 0 fz 1 0
theorem mayA : sdA.May := may_012.1
theorem mayB2 : sdB.May ∧ sdB.left = sdA.left - 1 := mayA.take (k := 0) (by decide) (by decide) (by decide)
theorem leftB : sdB.left = 5 := by rw [mayB2.2, show sdA.left = 6 from may_012.2]; rfl
theorem skipC : SkipTo sdB.ph sdB.np (sdB.p + 1).toNat 2 := ⟨by decide, by decide, fun i h1 h2 => by have h1' : 2 ≤ i := h1; omega, fun _ => by decide⟩
theorem mayC2 : sdC.May ∧ sdC.left = sdB.left - 1 := mayB2.1.begin (k := 0) (by decide) (by decide) (by decide) skipC
theorem leftC : sdC.left = 4 := by rw [mayC2.2, leftB]; rfl
theorem stepA0 {t : SD} {u v e : Int} (h : StepV sdA 0 t u v e) : t = sdB ∧ u = -1 ∧ v = -1 ∧ e = 0 :=
  StepV.fn (show StepV sdA 0 sdB (-1) (-1) 0 from .inr (.inr ⟨mayA, 0, rfl, by decide, .inr (.inl ⟨by decide, by decide, rfl, rfl, rfl, rfl⟩)⟩)) h
theorem stepB1 {t : SD} {u v e : Int} (h : StepV sdB 1 t u v e) : t = SD0 ∧ u = 0 ∧ v = 0 ∧ e = 6 :=
  StepV.fn (show StepV sdB 1 SD0 0 0 6 from .inr (.inr ⟨mayB2.1, 1, rfl, by decide, .inl ⟨by decide, rfl, rfl, rfl, rfl⟩⟩)) h
theorem stepB0 {t : SD} {u v e : Int} (h : StepV sdB 0 t u v e) : t = sdC ∧ u = 1 ∧ v = 0 ∧ e = 0 :=
  StepV.fn (show StepV sdB 0 sdC 1 0 0 from .inr (.inr ⟨mayB2.1, 0, rfl, by decide, .inr (.inr (.inr ⟨by decide, by decide, by decide, ⟨2, skipC, rfl⟩, rfl, rfl, rfl⟩))⟩)) h
theorem stepA2 {t : SD} {u v e : Int} (h : StepV sdA 2 t u v e) : t = SD0 ∧ u = 0 ∧ v = 0 ∧ e = 2 :=
  StepV.fn (show StepV sdA 2 SD0 0 0 2 from .inr (.inl ⟨mayA, .inr (by decide), rfl, rfl, rfl, rfl⟩)) h
theorem new00 {t : SD} {x : Int} (h : NewV 0 0 fz t x) : t = SD0 ∧ x = 2 := NewV.fn (show NewV 0 0 fz SD0 2 from .inl ⟨.inl (by decide), rfl, rfl⟩) h
theorem new17 {t : SD} {x : Int} (h : NewV 1 17 fz t x) : t = SD0 ∧ x = 4 := NewV.fn (show NewV 1 17 fz SD0 4 from .inr ⟨by decide, .inl ⟨.inl ⟨by decide, rfl⟩, by decide, rfl⟩⟩) h
theorem newm1 {t : SD} {x : Int} (h : NewV 1 1 fm t x) : t = SD0 ∧ x = 2 := NewV.fn (show NewV 1 1 fm SD0 2 from .inr ⟨by decide, .inl ⟨.inr (.inl ⟨by decide, ⟨0, by decide, by decide⟩, rfl⟩), by decide, rfl⟩⟩) h
theorem skipN : SkipTo fz 0 0 0 := ⟨by decide, by decide, fun i h1 h2 => by omega, fun h => by omega⟩
theorem phN : SPh 0 fz := ⟨by decide, fun i hi => by omega⟩
theorem newN {t : SD} {x : Int} (h : NewV 1 0 fz t x) : t = sdN ∧ x = 0 := NewV.fn (show NewV 1 0 fz sdN 0 from .inr ⟨by decide, .inr ⟨phN, rfl, 0, skipN, rfl⟩⟩) h
theorem mayN : sdN.May := (SDnew_may (wn := 1) phN (by decide) (by decide) skipN).1
theorem endN : endB sdN = true := cB_yes ⟨mayN, rfl⟩
theorem rdyA : (rdyv sdA).length = 2 := by rw [rdyv_yes mayA]; rfl
theorem rdyB : (rdyv sdB).length = 1 := by rw [rdyv_yes mayB2.1]; rfl
theorem may0 : mayv SD0 = 8 := mayv_no fun h => absurd h.2.1.1 (by decide)
theorem pC : sdC.p = 2 := rfl
theorem is_none {w : World} (f : Nat → Int) : IS w none 0 f := fun h => absurd h (by decide)
theorem is_17 {w : World} {g : Nat} (h : HasBlk w g 3 (Array.replicate 17 (.int .i64 0))) : IS w (some ⟨g, 0, none⟩) 17 fz := fun _ => by
  refine ⟨g, 0, rfl, h.lt, fun i hi => ?_⟩
  have c := h.cell i
  rw [Array.getElem?_replicate, if_pos hi] at c
  simpa [fz] using c
theorem is_m1 {w : World} {g : Nat} (h : HasBlk w g 3 #[.int .i64 (-1)]) : IS w (some ⟨g, 0, none⟩) 1 fm := fun _ => by
  refine ⟨g, 0, rfl, h.lt, fun i hi => ?_⟩
  have c := h.cell 0
  simp at c
  obtain rfl : i = 0 := by omega
  exact c
theorem check_zero (w : World) : Calls Try.prog 13 #[.agg #[.slice none 0 0, .int .i64 0, .int .i64 0, .slice none 0 0, .int .i64 0]] w fun e w' => e = .returned (.int .i64 8) ∧ Below w.heap.size w w' :=
  calls_congr (check_any ⟨none, 0, none, 0⟩ SD0 w (own_zero 0 w).1.ok) (congrArg (Value.int .i64) may0)
attribute [irreducible] sdA sdB sdC sdN
attribute [local irreducible] SD0
theorem mk17 (W : World) : (Instr.makeSlice 23 (.int .i64 17) (.int .i64 17)).run Try.prog W = .ok (.slice (some ⟨W.heap.size, 0, none⟩) 17 17) (W.alloc (.cells (Array.replicate 17 (.int .i64 0)) 3)) := by
  obtain ⟨i0, hi0, hz0, hz1, hz2⟩ := info_parts int_info
  have h := make_full Try.underlying23 hi0 hz0 17 (by omega) (by omega) W
  rw [hz1] at h
  have e : madeCells (Value.int .i64 0).cells (17 * 1) = Array.replicate 17 (.int .i64 0) := by kernel_rfl
  rw [e] at h
  exact h
theorem SOwn2.ok2 {B : Nat} {w : World} {p : SP} {s : SD} (h : SOwn2 B w p s) : SOk w p s := h.1.ok
theorem new_012' {t : SD} {x : Int} (h : NewV 2 3 l3 t x) : t = sdA ∧ x = 0 := ⟨by rw [(new_012 h).2]; unfold sdA; rfl, (new_012 h).1⟩
set_option maxRecDepth 100000 in
set_option maxHeartbeats 8000000 in
theorem schedNames_arg (w : World) : Calls Try.prog 3 #[] w fun e w' => e = .returned (.bool true) ∧ Below w.heap.size w w' := by
  go_enter Try.func3, Try.ntmps3
  go_wp2_with fail
  refine (alive_any _).mono ?_
  rintro e x1 ⟨rfl, bel⟩
  have SB1 : Below w.heap.size w x1 := bel
  have SB1h := Lib.hid SB1
  clear SB1 
  have szB_x1 := SB1h.out.size
  go_wp2_with fail
  have HL := Lib.hid (hasBlk_new x1 3 #[.int .i64 0, .int .i64 1, .int .i64 2])
  have SBn := Lib.hid (SB1h.out.alloc SB1h.out.size (.cells #[.int .i64 0, .int .i64 1, .int .i64 2] 3))
  clear SB1h
  generalize x1.alloc (.cells #[.int .i64 0, .int .i64 1, .int .i64 2] 3) = x2 at *
  have SB1h := Lib.hid SBn.out
  clear SBn
  have szB_x2 := SB1h.out.size
  refine (new_any 2 (some ⟨x1.heap.size, 0, none⟩) 3 3 l3 _ (is_012 HL.out)).mono ?_
  rintro e x3 ⟨⟨pa, t, x, rfl, hv, h_pa⟩, bel⟩
  obtain ⟨rfl, rfl⟩ := new_012' hv
  clear hv
  clear HL
  have SB2 : Below w.heap.size w x3 := SB1h.out.trans (bel.mono SB1h.out.size)
  clear SB1h
  have SB2h := Lib.hid SB2
  clear SB2 bel
  have szB_x3 := SB2h.out.size
  have O_pa := Lib.hid h_pa.ok2
  have C_pa := Lib.hid h_pa.cap
  clear h_pa
  go_wp2_with fail
  have t_O_pa := O_pa.out.below ((Below.refl x3.heap.size x3).alloc (Nat.le_refl _) (.cells #[.slice pa.a sdA.np pa.ka, .int .i64 sdA.p, .int .i64 sdA.n, .slice pa.b sdA.nb pa.kb, .int .i64 sdA.d] 25))
  clear O_pa
  have O_pa := Lib.hid t_O_pa
  clear t_O_pa
  have s_P : HasBlk (x3.alloc (.cells #[.slice pa.a sdA.np pa.ka, .int .i64 sdA.p, .int .i64 sdA.n, .slice pa.b sdA.nb pa.kb, .int .i64 sdA.d] 25)) (x3.heap.size) 25 #[.slice pa.a sdA.np pa.ka, .int .i64 sdA.p, .int .i64 sdA.n, .slice pa.b sdA.nb pa.kb, .int .i64 sdA.d] := by simpa using hasBlk_new x3 25 #[.slice pa.a sdA.np pa.ka, .int .i64 sdA.p, .int .i64 sdA.n, .slice pa.b sdA.nb pa.kb, .int .i64 sdA.d]
  have t_P : HasBlk (x3.alloc (.cells #[.slice pa.a sdA.np pa.ka, .int .i64 sdA.p, .int .i64 sdA.n, .slice pa.b sdA.nb pa.kb, .int .i64 sdA.d] 25)) (x3.heap.size) 25 #[.slice pa.a sdA.np pa.ka, .int .i64 sdA.p, .int .i64 sdA.n, .slice pa.b sdA.nb pa.kb, .int .i64 sdA.d] := by simpa using s_P
  clear s_P
  have SB3 : Below w.heap.size w (x3.alloc (.cells #[.slice pa.a sdA.np pa.ka, .int .i64 sdA.p, .int .i64 sdA.n, .slice pa.b sdA.nb pa.kb, .int .i64 sdA.d] 25)) := by
    have bel0 := SB2h.out
    repeat' (first | exact Below.refl _ _ | assumption | apply Below.drew | refine Below.setCell ?_ (by first | omega | (simp; done) | (simp; omega)) _ | refine Below.alloc ?_ (by first | omega | (simp; done) | (simp; omega)) _)
  generalize gW_x4 : (x3.alloc (.cells #[.slice pa.a sdA.np pa.ka, .int .i64 sdA.p, .int .i64 sdA.n, .slice pa.b sdA.nb pa.kb, .int .i64 sdA.d] 25)) = x4 at *
  clear gW_x4
  have P := Lib.hid t_P
  clear t_P
  clear SB2h
  have SB3h := Lib.hid SB3
  clear SB3
  have lt_P := P.out.lt
  have P_0 := P.out.cell 0
  have P_1 := P.out.cell 1
  have P_2 := P.out.cell 2
  have P_3 := P.out.cell 3
  have P_4 := P.out.cell 4
  simp at P_0 P_1 P_2 P_3 P_4
  have szB_x4 := SB3h.out.size
  go_wp2_with fail
  refine (ready_any pa sdA _ O_pa.out).mono ?_
  rintro e x5 ⟨⟨X, cx, rfl, ho⟩, bel⟩
  clear lt_P P_0 P_1 P_2 P_3 P_4
  clear ho
  have t_O_pa := O_pa.out.below bel
  clear O_pa
  have O_pa := Lib.hid t_O_pa
  clear t_O_pa
  have t_P := P.out.below bel
  clear P
  have P := Lib.hid t_P
  clear t_P
  have SB4 : Below w.heap.size w x5 := SB3h.out.trans (bel.mono SB3h.out.size)
  clear SB3h
  have SB4h := Lib.hid SB4
  clear SB4 bel
  have lt_P := P.out.lt
  have P_0 := P.out.cell 0
  have P_1 := P.out.cell 1
  have P_2 := P.out.cell 2
  have P_3 := P.out.cell 3
  have P_4 := P.out.cell 4
  simp at P_0 P_1 P_2 P_3 P_4
  have szB_x5 := SB4h.out.size
  rw [rdyA, mayv_yes mayA]
  go_wp2_with fail
  refine (step_any pa sdA 0 _ O_pa.out).mono ?_
  rintro e x6 ⟨⟨pb, t, u, v, x, rfl, hv, h_pb⟩, bel⟩
  clear lt_P P_0 P_1 P_2 P_3 P_4
  obtain ⟨rfl, rfl, rfl, rfl⟩ := stepA0 hv
  clear hv
  have t_O_pa := O_pa.out.below bel
  clear O_pa
  have O_pa := Lib.hid t_O_pa
  clear t_O_pa
  have t_P := P.out.below bel
  clear P
  have P := Lib.hid t_P
  clear t_P
  have SB5 : Below w.heap.size w x6 := SB4h.out.trans (bel.mono SB4h.out.size)
  clear SB4h
  have SB5h := Lib.hid SB5
  clear SB5 bel
  have lt_P := P.out.lt
  have P_0 := P.out.cell 0
  have P_1 := P.out.cell 1
  have P_2 := P.out.cell 2
  have P_3 := P.out.cell 3
  have P_4 := P.out.cell 4
  simp at P_0 P_1 P_2 P_3 P_4
  have szB_x6 := SB5h.out.size
  have O_pb := Lib.hid h_pb.ok2
  have C_pb := Lib.hid h_pb.cap
  clear h_pb
  go_wp2_with fail
  have t_O_pa := O_pa.out.below ((Below.refl x6.heap.size x6).alloc (Nat.le_refl _) (.cells #[.slice pb.a sdB.np pb.ka, .int .i64 sdB.p, .int .i64 sdB.n, .slice pb.b sdB.nb pb.kb, .int .i64 sdB.d] 25))
  clear O_pa
  have O_pa := Lib.hid t_O_pa
  clear t_O_pa
  have t_O_pb := O_pb.out.below ((Below.refl x6.heap.size x6).alloc (Nat.le_refl _) (.cells #[.slice pb.a sdB.np pb.ka, .int .i64 sdB.p, .int .i64 sdB.n, .slice pb.b sdB.nb pb.kb, .int .i64 sdB.d] 25))
  clear O_pb
  have O_pb := Lib.hid t_O_pb
  clear t_O_pb
  have NE_P_Q := Lib.hid (show x3.heap.size ≠ x6.heap.size by omega)
  have s_P := P.out
  replace s_P := s_P.alloc (.cells #[.slice pb.a sdB.np pb.ka, .int .i64 sdB.p, .int .i64 sdB.n, .slice pb.b sdB.nb pb.kb, .int .i64 sdB.d] 25)
  have s_Q : HasBlk (x6.alloc (.cells #[.slice pb.a sdB.np pb.ka, .int .i64 sdB.p, .int .i64 sdB.n, .slice pb.b sdB.nb pb.kb, .int .i64 sdB.d] 25)) (x6.heap.size) 25 #[.slice pb.a sdB.np pb.ka, .int .i64 sdB.p, .int .i64 sdB.n, .slice pb.b sdB.nb pb.kb, .int .i64 sdB.d] := by simpa using hasBlk_new x6 25 #[.slice pb.a sdB.np pb.ka, .int .i64 sdB.p, .int .i64 sdB.n, .slice pb.b sdB.nb pb.kb, .int .i64 sdB.d]
  have t_P : HasBlk (x6.alloc (.cells #[.slice pb.a sdB.np pb.ka, .int .i64 sdB.p, .int .i64 sdB.n, .slice pb.b sdB.nb pb.kb, .int .i64 sdB.d] 25)) (x3.heap.size) 25 #[.slice pa.a sdA.np pa.ka, .int .i64 sdA.p, .int .i64 sdA.n, .slice pa.b sdA.nb pa.kb, .int .i64 sdA.d] := by simpa using s_P
  clear s_P P
  have t_Q : HasBlk (x6.alloc (.cells #[.slice pb.a sdB.np pb.ka, .int .i64 sdB.p, .int .i64 sdB.n, .slice pb.b sdB.nb pb.kb, .int .i64 sdB.d] 25)) (x6.heap.size) 25 #[.slice pb.a sdB.np pb.ka, .int .i64 sdB.p, .int .i64 sdB.n, .slice pb.b sdB.nb pb.kb, .int .i64 sdB.d] := by simpa using s_Q
  clear s_Q
  have SB6 : Below w.heap.size w (x6.alloc (.cells #[.slice pb.a sdB.np pb.ka, .int .i64 sdB.p, .int .i64 sdB.n, .slice pb.b sdB.nb pb.kb, .int .i64 sdB.d] 25)) := by
    have bel0 := SB5h.out
    repeat' (first | exact Below.refl _ _ | assumption | apply Below.drew | refine Below.setCell ?_ (by first | omega | (simp; done) | (simp; omega)) _ | refine Below.alloc ?_ (by first | omega | (simp; done) | (simp; omega)) _)
  clear lt_P P_0 P_1 P_2 P_3 P_4
  generalize gW_x7 : (x6.alloc (.cells #[.slice pb.a sdB.np pb.ka, .int .i64 sdB.p, .int .i64 sdB.n, .slice pb.b sdB.nb pb.kb, .int .i64 sdB.d] 25)) = x7 at *
  clear gW_x7
  have P := Lib.hid t_P
  clear t_P
  have Q := Lib.hid t_Q
  clear t_Q
  clear SB5h
  have SB6h := Lib.hid SB6
  clear SB6
  have lt_P := P.out.lt
  have P_0 := P.out.cell 0
  have P_1 := P.out.cell 1
  have P_2 := P.out.cell 2
  have P_3 := P.out.cell 3
  have P_4 := P.out.cell 4
  simp at P_0 P_1 P_2 P_3 P_4
  have lt_Q := Q.out.lt
  have Q_0 := Q.out.cell 0
  have Q_1 := Q.out.cell 1
  have Q_2 := Q.out.cell 2
  have Q_3 := Q.out.cell 3
  have Q_4 := Q.out.cell 4
  simp at Q_0 Q_1 Q_2 Q_3 Q_4
  have szB_x7 := SB6h.out.size
  go_wp2_with fail
  refine (left_any pb sdB _ O_pb.out C_pb.out).mono ?_
  rintro e x8 ⟨rfl, bel⟩
  clear lt_P P_0 P_1 P_2 P_3 P_4 lt_Q Q_0 Q_1 Q_2 Q_3 Q_4
  have t_O_pa := O_pa.out.below bel
  clear O_pa
  have O_pa := Lib.hid t_O_pa
  clear t_O_pa
  have t_O_pb := O_pb.out.below bel
  clear O_pb
  have O_pb := Lib.hid t_O_pb
  clear t_O_pb
  have t_P := P.out.below bel
  clear P
  have P := Lib.hid t_P
  clear t_P
  have t_Q := Q.out.below bel
  clear Q
  have Q := Lib.hid t_Q
  clear t_Q
  have SB7 : Below w.heap.size w x8 := SB6h.out.trans (bel.mono SB6h.out.size)
  clear SB6h
  have SB7h := Lib.hid SB7
  clear SB7 bel
  have lt_P := P.out.lt
  have P_0 := P.out.cell 0
  have P_1 := P.out.cell 1
  have P_2 := P.out.cell 2
  have P_3 := P.out.cell 3
  have P_4 := P.out.cell 4
  simp at P_0 P_1 P_2 P_3 P_4
  have lt_Q := Q.out.lt
  have Q_0 := Q.out.cell 0
  have Q_1 := Q.out.cell 1
  have Q_2 := Q.out.cell 2
  have Q_3 := Q.out.cell 3
  have Q_4 := Q.out.cell 4
  simp at Q_0 Q_1 Q_2 Q_3 Q_4
  have szB_x8 := SB7h.out.size
  rw [leftv_yes mayB2.1, leftB, mayv_yes mayB2.1]
  go_wp2_with fail
  refine (ready_any pb sdB _ O_pb.out).mono ?_
  rintro e x9 ⟨⟨X2, cx2, rfl, ho⟩, bel⟩
  clear lt_P P_0 P_1 P_2 P_3 P_4 lt_Q Q_0 Q_1 Q_2 Q_3 Q_4
  clear ho
  have t_O_pa := O_pa.out.below bel
  clear O_pa
  have O_pa := Lib.hid t_O_pa
  clear t_O_pa
  have t_O_pb := O_pb.out.below bel
  clear O_pb
  have O_pb := Lib.hid t_O_pb
  clear t_O_pb
  have t_P := P.out.below bel
  clear P
  have P := Lib.hid t_P
  clear t_P
  have t_Q := Q.out.below bel
  clear Q
  have Q := Lib.hid t_Q
  clear t_Q
  have SB8 : Below w.heap.size w x9 := SB7h.out.trans (bel.mono SB7h.out.size)
  clear SB7h
  have SB8h := Lib.hid SB8
  clear SB8 bel
  have lt_P := P.out.lt
  have P_0 := P.out.cell 0
  have P_1 := P.out.cell 1
  have P_2 := P.out.cell 2
  have P_3 := P.out.cell 3
  have P_4 := P.out.cell 4
  simp at P_0 P_1 P_2 P_3 P_4
  have lt_Q := Q.out.lt
  have Q_0 := Q.out.cell 0
  have Q_1 := Q.out.cell 1
  have Q_2 := Q.out.cell 2
  have Q_3 := Q.out.cell 3
  have Q_4 := Q.out.cell 4
  simp at Q_0 Q_1 Q_2 Q_3 Q_4
  have szB_x9 := SB8h.out.size
  rw [rdyB, mayv_yes mayB2.1]
  go_wp2_with fail
  refine (step_any pb sdB 1 _ O_pb.out).mono ?_
  rintro e x10 ⟨⟨q, t, u, v, x, rfl, hv, ho⟩, bel⟩
  clear lt_P P_0 P_1 P_2 P_3 P_4 lt_Q Q_0 Q_1 Q_2 Q_3 Q_4
  obtain ⟨rfl, rfl, rfl, rfl⟩ := stepB1 hv
  clear hv
  have t_O_pa := O_pa.out.below bel
  clear O_pa
  have O_pa := Lib.hid t_O_pa
  clear t_O_pa
  have t_O_pb := O_pb.out.below bel
  clear O_pb
  have O_pb := Lib.hid t_O_pb
  clear t_O_pb
  have t_P := P.out.below bel
  clear P
  have P := Lib.hid t_P
  clear t_P
  have t_Q := Q.out.below bel
  clear Q
  have Q := Lib.hid t_Q
  clear t_Q
  have SB9 : Below w.heap.size w x10 := SB8h.out.trans (bel.mono SB8h.out.size)
  clear SB8h
  have SB9h := Lib.hid SB9
  clear SB9 bel
  have lt_P := P.out.lt
  have P_0 := P.out.cell 0
  have P_1 := P.out.cell 1
  have P_2 := P.out.cell 2
  have P_3 := P.out.cell 3
  have P_4 := P.out.cell 4
  simp at P_0 P_1 P_2 P_3 P_4
  have lt_Q := Q.out.lt
  have Q_0 := Q.out.cell 0
  have Q_1 := Q.out.cell 1
  have Q_2 := Q.out.cell 2
  have Q_3 := Q.out.cell 3
  have Q_4 := Q.out.cell 4
  simp at Q_0 Q_1 Q_2 Q_3 Q_4
  have szB_x10 := SB9h.out.size
  clear ho
  go_wp2_with fail
  have t_O_pa := O_pa.out.below ((Below.refl x10.heap.size x10).alloc (Nat.le_refl _) (.cells #[.slice q.a SD0.np q.ka, .int .i64 SD0.p, .int .i64 SD0.n, .slice q.b SD0.nb q.kb, .int .i64 SD0.d] 25))
  clear O_pa
  have O_pa := Lib.hid t_O_pa
  clear t_O_pa
  have t_O_pb := O_pb.out.below ((Below.refl x10.heap.size x10).alloc (Nat.le_refl _) (.cells #[.slice q.a SD0.np q.ka, .int .i64 SD0.p, .int .i64 SD0.n, .slice q.b SD0.nb q.kb, .int .i64 SD0.d] 25))
  clear O_pb
  have O_pb := Lib.hid t_O_pb
  clear t_O_pb
  have NE_P_D1 := Lib.hid (show x3.heap.size ≠ x10.heap.size by omega)
  have NE_Q_D1 := Lib.hid (show x6.heap.size ≠ x10.heap.size by omega)
  have s_P := P.out
  have s_Q := Q.out
  replace s_P := s_P.alloc (.cells #[.slice q.a SD0.np q.ka, .int .i64 SD0.p, .int .i64 SD0.n, .slice q.b SD0.nb q.kb, .int .i64 SD0.d] 25)
  replace s_Q := s_Q.alloc (.cells #[.slice q.a SD0.np q.ka, .int .i64 SD0.p, .int .i64 SD0.n, .slice q.b SD0.nb q.kb, .int .i64 SD0.d] 25)
  have s_D1 : HasBlk (x10.alloc (.cells #[.slice q.a SD0.np q.ka, .int .i64 SD0.p, .int .i64 SD0.n, .slice q.b SD0.nb q.kb, .int .i64 SD0.d] 25)) (x10.heap.size) 25 #[.slice q.a SD0.np q.ka, .int .i64 SD0.p, .int .i64 SD0.n, .slice q.b SD0.nb q.kb, .int .i64 SD0.d] := by simpa using hasBlk_new x10 25 #[.slice q.a SD0.np q.ka, .int .i64 SD0.p, .int .i64 SD0.n, .slice q.b SD0.nb q.kb, .int .i64 SD0.d]
  have t_P : HasBlk (x10.alloc (.cells #[.slice q.a SD0.np q.ka, .int .i64 SD0.p, .int .i64 SD0.n, .slice q.b SD0.nb q.kb, .int .i64 SD0.d] 25)) (x3.heap.size) 25 #[.slice pa.a sdA.np pa.ka, .int .i64 sdA.p, .int .i64 sdA.n, .slice pa.b sdA.nb pa.kb, .int .i64 sdA.d] := by simpa using s_P
  clear s_P P
  have t_Q : HasBlk (x10.alloc (.cells #[.slice q.a SD0.np q.ka, .int .i64 SD0.p, .int .i64 SD0.n, .slice q.b SD0.nb q.kb, .int .i64 SD0.d] 25)) (x6.heap.size) 25 #[.slice pb.a sdB.np pb.ka, .int .i64 sdB.p, .int .i64 sdB.n, .slice pb.b sdB.nb pb.kb, .int .i64 sdB.d] := by simpa using s_Q
  clear s_Q Q
  have t_D1 : HasBlk (x10.alloc (.cells #[.slice q.a SD0.np q.ka, .int .i64 SD0.p, .int .i64 SD0.n, .slice q.b SD0.nb q.kb, .int .i64 SD0.d] 25)) (x10.heap.size) 25 #[.slice q.a SD0.np q.ka, .int .i64 SD0.p, .int .i64 SD0.n, .slice q.b SD0.nb q.kb, .int .i64 SD0.d] := by simpa using s_D1
  clear s_D1
  have SB10 : Below w.heap.size w (x10.alloc (.cells #[.slice q.a SD0.np q.ka, .int .i64 SD0.p, .int .i64 SD0.n, .slice q.b SD0.nb q.kb, .int .i64 SD0.d] 25)) := by
    have bel0 := SB9h.out
    repeat' (first | exact Below.refl _ _ | assumption | apply Below.drew | refine Below.setCell ?_ (by first | omega | (simp; done) | (simp; omega)) _ | refine Below.alloc ?_ (by first | omega | (simp; done) | (simp; omega)) _)
  clear lt_P P_0 P_1 P_2 P_3 P_4 lt_Q Q_0 Q_1 Q_2 Q_3 Q_4
  generalize gW_x11 : (x10.alloc (.cells #[.slice q.a SD0.np q.ka, .int .i64 SD0.p, .int .i64 SD0.n, .slice q.b SD0.nb q.kb, .int .i64 SD0.d] 25)) = x11 at *
  clear gW_x11
  have P := Lib.hid t_P
  clear t_P
  have Q := Lib.hid t_Q
  clear t_Q
  have D1 := Lib.hid t_D1
  clear t_D1
  clear SB9h
  have SB10h := Lib.hid SB10
  clear SB10
  clear D1
  have lt_P := P.out.lt
  have P_0 := P.out.cell 0
  have P_1 := P.out.cell 1
  have P_2 := P.out.cell 2
  have P_3 := P.out.cell 3
  have P_4 := P.out.cell 4
  simp at P_0 P_1 P_2 P_3 P_4
  have lt_Q := Q.out.lt
  have Q_0 := Q.out.cell 0
  have Q_1 := Q.out.cell 1
  have Q_2 := Q.out.cell 2
  have Q_3 := Q.out.cell 3
  have Q_4 := Q.out.cell 4
  simp at Q_0 Q_1 Q_2 Q_3 Q_4
  have szB_x11 := SB10h.out.size
  go_wp2_with fail
  refine (step_any pb sdB 0 _ O_pb.out).mono ?_
  rintro e x12 ⟨⟨pc, t, u, v, x, rfl, hv, h_pc⟩, bel⟩
  clear lt_P P_0 P_1 P_2 P_3 P_4 lt_Q Q_0 Q_1 Q_2 Q_3 Q_4
  obtain ⟨rfl, rfl, rfl, rfl⟩ := stepB0 hv
  clear hv
  have t_O_pa := O_pa.out.below bel
  clear O_pa
  have O_pa := Lib.hid t_O_pa
  clear t_O_pa
  have t_O_pb := O_pb.out.below bel
  clear O_pb
  have O_pb := Lib.hid t_O_pb
  clear t_O_pb
  have t_P := P.out.below bel
  clear P
  have P := Lib.hid t_P
  clear t_P
  have t_Q := Q.out.below bel
  clear Q
  have Q := Lib.hid t_Q
  clear t_Q
  have SB11 : Below w.heap.size w x12 := SB10h.out.trans (bel.mono SB10h.out.size)
  clear SB10h
  have SB11h := Lib.hid SB11
  clear SB11 bel
  have lt_P := P.out.lt
  have P_0 := P.out.cell 0
  have P_1 := P.out.cell 1
  have P_2 := P.out.cell 2
  have P_3 := P.out.cell 3
  have P_4 := P.out.cell 4
  simp at P_0 P_1 P_2 P_3 P_4
  have lt_Q := Q.out.lt
  have Q_0 := Q.out.cell 0
  have Q_1 := Q.out.cell 1
  have Q_2 := Q.out.cell 2
  have Q_3 := Q.out.cell 3
  have Q_4 := Q.out.cell 4
  simp at Q_0 Q_1 Q_2 Q_3 Q_4
  have szB_x12 := SB11h.out.size
  have O_pc := Lib.hid h_pc.ok2
  have C_pc := Lib.hid h_pc.cap
  clear h_pc
  go_wp2_with fail
  have t_O_pa := O_pa.out.below ((Below.refl x12.heap.size x12).alloc (Nat.le_refl _) (.cells #[.slice pc.a sdC.np pc.ka, .int .i64 sdC.p, .int .i64 sdC.n, .slice pc.b sdC.nb pc.kb, .int .i64 sdC.d] 25))
  clear O_pa
  have O_pa := Lib.hid t_O_pa
  clear t_O_pa
  have t_O_pb := O_pb.out.below ((Below.refl x12.heap.size x12).alloc (Nat.le_refl _) (.cells #[.slice pc.a sdC.np pc.ka, .int .i64 sdC.p, .int .i64 sdC.n, .slice pc.b sdC.nb pc.kb, .int .i64 sdC.d] 25))
  clear O_pb
  have O_pb := Lib.hid t_O_pb
  clear t_O_pb
  have t_O_pc := O_pc.out.below ((Below.refl x12.heap.size x12).alloc (Nat.le_refl _) (.cells #[.slice pc.a sdC.np pc.ka, .int .i64 sdC.p, .int .i64 sdC.n, .slice pc.b sdC.nb pc.kb, .int .i64 sdC.d] 25))
  clear O_pc
  have O_pc := Lib.hid t_O_pc
  clear t_O_pc
  have NE_P_R := Lib.hid (show x3.heap.size ≠ x12.heap.size by omega)
  have NE_Q_R := Lib.hid (show x6.heap.size ≠ x12.heap.size by omega)
  have s_P := P.out
  have s_Q := Q.out
  replace s_P := s_P.alloc (.cells #[.slice pc.a sdC.np pc.ka, .int .i64 sdC.p, .int .i64 sdC.n, .slice pc.b sdC.nb pc.kb, .int .i64 sdC.d] 25)
  replace s_Q := s_Q.alloc (.cells #[.slice pc.a sdC.np pc.ka, .int .i64 sdC.p, .int .i64 sdC.n, .slice pc.b sdC.nb pc.kb, .int .i64 sdC.d] 25)
  have s_R : HasBlk (x12.alloc (.cells #[.slice pc.a sdC.np pc.ka, .int .i64 sdC.p, .int .i64 sdC.n, .slice pc.b sdC.nb pc.kb, .int .i64 sdC.d] 25)) (x12.heap.size) 25 #[.slice pc.a sdC.np pc.ka, .int .i64 sdC.p, .int .i64 sdC.n, .slice pc.b sdC.nb pc.kb, .int .i64 sdC.d] := by simpa using hasBlk_new x12 25 #[.slice pc.a sdC.np pc.ka, .int .i64 sdC.p, .int .i64 sdC.n, .slice pc.b sdC.nb pc.kb, .int .i64 sdC.d]
  have t_P : HasBlk (x12.alloc (.cells #[.slice pc.a sdC.np pc.ka, .int .i64 sdC.p, .int .i64 sdC.n, .slice pc.b sdC.nb pc.kb, .int .i64 sdC.d] 25)) (x3.heap.size) 25 #[.slice pa.a sdA.np pa.ka, .int .i64 sdA.p, .int .i64 sdA.n, .slice pa.b sdA.nb pa.kb, .int .i64 sdA.d] := by simpa using s_P
  clear s_P P
  have t_Q : HasBlk (x12.alloc (.cells #[.slice pc.a sdC.np pc.ka, .int .i64 sdC.p, .int .i64 sdC.n, .slice pc.b sdC.nb pc.kb, .int .i64 sdC.d] 25)) (x6.heap.size) 25 #[.slice pb.a sdB.np pb.ka, .int .i64 sdB.p, .int .i64 sdB.n, .slice pb.b sdB.nb pb.kb, .int .i64 sdB.d] := by simpa using s_Q
  clear s_Q Q
  have t_R : HasBlk (x12.alloc (.cells #[.slice pc.a sdC.np pc.ka, .int .i64 sdC.p, .int .i64 sdC.n, .slice pc.b sdC.nb pc.kb, .int .i64 sdC.d] 25)) (x12.heap.size) 25 #[.slice pc.a sdC.np pc.ka, .int .i64 sdC.p, .int .i64 sdC.n, .slice pc.b sdC.nb pc.kb, .int .i64 sdC.d] := by simpa using s_R
  clear s_R
  have SB12 : Below w.heap.size w (x12.alloc (.cells #[.slice pc.a sdC.np pc.ka, .int .i64 sdC.p, .int .i64 sdC.n, .slice pc.b sdC.nb pc.kb, .int .i64 sdC.d] 25)) := by
    have bel0 := SB11h.out
    repeat' (first | exact Below.refl _ _ | assumption | apply Below.drew | refine Below.setCell ?_ (by first | omega | (simp; done) | (simp; omega)) _ | refine Below.alloc ?_ (by first | omega | (simp; done) | (simp; omega)) _)
  clear lt_P P_0 P_1 P_2 P_3 P_4 lt_Q Q_0 Q_1 Q_2 Q_3 Q_4
  generalize gW_x13 : (x12.alloc (.cells #[.slice pc.a sdC.np pc.ka, .int .i64 sdC.p, .int .i64 sdC.n, .slice pc.b sdC.nb pc.kb, .int .i64 sdC.d] 25)) = x13 at *
  clear gW_x13
  have P := Lib.hid t_P
  clear t_P
  have Q := Lib.hid t_Q
  clear t_Q
  have R := Lib.hid t_R
  clear t_R
  clear SB11h
  have SB12h := Lib.hid SB12
  clear SB12
  rw [pC] at R
  have lt_P := P.out.lt
  have P_0 := P.out.cell 0
  have P_1 := P.out.cell 1
  have P_2 := P.out.cell 2
  have P_3 := P.out.cell 3
  have P_4 := P.out.cell 4
  simp at P_0 P_1 P_2 P_3 P_4
  have lt_Q := Q.out.lt
  have Q_0 := Q.out.cell 0
  have Q_1 := Q.out.cell 1
  have Q_2 := Q.out.cell 2
  have Q_3 := Q.out.cell 3
  have Q_4 := Q.out.cell 4
  simp at Q_0 Q_1 Q_2 Q_3 Q_4
  have lt_R := R.out.lt
  have R_0 := R.out.cell 0
  have R_1 := R.out.cell 1
  have R_2 := R.out.cell 2
  have R_3 := R.out.cell 3
  have R_4 := R.out.cell 4
  simp at R_0 R_1 R_2 R_3 R_4
  have szB_x13 := SB12h.out.size
  go_wp2_with fail
  refine (left_any pc sdC _ O_pc.out C_pc.out).mono ?_
  rintro e x14 ⟨rfl, bel⟩
  clear lt_P P_0 P_1 P_2 P_3 P_4 lt_Q Q_0 Q_1 Q_2 Q_3 Q_4 lt_R R_0 R_1 R_2 R_3 R_4
  have t_O_pa := O_pa.out.below bel
  clear O_pa
  have O_pa := Lib.hid t_O_pa
  clear t_O_pa
  have t_O_pb := O_pb.out.below bel
  clear O_pb
  have O_pb := Lib.hid t_O_pb
  clear t_O_pb
  have t_O_pc := O_pc.out.below bel
  clear O_pc
  have O_pc := Lib.hid t_O_pc
  clear t_O_pc
  have t_P := P.out.below bel
  clear P
  have P := Lib.hid t_P
  clear t_P
  have t_Q := Q.out.below bel
  clear Q
  have Q := Lib.hid t_Q
  clear t_Q
  have t_R := R.out.below bel
  clear R
  have R := Lib.hid t_R
  clear t_R
  have SB13 : Below w.heap.size w x14 := SB12h.out.trans (bel.mono SB12h.out.size)
  clear SB12h
  have SB13h := Lib.hid SB13
  clear SB13 bel
  have lt_P := P.out.lt
  have P_0 := P.out.cell 0
  have P_1 := P.out.cell 1
  have P_2 := P.out.cell 2
  have P_3 := P.out.cell 3
  have P_4 := P.out.cell 4
  simp at P_0 P_1 P_2 P_3 P_4
  have lt_Q := Q.out.lt
  have Q_0 := Q.out.cell 0
  have Q_1 := Q.out.cell 1
  have Q_2 := Q.out.cell 2
  have Q_3 := Q.out.cell 3
  have Q_4 := Q.out.cell 4
  simp at Q_0 Q_1 Q_2 Q_3 Q_4
  have lt_R := R.out.lt
  have R_0 := R.out.cell 0
  have R_1 := R.out.cell 1
  have R_2 := R.out.cell 2
  have R_3 := R.out.cell 3
  have R_4 := R.out.cell 4
  simp at R_0 R_1 R_2 R_3 R_4
  have szB_x14 := SB13h.out.size
  rw [leftv_yes mayC2.1, leftC, mayv_yes mayC2.1]
  go_wp2_with fail
  refine (new_any 0 none 0 0 fz _ (is_none fz)).mono ?_
  rintro e x15 ⟨⟨q, t, x, rfl, hv, ho⟩, bel⟩
  clear lt_P P_0 P_1 P_2 P_3 P_4 lt_Q Q_0 Q_1 Q_2 Q_3 Q_4 lt_R R_0 R_1 R_2 R_3 R_4
  obtain ⟨rfl, rfl⟩ := new00 hv
  clear hv
  have t_O_pa := O_pa.out.below bel
  clear O_pa
  have O_pa := Lib.hid t_O_pa
  clear t_O_pa
  have t_O_pb := O_pb.out.below bel
  clear O_pb
  have O_pb := Lib.hid t_O_pb
  clear t_O_pb
  have t_O_pc := O_pc.out.below bel
  clear O_pc
  have O_pc := Lib.hid t_O_pc
  clear t_O_pc
  have t_P := P.out.below bel
  clear P
  have P := Lib.hid t_P
  clear t_P
  have t_Q := Q.out.below bel
  clear Q
  have Q := Lib.hid t_Q
  clear t_Q
  have t_R := R.out.below bel
  clear R
  have R := Lib.hid t_R
  clear t_R
  have SB14 : Below w.heap.size w x15 := SB13h.out.trans (bel.mono SB13h.out.size)
  clear SB13h
  have SB14h := Lib.hid SB14
  clear SB14 bel
  have lt_P := P.out.lt
  have P_0 := P.out.cell 0
  have P_1 := P.out.cell 1
  have P_2 := P.out.cell 2
  have P_3 := P.out.cell 3
  have P_4 := P.out.cell 4
  simp at P_0 P_1 P_2 P_3 P_4
  have lt_Q := Q.out.lt
  have Q_0 := Q.out.cell 0
  have Q_1 := Q.out.cell 1
  have Q_2 := Q.out.cell 2
  have Q_3 := Q.out.cell 3
  have Q_4 := Q.out.cell 4
  simp at Q_0 Q_1 Q_2 Q_3 Q_4
  have lt_R := R.out.lt
  have R_0 := R.out.cell 0
  have R_1 := R.out.cell 1
  have R_2 := R.out.cell 2
  have R_3 := R.out.cell 3
  have R_4 := R.out.cell 4
  simp at R_0 R_1 R_2 R_3 R_4
  have szB_x15 := SB14h.out.size
  clear ho
  go_wp2_with fail
  have t_O_pa := O_pa.out.below ((Below.refl x15.heap.size x15).alloc (Nat.le_refl _) (.cells #[.slice q.a SD0.np q.ka, .int .i64 SD0.p, .int .i64 SD0.n, .slice q.b SD0.nb q.kb, .int .i64 SD0.d] 25))
  clear O_pa
  have O_pa := Lib.hid t_O_pa
  clear t_O_pa
  have t_O_pb := O_pb.out.below ((Below.refl x15.heap.size x15).alloc (Nat.le_refl _) (.cells #[.slice q.a SD0.np q.ka, .int .i64 SD0.p, .int .i64 SD0.n, .slice q.b SD0.nb q.kb, .int .i64 SD0.d] 25))
  clear O_pb
  have O_pb := Lib.hid t_O_pb
  clear t_O_pb
  have t_O_pc := O_pc.out.below ((Below.refl x15.heap.size x15).alloc (Nat.le_refl _) (.cells #[.slice q.a SD0.np q.ka, .int .i64 SD0.p, .int .i64 SD0.n, .slice q.b SD0.nb q.kb, .int .i64 SD0.d] 25))
  clear O_pc
  have O_pc := Lib.hid t_O_pc
  clear t_O_pc
  have NE_P_D2 := Lib.hid (show x3.heap.size ≠ x15.heap.size by omega)
  have NE_Q_D2 := Lib.hid (show x6.heap.size ≠ x15.heap.size by omega)
  have NE_R_D2 := Lib.hid (show x12.heap.size ≠ x15.heap.size by omega)
  have s_P := P.out
  have s_Q := Q.out
  have s_R := R.out
  replace s_P := s_P.alloc (.cells #[.slice q.a SD0.np q.ka, .int .i64 SD0.p, .int .i64 SD0.n, .slice q.b SD0.nb q.kb, .int .i64 SD0.d] 25)
  replace s_Q := s_Q.alloc (.cells #[.slice q.a SD0.np q.ka, .int .i64 SD0.p, .int .i64 SD0.n, .slice q.b SD0.nb q.kb, .int .i64 SD0.d] 25)
  replace s_R := s_R.alloc (.cells #[.slice q.a SD0.np q.ka, .int .i64 SD0.p, .int .i64 SD0.n, .slice q.b SD0.nb q.kb, .int .i64 SD0.d] 25)
  have s_D2 : HasBlk (x15.alloc (.cells #[.slice q.a SD0.np q.ka, .int .i64 SD0.p, .int .i64 SD0.n, .slice q.b SD0.nb q.kb, .int .i64 SD0.d] 25)) (x15.heap.size) 25 #[.slice q.a SD0.np q.ka, .int .i64 SD0.p, .int .i64 SD0.n, .slice q.b SD0.nb q.kb, .int .i64 SD0.d] := by simpa using hasBlk_new x15 25 #[.slice q.a SD0.np q.ka, .int .i64 SD0.p, .int .i64 SD0.n, .slice q.b SD0.nb q.kb, .int .i64 SD0.d]
  have t_P : HasBlk (x15.alloc (.cells #[.slice q.a SD0.np q.ka, .int .i64 SD0.p, .int .i64 SD0.n, .slice q.b SD0.nb q.kb, .int .i64 SD0.d] 25)) (x3.heap.size) 25 #[.slice pa.a sdA.np pa.ka, .int .i64 sdA.p, .int .i64 sdA.n, .slice pa.b sdA.nb pa.kb, .int .i64 sdA.d] := by simpa using s_P
  clear s_P P
  have t_Q : HasBlk (x15.alloc (.cells #[.slice q.a SD0.np q.ka, .int .i64 SD0.p, .int .i64 SD0.n, .slice q.b SD0.nb q.kb, .int .i64 SD0.d] 25)) (x6.heap.size) 25 #[.slice pb.a sdB.np pb.ka, .int .i64 sdB.p, .int .i64 sdB.n, .slice pb.b sdB.nb pb.kb, .int .i64 sdB.d] := by simpa using s_Q
  clear s_Q Q
  have t_R : HasBlk (x15.alloc (.cells #[.slice q.a SD0.np q.ka, .int .i64 SD0.p, .int .i64 SD0.n, .slice q.b SD0.nb q.kb, .int .i64 SD0.d] 25)) (x12.heap.size) 25 #[.slice pc.a sdC.np pc.ka, .int .i64 2, .int .i64 sdC.n, .slice pc.b sdC.nb pc.kb, .int .i64 sdC.d] := by simpa using s_R
  clear s_R R
  have t_D2 : HasBlk (x15.alloc (.cells #[.slice q.a SD0.np q.ka, .int .i64 SD0.p, .int .i64 SD0.n, .slice q.b SD0.nb q.kb, .int .i64 SD0.d] 25)) (x15.heap.size) 25 #[.slice q.a SD0.np q.ka, .int .i64 SD0.p, .int .i64 SD0.n, .slice q.b SD0.nb q.kb, .int .i64 SD0.d] := by simpa using s_D2
  clear s_D2
  have SB15 : Below w.heap.size w (x15.alloc (.cells #[.slice q.a SD0.np q.ka, .int .i64 SD0.p, .int .i64 SD0.n, .slice q.b SD0.nb q.kb, .int .i64 SD0.d] 25)) := by
    have bel0 := SB14h.out
    repeat' (first | exact Below.refl _ _ | assumption | apply Below.drew | refine Below.setCell ?_ (by first | omega | (simp; done) | (simp; omega)) _ | refine Below.alloc ?_ (by first | omega | (simp; done) | (simp; omega)) _)
  clear lt_P P_0 P_1 P_2 P_3 P_4 lt_Q Q_0 Q_1 Q_2 Q_3 Q_4 lt_R R_0 R_1 R_2 R_3 R_4
  generalize gW_x16 : (x15.alloc (.cells #[.slice q.a SD0.np q.ka, .int .i64 SD0.p, .int .i64 SD0.n, .slice q.b SD0.nb q.kb, .int .i64 SD0.d] 25)) = x16 at *
  clear gW_x16
  have P := Lib.hid t_P
  clear t_P
  have Q := Lib.hid t_Q
  clear t_Q
  have R := Lib.hid t_R
  clear t_R
  have D2 := Lib.hid t_D2
  clear t_D2
  clear SB14h
  have SB15h := Lib.hid SB15
  clear SB15
  clear D2
  have lt_P := P.out.lt
  have P_0 := P.out.cell 0
  have P_1 := P.out.cell 1
  have P_2 := P.out.cell 2
  have P_3 := P.out.cell 3
  have P_4 := P.out.cell 4
  simp at P_0 P_1 P_2 P_3 P_4
  have lt_Q := Q.out.lt
  have Q_0 := Q.out.cell 0
  have Q_1 := Q.out.cell 1
  have Q_2 := Q.out.cell 2
  have Q_3 := Q.out.cell 3
  have Q_4 := Q.out.cell 4
  simp at Q_0 Q_1 Q_2 Q_3 Q_4
  have lt_R := R.out.lt
  have R_0 := R.out.cell 0
  have R_1 := R.out.cell 1
  have R_2 := R.out.cell 2
  have R_3 := R.out.cell 3
  have R_4 := R.out.cell 4
  simp at R_0 R_1 R_2 R_3 R_4
  have szB_x16 := SB15h.out.size
  have hmk := mk17
  go_wp2_with fail
  simp only [hmk]
  go_wp2_with fail
  clear lt_P P_0 P_1 P_2 P_3 P_4 lt_Q Q_0 Q_1 Q_2 Q_3 Q_4 lt_R R_0 R_1 R_2 R_3 R_4
  have HL := Lib.hid (hasBlk_new x16 3 (Array.replicate 17 (.int .i64 0)))
  have t_O_pa := O_pa.out.below ((Below.refl x16.heap.size x16).alloc (Nat.le_refl _) (.cells (Array.replicate 17 (.int .i64 0)) 3))
  clear O_pa
  have O_pa := Lib.hid t_O_pa
  clear t_O_pa
  have t_O_pb := O_pb.out.below ((Below.refl x16.heap.size x16).alloc (Nat.le_refl _) (.cells (Array.replicate 17 (.int .i64 0)) 3))
  clear O_pb
  have O_pb := Lib.hid t_O_pb
  clear t_O_pb
  have t_O_pc := O_pc.out.below ((Below.refl x16.heap.size x16).alloc (Nat.le_refl _) (.cells (Array.replicate 17 (.int .i64 0)) 3))
  clear O_pc
  have O_pc := Lib.hid t_O_pc
  clear t_O_pc
  have t_P := P.out.below ((Below.refl x16.heap.size x16).alloc (Nat.le_refl _) (.cells (Array.replicate 17 (.int .i64 0)) 3))
  clear P
  have P := Lib.hid t_P
  clear t_P
  have t_Q := Q.out.below ((Below.refl x16.heap.size x16).alloc (Nat.le_refl _) (.cells (Array.replicate 17 (.int .i64 0)) 3))
  clear Q
  have Q := Lib.hid t_Q
  clear t_Q
  have t_R := R.out.below ((Below.refl x16.heap.size x16).alloc (Nat.le_refl _) (.cells (Array.replicate 17 (.int .i64 0)) 3))
  clear R
  have R := Lib.hid t_R
  clear t_R
  have SBn := Lib.hid (SB15h.out.alloc SB15h.out.size (.cells (Array.replicate 17 (.int .i64 0)) 3))
  clear SB15h
  generalize x16.alloc (.cells (Array.replicate 17 (.int .i64 0)) 3) = x17 at *
  have SB15h := Lib.hid SBn.out
  clear SBn
  have lt_P := P.out.lt
  have P_0 := P.out.cell 0
  have P_1 := P.out.cell 1
  have P_2 := P.out.cell 2
  have P_3 := P.out.cell 3
  have P_4 := P.out.cell 4
  simp at P_0 P_1 P_2 P_3 P_4
  have lt_Q := Q.out.lt
  have Q_0 := Q.out.cell 0
  have Q_1 := Q.out.cell 1
  have Q_2 := Q.out.cell 2
  have Q_3 := Q.out.cell 3
  have Q_4 := Q.out.cell 4
  simp at Q_0 Q_1 Q_2 Q_3 Q_4
  have lt_R := R.out.lt
  have R_0 := R.out.cell 0
  have R_1 := R.out.cell 1
  have R_2 := R.out.cell 2
  have R_3 := R.out.cell 3
  have R_4 := R.out.cell 4
  simp at R_0 R_1 R_2 R_3 R_4
  have szB_x17 := SB15h.out.size
  refine (new_any 1 (some ⟨x16.heap.size, 0, none⟩) 17 17 fz _ (is_17 HL.out)).mono ?_
  rintro e x18 ⟨⟨q, t, x, rfl, hv, ho⟩, bel⟩
  clear lt_P P_0 P_1 P_2 P_3 P_4 lt_Q Q_0 Q_1 Q_2 Q_3 Q_4 lt_R R_0 R_1 R_2 R_3 R_4
  obtain ⟨rfl, rfl⟩ := new17 hv
  clear hv
  clear HL
  have t_O_pa := O_pa.out.below bel
  clear O_pa
  have O_pa := Lib.hid t_O_pa
  clear t_O_pa
  have t_O_pb := O_pb.out.below bel
  clear O_pb
  have O_pb := Lib.hid t_O_pb
  clear t_O_pb
  have t_O_pc := O_pc.out.below bel
  clear O_pc
  have O_pc := Lib.hid t_O_pc
  clear t_O_pc
  have t_P := P.out.below bel
  clear P
  have P := Lib.hid t_P
  clear t_P
  have t_Q := Q.out.below bel
  clear Q
  have Q := Lib.hid t_Q
  clear t_Q
  have t_R := R.out.below bel
  clear R
  have R := Lib.hid t_R
  clear t_R
  have SB16 : Below w.heap.size w x18 := SB15h.out.trans (bel.mono SB15h.out.size)
  clear SB15h
  have SB16h := Lib.hid SB16
  clear SB16 bel
  have lt_P := P.out.lt
  have P_0 := P.out.cell 0
  have P_1 := P.out.cell 1
  have P_2 := P.out.cell 2
  have P_3 := P.out.cell 3
  have P_4 := P.out.cell 4
  simp at P_0 P_1 P_2 P_3 P_4
  have lt_Q := Q.out.lt
  have Q_0 := Q.out.cell 0
  have Q_1 := Q.out.cell 1
  have Q_2 := Q.out.cell 2
  have Q_3 := Q.out.cell 3
  have Q_4 := Q.out.cell 4
  simp at Q_0 Q_1 Q_2 Q_3 Q_4
  have lt_R := R.out.lt
  have R_0 := R.out.cell 0
  have R_1 := R.out.cell 1
  have R_2 := R.out.cell 2
  have R_3 := R.out.cell 3
  have R_4 := R.out.cell 4
  simp at R_0 R_1 R_2 R_3 R_4
  have szB_x18 := SB16h.out.size
  clear ho
  go_wp2_with fail
  have hsz : (x18.alloc (.cells #[.slice q.a SD0.np q.ka, .int .i64 SD0.p, .int .i64 SD0.n, .slice q.b SD0.nb q.kb, .int .i64 SD0.d] 25)).heap.size = x18.heap.size + 1 := by simp
  have t_O_pa := O_pa.out.below ((Below.refl x18.heap.size x18).alloc (Nat.le_refl _) (.cells #[.slice q.a SD0.np q.ka, .int .i64 SD0.p, .int .i64 SD0.n, .slice q.b SD0.nb q.kb, .int .i64 SD0.d] 25))
  clear O_pa
  have O_pa := Lib.hid t_O_pa
  clear t_O_pa
  have t_O_pb := O_pb.out.below ((Below.refl x18.heap.size x18).alloc (Nat.le_refl _) (.cells #[.slice q.a SD0.np q.ka, .int .i64 SD0.p, .int .i64 SD0.n, .slice q.b SD0.nb q.kb, .int .i64 SD0.d] 25))
  clear O_pb
  have O_pb := Lib.hid t_O_pb
  clear t_O_pb
  have t_O_pc := O_pc.out.below ((Below.refl x18.heap.size x18).alloc (Nat.le_refl _) (.cells #[.slice q.a SD0.np q.ka, .int .i64 SD0.p, .int .i64 SD0.n, .slice q.b SD0.nb q.kb, .int .i64 SD0.d] 25))
  clear O_pc
  have O_pc := Lib.hid t_O_pc
  clear t_O_pc
  have NE_P_D3 := Lib.hid (show x3.heap.size ≠ x18.heap.size by omega)
  have NE_Q_D3 := Lib.hid (show x6.heap.size ≠ x18.heap.size by omega)
  have NE_R_D3 := Lib.hid (show x12.heap.size ≠ x18.heap.size by omega)
  have s_P := P.out
  have s_Q := Q.out
  have s_R := R.out
  replace s_P := s_P.alloc (.cells #[.slice q.a SD0.np q.ka, .int .i64 SD0.p, .int .i64 SD0.n, .slice q.b SD0.nb q.kb, .int .i64 SD0.d] 25)
  replace s_Q := s_Q.alloc (.cells #[.slice q.a SD0.np q.ka, .int .i64 SD0.p, .int .i64 SD0.n, .slice q.b SD0.nb q.kb, .int .i64 SD0.d] 25)
  replace s_R := s_R.alloc (.cells #[.slice q.a SD0.np q.ka, .int .i64 SD0.p, .int .i64 SD0.n, .slice q.b SD0.nb q.kb, .int .i64 SD0.d] 25)
  have s_D3 : HasBlk (x18.alloc (.cells #[.slice q.a SD0.np q.ka, .int .i64 SD0.p, .int .i64 SD0.n, .slice q.b SD0.nb q.kb, .int .i64 SD0.d] 25)) (x18.heap.size) 25 #[.slice q.a SD0.np q.ka, .int .i64 SD0.p, .int .i64 SD0.n, .slice q.b SD0.nb q.kb, .int .i64 SD0.d] := by simpa using hasBlk_new x18 25 #[.slice q.a SD0.np q.ka, .int .i64 SD0.p, .int .i64 SD0.n, .slice q.b SD0.nb q.kb, .int .i64 SD0.d]
  have t_P : HasBlk (x18.alloc (.cells #[.slice q.a SD0.np q.ka, .int .i64 SD0.p, .int .i64 SD0.n, .slice q.b SD0.nb q.kb, .int .i64 SD0.d] 25)) (x3.heap.size) 25 #[.slice pa.a sdA.np pa.ka, .int .i64 sdA.p, .int .i64 sdA.n, .slice pa.b sdA.nb pa.kb, .int .i64 sdA.d] := by simpa using s_P
  clear s_P P
  have t_Q : HasBlk (x18.alloc (.cells #[.slice q.a SD0.np q.ka, .int .i64 SD0.p, .int .i64 SD0.n, .slice q.b SD0.nb q.kb, .int .i64 SD0.d] 25)) (x6.heap.size) 25 #[.slice pb.a sdB.np pb.ka, .int .i64 sdB.p, .int .i64 sdB.n, .slice pb.b sdB.nb pb.kb, .int .i64 sdB.d] := by simpa using s_Q
  clear s_Q Q
  have t_R : HasBlk (x18.alloc (.cells #[.slice q.a SD0.np q.ka, .int .i64 SD0.p, .int .i64 SD0.n, .slice q.b SD0.nb q.kb, .int .i64 SD0.d] 25)) (x12.heap.size) 25 #[.slice pc.a sdC.np pc.ka, .int .i64 2, .int .i64 sdC.n, .slice pc.b sdC.nb pc.kb, .int .i64 sdC.d] := by simpa using s_R
  clear s_R R
  have t_D3 : HasBlk (x18.alloc (.cells #[.slice q.a SD0.np q.ka, .int .i64 SD0.p, .int .i64 SD0.n, .slice q.b SD0.nb q.kb, .int .i64 SD0.d] 25)) (x18.heap.size) 25 #[.slice q.a SD0.np q.ka, .int .i64 SD0.p, .int .i64 SD0.n, .slice q.b SD0.nb q.kb, .int .i64 SD0.d] := by simpa using s_D3
  clear s_D3
  have SB17 : Below w.heap.size w (x18.alloc (.cells #[.slice q.a SD0.np q.ka, .int .i64 SD0.p, .int .i64 SD0.n, .slice q.b SD0.nb q.kb, .int .i64 SD0.d] 25)) := by
    have bel0 := SB16h.out
    repeat' (first | exact Below.refl _ _ | assumption | apply Below.drew | refine Below.setCell ?_ (by first | omega | (simp; done) | (simp; omega)) _ | refine Below.alloc ?_ (by first | omega | (simp; done) | (simp; omega)) _)
  clear lt_P P_0 P_1 P_2 P_3 P_4 lt_Q Q_0 Q_1 Q_2 Q_3 Q_4 lt_R R_0 R_1 R_2 R_3 R_4
  generalize gW_x19 : (x18.alloc (.cells #[.slice q.a SD0.np q.ka, .int .i64 SD0.p, .int .i64 SD0.n, .slice q.b SD0.nb q.kb, .int .i64 SD0.d] 25)) = x19 at *
  clear gW_x19
  have P := Lib.hid t_P
  clear t_P
  have Q := Lib.hid t_Q
  clear t_Q
  have R := Lib.hid t_R
  clear t_R
  have D3 := Lib.hid t_D3
  clear t_D3
  clear SB16h
  have SB17h := Lib.hid SB17
  clear SB17
  clear D3
  have lt_P := P.out.lt
  have P_0 := P.out.cell 0
  have P_1 := P.out.cell 1
  have P_2 := P.out.cell 2
  have P_3 := P.out.cell 3
  have P_4 := P.out.cell 4
  simp at P_0 P_1 P_2 P_3 P_4
  have lt_Q := Q.out.lt
  have Q_0 := Q.out.cell 0
  have Q_1 := Q.out.cell 1
  have Q_2 := Q.out.cell 2
  have Q_3 := Q.out.cell 3
  have Q_4 := Q.out.cell 4
  simp at Q_0 Q_1 Q_2 Q_3 Q_4
  have lt_R := R.out.lt
  have R_0 := R.out.cell 0
  have R_1 := R.out.cell 1
  have R_2 := R.out.cell 2
  have R_3 := R.out.cell 3
  have R_4 := R.out.cell 4
  simp at R_0 R_1 R_2 R_3 R_4
  have szB_x19 := SB17h.out.size
  rw [← hsz]
  clear hsz
  go_wp2_with fail
  clear hmk
  clear lt_P P_0 P_1 P_2 P_3 P_4 lt_Q Q_0 Q_1 Q_2 Q_3 Q_4 lt_R R_0 R_1 R_2 R_3 R_4
  have HL := Lib.hid (hasBlk_new x19 3 #[.int .i64 (-1)])
  have t_O_pa := O_pa.out.below ((Below.refl x19.heap.size x19).alloc (Nat.le_refl _) (.cells #[.int .i64 (-1)] 3))
  clear O_pa
  have O_pa := Lib.hid t_O_pa
  clear t_O_pa
  have t_O_pb := O_pb.out.below ((Below.refl x19.heap.size x19).alloc (Nat.le_refl _) (.cells #[.int .i64 (-1)] 3))
  clear O_pb
  have O_pb := Lib.hid t_O_pb
  clear t_O_pb
  have t_O_pc := O_pc.out.below ((Below.refl x19.heap.size x19).alloc (Nat.le_refl _) (.cells #[.int .i64 (-1)] 3))
  clear O_pc
  have O_pc := Lib.hid t_O_pc
  clear t_O_pc
  have t_P := P.out.below ((Below.refl x19.heap.size x19).alloc (Nat.le_refl _) (.cells #[.int .i64 (-1)] 3))
  clear P
  have P := Lib.hid t_P
  clear t_P
  have t_Q := Q.out.below ((Below.refl x19.heap.size x19).alloc (Nat.le_refl _) (.cells #[.int .i64 (-1)] 3))
  clear Q
  have Q := Lib.hid t_Q
  clear t_Q
  have t_R := R.out.below ((Below.refl x19.heap.size x19).alloc (Nat.le_refl _) (.cells #[.int .i64 (-1)] 3))
  clear R
  have R := Lib.hid t_R
  clear t_R
  have SBn := Lib.hid (SB17h.out.alloc SB17h.out.size (.cells #[.int .i64 (-1)] 3))
  clear SB17h
  generalize x19.alloc (.cells #[.int .i64 (-1)] 3) = x20 at *
  have SB17h := Lib.hid SBn.out
  clear SBn
  have lt_P := P.out.lt
  have P_0 := P.out.cell 0
  have P_1 := P.out.cell 1
  have P_2 := P.out.cell 2
  have P_3 := P.out.cell 3
  have P_4 := P.out.cell 4
  simp at P_0 P_1 P_2 P_3 P_4
  have lt_Q := Q.out.lt
  have Q_0 := Q.out.cell 0
  have Q_1 := Q.out.cell 1
  have Q_2 := Q.out.cell 2
  have Q_3 := Q.out.cell 3
  have Q_4 := Q.out.cell 4
  simp at Q_0 Q_1 Q_2 Q_3 Q_4
  have lt_R := R.out.lt
  have R_0 := R.out.cell 0
  have R_1 := R.out.cell 1
  have R_2 := R.out.cell 2
  have R_3 := R.out.cell 3
  have R_4 := R.out.cell 4
  simp at R_0 R_1 R_2 R_3 R_4
  have szB_x20 := SB17h.out.size
  refine (new_any 1 (some ⟨x19.heap.size, 0, none⟩) 1 1 fm _ (is_m1 HL.out)).mono ?_
  rintro e x21 ⟨⟨q, t, x, rfl, hv, ho⟩, bel⟩
  clear lt_P P_0 P_1 P_2 P_3 P_4 lt_Q Q_0 Q_1 Q_2 Q_3 Q_4 lt_R R_0 R_1 R_2 R_3 R_4
  obtain ⟨rfl, rfl⟩ := newm1 hv
  clear hv
  clear HL
  have t_O_pa := O_pa.out.below bel
  clear O_pa
  have O_pa := Lib.hid t_O_pa
  clear t_O_pa
  have t_O_pb := O_pb.out.below bel
  clear O_pb
  have O_pb := Lib.hid t_O_pb
  clear t_O_pb
  have t_O_pc := O_pc.out.below bel
  clear O_pc
  have O_pc := Lib.hid t_O_pc
  clear t_O_pc
  have t_P := P.out.below bel
  clear P
  have P := Lib.hid t_P
  clear t_P
  have t_Q := Q.out.below bel
  clear Q
  have Q := Lib.hid t_Q
  clear t_Q
  have t_R := R.out.below bel
  clear R
  have R := Lib.hid t_R
  clear t_R
  have SB18 : Below w.heap.size w x21 := SB17h.out.trans (bel.mono SB17h.out.size)
  clear SB17h
  have SB18h := Lib.hid SB18
  clear SB18 bel
  have lt_P := P.out.lt
  have P_0 := P.out.cell 0
  have P_1 := P.out.cell 1
  have P_2 := P.out.cell 2
  have P_3 := P.out.cell 3
  have P_4 := P.out.cell 4
  simp at P_0 P_1 P_2 P_3 P_4
  have lt_Q := Q.out.lt
  have Q_0 := Q.out.cell 0
  have Q_1 := Q.out.cell 1
  have Q_2 := Q.out.cell 2
  have Q_3 := Q.out.cell 3
  have Q_4 := Q.out.cell 4
  simp at Q_0 Q_1 Q_2 Q_3 Q_4
  have lt_R := R.out.lt
  have R_0 := R.out.cell 0
  have R_1 := R.out.cell 1
  have R_2 := R.out.cell 2
  have R_3 := R.out.cell 3
  have R_4 := R.out.cell 4
  simp at R_0 R_1 R_2 R_3 R_4
  have szB_x21 := SB18h.out.size
  clear ho
  go_wp2_with fail
  have t_O_pa := O_pa.out.below ((Below.refl x21.heap.size x21).alloc (Nat.le_refl _) (.cells #[.slice q.a SD0.np q.ka, .int .i64 SD0.p, .int .i64 SD0.n, .slice q.b SD0.nb q.kb, .int .i64 SD0.d] 25))
  clear O_pa
  have O_pa := Lib.hid t_O_pa
  clear t_O_pa
  have t_O_pb := O_pb.out.below ((Below.refl x21.heap.size x21).alloc (Nat.le_refl _) (.cells #[.slice q.a SD0.np q.ka, .int .i64 SD0.p, .int .i64 SD0.n, .slice q.b SD0.nb q.kb, .int .i64 SD0.d] 25))
  clear O_pb
  have O_pb := Lib.hid t_O_pb
  clear t_O_pb
  have t_O_pc := O_pc.out.below ((Below.refl x21.heap.size x21).alloc (Nat.le_refl _) (.cells #[.slice q.a SD0.np q.ka, .int .i64 SD0.p, .int .i64 SD0.n, .slice q.b SD0.nb q.kb, .int .i64 SD0.d] 25))
  clear O_pc
  have O_pc := Lib.hid t_O_pc
  clear t_O_pc
  have NE_P_D4 := Lib.hid (show x3.heap.size ≠ x21.heap.size by omega)
  have NE_Q_D4 := Lib.hid (show x6.heap.size ≠ x21.heap.size by omega)
  have NE_R_D4 := Lib.hid (show x12.heap.size ≠ x21.heap.size by omega)
  have s_P := P.out
  have s_Q := Q.out
  have s_R := R.out
  replace s_P := s_P.alloc (.cells #[.slice q.a SD0.np q.ka, .int .i64 SD0.p, .int .i64 SD0.n, .slice q.b SD0.nb q.kb, .int .i64 SD0.d] 25)
  replace s_Q := s_Q.alloc (.cells #[.slice q.a SD0.np q.ka, .int .i64 SD0.p, .int .i64 SD0.n, .slice q.b SD0.nb q.kb, .int .i64 SD0.d] 25)
  replace s_R := s_R.alloc (.cells #[.slice q.a SD0.np q.ka, .int .i64 SD0.p, .int .i64 SD0.n, .slice q.b SD0.nb q.kb, .int .i64 SD0.d] 25)
  have s_D4 : HasBlk (x21.alloc (.cells #[.slice q.a SD0.np q.ka, .int .i64 SD0.p, .int .i64 SD0.n, .slice q.b SD0.nb q.kb, .int .i64 SD0.d] 25)) (x21.heap.size) 25 #[.slice q.a SD0.np q.ka, .int .i64 SD0.p, .int .i64 SD0.n, .slice q.b SD0.nb q.kb, .int .i64 SD0.d] := by simpa using hasBlk_new x21 25 #[.slice q.a SD0.np q.ka, .int .i64 SD0.p, .int .i64 SD0.n, .slice q.b SD0.nb q.kb, .int .i64 SD0.d]
  have t_P : HasBlk (x21.alloc (.cells #[.slice q.a SD0.np q.ka, .int .i64 SD0.p, .int .i64 SD0.n, .slice q.b SD0.nb q.kb, .int .i64 SD0.d] 25)) (x3.heap.size) 25 #[.slice pa.a sdA.np pa.ka, .int .i64 sdA.p, .int .i64 sdA.n, .slice pa.b sdA.nb pa.kb, .int .i64 sdA.d] := by simpa using s_P
  clear s_P P
  have t_Q : HasBlk (x21.alloc (.cells #[.slice q.a SD0.np q.ka, .int .i64 SD0.p, .int .i64 SD0.n, .slice q.b SD0.nb q.kb, .int .i64 SD0.d] 25)) (x6.heap.size) 25 #[.slice pb.a sdB.np pb.ka, .int .i64 sdB.p, .int .i64 sdB.n, .slice pb.b sdB.nb pb.kb, .int .i64 sdB.d] := by simpa using s_Q
  clear s_Q Q
  have t_R : HasBlk (x21.alloc (.cells #[.slice q.a SD0.np q.ka, .int .i64 SD0.p, .int .i64 SD0.n, .slice q.b SD0.nb q.kb, .int .i64 SD0.d] 25)) (x12.heap.size) 25 #[.slice pc.a sdC.np pc.ka, .int .i64 2, .int .i64 sdC.n, .slice pc.b sdC.nb pc.kb, .int .i64 sdC.d] := by simpa using s_R
  clear s_R R
  have t_D4 : HasBlk (x21.alloc (.cells #[.slice q.a SD0.np q.ka, .int .i64 SD0.p, .int .i64 SD0.n, .slice q.b SD0.nb q.kb, .int .i64 SD0.d] 25)) (x21.heap.size) 25 #[.slice q.a SD0.np q.ka, .int .i64 SD0.p, .int .i64 SD0.n, .slice q.b SD0.nb q.kb, .int .i64 SD0.d] := by simpa using s_D4
  clear s_D4
  have SB19 : Below w.heap.size w (x21.alloc (.cells #[.slice q.a SD0.np q.ka, .int .i64 SD0.p, .int .i64 SD0.n, .slice q.b SD0.nb q.kb, .int .i64 SD0.d] 25)) := by
    have bel0 := SB18h.out
    repeat' (first | exact Below.refl _ _ | assumption | apply Below.drew | refine Below.setCell ?_ (by first | omega | (simp; done) | (simp; omega)) _ | refine Below.alloc ?_ (by first | omega | (simp; done) | (simp; omega)) _)
  clear lt_P P_0 P_1 P_2 P_3 P_4 lt_Q Q_0 Q_1 Q_2 Q_3 Q_4 lt_R R_0 R_1 R_2 R_3 R_4
  generalize gW_x22 : (x21.alloc (.cells #[.slice q.a SD0.np q.ka, .int .i64 SD0.p, .int .i64 SD0.n, .slice q.b SD0.nb q.kb, .int .i64 SD0.d] 25)) = x22 at *
  clear gW_x22
  have P := Lib.hid t_P
  clear t_P
  have Q := Lib.hid t_Q
  clear t_Q
  have R := Lib.hid t_R
  clear t_R
  have D4 := Lib.hid t_D4
  clear t_D4
  clear SB18h
  have SB19h := Lib.hid SB19
  clear SB19
  clear D4
  have lt_P := P.out.lt
  have P_0 := P.out.cell 0
  have P_1 := P.out.cell 1
  have P_2 := P.out.cell 2
  have P_3 := P.out.cell 3
  have P_4 := P.out.cell 4
  simp at P_0 P_1 P_2 P_3 P_4
  have lt_Q := Q.out.lt
  have Q_0 := Q.out.cell 0
  have Q_1 := Q.out.cell 1
  have Q_2 := Q.out.cell 2
  have Q_3 := Q.out.cell 3
  have Q_4 := Q.out.cell 4
  simp at Q_0 Q_1 Q_2 Q_3 Q_4
  have lt_R := R.out.lt
  have R_0 := R.out.cell 0
  have R_1 := R.out.cell 1
  have R_2 := R.out.cell 2
  have R_3 := R.out.cell 3
  have R_4 := R.out.cell 4
  simp at R_0 R_1 R_2 R_3 R_4
  have szB_x22 := SB19h.out.size
  go_wp2_with fail
  refine (new_any 1 none 0 0 fz _ (is_none fz)).mono ?_
  rintro e x23 ⟨⟨pn, t, x, rfl, hv, h_pn⟩, bel⟩
  clear lt_P P_0 P_1 P_2 P_3 P_4 lt_Q Q_0 Q_1 Q_2 Q_3 Q_4 lt_R R_0 R_1 R_2 R_3 R_4
  obtain ⟨rfl, rfl⟩ := newN hv
  clear hv
  have t_O_pa := O_pa.out.below bel
  clear O_pa
  have O_pa := Lib.hid t_O_pa
  clear t_O_pa
  have t_O_pb := O_pb.out.below bel
  clear O_pb
  have O_pb := Lib.hid t_O_pb
  clear t_O_pb
  have t_O_pc := O_pc.out.below bel
  clear O_pc
  have O_pc := Lib.hid t_O_pc
  clear t_O_pc
  have t_P := P.out.below bel
  clear P
  have P := Lib.hid t_P
  clear t_P
  have t_Q := Q.out.below bel
  clear Q
  have Q := Lib.hid t_Q
  clear t_Q
  have t_R := R.out.below bel
  clear R
  have R := Lib.hid t_R
  clear t_R
  have SB20 : Below w.heap.size w x23 := SB19h.out.trans (bel.mono SB19h.out.size)
  clear SB19h
  have SB20h := Lib.hid SB20
  clear SB20 bel
  have lt_P := P.out.lt
  have P_0 := P.out.cell 0
  have P_1 := P.out.cell 1
  have P_2 := P.out.cell 2
  have P_3 := P.out.cell 3
  have P_4 := P.out.cell 4
  simp at P_0 P_1 P_2 P_3 P_4
  have lt_Q := Q.out.lt
  have Q_0 := Q.out.cell 0
  have Q_1 := Q.out.cell 1
  have Q_2 := Q.out.cell 2
  have Q_3 := Q.out.cell 3
  have Q_4 := Q.out.cell 4
  simp at Q_0 Q_1 Q_2 Q_3 Q_4
  have lt_R := R.out.lt
  have R_0 := R.out.cell 0
  have R_1 := R.out.cell 1
  have R_2 := R.out.cell 2
  have R_3 := R.out.cell 3
  have R_4 := R.out.cell 4
  simp at R_0 R_1 R_2 R_3 R_4
  have szB_x23 := SB20h.out.size
  have O_pn := Lib.hid h_pn.ok2
  have C_pn := Lib.hid h_pn.cap
  clear h_pn
  go_wp2_with fail
  have t_O_pa := O_pa.out.below ((Below.refl x23.heap.size x23).alloc (Nat.le_refl _) (.cells #[.slice pn.a sdN.np pn.ka, .int .i64 sdN.p, .int .i64 sdN.n, .slice pn.b sdN.nb pn.kb, .int .i64 sdN.d] 25))
  clear O_pa
  have O_pa := Lib.hid t_O_pa
  clear t_O_pa
  have t_O_pb := O_pb.out.below ((Below.refl x23.heap.size x23).alloc (Nat.le_refl _) (.cells #[.slice pn.a sdN.np pn.ka, .int .i64 sdN.p, .int .i64 sdN.n, .slice pn.b sdN.nb pn.kb, .int .i64 sdN.d] 25))
  clear O_pb
  have O_pb := Lib.hid t_O_pb
  clear t_O_pb
  have t_O_pc := O_pc.out.below ((Below.refl x23.heap.size x23).alloc (Nat.le_refl _) (.cells #[.slice pn.a sdN.np pn.ka, .int .i64 sdN.p, .int .i64 sdN.n, .slice pn.b sdN.nb pn.kb, .int .i64 sdN.d] 25))
  clear O_pc
  have O_pc := Lib.hid t_O_pc
  clear t_O_pc
  have t_O_pn := O_pn.out.below ((Below.refl x23.heap.size x23).alloc (Nat.le_refl _) (.cells #[.slice pn.a sdN.np pn.ka, .int .i64 sdN.p, .int .i64 sdN.n, .slice pn.b sdN.nb pn.kb, .int .i64 sdN.d] 25))
  clear O_pn
  have O_pn := Lib.hid t_O_pn
  clear t_O_pn
  have NE_P_Nn := Lib.hid (show x3.heap.size ≠ x23.heap.size by omega)
  have NE_Q_Nn := Lib.hid (show x6.heap.size ≠ x23.heap.size by omega)
  have NE_R_Nn := Lib.hid (show x12.heap.size ≠ x23.heap.size by omega)
  have s_P := P.out
  have s_Q := Q.out
  have s_R := R.out
  replace s_P := s_P.alloc (.cells #[.slice pn.a sdN.np pn.ka, .int .i64 sdN.p, .int .i64 sdN.n, .slice pn.b sdN.nb pn.kb, .int .i64 sdN.d] 25)
  replace s_Q := s_Q.alloc (.cells #[.slice pn.a sdN.np pn.ka, .int .i64 sdN.p, .int .i64 sdN.n, .slice pn.b sdN.nb pn.kb, .int .i64 sdN.d] 25)
  replace s_R := s_R.alloc (.cells #[.slice pn.a sdN.np pn.ka, .int .i64 sdN.p, .int .i64 sdN.n, .slice pn.b sdN.nb pn.kb, .int .i64 sdN.d] 25)
  have s_Nn : HasBlk (x23.alloc (.cells #[.slice pn.a sdN.np pn.ka, .int .i64 sdN.p, .int .i64 sdN.n, .slice pn.b sdN.nb pn.kb, .int .i64 sdN.d] 25)) (x23.heap.size) 25 #[.slice pn.a sdN.np pn.ka, .int .i64 sdN.p, .int .i64 sdN.n, .slice pn.b sdN.nb pn.kb, .int .i64 sdN.d] := by simpa using hasBlk_new x23 25 #[.slice pn.a sdN.np pn.ka, .int .i64 sdN.p, .int .i64 sdN.n, .slice pn.b sdN.nb pn.kb, .int .i64 sdN.d]
  have t_P : HasBlk (x23.alloc (.cells #[.slice pn.a sdN.np pn.ka, .int .i64 sdN.p, .int .i64 sdN.n, .slice pn.b sdN.nb pn.kb, .int .i64 sdN.d] 25)) (x3.heap.size) 25 #[.slice pa.a sdA.np pa.ka, .int .i64 sdA.p, .int .i64 sdA.n, .slice pa.b sdA.nb pa.kb, .int .i64 sdA.d] := by simpa using s_P
  clear s_P P
  have t_Q : HasBlk (x23.alloc (.cells #[.slice pn.a sdN.np pn.ka, .int .i64 sdN.p, .int .i64 sdN.n, .slice pn.b sdN.nb pn.kb, .int .i64 sdN.d] 25)) (x6.heap.size) 25 #[.slice pb.a sdB.np pb.ka, .int .i64 sdB.p, .int .i64 sdB.n, .slice pb.b sdB.nb pb.kb, .int .i64 sdB.d] := by simpa using s_Q
  clear s_Q Q
  have t_R : HasBlk (x23.alloc (.cells #[.slice pn.a sdN.np pn.ka, .int .i64 sdN.p, .int .i64 sdN.n, .slice pn.b sdN.nb pn.kb, .int .i64 sdN.d] 25)) (x12.heap.size) 25 #[.slice pc.a sdC.np pc.ka, .int .i64 2, .int .i64 sdC.n, .slice pc.b sdC.nb pc.kb, .int .i64 sdC.d] := by simpa using s_R
  clear s_R R
  have t_Nn : HasBlk (x23.alloc (.cells #[.slice pn.a sdN.np pn.ka, .int .i64 sdN.p, .int .i64 sdN.n, .slice pn.b sdN.nb pn.kb, .int .i64 sdN.d] 25)) (x23.heap.size) 25 #[.slice pn.a sdN.np pn.ka, .int .i64 sdN.p, .int .i64 sdN.n, .slice pn.b sdN.nb pn.kb, .int .i64 sdN.d] := by simpa using s_Nn
  clear s_Nn
  have SB21 : Below w.heap.size w (x23.alloc (.cells #[.slice pn.a sdN.np pn.ka, .int .i64 sdN.p, .int .i64 sdN.n, .slice pn.b sdN.nb pn.kb, .int .i64 sdN.d] 25)) := by
    have bel0 := SB20h.out
    repeat' (first | exact Below.refl _ _ | assumption | apply Below.drew | refine Below.setCell ?_ (by first | omega | (simp; done) | (simp; omega)) _ | refine Below.alloc ?_ (by first | omega | (simp; done) | (simp; omega)) _)
  clear lt_P P_0 P_1 P_2 P_3 P_4 lt_Q Q_0 Q_1 Q_2 Q_3 Q_4 lt_R R_0 R_1 R_2 R_3 R_4
  generalize gW_x24 : (x23.alloc (.cells #[.slice pn.a sdN.np pn.ka, .int .i64 sdN.p, .int .i64 sdN.n, .slice pn.b sdN.nb pn.kb, .int .i64 sdN.d] 25)) = x24 at *
  clear gW_x24
  have P := Lib.hid t_P
  clear t_P
  have Q := Lib.hid t_Q
  clear t_Q
  have R := Lib.hid t_R
  clear t_R
  have Nn := Lib.hid t_Nn
  clear t_Nn
  clear SB20h
  have SB21h := Lib.hid SB21
  clear SB21
  have lt_P := P.out.lt
  have P_0 := P.out.cell 0
  have P_1 := P.out.cell 1
  have P_2 := P.out.cell 2
  have P_3 := P.out.cell 3
  have P_4 := P.out.cell 4
  simp at P_0 P_1 P_2 P_3 P_4
  have lt_Q := Q.out.lt
  have Q_0 := Q.out.cell 0
  have Q_1 := Q.out.cell 1
  have Q_2 := Q.out.cell 2
  have Q_3 := Q.out.cell 3
  have Q_4 := Q.out.cell 4
  simp at Q_0 Q_1 Q_2 Q_3 Q_4
  have lt_R := R.out.lt
  have R_0 := R.out.cell 0
  have R_1 := R.out.cell 1
  have R_2 := R.out.cell 2
  have R_3 := R.out.cell 3
  have R_4 := R.out.cell 4
  simp at R_0 R_1 R_2 R_3 R_4
  have lt_Nn := Nn.out.lt
  have Nn_0 := Nn.out.cell 0
  have Nn_1 := Nn.out.cell 1
  have Nn_2 := Nn.out.cell 2
  have Nn_3 := Nn.out.cell 3
  have Nn_4 := Nn.out.cell 4
  simp at Nn_0 Nn_1 Nn_2 Nn_3 Nn_4
  have szB_x24 := SB21h.out.size
  go_wp2_with fail
  refine (ended_any pn sdN _ O_pn.out).mono ?_
  rintro e x25 ⟨rfl, bel⟩
  clear lt_P P_0 P_1 P_2 P_3 P_4 lt_Q Q_0 Q_1 Q_2 Q_3 Q_4 lt_R R_0 R_1 R_2 R_3 R_4 lt_Nn Nn_0 Nn_1 Nn_2 Nn_3 Nn_4
  have t_O_pa := O_pa.out.below bel
  clear O_pa
  have O_pa := Lib.hid t_O_pa
  clear t_O_pa
  have t_O_pb := O_pb.out.below bel
  clear O_pb
  have O_pb := Lib.hid t_O_pb
  clear t_O_pb
  have t_O_pc := O_pc.out.below bel
  clear O_pc
  have O_pc := Lib.hid t_O_pc
  clear t_O_pc
  have t_O_pn := O_pn.out.below bel
  clear O_pn
  have O_pn := Lib.hid t_O_pn
  clear t_O_pn
  have t_P := P.out.below bel
  clear P
  have P := Lib.hid t_P
  clear t_P
  have t_Q := Q.out.below bel
  clear Q
  have Q := Lib.hid t_Q
  clear t_Q
  have t_R := R.out.below bel
  clear R
  have R := Lib.hid t_R
  clear t_R
  have t_Nn := Nn.out.below bel
  clear Nn
  have Nn := Lib.hid t_Nn
  clear t_Nn
  have SB22 : Below w.heap.size w x25 := SB21h.out.trans (bel.mono SB21h.out.size)
  clear SB21h
  have SB22h := Lib.hid SB22
  clear SB22 bel
  have lt_P := P.out.lt
  have P_0 := P.out.cell 0
  have P_1 := P.out.cell 1
  have P_2 := P.out.cell 2
  have P_3 := P.out.cell 3
  have P_4 := P.out.cell 4
  simp at P_0 P_1 P_2 P_3 P_4
  have lt_Q := Q.out.lt
  have Q_0 := Q.out.cell 0
  have Q_1 := Q.out.cell 1
  have Q_2 := Q.out.cell 2
  have Q_3 := Q.out.cell 3
  have Q_4 := Q.out.cell 4
  simp at Q_0 Q_1 Q_2 Q_3 Q_4
  have lt_R := R.out.lt
  have R_0 := R.out.cell 0
  have R_1 := R.out.cell 1
  have R_2 := R.out.cell 2
  have R_3 := R.out.cell 3
  have R_4 := R.out.cell 4
  simp at R_0 R_1 R_2 R_3 R_4
  have lt_Nn := Nn.out.lt
  have Nn_0 := Nn.out.cell 0
  have Nn_1 := Nn.out.cell 1
  have Nn_2 := Nn.out.cell 2
  have Nn_3 := Nn.out.cell 3
  have Nn_4 := Nn.out.cell 4
  simp at Nn_0 Nn_1 Nn_2 Nn_3 Nn_4
  have szB_x25 := SB22h.out.size
  rw [endN, mayv_yes mayN]
  go_wp2_with fail
  refine (step_any pa sdA 2 _ O_pa.out).mono ?_
  rintro e x26 ⟨⟨q, t, u, v, x, rfl, hv, ho⟩, bel⟩
  clear lt_P P_0 P_1 P_2 P_3 P_4 lt_Q Q_0 Q_1 Q_2 Q_3 Q_4 lt_R R_0 R_1 R_2 R_3 R_4 lt_Nn Nn_0 Nn_1 Nn_2 Nn_3 Nn_4
  obtain ⟨rfl, rfl, rfl, rfl⟩ := stepA2 hv
  clear hv
  have t_O_pa := O_pa.out.below bel
  clear O_pa
  have O_pa := Lib.hid t_O_pa
  clear t_O_pa
  have t_O_pb := O_pb.out.below bel
  clear O_pb
  have O_pb := Lib.hid t_O_pb
  clear t_O_pb
  have t_O_pc := O_pc.out.below bel
  clear O_pc
  have O_pc := Lib.hid t_O_pc
  clear t_O_pc
  have t_O_pn := O_pn.out.below bel
  clear O_pn
  have O_pn := Lib.hid t_O_pn
  clear t_O_pn
  have t_P := P.out.below bel
  clear P
  have P := Lib.hid t_P
  clear t_P
  have t_Q := Q.out.below bel
  clear Q
  have Q := Lib.hid t_Q
  clear t_Q
  have t_R := R.out.below bel
  clear R
  have R := Lib.hid t_R
  clear t_R
  have t_Nn := Nn.out.below bel
  clear Nn
  have Nn := Lib.hid t_Nn
  clear t_Nn
  have SB23 : Below w.heap.size w x26 := SB22h.out.trans (bel.mono SB22h.out.size)
  clear SB22h
  have SB23h := Lib.hid SB23
  clear SB23 bel
  have lt_P := P.out.lt
  have P_0 := P.out.cell 0
  have P_1 := P.out.cell 1
  have P_2 := P.out.cell 2
  have P_3 := P.out.cell 3
  have P_4 := P.out.cell 4
  simp at P_0 P_1 P_2 P_3 P_4
  have lt_Q := Q.out.lt
  have Q_0 := Q.out.cell 0
  have Q_1 := Q.out.cell 1
  have Q_2 := Q.out.cell 2
  have Q_3 := Q.out.cell 3
  have Q_4 := Q.out.cell 4
  simp at Q_0 Q_1 Q_2 Q_3 Q_4
  have lt_R := R.out.lt
  have R_0 := R.out.cell 0
  have R_1 := R.out.cell 1
  have R_2 := R.out.cell 2
  have R_3 := R.out.cell 3
  have R_4 := R.out.cell 4
  simp at R_0 R_1 R_2 R_3 R_4
  have lt_Nn := Nn.out.lt
  have Nn_0 := Nn.out.cell 0
  have Nn_1 := Nn.out.cell 1
  have Nn_2 := Nn.out.cell 2
  have Nn_3 := Nn.out.cell 3
  have Nn_4 := Nn.out.cell 4
  simp at Nn_0 Nn_1 Nn_2 Nn_3 Nn_4
  have szB_x26 := SB23h.out.size
  clear ho
  go_wp2_with fail
  have t_O_pa := O_pa.out.below ((Below.refl x26.heap.size x26).alloc (Nat.le_refl _) (.cells #[.slice q.a SD0.np q.ka, .int .i64 SD0.p, .int .i64 SD0.n, .slice q.b SD0.nb q.kb, .int .i64 SD0.d] 25))
  clear O_pa
  have O_pa := Lib.hid t_O_pa
  clear t_O_pa
  have t_O_pb := O_pb.out.below ((Below.refl x26.heap.size x26).alloc (Nat.le_refl _) (.cells #[.slice q.a SD0.np q.ka, .int .i64 SD0.p, .int .i64 SD0.n, .slice q.b SD0.nb q.kb, .int .i64 SD0.d] 25))
  clear O_pb
  have O_pb := Lib.hid t_O_pb
  clear t_O_pb
  have t_O_pc := O_pc.out.below ((Below.refl x26.heap.size x26).alloc (Nat.le_refl _) (.cells #[.slice q.a SD0.np q.ka, .int .i64 SD0.p, .int .i64 SD0.n, .slice q.b SD0.nb q.kb, .int .i64 SD0.d] 25))
  clear O_pc
  have O_pc := Lib.hid t_O_pc
  clear t_O_pc
  have t_O_pn := O_pn.out.below ((Below.refl x26.heap.size x26).alloc (Nat.le_refl _) (.cells #[.slice q.a SD0.np q.ka, .int .i64 SD0.p, .int .i64 SD0.n, .slice q.b SD0.nb q.kb, .int .i64 SD0.d] 25))
  clear O_pn
  have O_pn := Lib.hid t_O_pn
  clear t_O_pn
  have NE_P_D5 := Lib.hid (show x3.heap.size ≠ x26.heap.size by omega)
  have NE_Q_D5 := Lib.hid (show x6.heap.size ≠ x26.heap.size by omega)
  have NE_R_D5 := Lib.hid (show x12.heap.size ≠ x26.heap.size by omega)
  have NE_Nn_D5 := Lib.hid (show x23.heap.size ≠ x26.heap.size by omega)
  have s_P := P.out
  have s_Q := Q.out
  have s_R := R.out
  have s_Nn := Nn.out
  replace s_P := s_P.alloc (.cells #[.slice q.a SD0.np q.ka, .int .i64 SD0.p, .int .i64 SD0.n, .slice q.b SD0.nb q.kb, .int .i64 SD0.d] 25)
  replace s_Q := s_Q.alloc (.cells #[.slice q.a SD0.np q.ka, .int .i64 SD0.p, .int .i64 SD0.n, .slice q.b SD0.nb q.kb, .int .i64 SD0.d] 25)
  replace s_R := s_R.alloc (.cells #[.slice q.a SD0.np q.ka, .int .i64 SD0.p, .int .i64 SD0.n, .slice q.b SD0.nb q.kb, .int .i64 SD0.d] 25)
  replace s_Nn := s_Nn.alloc (.cells #[.slice q.a SD0.np q.ka, .int .i64 SD0.p, .int .i64 SD0.n, .slice q.b SD0.nb q.kb, .int .i64 SD0.d] 25)
  have s_D5 : HasBlk (x26.alloc (.cells #[.slice q.a SD0.np q.ka, .int .i64 SD0.p, .int .i64 SD0.n, .slice q.b SD0.nb q.kb, .int .i64 SD0.d] 25)) (x26.heap.size) 25 #[.slice q.a SD0.np q.ka, .int .i64 SD0.p, .int .i64 SD0.n, .slice q.b SD0.nb q.kb, .int .i64 SD0.d] := by simpa using hasBlk_new x26 25 #[.slice q.a SD0.np q.ka, .int .i64 SD0.p, .int .i64 SD0.n, .slice q.b SD0.nb q.kb, .int .i64 SD0.d]
  have t_P : HasBlk (x26.alloc (.cells #[.slice q.a SD0.np q.ka, .int .i64 SD0.p, .int .i64 SD0.n, .slice q.b SD0.nb q.kb, .int .i64 SD0.d] 25)) (x3.heap.size) 25 #[.slice pa.a sdA.np pa.ka, .int .i64 sdA.p, .int .i64 sdA.n, .slice pa.b sdA.nb pa.kb, .int .i64 sdA.d] := by simpa using s_P
  clear s_P P
  have t_Q : HasBlk (x26.alloc (.cells #[.slice q.a SD0.np q.ka, .int .i64 SD0.p, .int .i64 SD0.n, .slice q.b SD0.nb q.kb, .int .i64 SD0.d] 25)) (x6.heap.size) 25 #[.slice pb.a sdB.np pb.ka, .int .i64 sdB.p, .int .i64 sdB.n, .slice pb.b sdB.nb pb.kb, .int .i64 sdB.d] := by simpa using s_Q
  clear s_Q Q
  have t_R : HasBlk (x26.alloc (.cells #[.slice q.a SD0.np q.ka, .int .i64 SD0.p, .int .i64 SD0.n, .slice q.b SD0.nb q.kb, .int .i64 SD0.d] 25)) (x12.heap.size) 25 #[.slice pc.a sdC.np pc.ka, .int .i64 2, .int .i64 sdC.n, .slice pc.b sdC.nb pc.kb, .int .i64 sdC.d] := by simpa using s_R
  clear s_R R
  have t_Nn : HasBlk (x26.alloc (.cells #[.slice q.a SD0.np q.ka, .int .i64 SD0.p, .int .i64 SD0.n, .slice q.b SD0.nb q.kb, .int .i64 SD0.d] 25)) (x23.heap.size) 25 #[.slice pn.a sdN.np pn.ka, .int .i64 sdN.p, .int .i64 sdN.n, .slice pn.b sdN.nb pn.kb, .int .i64 sdN.d] := by simpa using s_Nn
  clear s_Nn Nn
  have t_D5 : HasBlk (x26.alloc (.cells #[.slice q.a SD0.np q.ka, .int .i64 SD0.p, .int .i64 SD0.n, .slice q.b SD0.nb q.kb, .int .i64 SD0.d] 25)) (x26.heap.size) 25 #[.slice q.a SD0.np q.ka, .int .i64 SD0.p, .int .i64 SD0.n, .slice q.b SD0.nb q.kb, .int .i64 SD0.d] := by simpa using s_D5
  clear s_D5
  have SB24 : Below w.heap.size w (x26.alloc (.cells #[.slice q.a SD0.np q.ka, .int .i64 SD0.p, .int .i64 SD0.n, .slice q.b SD0.nb q.kb, .int .i64 SD0.d] 25)) := by
    have bel0 := SB23h.out
    repeat' (first | exact Below.refl _ _ | assumption | apply Below.drew | refine Below.setCell ?_ (by first | omega | (simp; done) | (simp; omega)) _ | refine Below.alloc ?_ (by first | omega | (simp; done) | (simp; omega)) _)
  clear lt_P P_0 P_1 P_2 P_3 P_4 lt_Q Q_0 Q_1 Q_2 Q_3 Q_4 lt_R R_0 R_1 R_2 R_3 R_4 lt_Nn Nn_0 Nn_1 Nn_2 Nn_3 Nn_4
  generalize gW_x27 : (x26.alloc (.cells #[.slice q.a SD0.np q.ka, .int .i64 SD0.p, .int .i64 SD0.n, .slice q.b SD0.nb q.kb, .int .i64 SD0.d] 25)) = x27 at *
  clear gW_x27
  have P := Lib.hid t_P
  clear t_P
  have Q := Lib.hid t_Q
  clear t_Q
  have R := Lib.hid t_R
  clear t_R
  have Nn := Lib.hid t_Nn
  clear t_Nn
  have D5 := Lib.hid t_D5
  clear t_D5
  clear SB23h
  have SB24h := Lib.hid SB24
  clear SB24
  clear D5
  have lt_P := P.out.lt
  have P_0 := P.out.cell 0
  have P_1 := P.out.cell 1
  have P_2 := P.out.cell 2
  have P_3 := P.out.cell 3
  have P_4 := P.out.cell 4
  simp at P_0 P_1 P_2 P_3 P_4
  have lt_Q := Q.out.lt
  have Q_0 := Q.out.cell 0
  have Q_1 := Q.out.cell 1
  have Q_2 := Q.out.cell 2
  have Q_3 := Q.out.cell 3
  have Q_4 := Q.out.cell 4
  simp at Q_0 Q_1 Q_2 Q_3 Q_4
  have lt_R := R.out.lt
  have R_0 := R.out.cell 0
  have R_1 := R.out.cell 1
  have R_2 := R.out.cell 2
  have R_3 := R.out.cell 3
  have R_4 := R.out.cell 4
  simp at R_0 R_1 R_2 R_3 R_4
  have lt_Nn := Nn.out.lt
  have Nn_0 := Nn.out.cell 0
  have Nn_1 := Nn.out.cell 1
  have Nn_2 := Nn.out.cell 2
  have Nn_3 := Nn.out.cell 3
  have Nn_4 := Nn.out.cell 4
  simp at Nn_0 Nn_1 Nn_2 Nn_3 Nn_4
  have szB_x27 := SB24h.out.size
  go_wp2_with fail
  refine (check_zero _).mono ?_
  rintro e z9 ⟨rfl, bel⟩
  have BZ := Lib.hid (SB24h.out.trans (bel.mono SB24h.out.size))
  clear bel
  go_wp2
  go_ret
  exact ⟨rfl, BZ.out⟩
end Go.Proofs.Ytdilfcpgjkkjmaa
