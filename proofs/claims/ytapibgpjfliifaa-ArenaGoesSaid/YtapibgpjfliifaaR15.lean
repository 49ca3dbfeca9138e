/- ArenaGoes: the walk, up to the spoiling. -/
import Derived.Test.YtapibgpjfliifaaR14
import Derived.Test.YtapibgpjfliifaaR8
namespace Go.Proofs.Ytapibgpjfliifaa
open Go.RowKit
set_option linter.unusedVariables false
theorem EqR.tt {p : Prop} {e : Ending} (h : EqR p e) (hp : p) : e = .returned (.bool true) := by
  obtain ⟨r, rfl, hr⟩ := h
  rw [hr.2 hp]
open Classical in
noncomputable def dec (p : Prop) : Bool := decide p
theorem EqR.dec {p : Prop} {e : Ending} (h : EqR p e) : e = .returned (.bool (dec p)) := by
  obtain ⟨r, rfl, hr⟩ := h
  have : r = Proofs.Ytapibgpjfliifaa.dec p := by
    rw [Bool.eq_iff_iff, hr]
    unfold Proofs.Ytapibgpjfliifaa.dec
    simp
  rw [this]
open Classical in
noncomputable def chkv (n : Nat) (g : Nat → Int) : Int := if MayA n g then 0 else 8
theorem chkA.v {n : Nat} {g : Nat → Int} {x : Int} (h : chkA n g x) : x = chkv n g := by
  unfold chkv
  rcases h with ⟨h, rfl⟩ | ⟨h, rfl⟩
  · rw [if_pos h]
  · rw [if_neg h]
theorem ne_rows {w : World} {B e s n : Nat} {v1 v2 : Value} {xs : List Value} (h1 : ∀ k, v1.ownBlock = some k → k < B) (h2 : w.ownsRow B e s v2 n xs) : v1.ownBlock = none ∨ v1.ownBlock ≠ v2.ownBlock := by
  cases h : v1.ownBlock with
  | none => exact .inl rfl
  | some k =>
    refine .inr fun e => ?_
    have := (h2.lt k e.symm).1
    have := h1 k h
    omega
theorem ne_rows' {w : World} {B e s n : Nat} {v1 v2 : Value} {xs : List Value} (h1 : ∀ k, v1.ownBlock = some k → k < B) (h2 : w.ownsRow B e s v2 n xs) : v2.ownBlock = none ∨ v2.ownBlock ≠ v1.ownBlock := by
  cases h : v2.ownBlock with
  | none => exact .inl rfl
  | some k =>
    refine .inr fun e => ?_
    have := (h2.lt k h).1
    have := h1 k e.symm
    omega
theorem grown_set {w w' : World} {x j : Nat} (h : w.grownBy w' (some x)) (u : Value) : w.grownBy (w'.setCell ⟨x, j, none⟩ u) (some x) :=
  ⟨h.os, h.tape, h.output, by have := h.size; simpa using this, fun k hk hne => (Below.heap_setCell w' ⟨x, j, none⟩ u k (fun e => hne (by rw [e]))).trans (h.block k hk hne)⟩
theorem sameA_refl (n : Nat) (g : Nat → Int) (b : Nat → Bool) : SameA n n g g b b := ⟨rfl, fun _ _ => ⟨rfl, rfl⟩⟩
theorem row_hd {w : World} {B c : Nat} {X : Option Addr} {g : Nat → Int} {l : List Nat} (h : w.ownsRow B 26 2 (.slice X l.length c) l.length (hdc g l)) : Row w X l.length 2 (fun i j => .int .i64 (if j = 0 then ((l.getD i 0 : Nat) : Int) else g (l.getD i 0))) := by
  refine Row.of_own h (fun i hi j hj => ?_)
  have e := hdc_at g l hi hj
  rw [e]
  unfold hv
  split <;> rfl

set_option maxRecDepth 100000 in
set_option maxHeartbeats 4000000 in
theorem arenaGoes_walk (A A2 : Option Addr) (n m c d : Nat) (g g' : Nat → Int) (b b' : Nat → Bool) (s q : Int) (w : World) (hA : Row w A n 2 (sv g b)) (hB : Row w A2 m 2 (sv g' b')) (hn : (n : Int) ≤ 9223372036854775807) (hm : (m : Int) ≤ 9223372036854775807) :
    Calls Try.prog 6 #[.agg #[.slice A n c], .agg #[.slice A2 m d], .agg #[.int .i64 s, .int .i64 q]] w fun e w' => e = .returned (.bool true) ∧ Below w.heap.size w w' := by
  have HA := Lib.hid hA
  have HB := Lib.hid hB
  clear hA hB
  go_enter Try.func6, Try.ntmps6
  by_cases hbig : 1000 < n
  · have g0 : decide ((1000 : Int) < (n : Int)) = true := decide_eq_true (by omega)
    go_wp2
    go_ret
    exact ⟨rfl, by repeat' (first | exact Below.refl _ _ | assumption | apply Below.drew | refine Below.setCell ?_ (by first | omega | (simp; done) | (simp; omega)) _ | refine Below.alloc ?_ (by first | omega | (simp; done) | (simp; omega)) _)⟩
  have g0 : decide ((1000 : Int) < (n : Int)) = false := decide_eq_false (by omega)
  by_cases hbig2 : 1000 < m
  · have g1 : decide ((1000 : Int) < (m : Int)) = true := decide_eq_true (by omega)
    go_wp2
    go_ret
    exact ⟨rfl, by repeat' (first | exact Below.refl _ _ | assumption | apply Below.drew | refine Below.setCell ?_ (by first | omega | (simp; done) | (simp; omega)) _ | refine Below.alloc ?_ (by first | omega | (simp; done) | (simp; omega)) _)⟩
  have g1 : decide ((1000 : Int) < (m : Int)) = false := decide_eq_false (by omega)
  go_wp2_with fail
  have NE_P_P2 := Lib.hid (show w.heap.size ≠ w.heap.size + 1 by omega)
  have NE_P_Q := Lib.hid (show w.heap.size ≠ w.heap.size + 1 + 1 by omega)
  have NE_P2_Q := Lib.hid (show w.heap.size + 1 ≠ w.heap.size + 1 + 1 by omega)
  have s_P : HasBlk (w.alloc (.cells #[.slice A n c] 24)) (w.heap.size) 24 #[.slice A n c] := by simpa using hasBlk_new w 24 #[.slice A n c]
  replace s_P := s_P.alloc (.cells #[.slice A2 m d] 24)
  have s_P2 : HasBlk ((w.alloc (.cells #[.slice A n c] 24)).alloc (.cells #[.slice A2 m d] 24)) (w.heap.size + 1) 24 #[.slice A2 m d] := by simpa using hasBlk_new (w.alloc (.cells #[.slice A n c] 24)) 24 #[.slice A2 m d]
  replace s_P := s_P.alloc (.cells #[.int .i64 s, .int .i64 q] 26)
  replace s_P2 := s_P2.alloc (.cells #[.int .i64 s, .int .i64 q] 26)
  have s_Q : HasBlk (((w.alloc (.cells #[.slice A n c] 24)).alloc (.cells #[.slice A2 m d] 24)).alloc (.cells #[.int .i64 s, .int .i64 q] 26)) (w.heap.size + 1 + 1) 26 #[.int .i64 s, .int .i64 q] := by simpa using hasBlk_new ((w.alloc (.cells #[.slice A n c] 24)).alloc (.cells #[.slice A2 m d] 24)) 26 #[.int .i64 s, .int .i64 q]
  have t_P : HasBlk (((w.alloc (.cells #[.slice A n c] 24)).alloc (.cells #[.slice A2 m d] 24)).alloc (.cells #[.int .i64 s, .int .i64 q] 26)) (w.heap.size) 24 #[.slice A n c] := by simpa using s_P
  clear s_P
  have t_P2 : HasBlk (((w.alloc (.cells #[.slice A n c] 24)).alloc (.cells #[.slice A2 m d] 24)).alloc (.cells #[.int .i64 s, .int .i64 q] 26)) (w.heap.size + 1) 24 #[.slice A2 m d] := by simpa using s_P2
  clear s_P2
  have t_Q : HasBlk (((w.alloc (.cells #[.slice A n c] 24)).alloc (.cells #[.slice A2 m d] 24)).alloc (.cells #[.int .i64 s, .int .i64 q] 26)) (w.heap.size + 1 + 1) 26 #[.int .i64 s, .int .i64 q] := by simpa using s_Q
  clear s_Q
  have SB1 : Below w.heap.size w (((w.alloc (.cells #[.slice A n c] 24)).alloc (.cells #[.slice A2 m d] 24)).alloc (.cells #[.int .i64 s, .int .i64 q] 26)) := by
    repeat' (first | exact Below.refl _ _ | assumption | apply Below.drew | refine Below.setCell ?_ (by first | omega | (simp; done) | (simp; omega)) _ | refine Below.alloc ?_ (by first | omega | (simp; done) | (simp; omega)) _)
  generalize gW_v0 : (((w.alloc (.cells #[.slice A n c] 24)).alloc (.cells #[.slice A2 m d] 24)).alloc (.cells #[.int .i64 s, .int .i64 q] 26)) = v0 at *
  clear gW_v0
  have P := Lib.hid t_P
  clear t_P
  have P2 := Lib.hid t_P2
  clear t_P2
  have Q := Lib.hid t_Q
  clear t_Q
  have SB1h := Lib.hid SB1
  clear SB1
  refine (reftwin_any A n c g b _ (HA.out.below SB1h.out) (by omega)).mono ?_
  rintro e w1 ⟨⟨v, rfl, hv⟩, bel1⟩
  obtain ⟨X7, c7, rfl, ho⟩ := hv
  have O7 := Lib.hid ho
  clear ho
  have t_P := P.out.below bel1
  clear P
  have P := Lib.hid t_P
  clear t_P
  have t_P2 := P2.out.below bel1
  clear P2
  have P2 := Lib.hid t_P2
  clear t_P2
  have t_Q := Q.out.below bel1
  clear Q
  have Q := Lib.hid t_Q
  clear t_Q
  have SB2 : Below w.heap.size w w1 := SB1h.out.trans (bel1.mono SB1h.out.size)
  clear SB1h
  have SB2h := Lib.hid SB2
  clear SB2 bel1
  have lt_P := P.out.lt
  have P_0 := P.out.cell 0
  simp at P_0
  have lt_P2 := P2.out.lt
  have P2_0 := P2.out.cell 0
  simp at P2_0
  have lt_Q := Q.out.lt
  have Q_0 := Q.out.cell 0
  have Q_1 := Q.out.cell 1
  simp at Q_0 Q_1
  have szB_w1 := SB2h.out.size
  go_wp2_with fail
  have NE_P_T7 := Lib.hid (show w.heap.size ≠ w1.heap.size by omega)
  have NE_P2_T7 := Lib.hid (show w.heap.size + 1 ≠ w1.heap.size by omega)
  have NE_Q_T7 := Lib.hid (show w.heap.size + 1 + 1 ≠ w1.heap.size by omega)
  have s_P := P.out
  have s_P2 := P2.out
  have s_Q := Q.out
  have s_O7 := O7.out
  replace s_P := s_P.alloc (.cells #[.slice X7 n c7] 24)
  replace s_P2 := s_P2.alloc (.cells #[.slice X7 n c7] 24)
  replace s_Q := s_Q.alloc (.cells #[.slice X7 n c7] 24)
  replace s_O7 := World.ownsRow.alloc s_O7 (.cells #[.slice X7 n c7] 24)
  have s_T7 : HasBlk (w1.alloc (.cells #[.slice X7 n c7] 24)) (w1.heap.size) 24 #[.slice X7 n c7] := by simpa using hasBlk_new w1 24 #[.slice X7 n c7]
  have t_P : HasBlk (w1.alloc (.cells #[.slice X7 n c7] 24)) (w.heap.size) 24 #[.slice A n c] := by simpa using s_P
  clear s_P P
  have t_P2 : HasBlk (w1.alloc (.cells #[.slice X7 n c7] 24)) (w.heap.size + 1) 24 #[.slice A2 m d] := by simpa using s_P2
  clear s_P2 P2
  have t_Q : HasBlk (w1.alloc (.cells #[.slice X7 n c7] 24)) (w.heap.size + 1 + 1) 26 #[.int .i64 s, .int .i64 q] := by simpa using s_Q
  clear s_Q Q
  have t_T7 : HasBlk (w1.alloc (.cells #[.slice X7 n c7] 24)) (w1.heap.size) 24 #[.slice X7 n c7] := by simpa using s_T7
  clear s_T7
  have t_O7 : ((w1.alloc (.cells #[.slice X7 n c7] 24))).ownsRow (v0.heap.size) 33 2 (.slice X7 (n) (c7)) (n) (cellsR 2 (sv g b) n) := s_O7
  clear s_O7 O7
  have SB3 : Below w.heap.size w (w1.alloc (.cells #[.slice X7 n c7] 24)) := by
    have bel0 := SB2h.out
    repeat' (first | exact Below.refl _ _ | assumption | apply Below.drew | refine Below.setCell ?_ (by first | omega | (simp; done) | (simp; omega)) _ | refine Below.alloc ?_ (by first | omega | (simp; done) | (simp; omega)) _)
  clear lt_P P_0 lt_P2 P2_0 lt_Q Q_0 Q_1
  generalize gW_v1 : (w1.alloc (.cells #[.slice X7 n c7] 24)) = v1 at *
  clear gW_v1
  have P := Lib.hid t_P
  clear t_P
  have P2 := Lib.hid t_P2
  clear t_P2
  have Q := Lib.hid t_Q
  clear t_Q
  have T7 := Lib.hid t_T7
  clear t_T7
  have O7 := Lib.hid t_O7
  clear t_O7
  clear SB2h
  have SB3h := Lib.hid SB3
  clear SB3
  have L7_1 := Lib.hid (fun k (hk : Value.ownBlock (.slice X7 (n) (c7)) = some k) => (O7.out.lt k hk).2)
  have Z_1 := Lib.hid SB3h.out.size
  refine (make_any X7 n c7 g b _ (Row.of_cells O7.out) (by omega)).mono ?_
  rintro e w2 ⟨hx, bel2⟩
  obtain ⟨X8, n8, c8, g8, b8, s8, q8, code8, rfl, ho, hv⟩ := hx.val
  have V8 := Lib.hid hv
  have O8 := Lib.hid ho
  clear ho hv hx
  have t_P := P.out.below bel2
  clear P
  have P := Lib.hid t_P
  clear t_P
  have t_P2 := P2.out.below bel2
  clear P2
  have P2 := Lib.hid t_P2
  clear t_P2
  have t_Q := Q.out.below bel2
  clear Q
  have Q := Lib.hid t_Q
  clear t_Q
  have t_T7 := T7.out.below bel2
  clear T7
  have T7 := Lib.hid t_T7
  clear t_T7
  have t_O7 := own_below O7.out bel2
  clear O7
  have O7 := Lib.hid t_O7
  clear t_O7
  have SB4 : Below w.heap.size w w2 := SB3h.out.trans (bel2.mono SB3h.out.size)
  clear SB3h
  have SB4h := Lib.hid SB4
  clear SB4 bel2
  have lt_P := P.out.lt
  have P_0 := P.out.cell 0
  simp at P_0
  have lt_P2 := P2.out.lt
  have P2_0 := P2.out.cell 0
  simp at P2_0
  have lt_Q := Q.out.lt
  have Q_0 := Q.out.cell 0
  have Q_1 := Q.out.cell 1
  simp at Q_0 Q_1
  have lt_T7 := T7.out.lt
  have T7_0 := T7.out.cell 0
  have T7_f0 := T7.out.frozen 0
  simp at T7_0
  have szB_w2 := SB4h.out.size
  go_wp2_with fail
  have NE_P_T8 := Lib.hid (show w.heap.size ≠ w2.heap.size by omega)
  have NE_P2_T8 := Lib.hid (show w.heap.size + 1 ≠ w2.heap.size by omega)
  have NE_Q_T8 := Lib.hid (show w.heap.size + 1 + 1 ≠ w2.heap.size by omega)
  have NE_T7_T8 := Lib.hid (show w1.heap.size ≠ w2.heap.size by omega)
  have NE_P_T9 := Lib.hid (show w.heap.size ≠ w2.heap.size + 1 by omega)
  have NE_P2_T9 := Lib.hid (show w.heap.size + 1 ≠ w2.heap.size + 1 by omega)
  have NE_Q_T9 := Lib.hid (show w.heap.size + 1 + 1 ≠ w2.heap.size + 1 by omega)
  have NE_T7_T9 := Lib.hid (show w1.heap.size ≠ w2.heap.size + 1 by omega)
  have NE_T8_T9 := Lib.hid (show w2.heap.size ≠ w2.heap.size + 1 by omega)
  have s_P := P.out
  have s_P2 := P2.out
  have s_Q := Q.out
  have s_T7 := T7.out
  have s_O7 := O7.out
  have s_O8 := O8.out
  replace s_P := s_P.alloc (.cells #[.slice X8 n8 c8] 24)
  replace s_P2 := s_P2.alloc (.cells #[.slice X8 n8 c8] 24)
  replace s_Q := s_Q.alloc (.cells #[.slice X8 n8 c8] 24)
  replace s_T7 := s_T7.alloc (.cells #[.slice X8 n8 c8] 24)
  replace s_O7 := World.ownsRow.alloc s_O7 (.cells #[.slice X8 n8 c8] 24)
  replace s_O8 := World.ownsRow.alloc s_O8 (.cells #[.slice X8 n8 c8] 24)
  have s_T8 : HasBlk (w2.alloc (.cells #[.slice X8 n8 c8] 24)) (w2.heap.size) 24 #[.slice X8 n8 c8] := by simpa using hasBlk_new w2 24 #[.slice X8 n8 c8]
  replace s_P := s_P.alloc (.cells #[.int .i64 s8, .int .i64 q8] 26)
  replace s_P2 := s_P2.alloc (.cells #[.int .i64 s8, .int .i64 q8] 26)
  replace s_Q := s_Q.alloc (.cells #[.int .i64 s8, .int .i64 q8] 26)
  replace s_T7 := s_T7.alloc (.cells #[.int .i64 s8, .int .i64 q8] 26)
  replace s_T8 := s_T8.alloc (.cells #[.int .i64 s8, .int .i64 q8] 26)
  replace s_O7 := World.ownsRow.alloc s_O7 (.cells #[.int .i64 s8, .int .i64 q8] 26)
  replace s_O8 := World.ownsRow.alloc s_O8 (.cells #[.int .i64 s8, .int .i64 q8] 26)
  have s_T9 : HasBlk ((w2.alloc (.cells #[.slice X8 n8 c8] 24)).alloc (.cells #[.int .i64 s8, .int .i64 q8] 26)) (w2.heap.size + 1) 26 #[.int .i64 s8, .int .i64 q8] := by simpa using hasBlk_new (w2.alloc (.cells #[.slice X8 n8 c8] 24)) 26 #[.int .i64 s8, .int .i64 q8]
  have t_P : HasBlk ((w2.alloc (.cells #[.slice X8 n8 c8] 24)).alloc (.cells #[.int .i64 s8, .int .i64 q8] 26)) (w.heap.size) 24 #[.slice A n c] := by simpa using s_P
  clear s_P P
  have t_P2 : HasBlk ((w2.alloc (.cells #[.slice X8 n8 c8] 24)).alloc (.cells #[.int .i64 s8, .int .i64 q8] 26)) (w.heap.size + 1) 24 #[.slice A2 m d] := by simpa using s_P2
  clear s_P2 P2
  have t_Q : HasBlk ((w2.alloc (.cells #[.slice X8 n8 c8] 24)).alloc (.cells #[.int .i64 s8, .int .i64 q8] 26)) (w.heap.size + 1 + 1) 26 #[.int .i64 s, .int .i64 q] := by simpa using s_Q
  clear s_Q Q
  have t_T7 : HasBlk ((w2.alloc (.cells #[.slice X8 n8 c8] 24)).alloc (.cells #[.int .i64 s8, .int .i64 q8] 26)) (w1.heap.size) 24 #[.slice X7 n c7] := by simpa using s_T7
  clear s_T7 T7
  have t_T8 : HasBlk ((w2.alloc (.cells #[.slice X8 n8 c8] 24)).alloc (.cells #[.int .i64 s8, .int .i64 q8] 26)) (w2.heap.size) 24 #[.slice X8 n8 c8] := by simpa using s_T8
  clear s_T8
  have t_T9 : HasBlk ((w2.alloc (.cells #[.slice X8 n8 c8] 24)).alloc (.cells #[.int .i64 s8, .int .i64 q8] 26)) (w2.heap.size + 1) 26 #[.int .i64 s8, .int .i64 q8] := by simpa using s_T9
  clear s_T9
  have t_O7 : (((w2.alloc (.cells #[.slice X8 n8 c8] 24)).alloc (.cells #[.int .i64 s8, .int .i64 q8] 26))).ownsRow (v0.heap.size) 33 2 (.slice X7 (n) (c7)) (n) (cellsR 2 (sv g b) n) := s_O7
  clear s_O7 O7
  have t_O8 : (((w2.alloc (.cells #[.slice X8 n8 c8] 24)).alloc (.cells #[.int .i64 s8, .int .i64 q8] 26))).ownsRow (v1.heap.size) 33 2 (.slice X8 (n8) (c8)) (n8) (cellsR 2 (sv g8 b8) n8) := s_O8
  clear s_O8 O8
  have SB5 : Below w.heap.size w ((w2.alloc (.cells #[.slice X8 n8 c8] 24)).alloc (.cells #[.int .i64 s8, .int .i64 q8] 26)) := by
    have bel0 := SB4h.out
    repeat' (first | exact Below.refl _ _ | assumption | apply Below.drew | refine Below.setCell ?_ (by first | omega | (simp; done) | (simp; omega)) _ | refine Below.alloc ?_ (by first | omega | (simp; done) | (simp; omega)) _)
  clear lt_P P_0 lt_P2 P2_0 lt_Q Q_0 Q_1 lt_T7 T7_0 T7_f0
  generalize gW_v2 : ((w2.alloc (.cells #[.slice X8 n8 c8] 24)).alloc (.cells #[.int .i64 s8, .int .i64 q8] 26)) = v2 at *
  clear gW_v2
  have P := Lib.hid t_P
  clear t_P
  have P2 := Lib.hid t_P2
  clear t_P2
  have Q := Lib.hid t_Q
  clear t_Q
  have T7 := Lib.hid t_T7
  clear t_T7
  have T8 := Lib.hid t_T8
  clear t_T8
  have T9 := Lib.hid t_T9
  clear t_T9
  have O7 := Lib.hid t_O7
  clear t_O7
  have O8 := Lib.hid t_O8
  clear t_O8
  clear SB4h
  have SB5h := Lib.hid SB5
  clear SB5
  refine (refmake_any A n c g b _ (HA.out.below SB5h.out) (by omega)).mono ?_
  rintro e w3 ⟨hx, bel3⟩
  obtain ⟨X11, n11, c11, g11, b11, s11, q11, code11, rfl, ho, hv⟩ := hx.val
  obtain ⟨hsm, rfl, rfl, rfl⟩ := V8.out.same hv
  have V11 := Lib.hid hsm
  clear hsm
  have O11 := Lib.hid ho
  clear ho hv hx
  have t_P := P.out.below bel3
  clear P
  have P := Lib.hid t_P
  clear t_P
  have t_P2 := P2.out.below bel3
  clear P2
  have P2 := Lib.hid t_P2
  clear t_P2
  have t_Q := Q.out.below bel3
  clear Q
  have Q := Lib.hid t_Q
  clear t_Q
  have t_T7 := T7.out.below bel3
  clear T7
  have T7 := Lib.hid t_T7
  clear t_T7
  have t_T8 := T8.out.below bel3
  clear T8
  have T8 := Lib.hid t_T8
  clear t_T8
  have t_T9 := T9.out.below bel3
  clear T9
  have T9 := Lib.hid t_T9
  clear t_T9
  have t_O7 := own_below O7.out bel3
  clear O7
  have O7 := Lib.hid t_O7
  clear t_O7
  have t_O8 := own_below O8.out bel3
  clear O8
  have O8 := Lib.hid t_O8
  clear t_O8
  have SB6 : Below w.heap.size w w3 := SB5h.out.trans (bel3.mono SB5h.out.size)
  clear SB5h
  have SB6h := Lib.hid SB6
  clear SB6 bel3
  have lt_P := P.out.lt
  have P_0 := P.out.cell 0
  simp at P_0
  have lt_P2 := P2.out.lt
  have P2_0 := P2.out.cell 0
  simp at P2_0
  have lt_Q := Q.out.lt
  have Q_0 := Q.out.cell 0
  have Q_1 := Q.out.cell 1
  simp at Q_0 Q_1
  have lt_T7 := T7.out.lt
  have T7_0 := T7.out.cell 0
  have T7_f0 := T7.out.frozen 0
  simp at T7_0
  have lt_T8 := T8.out.lt
  have T8_0 := T8.out.cell 0
  have T8_f0 := T8.out.frozen 0
  simp at T8_0
  have lt_T9 := T9.out.lt
  have T9_0 := T9.out.cell 0
  have T9_1 := T9.out.cell 1
  have T9_f0 := T9.out.frozen 0
  have T9_f1 := T9.out.frozen 1
  simp at T9_0 T9_1
  have szB_w3 := SB6h.out.size
  go_wp2_with fail
  have NE_P_T11 := Lib.hid (show w.heap.size ≠ w3.heap.size by omega)
  have NE_P2_T11 := Lib.hid (show w.heap.size + 1 ≠ w3.heap.size by omega)
  have NE_Q_T11 := Lib.hid (show w.heap.size + 1 + 1 ≠ w3.heap.size by omega)
  have NE_T7_T11 := Lib.hid (show w1.heap.size ≠ w3.heap.size by omega)
  have NE_T8_T11 := Lib.hid (show w2.heap.size ≠ w3.heap.size by omega)
  have NE_T9_T11 := Lib.hid (show w2.heap.size + 1 ≠ w3.heap.size by omega)
  have NE_P_T12 := Lib.hid (show w.heap.size ≠ w3.heap.size + 1 by omega)
  have NE_P2_T12 := Lib.hid (show w.heap.size + 1 ≠ w3.heap.size + 1 by omega)
  have NE_Q_T12 := Lib.hid (show w.heap.size + 1 + 1 ≠ w3.heap.size + 1 by omega)
  have NE_T7_T12 := Lib.hid (show w1.heap.size ≠ w3.heap.size + 1 by omega)
  have NE_T8_T12 := Lib.hid (show w2.heap.size ≠ w3.heap.size + 1 by omega)
  have NE_T9_T12 := Lib.hid (show w2.heap.size + 1 ≠ w3.heap.size + 1 by omega)
  have NE_T11_T12 := Lib.hid (show w3.heap.size ≠ w3.heap.size + 1 by omega)
  have s_P := P.out
  have s_P2 := P2.out
  have s_Q := Q.out
  have s_T7 := T7.out
  have s_T8 := T8.out
  have s_T9 := T9.out
  have s_O7 := O7.out
  have s_O8 := O8.out
  have s_O11 := O11.out
  replace s_P := s_P.alloc (.cells #[.slice X11 n11 c11] 24)
  replace s_P2 := s_P2.alloc (.cells #[.slice X11 n11 c11] 24)
  replace s_Q := s_Q.alloc (.cells #[.slice X11 n11 c11] 24)
  replace s_T7 := s_T7.alloc (.cells #[.slice X11 n11 c11] 24)
  replace s_T8 := s_T8.alloc (.cells #[.slice X11 n11 c11] 24)
  replace s_T9 := s_T9.alloc (.cells #[.slice X11 n11 c11] 24)
  replace s_O7 := World.ownsRow.alloc s_O7 (.cells #[.slice X11 n11 c11] 24)
  replace s_O8 := World.ownsRow.alloc s_O8 (.cells #[.slice X11 n11 c11] 24)
  replace s_O11 := World.ownsRow.alloc s_O11 (.cells #[.slice X11 n11 c11] 24)
  have s_T11 : HasBlk (w3.alloc (.cells #[.slice X11 n11 c11] 24)) (w3.heap.size) 24 #[.slice X11 n11 c11] := by simpa using hasBlk_new w3 24 #[.slice X11 n11 c11]
  replace s_P := s_P.alloc (.cells #[.int .i64 s8, .int .i64 q8] 26)
  replace s_P2 := s_P2.alloc (.cells #[.int .i64 s8, .int .i64 q8] 26)
  replace s_Q := s_Q.alloc (.cells #[.int .i64 s8, .int .i64 q8] 26)
  replace s_T7 := s_T7.alloc (.cells #[.int .i64 s8, .int .i64 q8] 26)
  replace s_T8 := s_T8.alloc (.cells #[.int .i64 s8, .int .i64 q8] 26)
  replace s_T9 := s_T9.alloc (.cells #[.int .i64 s8, .int .i64 q8] 26)
  replace s_T11 := s_T11.alloc (.cells #[.int .i64 s8, .int .i64 q8] 26)
  replace s_O7 := World.ownsRow.alloc s_O7 (.cells #[.int .i64 s8, .int .i64 q8] 26)
  replace s_O8 := World.ownsRow.alloc s_O8 (.cells #[.int .i64 s8, .int .i64 q8] 26)
  replace s_O11 := World.ownsRow.alloc s_O11 (.cells #[.int .i64 s8, .int .i64 q8] 26)
  have s_T12 : HasBlk ((w3.alloc (.cells #[.slice X11 n11 c11] 24)).alloc (.cells #[.int .i64 s8, .int .i64 q8] 26)) (w3.heap.size + 1) 26 #[.int .i64 s8, .int .i64 q8] := by simpa using hasBlk_new (w3.alloc (.cells #[.slice X11 n11 c11] 24)) 26 #[.int .i64 s8, .int .i64 q8]
  have t_P : HasBlk ((w3.alloc (.cells #[.slice X11 n11 c11] 24)).alloc (.cells #[.int .i64 s8, .int .i64 q8] 26)) (w.heap.size) 24 #[.slice A n c] := by simpa using s_P
  clear s_P P
  have t_P2 : HasBlk ((w3.alloc (.cells #[.slice X11 n11 c11] 24)).alloc (.cells #[.int .i64 s8, .int .i64 q8] 26)) (w.heap.size + 1) 24 #[.slice A2 m d] := by simpa using s_P2
  clear s_P2 P2
  have t_Q : HasBlk ((w3.alloc (.cells #[.slice X11 n11 c11] 24)).alloc (.cells #[.int .i64 s8, .int .i64 q8] 26)) (w.heap.size + 1 + 1) 26 #[.int .i64 s, .int .i64 q] := by simpa using s_Q
  clear s_Q Q
  have t_T7 : HasBlk ((w3.alloc (.cells #[.slice X11 n11 c11] 24)).alloc (.cells #[.int .i64 s8, .int .i64 q8] 26)) (w1.heap.size) 24 #[.slice X7 n c7] := by simpa using s_T7
  clear s_T7 T7
  have t_T8 : HasBlk ((w3.alloc (.cells #[.slice X11 n11 c11] 24)).alloc (.cells #[.int .i64 s8, .int .i64 q8] 26)) (w2.heap.size) 24 #[.slice X8 n8 c8] := by simpa using s_T8
  clear s_T8 T8
  have t_T9 : HasBlk ((w3.alloc (.cells #[.slice X11 n11 c11] 24)).alloc (.cells #[.int .i64 s8, .int .i64 q8] 26)) (w2.heap.size + 1) 26 #[.int .i64 s8, .int .i64 q8] := by simpa using s_T9
  clear s_T9 T9
  have t_T11 : HasBlk ((w3.alloc (.cells #[.slice X11 n11 c11] 24)).alloc (.cells #[.int .i64 s8, .int .i64 q8] 26)) (w3.heap.size) 24 #[.slice X11 n11 c11] := by simpa using s_T11
  clear s_T11
  have t_T12 : HasBlk ((w3.alloc (.cells #[.slice X11 n11 c11] 24)).alloc (.cells #[.int .i64 s8, .int .i64 q8] 26)) (w3.heap.size + 1) 26 #[.int .i64 s8, .int .i64 q8] := by simpa using s_T12
  clear s_T12
  have t_O7 : (((w3.alloc (.cells #[.slice X11 n11 c11] 24)).alloc (.cells #[.int .i64 s8, .int .i64 q8] 26))).ownsRow (v0.heap.size) 33 2 (.slice X7 (n) (c7)) (n) (cellsR 2 (sv g b) n) := s_O7
  clear s_O7 O7
  have t_O8 : (((w3.alloc (.cells #[.slice X11 n11 c11] 24)).alloc (.cells #[.int .i64 s8, .int .i64 q8] 26))).ownsRow (v1.heap.size) 33 2 (.slice X8 (n8) (c8)) (n8) (cellsR 2 (sv g8 b8) n8) := s_O8
  clear s_O8 O8
  have t_O11 : (((w3.alloc (.cells #[.slice X11 n11 c11] 24)).alloc (.cells #[.int .i64 s8, .int .i64 q8] 26))).ownsRow (v2.heap.size) 33 2 (.slice X11 (n11) (c11)) (n11) (cellsR 2 (sv g11 b11) n11) := s_O11
  clear s_O11 O11
  have SB7 : Below w.heap.size w ((w3.alloc (.cells #[.slice X11 n11 c11] 24)).alloc (.cells #[.int .i64 s8, .int .i64 q8] 26)) := by
    have bel0 := SB6h.out
    repeat' (first | exact Below.refl _ _ | assumption | apply Below.drew | refine Below.setCell ?_ (by first | omega | (simp; done) | (simp; omega)) _ | refine Below.alloc ?_ (by first | omega | (simp; done) | (simp; omega)) _)
  clear lt_P P_0 lt_P2 P2_0 lt_Q Q_0 Q_1 lt_T7 T7_0 T7_f0 lt_T8 T8_0 T8_f0 lt_T9 T9_0 T9_1 T9_f0 T9_f1
  generalize gW_v3 : ((w3.alloc (.cells #[.slice X11 n11 c11] 24)).alloc (.cells #[.int .i64 s8, .int .i64 q8] 26)) = v3 at *
  clear gW_v3
  have P := Lib.hid t_P
  clear t_P
  have P2 := Lib.hid t_P2
  clear t_P2
  have Q := Lib.hid t_Q
  clear t_Q
  have T7 := Lib.hid t_T7
  clear t_T7
  have T8 := Lib.hid t_T8
  clear t_T8
  have T9 := Lib.hid t_T9
  clear t_T9
  have T11 := Lib.hid t_T11
  clear t_T11
  have T12 := Lib.hid t_T12
  clear t_T12
  have O7 := Lib.hid t_O7
  clear t_O7
  have O8 := Lib.hid t_O8
  clear t_O8
  have O11 := Lib.hid t_O11
  clear t_O11
  clear SB6h
  have SB7h := Lib.hid SB7
  clear SB7
  have L7_3 := Lib.hid (fun k (hk : Value.ownBlock (.slice X7 (n) (c7)) = some k) => (O7.out.lt k hk).2)
  have L8_3 := Lib.hid (fun k (hk : Value.ownBlock (.slice X8 (n8) (c8)) = some k) => (O8.out.lt k hk).2)
  have Z_3 := Lib.hid SB7h.out.size
  refine (kill_any X7 n c7 g b s q _ (Row.of_cells O7.out) (by omega)).mono ?_
  rintro e w4 ⟨hx, bel4⟩
  obtain ⟨X14, n14, c14, g14, b14, code14, rfl, ho, hv⟩ := hx.val (by omega)
  have V14 := Lib.hid hv
  have O14 := Lib.hid ho
  clear ho hv hx
  have t_P := P.out.below bel4
  clear P
  have P := Lib.hid t_P
  clear t_P
  have t_P2 := P2.out.below bel4
  clear P2
  have P2 := Lib.hid t_P2
  clear t_P2
  have t_Q := Q.out.below bel4
  clear Q
  have Q := Lib.hid t_Q
  clear t_Q
  have t_T7 := T7.out.below bel4
  clear T7
  have T7 := Lib.hid t_T7
  clear t_T7
  have t_T8 := T8.out.below bel4
  clear T8
  have T8 := Lib.hid t_T8
  clear t_T8
  have t_T9 := T9.out.below bel4
  clear T9
  have T9 := Lib.hid t_T9
  clear t_T9
  have t_T11 := T11.out.below bel4
  clear T11
  have T11 := Lib.hid t_T11
  clear t_T11
  have t_T12 := T12.out.below bel4
  clear T12
  have T12 := Lib.hid t_T12
  clear t_T12
  have t_O7 := own_below O7.out bel4
  clear O7
  have O7 := Lib.hid t_O7
  clear t_O7
  have t_O8 := own_below O8.out bel4
  clear O8
  have O8 := Lib.hid t_O8
  clear t_O8
  have t_O11 := own_below O11.out bel4
  clear O11
  have O11 := Lib.hid t_O11
  clear t_O11
  have SB8 : Below w.heap.size w w4 := SB7h.out.trans (bel4.mono SB7h.out.size)
  clear SB7h
  have SB8h := Lib.hid SB8
  clear SB8 bel4
  have lt_P := P.out.lt
  have P_0 := P.out.cell 0
  simp at P_0
  have lt_P2 := P2.out.lt
  have P2_0 := P2.out.cell 0
  simp at P2_0
  have lt_Q := Q.out.lt
  have Q_0 := Q.out.cell 0
  have Q_1 := Q.out.cell 1
  simp at Q_0 Q_1
  have lt_T7 := T7.out.lt
  have T7_0 := T7.out.cell 0
  have T7_f0 := T7.out.frozen 0
  simp at T7_0
  have lt_T8 := T8.out.lt
  have T8_0 := T8.out.cell 0
  have T8_f0 := T8.out.frozen 0
  simp at T8_0
  have lt_T9 := T9.out.lt
  have T9_0 := T9.out.cell 0
  have T9_1 := T9.out.cell 1
  have T9_f0 := T9.out.frozen 0
  have T9_f1 := T9.out.frozen 1
  simp at T9_0 T9_1
  have lt_T11 := T11.out.lt
  have T11_0 := T11.out.cell 0
  have T11_f0 := T11.out.frozen 0
  simp at T11_0
  have lt_T12 := T12.out.lt
  have T12_0 := T12.out.cell 0
  have T12_1 := T12.out.cell 1
  have T12_f0 := T12.out.frozen 0
  have T12_f1 := T12.out.frozen 1
  simp at T12_0 T12_1
  have szB_w4 := SB8h.out.size
  go_wp2_with fail
  have NE_P_T14 := Lib.hid (show w.heap.size ≠ w4.heap.size by omega)
  have NE_P2_T14 := Lib.hid (show w.heap.size + 1 ≠ w4.heap.size by omega)
  have NE_Q_T14 := Lib.hid (show w.heap.size + 1 + 1 ≠ w4.heap.size by omega)
  have NE_T7_T14 := Lib.hid (show w1.heap.size ≠ w4.heap.size by omega)
  have NE_T8_T14 := Lib.hid (show w2.heap.size ≠ w4.heap.size by omega)
  have NE_T9_T14 := Lib.hid (show w2.heap.size + 1 ≠ w4.heap.size by omega)
  have NE_T11_T14 := Lib.hid (show w3.heap.size ≠ w4.heap.size by omega)
  have NE_T12_T14 := Lib.hid (show w3.heap.size + 1 ≠ w4.heap.size by omega)
  have s_P := P.out
  have s_P2 := P2.out
  have s_Q := Q.out
  have s_T7 := T7.out
  have s_T8 := T8.out
  have s_T9 := T9.out
  have s_T11 := T11.out
  have s_T12 := T12.out
  have s_O7 := O7.out
  have s_O8 := O8.out
  have s_O11 := O11.out
  have s_O14 := O14.out
  replace s_P := s_P.alloc (.cells #[.slice X14 n14 c14] 24)
  replace s_P2 := s_P2.alloc (.cells #[.slice X14 n14 c14] 24)
  replace s_Q := s_Q.alloc (.cells #[.slice X14 n14 c14] 24)
  replace s_T7 := s_T7.alloc (.cells #[.slice X14 n14 c14] 24)
  replace s_T8 := s_T8.alloc (.cells #[.slice X14 n14 c14] 24)
  replace s_T9 := s_T9.alloc (.cells #[.slice X14 n14 c14] 24)
  replace s_T11 := s_T11.alloc (.cells #[.slice X14 n14 c14] 24)
  replace s_T12 := s_T12.alloc (.cells #[.slice X14 n14 c14] 24)
  replace s_O7 := World.ownsRow.alloc s_O7 (.cells #[.slice X14 n14 c14] 24)
  replace s_O8 := World.ownsRow.alloc s_O8 (.cells #[.slice X14 n14 c14] 24)
  replace s_O11 := World.ownsRow.alloc s_O11 (.cells #[.slice X14 n14 c14] 24)
  replace s_O14 := World.ownsRow.alloc s_O14 (.cells #[.slice X14 n14 c14] 24)
  have s_T14 : HasBlk (w4.alloc (.cells #[.slice X14 n14 c14] 24)) (w4.heap.size) 24 #[.slice X14 n14 c14] := by simpa using hasBlk_new w4 24 #[.slice X14 n14 c14]
  have t_P : HasBlk (w4.alloc (.cells #[.slice X14 n14 c14] 24)) (w.heap.size) 24 #[.slice A n c] := by simpa using s_P
  clear s_P P
  have t_P2 : HasBlk (w4.alloc (.cells #[.slice X14 n14 c14] 24)) (w.heap.size + 1) 24 #[.slice A2 m d] := by simpa using s_P2
  clear s_P2 P2
  have t_Q : HasBlk (w4.alloc (.cells #[.slice X14 n14 c14] 24)) (w.heap.size + 1 + 1) 26 #[.int .i64 s, .int .i64 q] := by simpa using s_Q
  clear s_Q Q
  have t_T7 : HasBlk (w4.alloc (.cells #[.slice X14 n14 c14] 24)) (w1.heap.size) 24 #[.slice X7 n c7] := by simpa using s_T7
  clear s_T7 T7
  have t_T8 : HasBlk (w4.alloc (.cells #[.slice X14 n14 c14] 24)) (w2.heap.size) 24 #[.slice X8 n8 c8] := by simpa using s_T8
  clear s_T8 T8
  have t_T9 : HasBlk (w4.alloc (.cells #[.slice X14 n14 c14] 24)) (w2.heap.size + 1) 26 #[.int .i64 s8, .int .i64 q8] := by simpa using s_T9
  clear s_T9 T9
  have t_T11 : HasBlk (w4.alloc (.cells #[.slice X14 n14 c14] 24)) (w3.heap.size) 24 #[.slice X11 n11 c11] := by simpa using s_T11
  clear s_T11 T11
  have t_T12 : HasBlk (w4.alloc (.cells #[.slice X14 n14 c14] 24)) (w3.heap.size + 1) 26 #[.int .i64 s8, .int .i64 q8] := by simpa using s_T12
  clear s_T12 T12
  have t_T14 : HasBlk (w4.alloc (.cells #[.slice X14 n14 c14] 24)) (w4.heap.size) 24 #[.slice X14 n14 c14] := by simpa using s_T14
  clear s_T14
  have t_O7 : ((w4.alloc (.cells #[.slice X14 n14 c14] 24))).ownsRow (v0.heap.size) 33 2 (.slice X7 (n) (c7)) (n) (cellsR 2 (sv g b) n) := s_O7
  clear s_O7 O7
  have t_O8 : ((w4.alloc (.cells #[.slice X14 n14 c14] 24))).ownsRow (v1.heap.size) 33 2 (.slice X8 (n8) (c8)) (n8) (cellsR 2 (sv g8 b8) n8) := s_O8
  clear s_O8 O8
  have t_O11 : ((w4.alloc (.cells #[.slice X14 n14 c14] 24))).ownsRow (v2.heap.size) 33 2 (.slice X11 (n11) (c11)) (n11) (cellsR 2 (sv g11 b11) n11) := s_O11
  clear s_O11 O11
  have t_O14 : ((w4.alloc (.cells #[.slice X14 n14 c14] 24))).ownsRow (v3.heap.size) 33 2 (.slice X14 (n14) (c14)) (n14) (cellsR 2 (sv g14 b14) n14) := s_O14
  clear s_O14 O14
  have SB9 : Below w.heap.size w (w4.alloc (.cells #[.slice X14 n14 c14] 24)) := by
    have bel0 := SB8h.out
    repeat' (first | exact Below.refl _ _ | assumption | apply Below.drew | refine Below.setCell ?_ (by first | omega | (simp; done) | (simp; omega)) _ | refine Below.alloc ?_ (by first | omega | (simp; done) | (simp; omega)) _)
  clear lt_P P_0 lt_P2 P2_0 lt_Q Q_0 Q_1 lt_T7 T7_0 T7_f0 lt_T8 T8_0 T8_f0 lt_T9 T9_0 T9_1 T9_f0 T9_f1 lt_T11 T11_0 T11_f0 lt_T12 T12_0 T12_1 T12_f0 T12_f1
  generalize gW_v4 : (w4.alloc (.cells #[.slice X14 n14 c14] 24)) = v4 at *
  clear gW_v4
  have P := Lib.hid t_P
  clear t_P
  have P2 := Lib.hid t_P2
  clear t_P2
  have Q := Lib.hid t_Q
  clear t_Q
  have T7 := Lib.hid t_T7
  clear t_T7
  have T8 := Lib.hid t_T8
  clear t_T8
  have T9 := Lib.hid t_T9
  clear t_T9
  have T11 := Lib.hid t_T11
  clear t_T11
  have T12 := Lib.hid t_T12
  clear t_T12
  have T14 := Lib.hid t_T14
  clear t_T14
  have O7 := Lib.hid t_O7
  clear t_O7
  have O8 := Lib.hid t_O8
  clear t_O8
  have O11 := Lib.hid t_O11
  clear t_O11
  have O14 := Lib.hid t_O14
  clear t_O14
  clear SB8h
  have SB9h := Lib.hid SB9
  clear SB9
  refine (refkill_any A n c g b s q _ (HA.out.below SB9h.out) (by omega)).mono ?_
  rintro e w5 ⟨hx, bel5⟩
  obtain ⟨X16, n16, c16, g16, b16, code16, rfl, ho, hv⟩ := hx.val
  obtain ⟨hsm, rfl⟩ := V14.out.same hv
  have V16 := Lib.hid hsm
  clear hsm
  have O16 := Lib.hid ho
  clear ho hv hx
  have t_P := P.out.below bel5
  clear P
  have P := Lib.hid t_P
  clear t_P
  have t_P2 := P2.out.below bel5
  clear P2
  have P2 := Lib.hid t_P2
  clear t_P2
  have t_Q := Q.out.below bel5
  clear Q
  have Q := Lib.hid t_Q
  clear t_Q
  have t_T7 := T7.out.below bel5
  clear T7
  have T7 := Lib.hid t_T7
  clear t_T7
  have t_T8 := T8.out.below bel5
  clear T8
  have T8 := Lib.hid t_T8
  clear t_T8
  have t_T9 := T9.out.below bel5
  clear T9
  have T9 := Lib.hid t_T9
  clear t_T9
  have t_T11 := T11.out.below bel5
  clear T11
  have T11 := Lib.hid t_T11
  clear t_T11
  have t_T12 := T12.out.below bel5
  clear T12
  have T12 := Lib.hid t_T12
  clear t_T12
  have t_T14 := T14.out.below bel5
  clear T14
  have T14 := Lib.hid t_T14
  clear t_T14
  have t_O7 := own_below O7.out bel5
  clear O7
  have O7 := Lib.hid t_O7
  clear t_O7
  have t_O8 := own_below O8.out bel5
  clear O8
  have O8 := Lib.hid t_O8
  clear t_O8
  have t_O11 := own_below O11.out bel5
  clear O11
  have O11 := Lib.hid t_O11
  clear t_O11
  have t_O14 := own_below O14.out bel5
  clear O14
  have O14 := Lib.hid t_O14
  clear t_O14
  have SB10 : Below w.heap.size w w5 := SB9h.out.trans (bel5.mono SB9h.out.size)
  clear SB9h
  have SB10h := Lib.hid SB10
  clear SB10 bel5
  have lt_P := P.out.lt
  have P_0 := P.out.cell 0
  simp at P_0
  have lt_P2 := P2.out.lt
  have P2_0 := P2.out.cell 0
  simp at P2_0
  have lt_Q := Q.out.lt
  have Q_0 := Q.out.cell 0
  have Q_1 := Q.out.cell 1
  simp at Q_0 Q_1
  have lt_T7 := T7.out.lt
  have T7_0 := T7.out.cell 0
  have T7_f0 := T7.out.frozen 0
  simp at T7_0
  have lt_T8 := T8.out.lt
  have T8_0 := T8.out.cell 0
  have T8_f0 := T8.out.frozen 0
  simp at T8_0
  have lt_T9 := T9.out.lt
  have T9_0 := T9.out.cell 0
  have T9_1 := T9.out.cell 1
  have T9_f0 := T9.out.frozen 0
  have T9_f1 := T9.out.frozen 1
  simp at T9_0 T9_1
  have lt_T11 := T11.out.lt
  have T11_0 := T11.out.cell 0
  have T11_f0 := T11.out.frozen 0
  simp at T11_0
  have lt_T12 := T12.out.lt
  have T12_0 := T12.out.cell 0
  have T12_1 := T12.out.cell 1
  have T12_f0 := T12.out.frozen 0
  have T12_f1 := T12.out.frozen 1
  simp at T12_0 T12_1
  have lt_T14 := T14.out.lt
  have T14_0 := T14.out.cell 0
  have T14_f0 := T14.out.frozen 0
  simp at T14_0
  have szB_w5 := SB10h.out.size
  go_wp2_with fail
  have NE_P_T16 := Lib.hid (show w.heap.size ≠ w5.heap.size by omega)
  have NE_P2_T16 := Lib.hid (show w.heap.size + 1 ≠ w5.heap.size by omega)
  have NE_Q_T16 := Lib.hid (show w.heap.size + 1 + 1 ≠ w5.heap.size by omega)
  have NE_T7_T16 := Lib.hid (show w1.heap.size ≠ w5.heap.size by omega)
  have NE_T8_T16 := Lib.hid (show w2.heap.size ≠ w5.heap.size by omega)
  have NE_T9_T16 := Lib.hid (show w2.heap.size + 1 ≠ w5.heap.size by omega)
  have NE_T11_T16 := Lib.hid (show w3.heap.size ≠ w5.heap.size by omega)
  have NE_T12_T16 := Lib.hid (show w3.heap.size + 1 ≠ w5.heap.size by omega)
  have NE_T14_T16 := Lib.hid (show w4.heap.size ≠ w5.heap.size by omega)
  have s_P := P.out
  have s_P2 := P2.out
  have s_Q := Q.out
  have s_T7 := T7.out
  have s_T8 := T8.out
  have s_T9 := T9.out
  have s_T11 := T11.out
  have s_T12 := T12.out
  have s_T14 := T14.out
  have s_O7 := O7.out
  have s_O8 := O8.out
  have s_O11 := O11.out
  have s_O14 := O14.out
  have s_O16 := O16.out
  replace s_P := s_P.alloc (.cells #[.slice X16 n16 c16] 24)
  replace s_P2 := s_P2.alloc (.cells #[.slice X16 n16 c16] 24)
  replace s_Q := s_Q.alloc (.cells #[.slice X16 n16 c16] 24)
  replace s_T7 := s_T7.alloc (.cells #[.slice X16 n16 c16] 24)
  replace s_T8 := s_T8.alloc (.cells #[.slice X16 n16 c16] 24)
  replace s_T9 := s_T9.alloc (.cells #[.slice X16 n16 c16] 24)
  replace s_T11 := s_T11.alloc (.cells #[.slice X16 n16 c16] 24)
  replace s_T12 := s_T12.alloc (.cells #[.slice X16 n16 c16] 24)
  replace s_T14 := s_T14.alloc (.cells #[.slice X16 n16 c16] 24)
  replace s_O7 := World.ownsRow.alloc s_O7 (.cells #[.slice X16 n16 c16] 24)
  replace s_O8 := World.ownsRow.alloc s_O8 (.cells #[.slice X16 n16 c16] 24)
  replace s_O11 := World.ownsRow.alloc s_O11 (.cells #[.slice X16 n16 c16] 24)
  replace s_O14 := World.ownsRow.alloc s_O14 (.cells #[.slice X16 n16 c16] 24)
  replace s_O16 := World.ownsRow.alloc s_O16 (.cells #[.slice X16 n16 c16] 24)
  have s_T16 : HasBlk (w5.alloc (.cells #[.slice X16 n16 c16] 24)) (w5.heap.size) 24 #[.slice X16 n16 c16] := by simpa using hasBlk_new w5 24 #[.slice X16 n16 c16]
  have t_P : HasBlk (w5.alloc (.cells #[.slice X16 n16 c16] 24)) (w.heap.size) 24 #[.slice A n c] := by simpa using s_P
  clear s_P P
  have t_P2 : HasBlk (w5.alloc (.cells #[.slice X16 n16 c16] 24)) (w.heap.size + 1) 24 #[.slice A2 m d] := by simpa using s_P2
  clear s_P2 P2
  have t_Q : HasBlk (w5.alloc (.cells #[.slice X16 n16 c16] 24)) (w.heap.size + 1 + 1) 26 #[.int .i64 s, .int .i64 q] := by simpa using s_Q
  clear s_Q Q
  have t_T7 : HasBlk (w5.alloc (.cells #[.slice X16 n16 c16] 24)) (w1.heap.size) 24 #[.slice X7 n c7] := by simpa using s_T7
  clear s_T7 T7
  have t_T8 : HasBlk (w5.alloc (.cells #[.slice X16 n16 c16] 24)) (w2.heap.size) 24 #[.slice X8 n8 c8] := by simpa using s_T8
  clear s_T8 T8
  have t_T9 : HasBlk (w5.alloc (.cells #[.slice X16 n16 c16] 24)) (w2.heap.size + 1) 26 #[.int .i64 s8, .int .i64 q8] := by simpa using s_T9
  clear s_T9 T9
  have t_T11 : HasBlk (w5.alloc (.cells #[.slice X16 n16 c16] 24)) (w3.heap.size) 24 #[.slice X11 n11 c11] := by simpa using s_T11
  clear s_T11 T11
  have t_T12 : HasBlk (w5.alloc (.cells #[.slice X16 n16 c16] 24)) (w3.heap.size + 1) 26 #[.int .i64 s8, .int .i64 q8] := by simpa using s_T12
  clear s_T12 T12
  have t_T14 : HasBlk (w5.alloc (.cells #[.slice X16 n16 c16] 24)) (w4.heap.size) 24 #[.slice X14 n14 c14] := by simpa using s_T14
  clear s_T14 T14
  have t_T16 : HasBlk (w5.alloc (.cells #[.slice X16 n16 c16] 24)) (w5.heap.size) 24 #[.slice X16 n16 c16] := by simpa using s_T16
  clear s_T16
  have t_O7 : ((w5.alloc (.cells #[.slice X16 n16 c16] 24))).ownsRow (v0.heap.size) 33 2 (.slice X7 (n) (c7)) (n) (cellsR 2 (sv g b) n) := s_O7
  clear s_O7 O7
  have t_O8 : ((w5.alloc (.cells #[.slice X16 n16 c16] 24))).ownsRow (v1.heap.size) 33 2 (.slice X8 (n8) (c8)) (n8) (cellsR 2 (sv g8 b8) n8) := s_O8
  clear s_O8 O8
  have t_O11 : ((w5.alloc (.cells #[.slice X16 n16 c16] 24))).ownsRow (v2.heap.size) 33 2 (.slice X11 (n11) (c11)) (n11) (cellsR 2 (sv g11 b11) n11) := s_O11
  clear s_O11 O11
  have t_O14 : ((w5.alloc (.cells #[.slice X16 n16 c16] 24))).ownsRow (v3.heap.size) 33 2 (.slice X14 (n14) (c14)) (n14) (cellsR 2 (sv g14 b14) n14) := s_O14
  clear s_O14 O14
  have t_O16 : ((w5.alloc (.cells #[.slice X16 n16 c16] 24))).ownsRow (v4.heap.size) 33 2 (.slice X16 (n16) (c16)) (n16) (cellsR 2 (sv g16 b16) n16) := s_O16
  clear s_O16 O16
  have SB11 : Below w.heap.size w (w5.alloc (.cells #[.slice X16 n16 c16] 24)) := by
    have bel0 := SB10h.out
    repeat' (first | exact Below.refl _ _ | assumption | apply Below.drew | refine Below.setCell ?_ (by first | omega | (simp; done) | (simp; omega)) _ | refine Below.alloc ?_ (by first | omega | (simp; done) | (simp; omega)) _)
  clear lt_P P_0 lt_P2 P2_0 lt_Q Q_0 Q_1 lt_T7 T7_0 T7_f0 lt_T8 T8_0 T8_f0 lt_T9 T9_0 T9_1 T9_f0 T9_f1 lt_T11 T11_0 T11_f0 lt_T12 T12_0 T12_1 T12_f0 T12_f1 lt_T14 T14_0 T14_f0
  generalize gW_v5 : (w5.alloc (.cells #[.slice X16 n16 c16] 24)) = v5 at *
  clear gW_v5
  have P := Lib.hid t_P
  clear t_P
  have P2 := Lib.hid t_P2
  clear t_P2
  have Q := Lib.hid t_Q
  clear t_Q
  have T7 := Lib.hid t_T7
  clear t_T7
  have T8 := Lib.hid t_T8
  clear t_T8
  have T9 := Lib.hid t_T9
  clear t_T9
  have T11 := Lib.hid t_T11
  clear t_T11
  have T12 := Lib.hid t_T12
  clear t_T12
  have T14 := Lib.hid t_T14
  clear t_T14
  have T16 := Lib.hid t_T16
  clear t_T16
  have O7 := Lib.hid t_O7
  clear t_O7
  have O8 := Lib.hid t_O8
  clear t_O8
  have O11 := Lib.hid t_O11
  clear t_O11
  have O14 := Lib.hid t_O14
  clear t_O14
  have O16 := Lib.hid t_O16
  clear t_O16
  clear SB10h
  have SB11h := Lib.hid SB11
  clear SB11
  refine (all_any X7 n c7 g b _ (Row.of_cells O7.out) (by omega)).mono ?_
  rintro e w6 ⟨hx, bel6⟩
  obtain ⟨X18, c18, l18, code18, rfl, ho, hv⟩ := hx.val
  have V18 := Lib.hid hv
  have O18 := Lib.hid ho
  clear ho hv hx
  have t_P := P.out.below bel6
  clear P
  have P := Lib.hid t_P
  clear t_P
  have t_P2 := P2.out.below bel6
  clear P2
  have P2 := Lib.hid t_P2
  clear t_P2
  have t_Q := Q.out.below bel6
  clear Q
  have Q := Lib.hid t_Q
  clear t_Q
  have t_T7 := T7.out.below bel6
  clear T7
  have T7 := Lib.hid t_T7
  clear t_T7
  have t_T8 := T8.out.below bel6
  clear T8
  have T8 := Lib.hid t_T8
  clear t_T8
  have t_T9 := T9.out.below bel6
  clear T9
  have T9 := Lib.hid t_T9
  clear t_T9
  have t_T11 := T11.out.below bel6
  clear T11
  have T11 := Lib.hid t_T11
  clear t_T11
  have t_T12 := T12.out.below bel6
  clear T12
  have T12 := Lib.hid t_T12
  clear t_T12
  have t_T14 := T14.out.below bel6
  clear T14
  have T14 := Lib.hid t_T14
  clear t_T14
  have t_T16 := T16.out.below bel6
  clear T16
  have T16 := Lib.hid t_T16
  clear t_T16
  have t_O7 := own_below O7.out bel6
  clear O7
  have O7 := Lib.hid t_O7
  clear t_O7
  have t_O8 := own_below O8.out bel6
  clear O8
  have O8 := Lib.hid t_O8
  clear t_O8
  have t_O11 := own_below O11.out bel6
  clear O11
  have O11 := Lib.hid t_O11
  clear t_O11
  have t_O14 := own_below O14.out bel6
  clear O14
  have O14 := Lib.hid t_O14
  clear t_O14
  have t_O16 := own_below O16.out bel6
  clear O16
  have O16 := Lib.hid t_O16
  clear t_O16
  have SB12 : Below w.heap.size w w6 := SB11h.out.trans (bel6.mono SB11h.out.size)
  clear SB11h
  have SB12h := Lib.hid SB12
  clear SB12 bel6
  have lt_P := P.out.lt
  have P_0 := P.out.cell 0
  simp at P_0
  have lt_P2 := P2.out.lt
  have P2_0 := P2.out.cell 0
  simp at P2_0
  have lt_Q := Q.out.lt
  have Q_0 := Q.out.cell 0
  have Q_1 := Q.out.cell 1
  simp at Q_0 Q_1
  have lt_T7 := T7.out.lt
  have T7_0 := T7.out.cell 0
  have T7_f0 := T7.out.frozen 0
  simp at T7_0
  have lt_T8 := T8.out.lt
  have T8_0 := T8.out.cell 0
  have T8_f0 := T8.out.frozen 0
  simp at T8_0
  have lt_T9 := T9.out.lt
  have T9_0 := T9.out.cell 0
  have T9_1 := T9.out.cell 1
  have T9_f0 := T9.out.frozen 0
  have T9_f1 := T9.out.frozen 1
  simp at T9_0 T9_1
  have lt_T11 := T11.out.lt
  have T11_0 := T11.out.cell 0
  have T11_f0 := T11.out.frozen 0
  simp at T11_0
  have lt_T12 := T12.out.lt
  have T12_0 := T12.out.cell 0
  have T12_1 := T12.out.cell 1
  have T12_f0 := T12.out.frozen 0
  have T12_f1 := T12.out.frozen 1
  simp at T12_0 T12_1
  have lt_T14 := T14.out.lt
  have T14_0 := T14.out.cell 0
  have T14_f0 := T14.out.frozen 0
  simp at T14_0
  have lt_T16 := T16.out.lt
  have T16_0 := T16.out.cell 0
  have T16_f0 := T16.out.frozen 0
  simp at T16_0
  have szB_w6 := SB12h.out.size
  go_wp2_with fail
  clear lt_P P_0 lt_P2 P2_0 lt_Q Q_0 Q_1 lt_T7 T7_0 T7_f0 lt_T8 T8_0 T8_f0 lt_T9 T9_0 T9_1 T9_f0 T9_f1 lt_T11 T11_0 T11_f0 lt_T12 T12_0 T12_1 T12_f0 T12_f1 lt_T14 T14_0 T14_f0 lt_T16 T16_0 T16_f0
  refine (refall_any A n c g b _ (HA.out.below SB12h.out) (by omega)).mono ?_
  rintro e w7 ⟨hx, bel7⟩
  obtain ⟨X20, c20, l20, code20, rfl, ho, hv⟩ := hx.val
  obtain ⟨rfl, rfl⟩ := V18.out.same hv
  have O20 := Lib.hid ho
  clear ho hv hx
  have t_P := P.out.below bel7
  clear P
  have P := Lib.hid t_P
  clear t_P
  have t_P2 := P2.out.below bel7
  clear P2
  have P2 := Lib.hid t_P2
  clear t_P2
  have t_Q := Q.out.below bel7
  clear Q
  have Q := Lib.hid t_Q
  clear t_Q
  have t_T7 := T7.out.below bel7
  clear T7
  have T7 := Lib.hid t_T7
  clear t_T7
  have t_T8 := T8.out.below bel7
  clear T8
  have T8 := Lib.hid t_T8
  clear t_T8
  have t_T9 := T9.out.below bel7
  clear T9
  have T9 := Lib.hid t_T9
  clear t_T9
  have t_T11 := T11.out.below bel7
  clear T11
  have T11 := Lib.hid t_T11
  clear t_T11
  have t_T12 := T12.out.below bel7
  clear T12
  have T12 := Lib.hid t_T12
  clear t_T12
  have t_T14 := T14.out.below bel7
  clear T14
  have T14 := Lib.hid t_T14
  clear t_T14
  have t_T16 := T16.out.below bel7
  clear T16
  have T16 := Lib.hid t_T16
  clear t_T16
  have t_O7 := own_below O7.out bel7
  clear O7
  have O7 := Lib.hid t_O7
  clear t_O7
  have t_O8 := own_below O8.out bel7
  clear O8
  have O8 := Lib.hid t_O8
  clear t_O8
  have t_O11 := own_below O11.out bel7
  clear O11
  have O11 := Lib.hid t_O11
  clear t_O11
  have t_O14 := own_below O14.out bel7
  clear O14
  have O14 := Lib.hid t_O14
  clear t_O14
  have t_O16 := own_below O16.out bel7
  clear O16
  have O16 := Lib.hid t_O16
  clear t_O16
  have t_O18 := own_below O18.out bel7
  clear O18
  have O18 := Lib.hid t_O18
  clear t_O18
  have SB13 : Below w.heap.size w w7 := SB12h.out.trans (bel7.mono SB12h.out.size)
  clear SB12h
  have SB13h := Lib.hid SB13
  clear SB13 bel7
  have lt_P := P.out.lt
  have P_0 := P.out.cell 0
  simp at P_0
  have lt_P2 := P2.out.lt
  have P2_0 := P2.out.cell 0
  simp at P2_0
  have lt_Q := Q.out.lt
  have Q_0 := Q.out.cell 0
  have Q_1 := Q.out.cell 1
  simp at Q_0 Q_1
  have lt_T7 := T7.out.lt
  have T7_0 := T7.out.cell 0
  have T7_f0 := T7.out.frozen 0
  simp at T7_0
  have lt_T8 := T8.out.lt
  have T8_0 := T8.out.cell 0
  have T8_f0 := T8.out.frozen 0
  simp at T8_0
  have lt_T9 := T9.out.lt
  have T9_0 := T9.out.cell 0
  have T9_1 := T9.out.cell 1
  have T9_f0 := T9.out.frozen 0
  have T9_f1 := T9.out.frozen 1
  simp at T9_0 T9_1
  have lt_T11 := T11.out.lt
  have T11_0 := T11.out.cell 0
  have T11_f0 := T11.out.frozen 0
  simp at T11_0
  have lt_T12 := T12.out.lt
  have T12_0 := T12.out.cell 0
  have T12_1 := T12.out.cell 1
  have T12_f0 := T12.out.frozen 0
  have T12_f1 := T12.out.frozen 1
  simp at T12_0 T12_1
  have lt_T14 := T14.out.lt
  have T14_0 := T14.out.cell 0
  have T14_f0 := T14.out.frozen 0
  simp at T14_0
  have lt_T16 := T16.out.lt
  have T16_0 := T16.out.cell 0
  have T16_f0 := T16.out.frozen 0
  simp at T16_0
  have szB_w7 := SB13h.out.size
  go_wp2_with fail
  clear lt_P P_0 lt_P2 P2_0 lt_Q Q_0 Q_1 lt_T7 T7_0 T7_f0 lt_T8 T8_0 T8_f0 lt_T9 T9_0 T9_1 T9_f0 T9_f1 lt_T11 T11_0 T11_f0 lt_T12 T12_0 T12_1 T12_f0 T12_f1 lt_T14 T14_0 T14_f0 lt_T16 T16_0 T16_f0
  have L7_7 := Lib.hid (fun k (hk : Value.ownBlock (.slice X7 (n) (c7)) = some k) => (O7.out.lt k hk).2)
  have L8_7 := Lib.hid (fun k (hk : Value.ownBlock (.slice X8 (n8) (c8)) = some k) => (O8.out.lt k hk).2)
  have L14_7 := Lib.hid (fun k (hk : Value.ownBlock (.slice X14 (n14) (c14)) = some k) => (O14.out.lt k hk).2)
  have Z_7 := Lib.hid SB13h.out.size
  refine (twin_any X7 n c7 g b _ (Row.of_cells O7.out) (by omega)).mono ?_
  rintro e w8 ⟨⟨v, rfl, hv⟩, bel8⟩
  obtain ⟨x22, rfl, hx22, hb22⟩ := hv
  have O22 := Lib.hid (own_of_blk hb22 (cellsR_len 2 _ n) hx22 (by unfold maxLen; omega))
  clear hb22
  have t_P := P.out.below bel8
  clear P
  have P := Lib.hid t_P
  clear t_P
  have t_P2 := P2.out.below bel8
  clear P2
  have P2 := Lib.hid t_P2
  clear t_P2
  have t_Q := Q.out.below bel8
  clear Q
  have Q := Lib.hid t_Q
  clear t_Q
  have t_T7 := T7.out.below bel8
  clear T7
  have T7 := Lib.hid t_T7
  clear t_T7
  have t_T8 := T8.out.below bel8
  clear T8
  have T8 := Lib.hid t_T8
  clear t_T8
  have t_T9 := T9.out.below bel8
  clear T9
  have T9 := Lib.hid t_T9
  clear t_T9
  have t_T11 := T11.out.below bel8
  clear T11
  have T11 := Lib.hid t_T11
  clear t_T11
  have t_T12 := T12.out.below bel8
  clear T12
  have T12 := Lib.hid t_T12
  clear t_T12
  have t_T14 := T14.out.below bel8
  clear T14
  have T14 := Lib.hid t_T14
  clear t_T14
  have t_T16 := T16.out.below bel8
  clear T16
  have T16 := Lib.hid t_T16
  clear t_T16
  have t_O7 := own_below O7.out bel8
  clear O7
  have O7 := Lib.hid t_O7
  clear t_O7
  have t_O8 := own_below O8.out bel8
  clear O8
  have O8 := Lib.hid t_O8
  clear t_O8
  have t_O11 := own_below O11.out bel8
  clear O11
  have O11 := Lib.hid t_O11
  clear t_O11
  have t_O14 := own_below O14.out bel8
  clear O14
  have O14 := Lib.hid t_O14
  clear t_O14
  have t_O16 := own_below O16.out bel8
  clear O16
  have O16 := Lib.hid t_O16
  clear t_O16
  have t_O18 := own_below O18.out bel8
  clear O18
  have O18 := Lib.hid t_O18
  clear t_O18
  have t_O20 := own_below O20.out bel8
  clear O20
  have O20 := Lib.hid t_O20
  clear t_O20
  have SB14 : Below w.heap.size w w8 := SB13h.out.trans (bel8.mono SB13h.out.size)
  clear SB13h
  have SB14h := Lib.hid SB14
  clear SB14 bel8
  have lt_P := P.out.lt
  have P_0 := P.out.cell 0
  simp at P_0
  have lt_P2 := P2.out.lt
  have P2_0 := P2.out.cell 0
  simp at P2_0
  have lt_Q := Q.out.lt
  have Q_0 := Q.out.cell 0
  have Q_1 := Q.out.cell 1
  simp at Q_0 Q_1
  have lt_T7 := T7.out.lt
  have T7_0 := T7.out.cell 0
  have T7_f0 := T7.out.frozen 0
  simp at T7_0
  have lt_T8 := T8.out.lt
  have T8_0 := T8.out.cell 0
  have T8_f0 := T8.out.frozen 0
  simp at T8_0
  have lt_T9 := T9.out.lt
  have T9_0 := T9.out.cell 0
  have T9_1 := T9.out.cell 1
  have T9_f0 := T9.out.frozen 0
  have T9_f1 := T9.out.frozen 1
  simp at T9_0 T9_1
  have lt_T11 := T11.out.lt
  have T11_0 := T11.out.cell 0
  have T11_f0 := T11.out.frozen 0
  simp at T11_0
  have lt_T12 := T12.out.lt
  have T12_0 := T12.out.cell 0
  have T12_1 := T12.out.cell 1
  have T12_f0 := T12.out.frozen 0
  have T12_f1 := T12.out.frozen 1
  simp at T12_0 T12_1
  have lt_T14 := T14.out.lt
  have T14_0 := T14.out.cell 0
  have T14_f0 := T14.out.frozen 0
  simp at T14_0
  have lt_T16 := T16.out.lt
  have T16_0 := T16.out.cell 0
  have T16_f0 := T16.out.frozen 0
  simp at T16_0
  have szB_w8 := SB14h.out.size
  have hq := fun W => equalIn_of_eql (eql_hd s8 s8 q8 q8 W)
  simp only [beq_self_eq_true, Bool.and_self] at hq
  go_wp2_with fail
  have NE_P_T22 := Lib.hid (show w.heap.size ≠ w8.heap.size by omega)
  have NE_P2_T22 := Lib.hid (show w.heap.size + 1 ≠ w8.heap.size by omega)
  have NE_Q_T22 := Lib.hid (show w.heap.size + 1 + 1 ≠ w8.heap.size by omega)
  have NE_T7_T22 := Lib.hid (show w1.heap.size ≠ w8.heap.size by omega)
  have NE_T8_T22 := Lib.hid (show w2.heap.size ≠ w8.heap.size by omega)
  have NE_T9_T22 := Lib.hid (show w2.heap.size + 1 ≠ w8.heap.size by omega)
  have NE_T11_T22 := Lib.hid (show w3.heap.size ≠ w8.heap.size by omega)
  have NE_T12_T22 := Lib.hid (show w3.heap.size + 1 ≠ w8.heap.size by omega)
  have NE_T14_T22 := Lib.hid (show w4.heap.size ≠ w8.heap.size by omega)
  have NE_T16_T22 := Lib.hid (show w5.heap.size ≠ w8.heap.size by omega)
  have s_P := P.out
  have s_P2 := P2.out
  have s_Q := Q.out
  have s_T7 := T7.out
  have s_T8 := T8.out
  have s_T9 := T9.out
  have s_T11 := T11.out
  have s_T12 := T12.out
  have s_T14 := T14.out
  have s_T16 := T16.out
  have s_O7 := O7.out
  have s_O8 := O8.out
  have s_O11 := O11.out
  have s_O14 := O14.out
  have s_O16 := O16.out
  have s_O18 := O18.out
  have s_O20 := O20.out
  have s_O22 := O22.out
  replace s_P := s_P.alloc (.cells #[.slice (some ⟨x22, 0, none⟩) n n] 24)
  replace s_P2 := s_P2.alloc (.cells #[.slice (some ⟨x22, 0, none⟩) n n] 24)
  replace s_Q := s_Q.alloc (.cells #[.slice (some ⟨x22, 0, none⟩) n n] 24)
  replace s_T7 := s_T7.alloc (.cells #[.slice (some ⟨x22, 0, none⟩) n n] 24)
  replace s_T8 := s_T8.alloc (.cells #[.slice (some ⟨x22, 0, none⟩) n n] 24)
  replace s_T9 := s_T9.alloc (.cells #[.slice (some ⟨x22, 0, none⟩) n n] 24)
  replace s_T11 := s_T11.alloc (.cells #[.slice (some ⟨x22, 0, none⟩) n n] 24)
  replace s_T12 := s_T12.alloc (.cells #[.slice (some ⟨x22, 0, none⟩) n n] 24)
  replace s_T14 := s_T14.alloc (.cells #[.slice (some ⟨x22, 0, none⟩) n n] 24)
  replace s_T16 := s_T16.alloc (.cells #[.slice (some ⟨x22, 0, none⟩) n n] 24)
  replace s_O7 := World.ownsRow.alloc s_O7 (.cells #[.slice (some ⟨x22, 0, none⟩) n n] 24)
  replace s_O8 := World.ownsRow.alloc s_O8 (.cells #[.slice (some ⟨x22, 0, none⟩) n n] 24)
  replace s_O11 := World.ownsRow.alloc s_O11 (.cells #[.slice (some ⟨x22, 0, none⟩) n n] 24)
  replace s_O14 := World.ownsRow.alloc s_O14 (.cells #[.slice (some ⟨x22, 0, none⟩) n n] 24)
  replace s_O16 := World.ownsRow.alloc s_O16 (.cells #[.slice (some ⟨x22, 0, none⟩) n n] 24)
  replace s_O18 := World.ownsRow.alloc s_O18 (.cells #[.slice (some ⟨x22, 0, none⟩) n n] 24)
  replace s_O20 := World.ownsRow.alloc s_O20 (.cells #[.slice (some ⟨x22, 0, none⟩) n n] 24)
  replace s_O22 := World.ownsRow.alloc s_O22 (.cells #[.slice (some ⟨x22, 0, none⟩) n n] 24)
  have s_T22 : HasBlk (w8.alloc (.cells #[.slice (some ⟨x22, 0, none⟩) n n] 24)) (w8.heap.size) 24 #[.slice (some ⟨x22, 0, none⟩) n n] := by simpa using hasBlk_new w8 24 #[.slice (some ⟨x22, 0, none⟩) n n]
  have t_P : HasBlk (w8.alloc (.cells #[.slice (some ⟨x22, 0, none⟩) n n] 24)) (w.heap.size) 24 #[.slice A n c] := by simpa using s_P
  clear s_P P
  have t_P2 : HasBlk (w8.alloc (.cells #[.slice (some ⟨x22, 0, none⟩) n n] 24)) (w.heap.size + 1) 24 #[.slice A2 m d] := by simpa using s_P2
  clear s_P2 P2
  have t_Q : HasBlk (w8.alloc (.cells #[.slice (some ⟨x22, 0, none⟩) n n] 24)) (w.heap.size + 1 + 1) 26 #[.int .i64 s, .int .i64 q] := by simpa using s_Q
  clear s_Q Q
  have t_T7 : HasBlk (w8.alloc (.cells #[.slice (some ⟨x22, 0, none⟩) n n] 24)) (w1.heap.size) 24 #[.slice X7 n c7] := by simpa using s_T7
  clear s_T7 T7
  have t_T8 : HasBlk (w8.alloc (.cells #[.slice (some ⟨x22, 0, none⟩) n n] 24)) (w2.heap.size) 24 #[.slice X8 n8 c8] := by simpa using s_T8
  clear s_T8 T8
  have t_T9 : HasBlk (w8.alloc (.cells #[.slice (some ⟨x22, 0, none⟩) n n] 24)) (w2.heap.size + 1) 26 #[.int .i64 s8, .int .i64 q8] := by simpa using s_T9
  clear s_T9 T9
  have t_T11 : HasBlk (w8.alloc (.cells #[.slice (some ⟨x22, 0, none⟩) n n] 24)) (w3.heap.size) 24 #[.slice X11 n11 c11] := by simpa using s_T11
  clear s_T11 T11
  have t_T12 : HasBlk (w8.alloc (.cells #[.slice (some ⟨x22, 0, none⟩) n n] 24)) (w3.heap.size + 1) 26 #[.int .i64 s8, .int .i64 q8] := by simpa using s_T12
  clear s_T12 T12
  have t_T14 : HasBlk (w8.alloc (.cells #[.slice (some ⟨x22, 0, none⟩) n n] 24)) (w4.heap.size) 24 #[.slice X14 n14 c14] := by simpa using s_T14
  clear s_T14 T14
  have t_T16 : HasBlk (w8.alloc (.cells #[.slice (some ⟨x22, 0, none⟩) n n] 24)) (w5.heap.size) 24 #[.slice X16 n16 c16] := by simpa using s_T16
  clear s_T16 T16
  have t_T22 : HasBlk (w8.alloc (.cells #[.slice (some ⟨x22, 0, none⟩) n n] 24)) (w8.heap.size) 24 #[.slice (some ⟨x22, 0, none⟩) n n] := by simpa using s_T22
  clear s_T22
  have t_O7 : ((w8.alloc (.cells #[.slice (some ⟨x22, 0, none⟩) n n] 24))).ownsRow (v0.heap.size) 33 2 (.slice X7 (n) (c7)) (n) (cellsR 2 (sv g b) n) := s_O7
  clear s_O7 O7
  have t_O8 : ((w8.alloc (.cells #[.slice (some ⟨x22, 0, none⟩) n n] 24))).ownsRow (v1.heap.size) 33 2 (.slice X8 (n8) (c8)) (n8) (cellsR 2 (sv g8 b8) n8) := s_O8
  clear s_O8 O8
  have t_O11 : ((w8.alloc (.cells #[.slice (some ⟨x22, 0, none⟩) n n] 24))).ownsRow (v2.heap.size) 33 2 (.slice X11 (n11) (c11)) (n11) (cellsR 2 (sv g11 b11) n11) := s_O11
  clear s_O11 O11
  have t_O14 : ((w8.alloc (.cells #[.slice (some ⟨x22, 0, none⟩) n n] 24))).ownsRow (v3.heap.size) 33 2 (.slice X14 (n14) (c14)) (n14) (cellsR 2 (sv g14 b14) n14) := s_O14
  clear s_O14 O14
  have t_O16 : ((w8.alloc (.cells #[.slice (some ⟨x22, 0, none⟩) n n] 24))).ownsRow (v4.heap.size) 33 2 (.slice X16 (n16) (c16)) (n16) (cellsR 2 (sv g16 b16) n16) := s_O16
  clear s_O16 O16
  have t_O18 : ((w8.alloc (.cells #[.slice (some ⟨x22, 0, none⟩) n n] 24))).ownsRow (v5.heap.size) 26 2 (.slice X18 (l18.length) (c18)) (l18.length) (hdc g l18) := s_O18
  clear s_O18 O18
  have t_O20 : ((w8.alloc (.cells #[.slice (some ⟨x22, 0, none⟩) n n] 24))).ownsRow (w6.heap.size) 26 2 (.slice X20 (l18.length) (c20)) (l18.length) (hdc g l18) := s_O20
  clear s_O20 O20
  have t_O22 : ((w8.alloc (.cells #[.slice (some ⟨x22, 0, none⟩) n n] 24))).ownsRow (w7.heap.size) 33 2 (.slice (some ⟨x22, 0, none⟩) (n) (n)) (n) (cellsR 2 (sv g b) n) := s_O22
  clear s_O22 O22
  have SB15 : Below w.heap.size w (w8.alloc (.cells #[.slice (some ⟨x22, 0, none⟩) n n] 24)) := by
    have bel0 := SB14h.out
    repeat' (first | exact Below.refl _ _ | assumption | apply Below.drew | refine Below.setCell ?_ (by first | omega | (simp; done) | (simp; omega)) _ | refine Below.alloc ?_ (by first | omega | (simp; done) | (simp; omega)) _)
  clear lt_P P_0 lt_P2 P2_0 lt_Q Q_0 Q_1 lt_T7 T7_0 T7_f0 lt_T8 T8_0 T8_f0 lt_T9 T9_0 T9_1 T9_f0 T9_f1 lt_T11 T11_0 T11_f0 lt_T12 T12_0 T12_1 T12_f0 T12_f1 lt_T14 T14_0 T14_f0 lt_T16 T16_0 T16_f0
  generalize gW_v8 : (w8.alloc (.cells #[.slice (some ⟨x22, 0, none⟩) n n] 24)) = v8 at *
  clear gW_v8
  have P := Lib.hid t_P
  clear t_P
  have P2 := Lib.hid t_P2
  clear t_P2
  have Q := Lib.hid t_Q
  clear t_Q
  have T7 := Lib.hid t_T7
  clear t_T7
  have T8 := Lib.hid t_T8
  clear t_T8
  have T9 := Lib.hid t_T9
  clear t_T9
  have T11 := Lib.hid t_T11
  clear t_T11
  have T12 := Lib.hid t_T12
  clear t_T12
  have T14 := Lib.hid t_T14
  clear t_T14
  have T16 := Lib.hid t_T16
  clear t_T16
  have T22 := Lib.hid t_T22
  clear t_T22
  have O7 := Lib.hid t_O7
  clear t_O7
  have O8 := Lib.hid t_O8
  clear t_O8
  have O11 := Lib.hid t_O11
  clear t_O11
  have O14 := Lib.hid t_O14
  clear t_O14
  have O16 := Lib.hid t_O16
  clear t_O16
  have O18 := Lib.hid t_O18
  clear t_O18
  have O20 := Lib.hid t_O20
  clear t_O20
  have O22 := Lib.hid t_O22
  clear t_O22
  clear SB14h
  have SB15h := Lib.hid SB15
  clear SB15
  refine (refsame_any X8 X11 n8 n11 c8 c11 g8 g11 b8 b11 _ (Row.of_cells O8.out) (Row.of_cells O11.out) (by have := V8.out.le; omega)).mono ?_
  rintro e w9 ⟨hx, bel9⟩
  obtain rfl := hx.tt V11.out
  clear hx
  have t_P := P.out.below bel9
  clear P
  have P := Lib.hid t_P
  clear t_P
  have t_P2 := P2.out.below bel9
  clear P2
  have P2 := Lib.hid t_P2
  clear t_P2
  have t_Q := Q.out.below bel9
  clear Q
  have Q := Lib.hid t_Q
  clear t_Q
  have t_T7 := T7.out.below bel9
  clear T7
  have T7 := Lib.hid t_T7
  clear t_T7
  have t_T8 := T8.out.below bel9
  clear T8
  have T8 := Lib.hid t_T8
  clear t_T8
  have t_T9 := T9.out.below bel9
  clear T9
  have T9 := Lib.hid t_T9
  clear t_T9
  have t_T11 := T11.out.below bel9
  clear T11
  have T11 := Lib.hid t_T11
  clear t_T11
  have t_T12 := T12.out.below bel9
  clear T12
  have T12 := Lib.hid t_T12
  clear t_T12
  have t_T14 := T14.out.below bel9
  clear T14
  have T14 := Lib.hid t_T14
  clear t_T14
  have t_T16 := T16.out.below bel9
  clear T16
  have T16 := Lib.hid t_T16
  clear t_T16
  have t_T22 := T22.out.below bel9
  clear T22
  have T22 := Lib.hid t_T22
  clear t_T22
  have t_O7 := own_below O7.out bel9
  clear O7
  have O7 := Lib.hid t_O7
  clear t_O7
  have t_O8 := own_below O8.out bel9
  clear O8
  have O8 := Lib.hid t_O8
  clear t_O8
  have t_O11 := own_below O11.out bel9
  clear O11
  have O11 := Lib.hid t_O11
  clear t_O11
  have t_O14 := own_below O14.out bel9
  clear O14
  have O14 := Lib.hid t_O14
  clear t_O14
  have t_O16 := own_below O16.out bel9
  clear O16
  have O16 := Lib.hid t_O16
  clear t_O16
  have t_O18 := own_below O18.out bel9
  clear O18
  have O18 := Lib.hid t_O18
  clear t_O18
  have t_O20 := own_below O20.out bel9
  clear O20
  have O20 := Lib.hid t_O20
  clear t_O20
  have t_O22 := own_below O22.out bel9
  clear O22
  have O22 := Lib.hid t_O22
  clear t_O22
  have SB16 : Below w.heap.size w w9 := SB15h.out.trans (bel9.mono SB15h.out.size)
  clear SB15h
  have SB16h := Lib.hid SB16
  clear SB16 bel9
  have lt_P := P.out.lt
  have P_0 := P.out.cell 0
  simp at P_0
  have lt_P2 := P2.out.lt
  have P2_0 := P2.out.cell 0
  simp at P2_0
  have lt_Q := Q.out.lt
  have Q_0 := Q.out.cell 0
  have Q_1 := Q.out.cell 1
  simp at Q_0 Q_1
  have lt_T7 := T7.out.lt
  have T7_0 := T7.out.cell 0
  have T7_f0 := T7.out.frozen 0
  simp at T7_0
  have lt_T8 := T8.out.lt
  have T8_0 := T8.out.cell 0
  have T8_f0 := T8.out.frozen 0
  simp at T8_0
  have lt_T9 := T9.out.lt
  have T9_0 := T9.out.cell 0
  have T9_1 := T9.out.cell 1
  have T9_f0 := T9.out.frozen 0
  have T9_f1 := T9.out.frozen 1
  simp at T9_0 T9_1
  have lt_T11 := T11.out.lt
  have T11_0 := T11.out.cell 0
  have T11_f0 := T11.out.frozen 0
  simp at T11_0
  have lt_T12 := T12.out.lt
  have T12_0 := T12.out.cell 0
  have T12_1 := T12.out.cell 1
  have T12_f0 := T12.out.frozen 0
  have T12_f1 := T12.out.frozen 1
  simp at T12_0 T12_1
  have lt_T14 := T14.out.lt
  have T14_0 := T14.out.cell 0
  have T14_f0 := T14.out.frozen 0
  simp at T14_0
  have lt_T16 := T16.out.lt
  have T16_0 := T16.out.cell 0
  have T16_f0 := T16.out.frozen 0
  simp at T16_0
  have lt_T22 := T22.out.lt
  have T22_0 := T22.out.cell 0
  have T22_f0 := T22.out.frozen 0
  simp at T22_0
  have szB_w9 := SB16h.out.size
  go_wp2_with fail
  clear lt_P P_0 lt_P2 P2_0 lt_Q Q_0 Q_1 lt_T7 T7_0 T7_f0 lt_T8 T8_0 T8_f0 lt_T9 T9_0 T9_1 T9_f0 T9_f1 lt_T11 T11_0 T11_f0 lt_T12 T12_0 T12_1 T12_f0 T12_f1 lt_T14 T14_0 T14_f0 lt_T16 T16_0 T16_f0 lt_T22 T22_0 T22_f0
  refine (refsame_any X14 X16 n14 n16 c14 c16 g14 g16 b14 b16 _ (Row.of_cells O14.out) (Row.of_cells O16.out) (by have := V14.out.le; omega)).mono ?_
  rintro e w10 ⟨hx, bel10⟩
  obtain rfl := hx.tt V16.out
  clear hx
  have t_P := P.out.below bel10
  clear P
  have P := Lib.hid t_P
  clear t_P
  have t_P2 := P2.out.below bel10
  clear P2
  have P2 := Lib.hid t_P2
  clear t_P2
  have t_Q := Q.out.below bel10
  clear Q
  have Q := Lib.hid t_Q
  clear t_Q
  have t_T7 := T7.out.below bel10
  clear T7
  have T7 := Lib.hid t_T7
  clear t_T7
  have t_T8 := T8.out.below bel10
  clear T8
  have T8 := Lib.hid t_T8
  clear t_T8
  have t_T9 := T9.out.below bel10
  clear T9
  have T9 := Lib.hid t_T9
  clear t_T9
  have t_T11 := T11.out.below bel10
  clear T11
  have T11 := Lib.hid t_T11
  clear t_T11
  have t_T12 := T12.out.below bel10
  clear T12
  have T12 := Lib.hid t_T12
  clear t_T12
  have t_T14 := T14.out.below bel10
  clear T14
  have T14 := Lib.hid t_T14
  clear t_T14
  have t_T16 := T16.out.below bel10
  clear T16
  have T16 := Lib.hid t_T16
  clear t_T16
  have t_T22 := T22.out.below bel10
  clear T22
  have T22 := Lib.hid t_T22
  clear t_T22
  have t_O7 := own_below O7.out bel10
  clear O7
  have O7 := Lib.hid t_O7
  clear t_O7
  have t_O8 := own_below O8.out bel10
  clear O8
  have O8 := Lib.hid t_O8
  clear t_O8
  have t_O11 := own_below O11.out bel10
  clear O11
  have O11 := Lib.hid t_O11
  clear t_O11
  have t_O14 := own_below O14.out bel10
  clear O14
  have O14 := Lib.hid t_O14
  clear t_O14
  have t_O16 := own_below O16.out bel10
  clear O16
  have O16 := Lib.hid t_O16
  clear t_O16
  have t_O18 := own_below O18.out bel10
  clear O18
  have O18 := Lib.hid t_O18
  clear t_O18
  have t_O20 := own_below O20.out bel10
  clear O20
  have O20 := Lib.hid t_O20
  clear t_O20
  have t_O22 := own_below O22.out bel10
  clear O22
  have O22 := Lib.hid t_O22
  clear t_O22
  have SB17 : Below w.heap.size w w10 := SB16h.out.trans (bel10.mono SB16h.out.size)
  clear SB16h
  have SB17h := Lib.hid SB17
  clear SB17 bel10
  have lt_P := P.out.lt
  have P_0 := P.out.cell 0
  simp at P_0
  have lt_P2 := P2.out.lt
  have P2_0 := P2.out.cell 0
  simp at P2_0
  have lt_Q := Q.out.lt
  have Q_0 := Q.out.cell 0
  have Q_1 := Q.out.cell 1
  simp at Q_0 Q_1
  have lt_T7 := T7.out.lt
  have T7_0 := T7.out.cell 0
  have T7_f0 := T7.out.frozen 0
  simp at T7_0
  have lt_T8 := T8.out.lt
  have T8_0 := T8.out.cell 0
  have T8_f0 := T8.out.frozen 0
  simp at T8_0
  have lt_T9 := T9.out.lt
  have T9_0 := T9.out.cell 0
  have T9_1 := T9.out.cell 1
  have T9_f0 := T9.out.frozen 0
  have T9_f1 := T9.out.frozen 1
  simp at T9_0 T9_1
  have lt_T11 := T11.out.lt
  have T11_0 := T11.out.cell 0
  have T11_f0 := T11.out.frozen 0
  simp at T11_0
  have lt_T12 := T12.out.lt
  have T12_0 := T12.out.cell 0
  have T12_1 := T12.out.cell 1
  have T12_f0 := T12.out.frozen 0
  have T12_f1 := T12.out.frozen 1
  simp at T12_0 T12_1
  have lt_T14 := T14.out.lt
  have T14_0 := T14.out.cell 0
  have T14_f0 := T14.out.frozen 0
  simp at T14_0
  have lt_T16 := T16.out.lt
  have T16_0 := T16.out.cell 0
  have T16_f0 := T16.out.frozen 0
  simp at T16_0
  have lt_T22 := T22.out.lt
  have T22_0 := T22.out.cell 0
  have T22_f0 := T22.out.frozen 0
  simp at T22_0
  have szB_w10 := SB17h.out.size
  go_wp2_with fail
  clear lt_P P_0 lt_P2 P2_0 lt_Q Q_0 Q_1 lt_T7 T7_0 T7_f0 lt_T8 T8_0 T8_f0 lt_T9 T9_0 T9_1 T9_f0 T9_f1 lt_T11 T11_0 T11_f0 lt_T12 T12_0 T12_1 T12_f0 T12_f1 lt_T14 T14_0 T14_f0 lt_T16 T16_0 T16_f0 lt_T22 T22_0 T22_f0
  refine (samehd X18 X20 l18.length l18.length c18 c20 _ _ _ (row_hd O18.out) (row_hd O20.out) (by have := V18.out.le; omega)).mono ?_
  rintro e w11 ⟨hx, bel11⟩
  obtain rfl := hx.tt ⟨rfl, fun _ _ => ⟨rfl, rfl⟩⟩
  clear hx
  have t_P := P.out.below bel11
  clear P
  have P := Lib.hid t_P
  clear t_P
  have t_P2 := P2.out.below bel11
  clear P2
  have P2 := Lib.hid t_P2
  clear t_P2
  have t_Q := Q.out.below bel11
  clear Q
  have Q := Lib.hid t_Q
  clear t_Q
  have t_T7 := T7.out.below bel11
  clear T7
  have T7 := Lib.hid t_T7
  clear t_T7
  have t_T8 := T8.out.below bel11
  clear T8
  have T8 := Lib.hid t_T8
  clear t_T8
  have t_T9 := T9.out.below bel11
  clear T9
  have T9 := Lib.hid t_T9
  clear t_T9
  have t_T11 := T11.out.below bel11
  clear T11
  have T11 := Lib.hid t_T11
  clear t_T11
  have t_T12 := T12.out.below bel11
  clear T12
  have T12 := Lib.hid t_T12
  clear t_T12
  have t_T14 := T14.out.below bel11
  clear T14
  have T14 := Lib.hid t_T14
  clear t_T14
  have t_T16 := T16.out.below bel11
  clear T16
  have T16 := Lib.hid t_T16
  clear t_T16
  have t_T22 := T22.out.below bel11
  clear T22
  have T22 := Lib.hid t_T22
  clear t_T22
  have t_O7 := own_below O7.out bel11
  clear O7
  have O7 := Lib.hid t_O7
  clear t_O7
  have t_O8 := own_below O8.out bel11
  clear O8
  have O8 := Lib.hid t_O8
  clear t_O8
  have t_O11 := own_below O11.out bel11
  clear O11
  have O11 := Lib.hid t_O11
  clear t_O11
  have t_O14 := own_below O14.out bel11
  clear O14
  have O14 := Lib.hid t_O14
  clear t_O14
  have t_O16 := own_below O16.out bel11
  clear O16
  have O16 := Lib.hid t_O16
  clear t_O16
  have t_O18 := own_below O18.out bel11
  clear O18
  have O18 := Lib.hid t_O18
  clear t_O18
  have t_O20 := own_below O20.out bel11
  clear O20
  have O20 := Lib.hid t_O20
  clear t_O20
  have t_O22 := own_below O22.out bel11
  clear O22
  have O22 := Lib.hid t_O22
  clear t_O22
  have SB18 : Below w.heap.size w w11 := SB17h.out.trans (bel11.mono SB17h.out.size)
  clear SB17h
  have SB18h := Lib.hid SB18
  clear SB18 bel11
  have lt_P := P.out.lt
  have P_0 := P.out.cell 0
  simp at P_0
  have lt_P2 := P2.out.lt
  have P2_0 := P2.out.cell 0
  simp at P2_0
  have lt_Q := Q.out.lt
  have Q_0 := Q.out.cell 0
  have Q_1 := Q.out.cell 1
  simp at Q_0 Q_1
  have lt_T7 := T7.out.lt
  have T7_0 := T7.out.cell 0
  have T7_f0 := T7.out.frozen 0
  simp at T7_0
  have lt_T8 := T8.out.lt
  have T8_0 := T8.out.cell 0
  have T8_f0 := T8.out.frozen 0
  simp at T8_0
  have lt_T9 := T9.out.lt
  have T9_0 := T9.out.cell 0
  have T9_1 := T9.out.cell 1
  have T9_f0 := T9.out.frozen 0
  have T9_f1 := T9.out.frozen 1
  simp at T9_0 T9_1
  have lt_T11 := T11.out.lt
  have T11_0 := T11.out.cell 0
  have T11_f0 := T11.out.frozen 0
  simp at T11_0
  have lt_T12 := T12.out.lt
  have T12_0 := T12.out.cell 0
  have T12_1 := T12.out.cell 1
  have T12_f0 := T12.out.frozen 0
  have T12_f1 := T12.out.frozen 1
  simp at T12_0 T12_1
  have lt_T14 := T14.out.lt
  have T14_0 := T14.out.cell 0
  have T14_f0 := T14.out.frozen 0
  simp at T14_0
  have lt_T16 := T16.out.lt
  have T16_0 := T16.out.cell 0
  have T16_f0 := T16.out.frozen 0
  simp at T16_0
  have lt_T22 := T22.out.lt
  have T22_0 := T22.out.cell 0
  have T22_f0 := T22.out.frozen 0
  simp at T22_0
  have szB_w11 := SB18h.out.size
  clear hq
  go_wp2_with fail
  have hcv : ∀ x y : Int, chkA n g x → chkA n g y → x = y := fun x y h1 h2 => h1.v.trans h2.v.symm
  have k1 := Lib.hid (fun p : BW w11 => BW.call (v := .int .i64 (chkv n g)) (fun W (h : Below w11.heap.size w11 W) => (check_may X7 n c7 g b W ((Row.of_cells O7.out).below h) (by omega)).mono (fun e w' ⟨hx, hb⟩ => ⟨by obtain ⟨x, e1, e2⟩ := hx; rw [e1, e2.v], hb⟩)) p)
  have k2 := Lib.hid (fun p : BW w11 => BW.call (v := .int .i64 (chkv n g)) (fun W (h : Below w11.heap.size w11 W) => (refcheck_any A n c g b W ((HA.out.below SB18h.out).below h) (by omega)).mono (fun e w' ⟨hx, hb⟩ => ⟨by obtain ⟨x, e1, e2⟩ := hx; rw [e1, e2.v], hb⟩)) p)
  have k3 := Lib.hid (fun p : BW w11 => BW.call (v := .bool (dec (HoldsA n g b s q))) (fun W (h : Below w11.heap.size w11 W) => (holds_any X7 n c7 g b s q W ((Row.of_cells O7.out).below h) (by omega)).mono (fun e w' ⟨hx, hb⟩ => ⟨hx.dec, hb⟩)) p)
  have k4 := Lib.hid (fun p : BW w11 => BW.call (v := .bool (dec (HoldsA n g b s q))) (fun W (h : Below w11.heap.size w11 W) => (refholds_any A n c g b s q W ((HA.out.below SB18h.out).below h) (by omega)).mono (fun e w' ⟨hx, hb⟩ => ⟨hx.dec, hb⟩)) p)
  have k5 := Lib.hid (fun p : BW w11 => BW.call (v := .bool (dec (SameA n m g g' b b'))) (fun W (h : Below w11.heap.size w11 W) => (same_any A A2 n m c d g g' b b' W ((HA.out.below SB18h.out).below h) ((HB.out.below SB18h.out).below h) (by omega)).mono (fun e w' ⟨hx, hb⟩ => ⟨hx.dec, hb⟩)) p)
  have k6 := Lib.hid (fun p : BW w11 => BW.call (v := .bool (dec (SameA n m g g' b b'))) (fun W (h : Below w11.heap.size w11 W) => (refsame_any A A2 n m c d g g' b b' W ((HA.out.below SB18h.out).below h) ((HB.out.below SB18h.out).below h) (by omega)).mono (fun e w' ⟨hx, hb⟩ => ⟨hx.dec, hb⟩)) p)
  have k7 := Lib.hid (fun p : BW w11 => BW.call (v := .bool true) (fun W (h : Below w11.heap.size w11 W) => (same_any X7 A n n c7 c g g b b W ((Row.of_cells O7.out).below h) ((HA.out.below SB18h.out).below h) (by omega)).mono (fun e w' ⟨hx, hb⟩ => ⟨hx.tt (sameA_refl n g b), hb⟩)) p)
  have k8 := Lib.hid (fun p : BW w11 => BW.call (v := .bool true) (fun W (h : Below w11.heap.size w11 W) => (refsame_any (some ⟨x22, 0, none⟩) A n n n c g g b b W ((Row.of_cells O22.out).below h) ((HA.out.below SB18h.out).below h) (by omega)).mono (fun e w' ⟨hx, hb⟩ => ⟨hx.tt (sameA_refl n g b), hb⟩)) p)
  generalize chkv n g = cv at *
  generalize dec (HoldsA n g b s q) = hb1 at *
  generalize dec (SameA n m g g' b b') = hb2 at *
  have ec : (cv == cv) = true := by simp
  have eh : (hb1 == hb1) = true := by simp
  have eh2 : (hb2 == hb2) = true := by simp
  have p_P_0 := fun p : BW w11 => BW.cell P_0 lt_P p
  have p_P2_0 := fun p : BW w11 => BW.cell P2_0 lt_P2 p
  have p_Q_0 := fun p : BW w11 => BW.cell Q_0 lt_Q p
  have p_Q_1 := fun p : BW w11 => BW.cell Q_1 lt_Q p
  have p_T7_0 := fun p : BW w11 => BW.cell T7_0 lt_T7 p
  have p_T22_0 := fun p : BW w11 => BW.cell T22_0 lt_T22 p
  clear lt_P P_0 lt_P2 P2_0 lt_Q Q_0 Q_1 lt_T7 T7_0 T7_f0 lt_T8 T8_0 T8_f0 lt_T9 T9_0 T9_1 T9_f0 T9_f1 lt_T11 T11_0 T11_f0 lt_T12 T12_0 T12_1 T12_f0 T12_f1 lt_T14 T14_0 T14_f0 lt_T16 T16_0 T16_f0 lt_T22 T22_0 T22_f0
  refine wp_region_quiet_bw (by kernel_rfl) (by kernel_rfl) ?_
  repeat (go_big_quiet_step ((first | (go_at_call 10; with_reducible exact k1.out _) | (go_at_call 20; with_reducible exact k2.out _) | (go_at_call 11; with_reducible exact k3.out _) | (go_at_call 21; with_reducible exact k4.out _) | (go_at_call 22; with_reducible exact k5.out _) | (go_at_call 18; with_reducible exact k6.out _) | (go_at_call 22; with_reducible exact k7.out _) | (go_at_call 18; with_reducible exact k8.out _))))
  refine wpQuiet_nil ?_
  intro _ hw'
  obtain ⟨pq, hw''⟩ := hw'
  subst hw''
  have hpq := Lib.hid pq.h
  clear p_P_0 p_P2_0 p_Q_0 p_Q_1 p_T7_0 p_T22_0
  generalize pq.W = w12 at *
  clear pq k1 k2 k3 k4 k5 k6 k7 k8
  clear P2 Q T9 T11 T12 T16 O11 O16 O18 O20
  have t_P := P.out.below hpq.out
  clear P
  have P := Lib.hid t_P
  clear t_P
  have t_T7 := T7.out.below hpq.out
  clear T7
  have T7 := Lib.hid t_T7
  clear t_T7
  have t_T8 := T8.out.below hpq.out
  clear T8
  have T8 := Lib.hid t_T8
  clear t_T8
  have t_T14 := T14.out.below hpq.out
  clear T14
  have T14 := Lib.hid t_T14
  clear t_T14
  have t_T22 := T22.out.below hpq.out
  clear T22
  have T22 := Lib.hid t_T22
  clear t_T22
  have t_O7 := own_below O7.out hpq.out
  clear O7
  have O7 := Lib.hid t_O7
  clear t_O7
  have t_O8 := own_below O8.out hpq.out
  clear O8
  have O8 := Lib.hid t_O8
  clear t_O8
  have t_O14 := own_below O14.out hpq.out
  clear O14
  have O14 := Lib.hid t_O14
  clear t_O14
  have t_O22 := own_below O22.out hpq.out
  clear O22
  have O22 := Lib.hid t_O22
  clear t_O22
  have HB12 := Lib.hid (SB18h.out.trans (hpq.out.mono SB18h.out.size))
  clear SB18h hpq
  have n78 := Lib.hid (ne_rows L7_1.out O8.out)
  have n148 := Lib.hid (ne_rows' L8_3.out O14.out)
  have n228 := Lib.hid (ne_rows' L8_7.out O22.out)
  have n714 := Lib.hid (ne_rows L7_3.out O14.out)
  have n814 := Lib.hid (ne_rows L8_3.out O14.out)
  have n2214 := Lib.hid (ne_rows' L14_7.out O22.out)
  have n722 := Lib.hid (ne_rows L7_7.out O22.out)
  clear L7_1 L7_3 L8_3 L7_7 L8_7 L14_7
  have l8 := V8.out.le
  have l14 := V14.out.le
  go_wp2
  go_loopw [25] (fun i wr => ∃ k : Nat, k ≤ n8 ∧ i = .int .i64 k ∧ w12.grownBy wr (Value.ownBlock (.slice X8 (n8) (c8))) ∧ HasBlk wr (w2.heap.size) 24 #[.slice X8 (n8) (c8)] ∧ ∃ G, wr.ownsRow (v1.heap.size) 33 2 (.slice X8 (n8) (c8)) (n8) (cellsR 2 (sv G b8) (n8))) (fun i wr => n8 - (intOf i).toNat)
  case atStart => exact ⟨0, Nat.zero_le _, rfl, World.grownBy.refl _ _, T8.out, _, O8.out⟩
  case round =>
    obtain ⟨j, hj, rfl, hg, hT, G, hO⟩ := hrel
    by_cases hjn : j < n8
    · obtain ⟨x, ex, hx, hxs, hxf⟩ := own_some hO (by omega)
      subst ex
      obtain ⟨gg, oo, eg, hgl, hc⟩ := Row.of_cells hO (by omega)
      cases eg
      have c0 := hc j hjn 0 (by omega)
      have f0 := hxf (j * 2)
      simp only [Nat.add_zero, Nat.zero_add, sv, if_true, if_pos rfl] at c0
      have t0 := hT.cell 0
      simp at t0
      have hi : (j : Int) < (n8 : Nat) := by omega
      have hi0 : (0 : Int) ≤ (j : Int) := by omega
      have Hg := Lib.hid hg
      have HT := Lib.hid hT
      have HO := Lib.hid hO
      clear hg hT hO hc hxf
      go_wp2
      go_roundw
      case rel =>
        refine ⟨j + 1, by omega, by go_num, grown_set Hg.out _, HT.out.far (by have := HT.out.ne_own HO.out (by decide); simpa [Value.ownBlock] using this) _, upd G j (-77), ?_⟩
        have h := own_set (j := j * 2) HO.out (.int .i64 (-77))
        rw [set_g hjn] at h
        exact h
      case measure => simp [intOf]; omega
    · obtain rfl : n8 = j := by omega
      obtain ⟨w13, rfl⟩ : ∃ z : World, z = wr := ⟨wr, rfl⟩
      have tx8 := hT.cell 0
      simp at tx8
      have Hg := Lib.hid hg
      have HB13 := Lib.hid (below_grown HB12.out hg O8.out Z_1.out HB12.out.size)
      have t_P := P.out.grown hg (P.out.ne_own O8.out (by decide))
      have t_T7 := T7.out.grown hg (T7.out.ne_own O8.out (by decide))
      have t_T14 := T14.out.grown hg (T14.out.ne_own O8.out (by decide))
      have t_T22 := T22.out.grown hg (T22.out.ne_own O8.out (by decide))
      have t_O7 := own_grown O7.out hg n78.out
      have t_O14 := own_grown O14.out hg n148.out
      have t_O22 := own_grown O22.out hg n228.out
      clear hg hT hO HB12
      clear P
      have P := Lib.hid t_P
      clear t_P
      clear T7
      have T7 := Lib.hid t_T7
      clear t_T7
      clear T14
      have T14 := Lib.hid t_T14
      clear t_T14
      clear T22
      have T22 := Lib.hid t_T22
      clear t_T22
      clear O7
      have O7 := Lib.hid t_O7
      clear t_O7
      clear O14
      have O14 := Lib.hid t_O14
      clear t_O14
      clear O22
      have O22 := Lib.hid t_O22
      clear t_O22
      go_wp2
      go_loopw [26] (fun i wr => ∃ k : Nat, k ≤ n14 ∧ i = .int .i64 k ∧ w13.grownBy wr (Value.ownBlock (.slice X14 (n14) (c14))) ∧ HasBlk wr (w4.heap.size) 24 #[.slice X14 (n14) (c14)] ∧ ∃ G, wr.ownsRow (v3.heap.size) 33 2 (.slice X14 (n14) (c14)) (n14) (cellsR 2 (sv G b14) (n14))) (fun i wr => n14 - (intOf i).toNat)
      case atStart => exact ⟨0, Nat.zero_le _, rfl, World.grownBy.refl _ _, T14.out, _, O14.out⟩
      case round =>
        obtain ⟨j, hj, rfl, hg, hT, G, hO⟩ := hrel
        by_cases hjn : j < n14
        · obtain ⟨x, ex, hx, hxs, hxf⟩ := own_some hO (by omega)
          subst ex
          obtain ⟨gg, oo, eg, hgl, hc⟩ := Row.of_cells hO (by omega)
          cases eg
          have c0 := hc j hjn 0 (by omega)
          have f0 := hxf (j * 2)
          simp only [Nat.add_zero, Nat.zero_add, sv, if_true, if_pos rfl] at c0
          have t0 := hT.cell 0
          simp at t0
          have hi : (j : Int) < (n14 : Nat) := by omega
          have hi0 : (0 : Int) ≤ (j : Int) := by omega
          have Hg := Lib.hid hg
          have HT := Lib.hid hT
          have HO := Lib.hid hO
          clear hg hT hO hc hxf
          go_wp2
          go_roundw
          case rel =>
            refine ⟨j + 1, by omega, by go_num, grown_set Hg.out _, HT.out.far (by have := HT.out.ne_own HO.out (by decide); simpa [Value.ownBlock] using this) _, upd G j (-77), ?_⟩
            have h := own_set (j := j * 2) HO.out (.int .i64 (-77))
            rw [set_g hjn] at h
            exact h
          case measure => simp [intOf]; omega
        · obtain rfl : n14 = j := by omega
          obtain ⟨w14, rfl⟩ : ∃ z : World, z = wr := ⟨wr, rfl⟩
          have tx14 := hT.cell 0
          simp at tx14
          have Hg := Lib.hid hg
          have HB14 := Lib.hid (below_grown HB13.out hg O14.out Z_3.out HB13.out.size)
          have t_P := P.out.grown hg (P.out.ne_own O14.out (by decide))
          have t_T7 := T7.out.grown hg (T7.out.ne_own O14.out (by decide))
          have t_T22 := T22.out.grown hg (T22.out.ne_own O14.out (by decide))
          have t_O7 := own_grown O7.out hg n714.out
          have t_O22 := own_grown O22.out hg n2214.out
          clear hg hT hO HB13
          clear P
          have P := Lib.hid t_P
          clear t_P
          clear T7
          have T7 := Lib.hid t_T7
          clear t_T7
          clear T22
          have T22 := Lib.hid t_T22
          clear t_T22
          clear O7
          have O7 := Lib.hid t_O7
          clear t_O7
          clear O22
          have O22 := Lib.hid t_O22
          clear t_O22
          go_wp2
          go_loopw [27] (fun i wr => ∃ k : Nat, k ≤ n ∧ i = .int .i64 k ∧ w14.grownBy wr (Value.ownBlock (.slice (some ⟨x22, 0, none⟩) (n) (n))) ∧ HasBlk wr (w8.heap.size) 24 #[.slice (some ⟨x22, 0, none⟩) (n) (n)] ∧ ∃ G, wr.ownsRow (w7.heap.size) 33 2 (.slice (some ⟨x22, 0, none⟩) (n) (n)) (n) (cellsR 2 (sv G b) (n))) (fun i wr => n - (intOf i).toNat)
          case atStart => exact ⟨0, Nat.zero_le _, rfl, World.grownBy.refl _ _, T22.out, _, O22.out⟩
          case round =>
            obtain ⟨j, hj, rfl, hg, hT, G, hO⟩ := hrel
            by_cases hjn : j < n
            · obtain ⟨x, ex, hx, hxs, hxf⟩ := own_some hO (by omega)
              cases ex
              obtain ⟨gg, oo, eg, hgl, hc⟩ := Row.of_cells hO (by omega)
              cases eg
              have c0 := hc j hjn 0 (by omega)
              have f0 := hxf (j * 2)
              simp only [Nat.add_zero, Nat.zero_add, sv, if_true, if_pos rfl] at c0
              have t0 := hT.cell 0
              simp at t0
              have hi : (j : Int) < (n : Nat) := by omega
              have hi0 : (0 : Int) ≤ (j : Int) := by omega
              have Hg := Lib.hid hg
              have HT := Lib.hid hT
              have HO := Lib.hid hO
              clear hg hT hO hc hxf
              go_wp2
              go_roundw
              case rel =>
                refine ⟨j + 1, by omega, by go_num, grown_set Hg.out _, HT.out.far (by have := HT.out.ne_own HO.out (by decide); simpa [Value.ownBlock] using this) _, upd G j (-77), ?_⟩
                have h := own_set (j := j * 2) HO.out (.int .i64 (-77))
                rw [set_g hjn] at h
                exact h
              case measure => simp [intOf]; omega
            · obtain rfl : n = j := by omega
              obtain ⟨w15, rfl⟩ : ∃ z : World, z = wr := ⟨wr, rfl⟩
              have tx22 := hT.cell 0
              simp at tx22
              have Hg := Lib.hid hg
              have HB15 := Lib.hid (below_grown HB14.out hg O22.out Z_7.out HB14.out.size)
              have t_P := P.out.grown hg (P.out.ne_own O22.out (by decide))
              have t_T7 := T7.out.grown hg (T7.out.ne_own O22.out (by decide))
              have t_O7 := own_grown O7.out hg n722.out
              clear hg hT hO HB14
              clear P
              have P := Lib.hid t_P
              clear t_P
              clear T7
              have T7 := Lib.hid t_T7
              clear t_T7
              clear O7
              have O7 := Lib.hid t_O7
              clear t_O7
              have P_0 := P.out.cell 0
              have T7_0 := T7.out.cell 0
              simp at P_0 T7_0
              have HR7 := Lib.hid (Row.of_cells O7.out)
              go_wp2_with fail
              refine (refsame_any X7 A n n c7 c g g b b _ HR7.out (HA.out.below HB15.out) (by omega)).mono ?_
              rintro e w16 ⟨hx, bel16⟩
              obtain rfl := hx.tt (sameA_refl n g b)
              have HF := Lib.hid (HB15.out.trans (bel16.mono HB15.out.size))
              clear hx bel16
              go_wp2
              go_ret
              exact ⟨rfl, HF.out⟩
theorem arenaGoes_arg (v0 v1 v2 : Value) (w : World) (h0 : Arg Try.prog w 24 v0) (h1 : Arg Try.prog w 24 v1) (h2 : Arg Try.prog w 26 v2) : Calls Try.prog 6 #[v0, v1, v2] w fun e w' => e = .returned (.bool true) ∧ Below w.heap.size w w' := by
  obtain ⟨A, n, c, g, b, rfl, hc, hA⟩ := arg_arena h0
  obtain ⟨A2, m, d, g', b', rfl, hd, hB⟩ := arg_arena h1
  obtain ⟨s, q, rfl, _⟩ := arg_hd h2
  unfold maxLen at hc hd
  exact arenaGoes_walk A A2 n m c d g g' b b' s q w hA hB (by omega) (by omega)
end Go.Proofs.Ytapibgpjfliifaa
