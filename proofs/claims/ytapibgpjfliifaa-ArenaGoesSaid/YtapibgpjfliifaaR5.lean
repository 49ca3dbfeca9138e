/- alive: what every arena does; what Make and Kill answer where one knows the slots. -/
import Derived.Test.YtapibgpjfliifaaR4
namespace Go.Proofs.Ytapibgpjfliifaa
open Go.RowKit
set_option linter.unusedVariables false

theorem make_grow {n m : Nat} {g : Nat → Int} {b : Nat → Bool} {B : Nat} {e : Ending} {w' : World} (h : MakeR n g b B e w') (hm : MayA n g) (hno : ∀ i, i < n → freeS (g i) (b i) = false) (hn : n < 128) (he : m = n + 1) :
    ∃ A c, e = .returned (.tuple #[.agg #[.slice A m c], .agg #[.int .i64 (n : Nat), .int .i64 1], .int .i64 0]) ∧ w'.ownsRow B 33 2 (.slice A m c) m (cellsR 2 (sv (upd g n 1) (upd b n true)) m) := by
  subst he
  rcases h with ⟨h, _⟩ | ⟨_, _, h, _⟩ | ⟨_, k, n', g', b', A, c, hmade, he, ho⟩
  · exact absurd hm h
  · omega
  · rcases hmade with ⟨hk, hf, _⟩ | ⟨rfl, _, _, rfl, rfl, rfl⟩
    · rw [hno k hk] at hf; cases hf
    · exact ⟨A, c, by rw [he, upd_at], ho⟩
theorem make_at {n k : Nat} {x : Int} {g : Nat → Int} {b : Nat → Bool} {B : Nat} {e : Ending} {w' : World} (h : MakeR n g b B e w') (hm : MayA n g) (hk : k < n) (hf : freeS (g k) (b k) = true) (hno : ∀ i, i < k → freeS (g i) (b i) = false) (hx : x = g k + 1) :
    ∃ A c, e = .returned (.tuple #[.agg #[.slice A n c], .agg #[.int .i64 (k : Nat), .int .i64 x], .int .i64 0]) ∧ w'.ownsRow B 33 2 (.slice A n c) n (cellsR 2 (sv (upd g k x) (upd b k true)) n) := by
  subst hx
  rcases h with ⟨h, _⟩ | ⟨_, h, _⟩ | ⟨_, k', n', g', b', A, c, hmade, he, ho⟩
  · exact absurd hm h
  · rw [h k hk] at hf; cases hf
  · rcases hmade with ⟨hk', hf', hno', rfl, rfl, rfl⟩ | ⟨rfl, _, hno', _⟩
    · have : k' = k := by
        rcases Nat.lt_trichotomy k' k with h | h | h
        · rw [hno k' h] at hf'; cases hf'
        · exact h
        · rw [hno' k h] at hf; cases hf
      subst this
      exact ⟨A, c, by rw [he, upd_at], ho⟩
    · rw [hno' k hk] at hf; cases hf
theorem make_bad {n : Nat} {g : Nat → Int} {b : Nat → Bool} {B : Nat} {e : Ending} {w' : World} (h : MakeR n g b B e w') (hm : ¬ MayA n g) :
    e = .returned (.tuple #[.agg #[.slice none 0 0], .agg #[.int .i64 0, .int .i64 0], .int .i64 8]) := by
  rcases h with ⟨_, h⟩ | ⟨h, _⟩ | ⟨h, _⟩
  · exact h
  · exact absurd h hm
  · exact absurd h hm
theorem kill_ok {n : Nat} {g : Nat → Int} {b : Nat → Bool} {s q : Int} {B : Nat} {e : Ending} {w' : World} (h : KillR n g b s q B e w') (hm : MayA n g) (hh : HeldA n g b s q) (hn : n ≤ 128) :
    ∃ A c, e = .returned (.tuple #[.agg #[.slice A n c], .int .i64 0]) ∧ w'.ownsRow B 33 2 (.slice A n c) n (cellsR 2 (sv g (upd b s.toNat false)) n) := by
  rcases h with ⟨h, _⟩ | ⟨_, h, _⟩ | ⟨_, _, v, he, X, rfl, hX, hb⟩
  · exact absurd hm h
  · exact absurd hh h
  · exact ⟨_, _, he, own_of_blk hb (cellsR_len 2 _ n) hX (by unfold maxLen; omega)⟩
theorem kill_no {n : Nat} {g : Nat → Int} {b : Nat → Bool} {s q : Int} {B : Nat} {e : Ending} {w' : World} (h : KillR n g b s q B e w') (hm : MayA n g) (hh : ¬ HeldA n g b s q) :
    e = .returned (.tuple #[.agg #[.slice none 0 0], .int .i64 50]) := by
  rcases h with ⟨h, _⟩ | ⟨_, _, h⟩ | ⟨_, h, _⟩
  · exact absurd hm h
  · exact h
  · exact absurd h hh
theorem fields_hd : (Try.prog.fieldsOf 26).toList.map (fun f => (f.name == "_", f.type, f.offset)) = [(false, 3, 0), (false, 3, 1)] := by kernel_rfl
theorem eqFields_hd (d : Nat) (x y p q : Int) (w : World) : ∀ l : List Field, l.map (fun f => (f.name == "_", f.type, f.offset)) = [(false, 3, 0), (false, 3, 1)] →
    (Op.eqFields (d + 1) #[.int .i64 x, .int .i64 p] #[.int .i64 y, .int .i64 q] l).run Try.prog w = .ok (x == y && p == q) w
  | [f1, f2], h => by
    simp only [List.map_cons, List.map_nil, List.cons.injEq, Prod.mk.injEq, and_true] at h
    obtain ⟨⟨n1, t1, o1⟩, ⟨n2, t2, o2⟩⟩ := h
    have m1 : f1.name ≠ "_" := by simpa using n1
    have m2 : f2.name ≠ "_" := by simpa using n2
    simp only [Op.eqFields, m1, m2, t1, t2, o1, o2, ne_eq, not_false_eq_true, if_true, Sem.run_bind]
    simp [part, isAgg, run_underlying Try.underlying3, run_equalIn_int _ _ _ _ _ _ _ Try.underlying3]
    by_cases h0 : x = y <;> by_cases h1 : p = q <;> simp [h0, h1]
  | [], h => by simp at h
  | [_], h => by simp at h
  | _ :: _ :: _ :: _, h => by simp at h
theorem eql_hd (x y p q : Int) (w : World) : (binOp .eql 26 (.agg #[.int .i64 x, .int .i64 p]) (.agg #[.int .i64 y, .int .i64 q])).run Try.prog w = .ok (.bool (x == y && p == q)) w := by
  rw [run_eql_struct, run_equalIn_struct w 9999 _ _ _ (by kernel_rfl) (by kernel_rfl), eqFields_hd 9998 x y p q w _ fields_hd]
  rfl
/-- The slots behind one Make, two, a Kill and a third Make. -/
def g0 : Nat → Int := fun _ => 0
def b0 : Nat → Bool := fun _ => false
def g1 := upd g0 0 1
def b1 := upd b0 0 true
def g2 := upd g1 1 1
def b2 := upd b1 1 true
def b3 := upd b2 0 false
def g4 := upd g2 0 2
def b4 := upd b3 0 true
theorem may0 : MayA 0 g0 := by unfold MayA; decide
theorem may1 : MayA 1 g1 := by unfold MayA; decide
theorem may2 : MayA 2 g2 := by unfold MayA; decide
theorem may4 : MayA 2 g4 := by unfold MayA; decide

set_option maxRecDepth 100000 in
set_option maxHeartbeats 4000000 in
theorem alive_any (w : World) : Calls Try.prog 9 #[] w fun e w' => e = .returned (.bool true) ∧ Below w.heap.size w w' := by
  go_enter Try.func9, Try.ntmps9
  go_wp2_with fail
  refine (make_any none 0 0 g0 b0 w (Row.zero _ _ _ _) (by omega)).mono ?_
  rintro e w1 ⟨hx, bel1⟩
  obtain ⟨A1, c1, rfl, o1⟩ := make_grow (m := 1) hx may0 (by decide) (by decide) rfl
  have O1 := Lib.hid o1
  clear o1 hx
  have SB1 : Below w.heap.size w w1 := bel1
  have SB1h := Lib.hid SB1
  clear SB1 
  have szB_w1 := SB1h.out.size
  go_wp2_with fail
  have NE_P_Q := Lib.hid (show w1.heap.size ≠ w1.heap.size + 1 by omega)
  have s_O1 := O1.out
  replace s_O1 := World.ownsRow.alloc s_O1 (.cells #[.slice A1 1 c1] 24)
  have s_P : HasBlk (w1.alloc (.cells #[.slice A1 1 c1] 24)) (w1.heap.size) 24 #[.slice A1 1 c1] := by simpa using hasBlk_new w1 24 #[.slice A1 1 c1]
  replace s_P := s_P.alloc (.cells #[.int .i64 0, .int .i64 1] 26)
  replace s_O1 := World.ownsRow.alloc s_O1 (.cells #[.int .i64 0, .int .i64 1] 26)
  have s_Q : HasBlk ((w1.alloc (.cells #[.slice A1 1 c1] 24)).alloc (.cells #[.int .i64 0, .int .i64 1] 26)) (w1.heap.size + 1) 26 #[.int .i64 0, .int .i64 1] := by simpa using hasBlk_new (w1.alloc (.cells #[.slice A1 1 c1] 24)) 26 #[.int .i64 0, .int .i64 1]
  have t_P : HasBlk ((w1.alloc (.cells #[.slice A1 1 c1] 24)).alloc (.cells #[.int .i64 0, .int .i64 1] 26)) (w1.heap.size) 24 #[.slice A1 1 c1] := by simpa using s_P
  clear s_P
  have t_Q : HasBlk ((w1.alloc (.cells #[.slice A1 1 c1] 24)).alloc (.cells #[.int .i64 0, .int .i64 1] 26)) (w1.heap.size + 1) 26 #[.int .i64 0, .int .i64 1] := by simpa using s_Q
  clear s_Q
  have t_O1 : (((w1.alloc (.cells #[.slice A1 1 c1] 24)).alloc (.cells #[.int .i64 0, .int .i64 1] 26))).ownsRow (w.heap.size) 33 2 (.slice A1 (1) (c1)) (1) (cellsR 2 (sv g1 b1) 1) := s_O1
  clear s_O1 O1
  have SB2 : Below w.heap.size w ((w1.alloc (.cells #[.slice A1 1 c1] 24)).alloc (.cells #[.int .i64 0, .int .i64 1] 26)) := by
    have bel0 := SB1h.out
    repeat' (first | exact Below.refl _ _ | assumption | apply Below.drew | refine Below.setCell ?_ (by first | omega | (simp; done) | (simp; omega)) _ | refine Below.alloc ?_ (by first | omega | (simp; done) | (simp; omega)) _)
  generalize gW_v1 : ((w1.alloc (.cells #[.slice A1 1 c1] 24)).alloc (.cells #[.int .i64 0, .int .i64 1] 26)) = v1 at *
  clear gW_v1
  have P := Lib.hid t_P
  clear t_P
  have Q := Lib.hid t_Q
  clear t_Q
  have O1 := Lib.hid t_O1
  clear t_O1
  clear SB1h
  have SB2h := Lib.hid SB2
  clear SB2
  refine (make_any A1 1 c1 g1 b1 _ (Row.of_cells O1.out) (by omega)).mono ?_
  rintro e w2 ⟨hx, bel2⟩
  obtain ⟨A2, c2, rfl, o2⟩ := make_grow (m := 2) hx may1 (by decide) (by decide) rfl
  have O2 := Lib.hid o2
  clear o2 hx
  have t_P := P.out.below bel2
  clear P
  have P := Lib.hid t_P
  clear t_P
  have t_Q := Q.out.below bel2
  clear Q
  have Q := Lib.hid t_Q
  clear t_Q
  have t_O1 := own_below O1.out bel2
  clear O1
  have O1 := Lib.hid t_O1
  clear t_O1
  have SB3 : Below w.heap.size w w2 := SB2h.out.trans (bel2.mono SB2h.out.size)
  clear SB2h
  have SB3h := Lib.hid SB3
  clear SB3 bel2
  have lt_P := P.out.lt
  have P_0 := P.out.cell 0
  have P_f0 := P.out.frozen 0
  simp at P_0
  have lt_Q := Q.out.lt
  have Q_0 := Q.out.cell 0
  have Q_1 := Q.out.cell 1
  have Q_f0 := Q.out.frozen 0
  have Q_f1 := Q.out.frozen 1
  simp at Q_0 Q_1
  have szB_w2 := SB3h.out.size
  have lNE_P_Q := NE_P_Q.out
  have rNE_P_Q := Ne.symm NE_P_Q.out
  go_wp2_with fail
  clear lNE_P_Q rNE_P_Q
  have NE_P_S := Lib.hid (show w1.heap.size ≠ w2.heap.size by omega)
  have NE_Q_S := Lib.hid (show w1.heap.size + 1 ≠ w2.heap.size by omega)
  have s_P := P.out
  have s_Q := Q.out
  have s_O1 := O1.out
  have s_O2 := O2.out
  replace s_O1 := ownsRow_setCell_other (a := ⟨w1.heap.size, 0, none⟩) s_O1 (by have := s_P.ne_own s_O1 (by decide); simpa using this) (.slice A2 2 c2)
  replace s_O2 := ownsRow_setCell_other (a := ⟨w1.heap.size, 0, none⟩) s_O2 (by have := s_P.ne_own s_O2 (by decide); simpa using this) (.slice A2 2 c2)
  replace s_P := s_P.set 0 (.slice A2 2 c2)
  replace s_Q := s_Q.far (p := ⟨w1.heap.size, 0, none⟩) (by first | (simp; done) | (simp; omega) | exact NE_P_Q.out | exact Ne.symm NE_P_Q.out | omega) (.slice A2 2 c2)
  replace s_P := s_P.alloc (.cells #[.int .i64 1, .int .i64 1] 26)
  replace s_Q := s_Q.alloc (.cells #[.int .i64 1, .int .i64 1] 26)
  replace s_O1 := World.ownsRow.alloc s_O1 (.cells #[.int .i64 1, .int .i64 1] 26)
  replace s_O2 := World.ownsRow.alloc s_O2 (.cells #[.int .i64 1, .int .i64 1] 26)
  have s_S : HasBlk ((w2.setCell ⟨w1.heap.size, 0, none⟩ (.slice A2 2 c2)).alloc (.cells #[.int .i64 1, .int .i64 1] 26)) (w2.heap.size) 26 #[.int .i64 1, .int .i64 1] := by simpa using hasBlk_new (w2.setCell ⟨w1.heap.size, 0, none⟩ (.slice A2 2 c2)) 26 #[.int .i64 1, .int .i64 1]
  have t_P : HasBlk ((w2.setCell ⟨w1.heap.size, 0, none⟩ (.slice A2 2 c2)).alloc (.cells #[.int .i64 1, .int .i64 1] 26)) (w1.heap.size) 24 #[.slice A2 2 c2] := by simpa using s_P
  clear s_P P
  have t_Q : HasBlk ((w2.setCell ⟨w1.heap.size, 0, none⟩ (.slice A2 2 c2)).alloc (.cells #[.int .i64 1, .int .i64 1] 26)) (w1.heap.size + 1) 26 #[.int .i64 0, .int .i64 1] := by simpa using s_Q
  clear s_Q Q
  have t_S : HasBlk ((w2.setCell ⟨w1.heap.size, 0, none⟩ (.slice A2 2 c2)).alloc (.cells #[.int .i64 1, .int .i64 1] 26)) (w2.heap.size) 26 #[.int .i64 1, .int .i64 1] := by simpa using s_S
  clear s_S
  have t_O1 : (((w2.setCell ⟨w1.heap.size, 0, none⟩ (.slice A2 2 c2)).alloc (.cells #[.int .i64 1, .int .i64 1] 26))).ownsRow (w.heap.size) 33 2 (.slice A1 (1) (c1)) (1) (cellsR 2 (sv g1 b1) 1) := s_O1
  clear s_O1 O1
  have t_O2 : (((w2.setCell ⟨w1.heap.size, 0, none⟩ (.slice A2 2 c2)).alloc (.cells #[.int .i64 1, .int .i64 1] 26))).ownsRow (v1.heap.size) 33 2 (.slice A2 (2) (c2)) (2) (cellsR 2 (sv g2 b2) 2) := s_O2
  clear s_O2 O2
  have SB4 : Below w.heap.size w ((w2.setCell ⟨w1.heap.size, 0, none⟩ (.slice A2 2 c2)).alloc (.cells #[.int .i64 1, .int .i64 1] 26)) := by
    have bel0 := SB3h.out
    repeat' (first | exact Below.refl _ _ | assumption | apply Below.drew | refine Below.setCell ?_ (by first | omega | (simp; done) | (simp; omega)) _ | refine Below.alloc ?_ (by first | omega | (simp; done) | (simp; omega)) _)
  clear lt_P P_0 P_f0 lt_Q Q_0 Q_1 Q_f0 Q_f1
  generalize gW_v2 : ((w2.setCell ⟨w1.heap.size, 0, none⟩ (.slice A2 2 c2)).alloc (.cells #[.int .i64 1, .int .i64 1] 26)) = v2 at *
  clear gW_v2
  have P := Lib.hid t_P
  clear t_P
  have Q := Lib.hid t_Q
  clear t_Q
  have S := Lib.hid t_S
  clear t_S
  have O1 := Lib.hid t_O1
  clear t_O1
  have O2 := Lib.hid t_O2
  clear t_O2
  clear SB3h
  have SB4h := Lib.hid SB4
  clear SB4
  clear O1
  refine (kill_any A2 2 c2 g2 b2 0 1 _ (Row.of_cells O2.out) (by omega)).mono ?_
  rintro e w3 ⟨hx, bel3⟩
  obtain ⟨A3, c3, rfl, o3⟩ := kill_ok hx may2 (by unfold HeldA; decide) (by omega)
  have O3 := Lib.hid o3
  clear o3 hx
  have t_P := P.out.below bel3
  clear P
  have P := Lib.hid t_P
  clear t_P
  have t_Q := Q.out.below bel3
  clear Q
  have Q := Lib.hid t_Q
  clear t_Q
  have t_S := S.out.below bel3
  clear S
  have S := Lib.hid t_S
  clear t_S
  have t_O2 := own_below O2.out bel3
  clear O2
  have O2 := Lib.hid t_O2
  clear t_O2
  have SB5 : Below w.heap.size w w3 := SB4h.out.trans (bel3.mono SB4h.out.size)
  clear SB4h
  have SB5h := Lib.hid SB5
  clear SB5 bel3
  have lt_P := P.out.lt
  have P_0 := P.out.cell 0
  have P_f0 := P.out.frozen 0
  simp at P_0
  have lt_Q := Q.out.lt
  have Q_0 := Q.out.cell 0
  have Q_1 := Q.out.cell 1
  have Q_f0 := Q.out.frozen 0
  have Q_f1 := Q.out.frozen 1
  simp at Q_0 Q_1
  have lt_S := S.out.lt
  have S_0 := S.out.cell 0
  have S_1 := S.out.cell 1
  have S_f0 := S.out.frozen 0
  have S_f1 := S.out.frozen 1
  simp at S_0 S_1
  have szB_w3 := SB5h.out.size
  have lNE_P_Q := NE_P_Q.out
  have rNE_P_Q := Ne.symm NE_P_Q.out
  have lNE_P_S := NE_P_S.out
  have rNE_P_S := Ne.symm NE_P_S.out
  go_wp2_with fail
  clear lNE_P_Q rNE_P_Q lNE_P_S rNE_P_S
  have s_P := P.out
  have s_Q := Q.out
  have s_S := S.out
  have s_O2 := O2.out
  have s_O3 := O3.out
  replace s_O2 := ownsRow_setCell_other (a := ⟨w1.heap.size, 0, none⟩) s_O2 (by have := s_P.ne_own s_O2 (by decide); simpa using this) (.slice A3 2 c3)
  replace s_O3 := ownsRow_setCell_other (a := ⟨w1.heap.size, 0, none⟩) s_O3 (by have := s_P.ne_own s_O3 (by decide); simpa using this) (.slice A3 2 c3)
  replace s_P := s_P.set 0 (.slice A3 2 c3)
  replace s_Q := s_Q.far (p := ⟨w1.heap.size, 0, none⟩) (by first | (simp; done) | (simp; omega) | exact NE_P_Q.out | exact Ne.symm NE_P_Q.out | omega) (.slice A3 2 c3)
  replace s_S := s_S.far (p := ⟨w1.heap.size, 0, none⟩) (by first | (simp; done) | (simp; omega) | exact NE_P_S.out | exact Ne.symm NE_P_S.out | omega) (.slice A3 2 c3)
  have t_P : HasBlk (w3.setCell ⟨w1.heap.size, 0, none⟩ (.slice A3 2 c3)) (w1.heap.size) 24 #[.slice A3 2 c3] := by simpa using s_P
  clear s_P P
  have t_Q : HasBlk (w3.setCell ⟨w1.heap.size, 0, none⟩ (.slice A3 2 c3)) (w1.heap.size + 1) 26 #[.int .i64 0, .int .i64 1] := by simpa using s_Q
  clear s_Q Q
  have t_S : HasBlk (w3.setCell ⟨w1.heap.size, 0, none⟩ (.slice A3 2 c3)) (w2.heap.size) 26 #[.int .i64 1, .int .i64 1] := by simpa using s_S
  clear s_S S
  have t_O2 : ((w3.setCell ⟨w1.heap.size, 0, none⟩ (.slice A3 2 c3))).ownsRow (v1.heap.size) 33 2 (.slice A2 (2) (c2)) (2) (cellsR 2 (sv g2 b2) 2) := s_O2
  clear s_O2 O2
  have t_O3 : ((w3.setCell ⟨w1.heap.size, 0, none⟩ (.slice A3 2 c3))).ownsRow (v2.heap.size) 33 2 (.slice A3 (2) (c3)) (2) (cellsR 2 (sv g2 b3) 2) := s_O3
  clear s_O3 O3
  have SB6 : Below w.heap.size w (w3.setCell ⟨w1.heap.size, 0, none⟩ (.slice A3 2 c3)) := by
    have bel0 := SB5h.out
    repeat' (first | exact Below.refl _ _ | assumption | apply Below.drew | refine Below.setCell ?_ (by first | omega | (simp; done) | (simp; omega)) _ | refine Below.alloc ?_ (by first | omega | (simp; done) | (simp; omega)) _)
  clear lt_P P_0 P_f0 lt_Q Q_0 Q_1 Q_f0 Q_f1 lt_S S_0 S_1 S_f0 S_f1
  generalize gW_v3 : (w3.setCell ⟨w1.heap.size, 0, none⟩ (.slice A3 2 c3)) = v3 at *
  clear gW_v3
  have P := Lib.hid t_P
  clear t_P
  have Q := Lib.hid t_Q
  clear t_Q
  have S := Lib.hid t_S
  clear t_S
  have O2 := Lib.hid t_O2
  clear t_O2
  have O3 := Lib.hid t_O3
  clear t_O3
  clear SB5h
  have SB6h := Lib.hid SB6
  clear SB6
  clear O2
  refine (make_any A3 2 c3 g2 b3 _ (Row.of_cells O3.out) (by omega)).mono ?_
  rintro e w4 ⟨hx, bel4⟩
  obtain ⟨A4, c4, rfl, o4⟩ := make_at (k := 0) (x := 2) hx may2 (by decide) (by decide) (by decide) (by decide)
  have O4 := Lib.hid o4
  clear o4 hx
  have t_P := P.out.below bel4
  clear P
  have P := Lib.hid t_P
  clear t_P
  have t_Q := Q.out.below bel4
  clear Q
  have Q := Lib.hid t_Q
  clear t_Q
  have t_S := S.out.below bel4
  clear S
  have S := Lib.hid t_S
  clear t_S
  have t_O3 := own_below O3.out bel4
  clear O3
  have O3 := Lib.hid t_O3
  clear t_O3
  have SB7 : Below w.heap.size w w4 := SB6h.out.trans (bel4.mono SB6h.out.size)
  clear SB6h
  have SB7h := Lib.hid SB7
  clear SB7 bel4
  have lt_P := P.out.lt
  have P_0 := P.out.cell 0
  have P_f0 := P.out.frozen 0
  simp at P_0
  have lt_Q := Q.out.lt
  have Q_0 := Q.out.cell 0
  have Q_1 := Q.out.cell 1
  have Q_f0 := Q.out.frozen 0
  have Q_f1 := Q.out.frozen 1
  simp at Q_0 Q_1
  have lt_S := S.out.lt
  have S_0 := S.out.cell 0
  have S_1 := S.out.cell 1
  have S_f0 := S.out.frozen 0
  have S_f1 := S.out.frozen 1
  simp at S_0 S_1
  have szB_w4 := SB7h.out.size
  have hq1 := fun W => equalIn_of_eql (show (binOp .eql 26 (.agg #[.int .i64 0, .int .i64 1]) (.agg #[.int .i64 0, .int .i64 1])).run Try.prog W = .ok (.bool true) W from eql_hd 0 0 1 1 W)
  have hq2 := fun W => equalIn_of_eql (show (binOp .eql 26 (.agg #[.int .i64 1, .int .i64 1]) (.agg #[.int .i64 1, .int .i64 1])).run Try.prog W = .ok (.bool true) W from eql_hd 1 1 1 1 W)
  have hq3 := fun W => equalIn_of_eql (show (binOp .eql 26 (.agg #[.int .i64 0, .int .i64 2]) (.agg #[.int .i64 0, .int .i64 2])).run Try.prog W = .ok (.bool true) W from eql_hd 0 0 2 2 W)
  have lNE_P_Q := NE_P_Q.out
  have rNE_P_Q := Ne.symm NE_P_Q.out
  have lNE_P_S := NE_P_S.out
  have rNE_P_S := Ne.symm NE_P_S.out
  go_wp2_with fail
  clear lNE_P_Q rNE_P_Q lNE_P_S rNE_P_S
  clear hq1 hq2 hq3
  have NE_P_U := Lib.hid (show w1.heap.size ≠ w4.heap.size by omega)
  have NE_Q_U := Lib.hid (show w1.heap.size + 1 ≠ w4.heap.size by omega)
  have NE_S_U := Lib.hid (show w2.heap.size ≠ w4.heap.size by omega)
  have s_P := P.out
  have s_Q := Q.out
  have s_S := S.out
  have s_O3 := O3.out
  have s_O4 := O4.out
  replace s_O3 := ownsRow_setCell_other (a := ⟨w1.heap.size, 0, none⟩) s_O3 (by have := s_P.ne_own s_O3 (by decide); simpa using this) (.slice A4 2 c4)
  replace s_O4 := ownsRow_setCell_other (a := ⟨w1.heap.size, 0, none⟩) s_O4 (by have := s_P.ne_own s_O4 (by decide); simpa using this) (.slice A4 2 c4)
  replace s_P := s_P.set 0 (.slice A4 2 c4)
  replace s_Q := s_Q.far (p := ⟨w1.heap.size, 0, none⟩) (by first | (simp; done) | (simp; omega) | exact NE_P_Q.out | exact Ne.symm NE_P_Q.out | omega) (.slice A4 2 c4)
  replace s_S := s_S.far (p := ⟨w1.heap.size, 0, none⟩) (by first | (simp; done) | (simp; omega) | exact NE_P_S.out | exact Ne.symm NE_P_S.out | omega) (.slice A4 2 c4)
  replace s_P := s_P.alloc (.cells #[.int .i64 0, .int .i64 2] 26)
  replace s_Q := s_Q.alloc (.cells #[.int .i64 0, .int .i64 2] 26)
  replace s_S := s_S.alloc (.cells #[.int .i64 0, .int .i64 2] 26)
  replace s_O3 := World.ownsRow.alloc s_O3 (.cells #[.int .i64 0, .int .i64 2] 26)
  replace s_O4 := World.ownsRow.alloc s_O4 (.cells #[.int .i64 0, .int .i64 2] 26)
  have s_U : HasBlk ((w4.setCell ⟨w1.heap.size, 0, none⟩ (.slice A4 2 c4)).alloc (.cells #[.int .i64 0, .int .i64 2] 26)) (w4.heap.size) 26 #[.int .i64 0, .int .i64 2] := by simpa using hasBlk_new (w4.setCell ⟨w1.heap.size, 0, none⟩ (.slice A4 2 c4)) 26 #[.int .i64 0, .int .i64 2]
  have t_P : HasBlk ((w4.setCell ⟨w1.heap.size, 0, none⟩ (.slice A4 2 c4)).alloc (.cells #[.int .i64 0, .int .i64 2] 26)) (w1.heap.size) 24 #[.slice A4 2 c4] := by simpa using s_P
  clear s_P P
  have t_Q : HasBlk ((w4.setCell ⟨w1.heap.size, 0, none⟩ (.slice A4 2 c4)).alloc (.cells #[.int .i64 0, .int .i64 2] 26)) (w1.heap.size + 1) 26 #[.int .i64 0, .int .i64 1] := by simpa using s_Q
  clear s_Q Q
  have t_S : HasBlk ((w4.setCell ⟨w1.heap.size, 0, none⟩ (.slice A4 2 c4)).alloc (.cells #[.int .i64 0, .int .i64 2] 26)) (w2.heap.size) 26 #[.int .i64 1, .int .i64 1] := by simpa using s_S
  clear s_S S
  have t_U : HasBlk ((w4.setCell ⟨w1.heap.size, 0, none⟩ (.slice A4 2 c4)).alloc (.cells #[.int .i64 0, .int .i64 2] 26)) (w4.heap.size) 26 #[.int .i64 0, .int .i64 2] := by simpa using s_U
  clear s_U
  have t_O3 : (((w4.setCell ⟨w1.heap.size, 0, none⟩ (.slice A4 2 c4)).alloc (.cells #[.int .i64 0, .int .i64 2] 26))).ownsRow (v2.heap.size) 33 2 (.slice A3 (2) (c3)) (2) (cellsR 2 (sv g2 b3) 2) := s_O3
  clear s_O3 O3
  have t_O4 : (((w4.setCell ⟨w1.heap.size, 0, none⟩ (.slice A4 2 c4)).alloc (.cells #[.int .i64 0, .int .i64 2] 26))).ownsRow (v3.heap.size) 33 2 (.slice A4 (2) (c4)) (2) (cellsR 2 (sv g4 b4) 2) := s_O4
  clear s_O4 O4
  have SB8 : Below w.heap.size w ((w4.setCell ⟨w1.heap.size, 0, none⟩ (.slice A4 2 c4)).alloc (.cells #[.int .i64 0, .int .i64 2] 26)) := by
    have bel0 := SB7h.out
    repeat' (first | exact Below.refl _ _ | assumption | apply Below.drew | refine Below.setCell ?_ (by first | omega | (simp; done) | (simp; omega)) _ | refine Below.alloc ?_ (by first | omega | (simp; done) | (simp; omega)) _)
  clear lt_P P_0 P_f0 lt_Q Q_0 Q_1 Q_f0 Q_f1 lt_S S_0 S_1 S_f0 S_f1
  generalize gW_v4 : ((w4.setCell ⟨w1.heap.size, 0, none⟩ (.slice A4 2 c4)).alloc (.cells #[.int .i64 0, .int .i64 2] 26)) = v4 at *
  clear gW_v4
  have P := Lib.hid t_P
  clear t_P
  have Q := Lib.hid t_Q
  clear t_Q
  have S := Lib.hid t_S
  clear t_S
  have U := Lib.hid t_U
  clear t_U
  have O3 := Lib.hid t_O3
  clear t_O3
  have O4 := Lib.hid t_O4
  clear t_O4
  clear SB7h
  have SB8h := Lib.hid SB8
  clear SB8
  clear O3
  refine (holds_any A4 2 c4 g4 b4 0 1 _ (Row.of_cells O4.out) (by omega)).mono ?_
  rintro e w5 ⟨⟨r, rfl, hr⟩, bel5⟩
  have : r = false := by
    cases r with
    | false => rfl
    | true => exact absurd (hr.1 rfl).2 (by unfold HeldA; decide)
  subst this
  clear hr
  have t_P := P.out.below bel5
  clear P
  have P := Lib.hid t_P
  clear t_P
  have t_Q := Q.out.below bel5
  clear Q
  have Q := Lib.hid t_Q
  clear t_Q
  have t_S := S.out.below bel5
  clear S
  have S := Lib.hid t_S
  clear t_S
  have t_U := U.out.below bel5
  clear U
  have U := Lib.hid t_U
  clear t_U
  have t_O4 := own_below O4.out bel5
  clear O4
  have O4 := Lib.hid t_O4
  clear t_O4
  have SB9 : Below w.heap.size w w5 := SB8h.out.trans (bel5.mono SB8h.out.size)
  clear SB8h
  have SB9h := Lib.hid SB9
  clear SB9 bel5
  have lt_P := P.out.lt
  have P_0 := P.out.cell 0
  have P_f0 := P.out.frozen 0
  simp at P_0
  have lt_Q := Q.out.lt
  have Q_0 := Q.out.cell 0
  have Q_1 := Q.out.cell 1
  have Q_f0 := Q.out.frozen 0
  have Q_f1 := Q.out.frozen 1
  simp at Q_0 Q_1
  have lt_S := S.out.lt
  have S_0 := S.out.cell 0
  have S_1 := S.out.cell 1
  have S_f0 := S.out.frozen 0
  have S_f1 := S.out.frozen 1
  simp at S_0 S_1
  have lt_U := U.out.lt
  have U_0 := U.out.cell 0
  have U_1 := U.out.cell 1
  have U_f0 := U.out.frozen 0
  have U_f1 := U.out.frozen 1
  simp at U_0 U_1
  have szB_w5 := SB9h.out.size
  go_wp2_with fail
  clear lt_P P_0 P_f0 lt_Q Q_0 Q_1 Q_f0 Q_f1 lt_S S_0 S_1 S_f0 S_f1 lt_U U_0 U_1 U_f0 U_f1
  refine (holds_any A4 2 c4 g4 b4 0 2 _ (Row.of_cells O4.out) (by omega)).mono ?_
  rintro e w6 ⟨⟨r, rfl, hr⟩, bel6⟩
  have : r = true := hr.2 ⟨may4, by unfold HeldA; decide⟩
  subst this
  clear hr
  have t_P := P.out.below bel6
  clear P
  have P := Lib.hid t_P
  clear t_P
  have t_Q := Q.out.below bel6
  clear Q
  have Q := Lib.hid t_Q
  clear t_Q
  have t_S := S.out.below bel6
  clear S
  have S := Lib.hid t_S
  clear t_S
  have t_U := U.out.below bel6
  clear U
  have U := Lib.hid t_U
  clear t_U
  have t_O4 := own_below O4.out bel6
  clear O4
  have O4 := Lib.hid t_O4
  clear t_O4
  have SB10 : Below w.heap.size w w6 := SB9h.out.trans (bel6.mono SB9h.out.size)
  clear SB9h
  have SB10h := Lib.hid SB10
  clear SB10 bel6
  have lt_P := P.out.lt
  have P_0 := P.out.cell 0
  have P_f0 := P.out.frozen 0
  simp at P_0
  have lt_Q := Q.out.lt
  have Q_0 := Q.out.cell 0
  have Q_1 := Q.out.cell 1
  have Q_f0 := Q.out.frozen 0
  have Q_f1 := Q.out.frozen 1
  simp at Q_0 Q_1
  have lt_S := S.out.lt
  have S_0 := S.out.cell 0
  have S_1 := S.out.cell 1
  have S_f0 := S.out.frozen 0
  have S_f1 := S.out.frozen 1
  simp at S_0 S_1
  have lt_U := U.out.lt
  have U_0 := U.out.cell 0
  have U_1 := U.out.cell 1
  have U_f0 := U.out.frozen 0
  have U_f1 := U.out.frozen 1
  simp at U_0 U_1
  have szB_w6 := SB10h.out.size
  go_wp2
  go_ret
  exact ⟨rfl, SB10h.out⟩
end Go.Proofs.Ytapibgpjfliifaa
