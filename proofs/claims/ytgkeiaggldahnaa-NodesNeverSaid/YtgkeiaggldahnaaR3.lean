/- arena: Holds, Kill. -/
import Derived.Test.YtgkeiaggldahnaaR2
namespace Go.Proofs.Ytgkeiaggldahnaa
open Go.RowKit
set_option linter.unusedVariables false

theorem cellsR_set {s n k j : Nat} {F G : Nat → Nat → Value} {u : Value} (hs : 0 < s) (hk : k < n) (hj : j < s) (hu : G k j = u) (hsame : ∀ i j', i < n → j' < s → ¬ (i = k ∧ j' = j) → G i j' = F i j') : (cellsR s F n).toArray.setIfInBounds (k * s + j) u = (cellsR s G n).toArray := by
  have lF := cellsR_len s F n
  have lG := cellsR_len s G n
  apply Array.ext_getElem?
  intro q
  rw [Array.getElem?_setIfInBounds, List.getElem?_toArray, List.getElem?_toArray]
  have hlt : k * s + j < n * s := by
    have h1 : (k + 1) * s ≤ n * s := Nat.mul_le_mul_right _ hk
    rw [Nat.succ_mul] at h1
    omega
  by_cases hq : q < n * s
  · have hd : q / s < n := Nat.div_lt_of_lt_mul (by rw [Nat.mul_comm]; exact hq)
    have hm : q % s < s := Nat.mod_lt _ hs
    have he : q / s * s + q % s = q := by rw [Nat.mul_comm]; exact Nat.div_add_mod q s
    have hF := cellsR_at (F := F) hd hm
    have hG := cellsR_at (F := G) hd hm
    rw [he] at hF hG
    rw [hF, hG]
    by_cases e : k * s + j = q
    · have e1 : q / s = k := by rw [← e, Nat.mul_comm, Nat.mul_add_div hs, Nat.div_eq_of_lt hj, Nat.add_zero]
      have e2 : q % s = j := by rw [← e, Nat.mul_comm, Nat.mul_add_mod, Nat.mod_eq_of_lt hj]
      rw [if_pos e, if_pos (by simp; omega), e1, e2, hu]
    · rw [if_neg e]
      rw [hsame _ _ hd hm (fun ⟨a, b⟩ => e (by rw [← a, ← b, he]))]
  · rw [if_neg (by omega), List.getElem?_eq_none (by omega), List.getElem?_eq_none (by omega)]
/-- A function, changed at one place. -/
def upd {α : Type} (f : Nat → α) (k : Nat) (x : α) (i : Nat) : α := if i = k then x else f i
theorem upd_at {α : Type} (f : Nat → α) (k : Nat) (x : α) : upd f k x k = x := by simp [upd]
theorem upd_ne {α : Type} (f : Nat → α) {k i : Nat} (x : α) (h : i ≠ k) : upd f k x i = f i := by simp [upd, h]
theorem OwnA.row {n B : Nat} {g : Nat → Int} {b : Nat → Bool} {v : Value} {w : World} (h : OwnA n g b B v w) : ∃ X, v = .agg #[.slice (some ⟨X, 0, none⟩) n n] ∧ Row w (some ⟨X, 0, none⟩) n 2 (sv g b) := by
  obtain ⟨X, rfl, hB, hb⟩ := h
  exact ⟨X, rfl, Row.of_blk hb fun i hi j hj => by rw [List.getElem?_toArray]; exact cellsR_at hi hj⟩
instance (n : Nat) (g : Nat → Int) : Decidable (MayA n g) := by unfold MayA; infer_instance

set_option maxRecDepth 100000 in
set_option maxHeartbeats 2000000 in
theorem holds_any (A : Option Addr) (n c : Nat) (g : Nat → Int) (b : Nat → Bool) (s q : Int) (w : World) (hA : Row w A n 2 (sv g b)) (hn : (n : Int) ≤ 9223372036854775807) :
    Calls Try.prog 54 #[.agg #[.slice A n c], .agg #[.int .i64 s, .int .i64 q]] w fun e w' => EqR (HoldsA n g b s q) e ∧ Below w.heap.size w w' := by
  have hck := Lib.hid (fun W (h : Below w.heap.size w W) => check_may A n c g b W (hA.below h) hn)
  have hhe := Lib.hid (fun W (h : Below w.heap.size w W) => held_any A n c g b s q W (hA.below h) hn)
  clear hA
  go_enter Try.func54, Try.ntmps54
  go_wp2_with fail
  refine (hck.out _ (by repeat' (first | exact Below.refl _ _ | assumption | apply Below.drew | refine Below.setCell ?_ (by first | omega | (simp; done) | (simp; omega)) _ | refine Below.alloc ?_ (by first | omega | (simp; done) | (simp; omega)) _))).mono ?_
  rintro e w1 ⟨⟨x, rfl, hx⟩, bel1⟩
  have BB1 : Below w.heap.size w w1 := by
    skip
    refine Below.trans ?_ (bel1.mono (by first | omega | (simp; done) | (simp; omega)))
    repeat' (first | exact Below.refl _ _ | assumption | apply Below.drew | refine Below.setCell ?_ (by first | omega | (simp; done) | (simp; omega)) _ | refine Below.alloc ?_ (by first | omega | (simp; done) | (simp; omega)) _)
  have P : Hid (HasBlk w1 (w.heap.size) 24 #[.slice A n c]) := Lib.hid (by have := ((hasBlk_new w 24 #[.slice A n c]).alloc (.cells #[.int .i64 s, .int .i64 q] 29)).below bel1; simpa using this)
  have Q : Hid (HasBlk w1 (w.heap.size + 1) 29 #[.int .i64 s, .int .i64 q]) := Lib.hid (by have := (hasBlk_new (w.alloc (.cells #[.slice A n c] 24)) 29 #[.int .i64 s, .int .i64 q]).below bel1; simpa using this)
  have BB1s := BB1.size
  have HBB1 := Lib.hid BB1
  clear BB1
  have lt_P := P.out.lt
  have P_0 := P.out.cell 0
  simp at P_0
  have lt_Q := Q.out.lt
  have Q_0 := Q.out.cell 0
  have Q_1 := Q.out.cell 1
  simp at Q_0 Q_1
  rcases hx with ⟨hm, rfl⟩ | ⟨hm, rfl⟩
  rotate_left
  · have Hm := Lib.hid hm
    clear hm
    go_wp2
    go_ret
    exact ⟨⟨false, rfl, ⟨fun h => (by cases h), fun h => absurd h.1 Hm.out⟩⟩, HBB1.out⟩
  have Hm := Lib.hid hm
  clear hm
  go_wp2_with fail
  refine (hhe.out _ HBB1.out).mono ?_
  rintro e w2 ⟨rfl, bel2⟩
  clear lt_P P_0 lt_Q Q_0 Q_1
  have BB2 : Below w.heap.size w w2 := by
    have bel0 := HBB1.out
    refine Below.trans ?_ (bel2.mono (by first | omega | (simp; done) | (simp; omega)))
    repeat' (first | exact Below.refl _ _ | assumption | apply Below.drew | refine Below.setCell ?_ (by first | omega | (simp; done) | (simp; omega)) _ | refine Below.alloc ?_ (by first | omega | (simp; done) | (simp; omega)) _)
  have t_P : HasBlk w2 (w.heap.size) 24 #[.slice A n c] := by first | exact P.out.below bel2 | exact (P.out.alloc _).below bel2 | exact ((P.out.alloc _).alloc _).below bel2 | exact (((P.out.alloc _).alloc _).alloc _).below bel2
  clear P
  have P := Lib.hid t_P
  clear t_P
  have t_Q : HasBlk w2 (w.heap.size + 1) 29 #[.int .i64 s, .int .i64 q] := by first | exact Q.out.below bel2 | exact (Q.out.alloc _).below bel2 | exact ((Q.out.alloc _).alloc _).below bel2 | exact (((Q.out.alloc _).alloc _).alloc _).below bel2
  clear Q
  have Q := Lib.hid t_Q
  clear t_Q
  clear HBB1
  have BB2s := BB2.size
  have HBB2 := Lib.hid BB2
  clear BB2
  clear bel1
  have lt_P := P.out.lt
  have P_0 := P.out.cell 0
  simp at P_0
  have lt_Q := Q.out.lt
  have Q_0 := Q.out.cell 0
  have Q_1 := Q.out.cell 1
  simp at Q_0 Q_1
  go_wp2
  go_ret
  exact ⟨⟨_, rfl, ⟨fun h => ⟨Hm.out, of_decide_eq_true h⟩, fun h => decide_eq_true h.2⟩⟩, HBB2.out⟩

/-- What Kill answers. -/
def KillR (n : Nat) (g : Nat → Int) (b : Nat → Bool) (s q : Int) (B : Nat) (e : Ending) (w' : World) : Prop :=
  (¬ MayA n g ∧ e = .returned (.tuple #[.agg #[.slice none 0 0], .int .i64 8])) ∨ (MayA n g ∧ ¬ HeldA n g b s q ∧ e = .returned (.tuple #[.agg #[.slice none 0 0], .int .i64 50])) ∨
  (MayA n g ∧ HeldA n g b s q ∧ ∃ v, e = .returned (.tuple #[v, .int .i64 0]) ∧ OwnA n g (upd b s.toNat false) B v w')
set_option maxRecDepth 100000 in
set_option maxHeartbeats 4000000 in
theorem kill_any (A : Option Addr) (n c : Nat) (g : Nat → Int) (b : Nat → Bool) (s q : Int) (w : World) (hA : Row w A n 2 (sv g b)) (hn : (n : Int) ≤ 9223372036854775807) :
    Calls Try.prog 49 #[.agg #[.slice A n c], .agg #[.int .i64 s, .int .i64 q]] w fun e w' => KillR n g b s q w.heap.size e w' ∧ Below w.heap.size w w' := by
  have hck := Lib.hid (fun W (h : Below w.heap.size w W) => check_may A n c g b W (hA.below h) hn)
  have hhe := Lib.hid (fun W (h : Below w.heap.size w W) => held_any A n c g b s q W (hA.below h) hn)
  have htw := Lib.hid (fun W (h : Below w.heap.size w W) (hn : (n : Int) ≤ 1000000) => twin_any A n c g b W (hA.below h) hn)
  clear hA
  go_enter Try.func49, Try.ntmps49
  go_wp2_with fail
  refine (hck.out _ (by repeat' (first | exact Below.refl _ _ | assumption | apply Below.drew | refine Below.setCell ?_ (by first | omega | (simp; done) | (simp; omega)) _ | refine Below.alloc ?_ (by first | omega | (simp; done) | (simp; omega)) _))).mono ?_
  rintro e w1 ⟨⟨x, rfl, hx⟩, bel1⟩
  have BB1 : Below w.heap.size w w1 := by
    skip
    refine Below.trans ?_ (bel1.mono (by first | omega | (simp; done) | (simp; omega)))
    repeat' (first | exact Below.refl _ _ | assumption | apply Below.drew | refine Below.setCell ?_ (by first | omega | (simp; done) | (simp; omega)) _ | refine Below.alloc ?_ (by first | omega | (simp; done) | (simp; omega)) _)
  have P : Hid (HasBlk w1 (w.heap.size) 24 #[.slice A n c]) := Lib.hid (by have := (((hasBlk_new w 24 #[.slice A n c]).alloc (.cells #[.int .i64 s, .int .i64 q] 29)).alloc (.cells #[.slice none 0 0] 24)).below bel1; simpa using this)
  have Q : Hid (HasBlk w1 (w.heap.size + 1) 29 #[.int .i64 s, .int .i64 q]) := Lib.hid (by have := ((hasBlk_new (w.alloc (.cells #[.slice A n c] 24)) 29 #[.int .i64 s, .int .i64 q]).alloc (.cells #[.slice none 0 0] 24)).below bel1; simpa using this)
  have Z : Hid (HasBlk w1 (w.heap.size + 1 + 1) 24 #[.slice none 0 0]) := Lib.hid (by have := (hasBlk_new ((w.alloc (.cells #[.slice A n c] 24)).alloc (.cells #[.int .i64 s, .int .i64 q] 29)) 24 #[.slice none 0 0]).below bel1; simpa using this)
  have BB1s := BB1.size
  have HBB1 := Lib.hid BB1
  clear BB1
  have lt_P := P.out.lt
  have P_0 := P.out.cell 0
  have P_f0 := P.out.frozen 0
  simp at P_0
  have lt_Q := Q.out.lt
  have Q_0 := Q.out.cell 0
  have Q_1 := Q.out.cell 1
  simp at Q_0 Q_1
  have lt_Z := Z.out.lt
  have Z_0 := Z.out.cell 0
  have Z_f0 := Z.out.frozen 0
  simp at Z_0
  rcases hx with ⟨hm, rfl⟩ | ⟨hm, rfl⟩
  rotate_left
  · have Hm := Lib.hid hm
    clear hm
    go_wp2
    refine bodyPost_ret (v := .tuple #[.agg #[.slice none 0 0], .int .i64 8]) (by simp [results, Try.results49, go_sem, *]) rfl ⟨.inl ⟨Hm.out, rfl⟩, ?_⟩
    have bel0 := HBB1.out
    repeat' (first | exact Below.refl _ _ | assumption | apply Below.drew | refine Below.setCell ?_ (by first | omega | (simp; done) | (simp; omega)) _ | refine Below.alloc ?_ (by first | omega | (simp; done) | (simp; omega)) _)
  have hn' := hm.1
  have Hm := Lib.hid hm
  clear hm
  go_wp2_with fail
  refine (hhe.out _ HBB1.out).mono ?_
  rintro e w2 ⟨rfl, bel2⟩
  clear lt_P P_0 P_f0 lt_Q Q_0 Q_1 lt_Z Z_0 Z_f0
  have BB2 : Below w.heap.size w w2 := by
    have bel0 := HBB1.out
    refine Below.trans ?_ (bel2.mono (by first | omega | (simp; done) | (simp; omega)))
    repeat' (first | exact Below.refl _ _ | assumption | apply Below.drew | refine Below.setCell ?_ (by first | omega | (simp; done) | (simp; omega)) _ | refine Below.alloc ?_ (by first | omega | (simp; done) | (simp; omega)) _)
  have t_P : HasBlk w2 (w.heap.size) 24 #[.slice A n c] := by first | exact P.out.below bel2 | exact (P.out.alloc _).below bel2 | exact ((P.out.alloc _).alloc _).below bel2 | exact (((P.out.alloc _).alloc _).alloc _).below bel2
  clear P
  have P := Lib.hid t_P
  clear t_P
  have t_Q : HasBlk w2 (w.heap.size + 1) 29 #[.int .i64 s, .int .i64 q] := by first | exact Q.out.below bel2 | exact (Q.out.alloc _).below bel2 | exact ((Q.out.alloc _).alloc _).below bel2 | exact (((Q.out.alloc _).alloc _).alloc _).below bel2
  clear Q
  have Q := Lib.hid t_Q
  clear t_Q
  have t_Z : HasBlk w2 (w.heap.size + 1 + 1) 24 #[.slice none 0 0] := by first | exact Z.out.below bel2 | exact (Z.out.alloc _).below bel2 | exact ((Z.out.alloc _).alloc _).below bel2 | exact (((Z.out.alloc _).alloc _).alloc _).below bel2
  clear Z
  have Z := Lib.hid t_Z
  clear t_Z
  clear HBB1
  have BB2s := BB2.size
  have HBB2 := Lib.hid BB2
  clear BB2
  clear bel1
  have lt_P := P.out.lt
  have P_0 := P.out.cell 0
  have P_f0 := P.out.frozen 0
  simp at P_0
  have lt_Q := Q.out.lt
  have Q_0 := Q.out.cell 0
  have Q_1 := Q.out.cell 1
  simp at Q_0 Q_1
  have lt_Z := Z.out.lt
  have Z_0 := Z.out.cell 0
  have Z_f0 := Z.out.frozen 0
  simp at Z_0
  by_cases hh : HeldA n g b s q
  rotate_left
  · have g0 : decide (HeldA n g b s q) = false := decide_eq_false hh
    have Hh := Lib.hid hh
    clear hh
    go_wp2
    refine bodyPost_ret (v := .tuple #[.agg #[.slice none 0 0], .int .i64 50]) (by simp [results, Try.results49, go_sem, *]) rfl ⟨.inr (.inl ⟨Hm.out, Hh.out, rfl⟩), ?_⟩
    have bel0 := HBB2.out
    repeat' (first | exact Below.refl _ _ | assumption | apply Below.drew | refine Below.setCell ?_ (by first | omega | (simp; done) | (simp; omega)) _ | refine Below.alloc ?_ (by first | omega | (simp; done) | (simp; omega)) _)
  have g0 : decide (HeldA n g b s q) = true := decide_eq_true hh
  obtain ⟨h0, h1, _, _⟩ := id hh
  have Hh := Lib.hid hh
  obtain ⟨k, rfl⟩ := Int.eq_ofNat_of_zero_le h0
  have zz2 := Z.out.lt
  clear hh
  go_wp2_with fail
  refine (htw.out _ HBB2.out (by omega)).mono ?_
  rintro e w3 ⟨⟨v, rfl, hv⟩, bel3⟩
  obtain ⟨X, rfl, hX, hb3⟩ := hv
  clear lt_P P_0 P_f0 lt_Q Q_0 Q_1 lt_Z Z_0 Z_f0
  have BB3 : Below w.heap.size w w3 := by
    have bel0 := HBB2.out
    refine Below.trans ?_ (bel3.mono (by first | omega | (simp; done) | (simp; omega)))
    repeat' (first | exact Below.refl _ _ | assumption | apply Below.drew | refine Below.setCell ?_ (by first | omega | (simp; done) | (simp; omega)) _ | refine Below.alloc ?_ (by first | omega | (simp; done) | (simp; omega)) _)
  have t_P : HasBlk w3 (w.heap.size) 24 #[.slice A n c] := by first | exact P.out.below bel3 | exact (P.out.alloc _).below bel3 | exact ((P.out.alloc _).alloc _).below bel3 | exact (((P.out.alloc _).alloc _).alloc _).below bel3
  clear P
  have P := Lib.hid t_P
  clear t_P
  have t_Q : HasBlk w3 (w.heap.size + 1) 29 #[.int .i64 k, .int .i64 q] := by first | exact Q.out.below bel3 | exact (Q.out.alloc _).below bel3 | exact ((Q.out.alloc _).alloc _).below bel3 | exact (((Q.out.alloc _).alloc _).alloc _).below bel3
  clear Q
  have Q := Lib.hid t_Q
  clear t_Q
  have t_Z : HasBlk w3 (w.heap.size + 1 + 1) 24 #[.slice none 0 0] := by first | exact Z.out.below bel3 | exact (Z.out.alloc _).below bel3 | exact ((Z.out.alloc _).alloc _).below bel3 | exact (((Z.out.alloc _).alloc _).alloc _).below bel3
  clear Z
  have Z := Lib.hid t_Z
  clear t_Z
  clear HBB2
  have BB3s := BB3.size
  have HBB3 := Lib.hid BB3
  clear BB3
  have z23 := bel2.size
  clear bel2
  have lt_P := P.out.lt
  have P_0 := P.out.cell 0
  have P_f0 := P.out.frozen 0
  simp at P_0
  have lt_Q := Q.out.lt
  have Q_0 := Q.out.cell 0
  have Q_1 := Q.out.cell 1
  simp at Q_0 Q_1
  have lt_Z := Z.out.lt
  have Z_0 := Z.out.cell 0
  have Z_f0 := Z.out.frozen 0
  simp at Z_0
  have xk := hb3.cell (k * 2 + 1)
  have xf := hb3.frozen (k * 2 + 1)
  rw [List.getElem?_toArray, cellsR_at (by omega) (by omega)] at xk
  have HX := Lib.hid hb3
  have xlt := hb3.lt
  have hk1 : (k : Int) < (n : Int) := h1
  have xne : X ≠ w.heap.size := by omega
  have xne2 : X ≠ w.heap.size + 1 := by omega
  have xne3 : X ≠ w.heap.size + 1 + 1 := by omega
  clear hb3
  go_wp2
  refine bodyPost_ret (v := .tuple #[.agg #[.slice (some ⟨X, 0, none⟩) n n], .int .i64 0]) (by simp [results, Try.results49, go_sem, *]) rfl ⟨.inr (.inr ⟨Hm.out, Hh.out, _, rfl, X, rfl, by omega, ?_⟩), ?_⟩
  · have hset : (cellsR 2 (sv g b) n).toArray.setIfInBounds (k * 2 + 1) (.bool false) = (cellsR 2 (sv g (upd b k false)) n).toArray :=
      cellsR_set (by omega) (by omega) (by omega) (by simp [sv, upd]) (fun i j' hi hj' hne => by
        unfold sv
        split
        · rfl
        · rw [upd_ne _ _ (fun e => hne ⟨e, by omega⟩)])
    rw [Int.toNat_natCast, ← hset]
    have h := HX.out.far (p := ⟨w.heap.size, 0, none⟩) (Ne.symm xne) (.slice (some ⟨X, 0, none⟩) n n)
    exact (h.set (k * 2 + 1) (.bool false)).far (p := ⟨w.heap.size + 1 + 1, 0, none⟩) (Ne.symm xne3) _
  · have bel0 := HBB3.out
    repeat' (first | exact Below.refl _ _ | assumption | apply Below.drew | refine Below.setCell ?_ (by first | omega | (simp; done) | (simp; omega)) _ | refine Below.alloc ?_ (by first | omega | (simp; done) | (simp; omega)) _)
end Go.Proofs.Ytgkeiaggldahnaa
