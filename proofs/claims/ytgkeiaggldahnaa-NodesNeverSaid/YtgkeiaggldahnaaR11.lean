/- arena: the reference's Kill. -/
import Derived.Test.YtgkeiaggldahnaaR10
namespace Go.Proofs.Ytgkeiaggldahnaa
open Go.RowKit
set_option linter.unusedVariables false

theorem own_set {w : World} {B e s n c x j : Nat} {xs : List Value} (h : w.ownsRow B e s (.slice (some ⟨x, 0, none⟩) n c) n xs) (u : Value) :
    (w.setCell ⟨x, j, none⟩ u).ownsRow B e s (.slice (some ⟨x, 0, none⟩) n c) n (xs.set j u) := by
  rcases h.2 with ⟨h1, _⟩ | ⟨g, cap, cur, hv, hB, hblk, hnc, hcm, hsz, hx⟩
  · cases h1
  · cases hv
    refine ⟨by simp [h.1], .inr ⟨x, c, cur.setIfInBounds j u, rfl, hB, HasBlk.set hblk j u, hnc, hcm, by simpa using hsz, ?_⟩⟩
    rw [← hx]
    simp [List.take_set]
theorem own_some {w : World} {B e s n c : Nat} {X : Option Addr} {xs : List Value} (h : w.ownsRow B e s (.slice X n c) n xs) (hn : 0 < n) : ∃ x, X = some ⟨x, 0, none⟩ ∧ B ≤ x ∧ x < w.heap.size ∧ ∀ j, w.frozen? ⟨x, j, none⟩ = false := by
  rcases h.2 with ⟨_, h1⟩ | ⟨g, cap, cur, hv, hB, hblk, hnc, hcm, hsz, hx⟩
  · omega
  · cases hv
    exact ⟨g, rfl, hB, HasBlk.lt hblk, fun j => HasBlk.frozen hblk j⟩
theorem cellsL_set {s n k j : Nat} {F G : Nat → Nat → Value} {u : Value} (hs : 0 < s) (hk : k < n) (hj : j < s) (hu : G k j = u) (hsame : ∀ i j', i < n → j' < s → ¬ (i = k ∧ j' = j) → G i j' = F i j') : (cellsR s F n).set (k * s + j) u = cellsR s G n := by
  have h := cellsR_set hs hk hj hu hsame
  rw [List.setIfInBounds_toArray] at h
  simpa using congrArg Array.toList h
theorem set_b {n k : Nat} {g : Nat → Int} {b : Nat → Bool} (hk : k < n) (x : Bool) : (cellsR 2 (sv g b) n).set (k * 2 + 1) (.bool x) = cellsR 2 (sv g (upd b k x)) n :=
  cellsL_set (by omega) hk (by omega) (by simp [sv, upd]) (fun i j' hi hj' hne => by
      unfold sv
      split
      · rfl
      · rw [upd_ne _ _ (fun e => hne ⟨e, by omega⟩)])
theorem set_g {n k : Nat} {g : Nat → Int} {b : Nat → Bool} (hk : k < n) (x : Int) : (cellsR 2 (sv g b) n).set (k * 2) (.int .i64 x) = cellsR 2 (sv (upd g k x) b) n := by
  have h : (cellsR 2 (sv g b) n).set (k * 2 + 0) (.int .i64 x) = cellsR 2 (sv (upd g k x) b) n :=
    cellsL_set (by omega) hk (by omega) (by simp [sv, upd]) (fun i j' hi hj' hne => by
      unfold sv
      split
      · rw [upd_ne _ _ (fun e => hne ⟨e, by omega⟩)]
      · rfl)
  simpa using h
/-- What the reference's Kill answers. -/
def KillG (n : Nat) (g : Nat → Int) (b : Nat → Bool) (s q : Int) (B : Nat) (e : Ending) (w' : World) : Prop :=
  (¬ MayA n g ∧ e = .returned (.tuple #[.agg #[.slice none 0 0], .int .i64 8])) ∨ (MayA n g ∧ ¬ HeldA n g b s q ∧ e = .returned (.tuple #[.agg #[.slice none 0 0], .int .i64 50])) ∨
  (MayA n g ∧ HeldA n g b s q ∧ ∃ v, e = .returned (.tuple #[v, .int .i64 0]) ∧ OwnG n g (upd b s.toNat false) B v w')

set_option maxRecDepth 100000 in
set_option maxHeartbeats 4000000 in
theorem refkill_any (A : Option Addr) (n c : Nat) (g : Nat → Int) (b : Nat → Bool) (s q : Int) (w : World) (hA : Row w A n 2 (sv g b)) (hn : (n : Int) ≤ 9223372036854775807) :
    Calls Try.prog 61 #[.agg #[.slice A n c], .agg #[.int .i64 s, .int .i64 q]] w fun e w' => KillG n g b s q w.heap.size e w' ∧ Below w.heap.size w w' := by
  have hmay := Lib.hid (fun W (h : Below w.heap.size w W) => refmay_any A n c g b W (hA.below h) hn)
  have hheld := Lib.hid (fun W (h : Below w.heap.size w W) => refheld_any A n c g b s q W (hA.below h) hn)
  have htw := Lib.hid (fun W (h : Below w.heap.size w W) (hn : (n : Int) ≤ 1000000) => reftwin_any A n c g b W (hA.below h) hn)
  clear hA
  go_enter Try.func61, Try.ntmps61
  go_wp2_with fail
  have NE_P_Q := Lib.hid (show w.heap.size ≠ w.heap.size + 1 by omega)
  have NE_P_Z := Lib.hid (show w.heap.size ≠ w.heap.size + 1 + 1 by omega)
  have NE_Q_Z := Lib.hid (show w.heap.size + 1 ≠ w.heap.size + 1 + 1 by omega)
  have s_P : HasBlk (w.alloc (.cells #[.slice A n c] 24)) (w.heap.size) 24 #[.slice A n c] := by simpa using hasBlk_new w 24 #[.slice A n c]
  replace s_P := s_P.alloc (.cells #[.int .i64 s, .int .i64 q] 29)
  have s_Q : HasBlk ((w.alloc (.cells #[.slice A n c] 24)).alloc (.cells #[.int .i64 s, .int .i64 q] 29)) (w.heap.size + 1) 29 #[.int .i64 s, .int .i64 q] := by simpa using hasBlk_new (w.alloc (.cells #[.slice A n c] 24)) 29 #[.int .i64 s, .int .i64 q]
  replace s_P := s_P.alloc (.cells #[.slice none 0 0] 24)
  replace s_Q := s_Q.alloc (.cells #[.slice none 0 0] 24)
  have s_Z : HasBlk (((w.alloc (.cells #[.slice A n c] 24)).alloc (.cells #[.int .i64 s, .int .i64 q] 29)).alloc (.cells #[.slice none 0 0] 24)) (w.heap.size + 1 + 1) 24 #[.slice none 0 0] := by simpa using hasBlk_new ((w.alloc (.cells #[.slice A n c] 24)).alloc (.cells #[.int .i64 s, .int .i64 q] 29)) 24 #[.slice none 0 0]
  have t_P : HasBlk (((w.alloc (.cells #[.slice A n c] 24)).alloc (.cells #[.int .i64 s, .int .i64 q] 29)).alloc (.cells #[.slice none 0 0] 24)) (w.heap.size) 24 #[.slice A n c] := by simpa using s_P
  clear s_P
  have t_Q : HasBlk (((w.alloc (.cells #[.slice A n c] 24)).alloc (.cells #[.int .i64 s, .int .i64 q] 29)).alloc (.cells #[.slice none 0 0] 24)) (w.heap.size + 1) 29 #[.int .i64 s, .int .i64 q] := by simpa using s_Q
  clear s_Q
  have t_Z : HasBlk (((w.alloc (.cells #[.slice A n c] 24)).alloc (.cells #[.int .i64 s, .int .i64 q] 29)).alloc (.cells #[.slice none 0 0] 24)) (w.heap.size + 1 + 1) 24 #[.slice none 0 0] := by simpa using s_Z
  clear s_Z
  have SB1 : Below w.heap.size w (((w.alloc (.cells #[.slice A n c] 24)).alloc (.cells #[.int .i64 s, .int .i64 q] 29)).alloc (.cells #[.slice none 0 0] 24)) := by
    repeat' (first | exact Below.refl _ _ | assumption | apply Below.drew | refine Below.setCell ?_ (by first | omega | (simp; done) | (simp; omega)) _ | refine Below.alloc ?_ (by first | omega | (simp; done) | (simp; omega)) _)
  generalize gW_v0 : (((w.alloc (.cells #[.slice A n c] 24)).alloc (.cells #[.int .i64 s, .int .i64 q] 29)).alloc (.cells #[.slice none 0 0] 24)) = v0 at *
  clear gW_v0
  have P := Lib.hid t_P
  clear t_P
  have Q := Lib.hid t_Q
  clear t_Q
  have Z := Lib.hid t_Z
  clear t_Z
  have SB1h := Lib.hid SB1
  clear SB1
  refine (hmay.out _ SB1h.out).mono ?_
  rintro e w1 ⟨⟨r, rfl, hr⟩, bel1⟩
  have Hr := Lib.hid hr
  clear hr hmay
  have t_P := P.out.below bel1
  clear P
  have P := Lib.hid t_P
  clear t_P
  have t_Q := Q.out.below bel1
  clear Q
  have Q := Lib.hid t_Q
  clear t_Q
  have t_Z := Z.out.below bel1
  clear Z
  have Z := Lib.hid t_Z
  clear t_Z
  have SB2 : Below w.heap.size w w1 := SB1h.out.trans (bel1.mono SB1h.out.size)
  clear SB1h
  have SB2h := Lib.hid SB2
  clear SB2 bel1
  have lt_P := P.out.lt
  have P_0 := P.out.cell 0
  simp at P_0
  have lt_Q := Q.out.lt
  have Q_0 := Q.out.cell 0
  have Q_1 := Q.out.cell 1
  simp at Q_0 Q_1
  have lt_Z := Z.out.lt
  have Z_0 := Z.out.cell 0
  have Z_f0 := Z.out.frozen 0
  simp at Z_0
  have szB_w1 := SB2h.out.size
  cases r with
  | false =>
    go_wp2
    refine bodyPost_ret (v := .tuple #[.agg #[.slice none 0 0], .int .i64 8]) (by simp [results, Try.results61, go_sem, *]) rfl ⟨.inl ⟨fun h => absurd (Hr.out.2 h) (by decide), rfl⟩, ?_⟩
    have bel0 := SB2h.out
    repeat' (first | exact Below.refl _ _ | assumption | apply Below.drew | refine Below.setCell ?_ (by first | omega | (simp; done) | (simp; omega)) _ | refine Below.alloc ?_ (by first | omega | (simp; done) | (simp; omega)) _)
  | true =>
    have hm : MayA n g := Hr.out.1 (by trivial)
    have hn' := hm.1
    have Hm := Lib.hid hm
    clear hm Hr
    go_wp2_with fail
    clear lt_P P_0 lt_Q Q_0 Q_1 lt_Z Z_0 Z_f0
    refine (hheld.out _ SB2h.out).mono ?_
    rintro e w2 ⟨⟨r, rfl, hr⟩, bel2⟩
    have Hr := Lib.hid hr
    clear hr hheld
    have t_P := P.out.below bel2
    clear P
    have P := Lib.hid t_P
    clear t_P
    have t_Q := Q.out.below bel2
    clear Q
    have Q := Lib.hid t_Q
    clear t_Q
    have t_Z := Z.out.below bel2
    clear Z
    have Z := Lib.hid t_Z
    clear t_Z
    have SB3 : Below w.heap.size w w2 := SB2h.out.trans (bel2.mono SB2h.out.size)
    clear SB2h
    have SB3h := Lib.hid SB3
    clear SB3 bel2
    have lt_P := P.out.lt
    have P_0 := P.out.cell 0
    simp at P_0
    have lt_Q := Q.out.lt
    have Q_0 := Q.out.cell 0
    have Q_1 := Q.out.cell 1
    simp at Q_0 Q_1
    have lt_Z := Z.out.lt
    have Z_0 := Z.out.cell 0
    have Z_f0 := Z.out.frozen 0
    simp at Z_0
    have szB_w2 := SB3h.out.size
    cases r with
    | false =>
      go_wp2
      refine bodyPost_ret (v := .tuple #[.agg #[.slice none 0 0], .int .i64 50]) (by simp [results, Try.results61, go_sem, *]) rfl ⟨.inr (.inl ⟨Hm.out, fun h => absurd (Hr.out.2 h) (by decide), rfl⟩), ?_⟩
      have bel0 := SB3h.out
      repeat' (first | exact Below.refl _ _ | assumption | apply Below.drew | refine Below.setCell ?_ (by first | omega | (simp; done) | (simp; omega)) _ | refine Below.alloc ?_ (by first | omega | (simp; done) | (simp; omega)) _)
    | true =>
      have hh : HeldA n g b s q := Hr.out.1 (by trivial)
      obtain ⟨h0, h1, _, _⟩ := id hh
      have Hh := Lib.hid hh
      obtain ⟨k, rfl⟩ := Int.eq_ofNat_of_zero_le h0
      have hk1 : (k : Int) < (n : Int) := h1
      clear hh Hr
      go_wp2_with fail
      clear lt_P P_0 lt_Q Q_0 Q_1 lt_Z Z_0 Z_f0
      refine (htw.out _ SB3h.out (by omega)).mono ?_
      rintro e w3 ⟨⟨v, rfl, hv⟩, bel3⟩
      obtain ⟨X, c3, rfl, ho⟩ := hv
      obtain ⟨x, rfl, hx0, hx1, hx2⟩ := own_some ho (by omega)
      have O := Lib.hid ho
      have xf := hx2 (k * 2 + 1)
      clear hx2 htw
      have t_P := P.out.below bel3
      clear P
      have P := Lib.hid t_P
      clear t_P
      have t_Q := Q.out.below bel3
      clear Q
      have Q := Lib.hid t_Q
      clear t_Q
      have t_Z := Z.out.below bel3
      clear Z
      have Z := Lib.hid t_Z
      clear t_Z
      have SB4 : Below w.heap.size w w3 := SB3h.out.trans (bel3.mono SB3h.out.size)
      clear SB3h
      have SB4h := Lib.hid SB4
      clear SB4 bel3
      have lt_P := P.out.lt
      have P_0 := P.out.cell 0
      simp at P_0
      have lt_Q := Q.out.lt
      have Q_0 := Q.out.cell 0
      have Q_1 := Q.out.cell 1
      simp at Q_0 Q_1
      have lt_Z := Z.out.lt
      have Z_0 := Z.out.cell 0
      have Z_f0 := Z.out.frozen 0
      simp at Z_0
      have szB_w3 := SB4h.out.size
      have nx0 : x ≠ w.heap.size := fun e => P.out.ne_own ho (by decide) (by rw [e]; rfl)
      have ny0 := Ne.symm nx0
      have nx1 : x ≠ w.heap.size + 1 := fun e => Q.out.ne_own ho (by decide) (by rw [e]; rfl)
      have ny1 := Ne.symm nx1
      have nx2 : x ≠ w.heap.size + 1 + 1 := fun e => Z.out.ne_own ho (by decide) (by rw [e]; rfl)
      have ny2 := Ne.symm nx2
      have nt : x ≠ w3.heap.size := by omega
      have nt2 := Ne.symm nt
      have xc : w3.cell? ⟨x, k * 2 + 1, none⟩ = some (.bool (b k)) := by
        obtain ⟨gg, oo, e, hg, hc⟩ := Row.of_cells ho (by omega)
        cases e
        have c1 := hc k (by omega) 1 (by omega)
        simpa [sv] using c1
      clear ho
      go_wp2
      refine bodyPost_ret (v := .tuple #[.agg #[.slice (some ⟨x, 0, none⟩) n c3], .int .i64 0]) (by simp [results, Try.results61, go_sem, *]) rfl ⟨.inr (.inr ⟨Hm.out, Hh.out, _, rfl, some ⟨x, 0, none⟩, c3, rfl, ?_⟩), ?_⟩
      · rw [Int.toNat_natCast, ← set_b (by omega)]
        have nZ := Z.out.ne_own O.out (by decide)
        refine own_base (World.ownsRow.alloc (ownsRow_setCell_other (own_set (j := k * 2 + 1) O.out (.bool false)) nZ _) _) (by omega)
      · have bel0 := SB4h.out
        repeat' (first | exact Below.refl _ _ | assumption | apply Below.drew | refine Below.setCell ?_ (by first | omega | (simp; done) | (simp; omega)) _ | refine Below.alloc ?_ (by first | omega | (simp; done) | (simp; omega)) _)
end Go.Proofs.Ytgkeiaggldahnaa
