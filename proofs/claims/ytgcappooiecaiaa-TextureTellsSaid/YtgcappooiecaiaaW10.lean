/- The walk of dioramalaw09.TextureNames. -/
import Derived.Test.YtgcappooiecaiaaW9
namespace Go.Proofs.Ytgcappooiecaiaa
open Go.RowKit
set_option linter.unusedVariables false

theorem Keeps.px (A : Option Addr) (n : Nat) (f : Nat → Nat → Int) : Keeps (fun Wo => Px Wo A n f) := fun W W' hb hs => hs.below hb
theorem at_two_a (b : Nat) (w : World) (hp : Px w (some ⟨b, 0, none⟩) 2 twof) : Calls Try.prog 21 #[.agg #[.int .i64 2, .int .i64 1, .slice (some ⟨b, 0, none⟩) 2 2], .int .i64 0, .int .i64 9] w fun e w' =>
    e = .returned (.tuple #[.agg #[.int .u8 255, .int .u8 0, .int .u8 0, .int .u8 255], .int .i64 0]) ∧ Below w.heap.size w w' :=
  at_ok 2 1 0 9 (some ⟨b, 0, none⟩) 2 2 twof w may_two hp (by omega) (by omega) (by omega) (by omega)
theorem at_two_b (b : Nat) (w : World) (hp : Px w (some ⟨b, 0, none⟩) 2 twof) : Calls Try.prog 21 #[.agg #[.int .i64 2, .int .i64 1, .slice (some ⟨b, 0, none⟩) 2 2], .int .i64 127, .int .i64 0] w fun e w' =>
    e = .returned (.tuple #[.agg #[.int .u8 255, .int .u8 0, .int .u8 0, .int .u8 255], .int .i64 0]) ∧ Below w.heap.size w w' :=
  at_ok 2 1 127 0 (some ⟨b, 0, none⟩) 2 2 twof w may_two hp (by omega) (by omega) (by omega) (by omega)
theorem at_two_c (b : Nat) (w : World) : Calls Try.prog 21 #[.agg #[.int .i64 2, .int .i64 1, .slice (some ⟨b, 0, none⟩) 2 2], .int .i64 256, .int .i64 0] w fun e w' =>
    e = .returned (.tuple #[.agg #[.int .u8 0, .int .u8 0, .int .u8 0, .int .u8 0], .int .i64 2]) ∧ Below w.heap.size w w' :=
  at_arg 2 1 256 0 (some ⟨b, 0, none⟩) 2 2 w may_two (by omega)
theorem check_cut (b : Nat) (w : World) : Calls Try.prog 20 #[.agg #[.int .i64 2, .int .i64 1, .slice (some ⟨b, 0, none⟩) 1 2]] w fun e w' => e = .returned (.int .i64 8) ∧ Below w.heap.size w w' :=
  check_bad 2 1 _ 1 2 w (by unfold May; omega)
set_option maxHeartbeats 400000 in
theorem checks_many (A : Option Addr) (m c : Nat) (w : World) (h : (16 : Int) < m) : Calls Try.prog 23 #[.slice A m c] w fun e w' => e = .returned (.int .i64 4) ∧ Below w.heap.size w w' := by
  go_enter Try.func23, Try.ntmps23
  go_wp2
  go_ret
  exact ⟨rfl, Below.refl _ _⟩
theorem checks_17 (A : Option Addr) (w : World) : Calls Try.prog 23 #[.slice A 17 17] w fun e w' => e = .returned (.int .i64 4) ∧ Below w.heap.size w w' :=
  checks_many A 17 17 w (by omega)
def dTwo (b n : Nat) : TexD := { W := 2, H := 1, a := some ⟨b, 0, none⟩, n := n, c := 2, f := twof }
theorem Px.less {w : World} {A : Option Addr} {n m : Nat} {f : Nat → Nat → Int} (h : Px w A n f) (hm : m ≤ n) : Px w A m f := fun h0 => by
  obtain ⟨b, off, e, hl, hc⟩ := h (by omega)
  exact ⟨b, off, e, hl, fun i hi j hj => hc i (by omega) j hj⟩
theorem checks_pair (g b b' : Nat) (w : World) (hg : w.heap[g]? = some (.cells #[.int .i64 2, .int .i64 1, .slice (some ⟨b, 0, none⟩) 2 2, .int .i64 2, .int .i64 1, .slice (some ⟨b', 0, none⟩) 1 2] 30 (0, 0)))
    (hp : Px w (some ⟨b, 0, none⟩) 2 twof) (hp' : Px w (some ⟨b', 0, none⟩) 2 twof) : Calls Try.prog 23 #[.slice (some ⟨g, 0, none⟩) 2 2] w fun e w' => e = .returned (.int .i64 8) ∧ Below w.heap.size w w' := by
  have hlt : g < w.heap.size := by
    rcases Nat.lt_or_ge g w.heap.size with h | h
    · exact h
    · rw [Array.getElem?_eq_none h] at hg; cases hg
  have hc : ∀ i, w.cell? ⟨g, i, none⟩ = (#[.int .i64 2, .int .i64 1, .slice (some ⟨b, 0, none⟩) 2 2, .int .i64 2, .int .i64 1, .slice (some ⟨b', 0, none⟩) 1 2] : Array Value)[i]? := fun i => cell_of_row w g i _ _ _ hg
  have h := checks_any (some ⟨g, 0, none⟩) 2 2 (fun i => if i = 0 then dTwo b 2 else dTwo b' 1) w (fun _ => ⟨g, 0, rfl, hlt, fun i hi => by
    obtain rfl | rfl : i = 0 ∨ i = 1 := by omega
    all_goals simp [hc, dTwo], fun i hi => by
    obtain rfl | rfl : i = 0 ∨ i = 1 := by omega
    · simpa [dTwo] using hp
    · simpa [dTwo] using hp'.less (by omega)⟩)
  rwa [checksE_bad (by omega) (i := 1) (by omega) (by simp [dTwo, TexD.may, May])] at h
theorem checks_one (g b : Nat) (w : World) (hg : w.heap[g]? = some (.cells #[.int .i64 2, .int .i64 1, .slice (some ⟨b, 0, none⟩) 2 2] 30 (0, 0)))
    (hp : Px w (some ⟨b, 0, none⟩) 2 twof) : Calls Try.prog 23 #[.slice (some ⟨g, 0, none⟩) 1 1] w fun e w' => e = .returned (.int .i64 0) ∧ Below w.heap.size w w' := by
  have hlt : g < w.heap.size := by
    rcases Nat.lt_or_ge g w.heap.size with h | h
    · exact h
    · rw [Array.getElem?_eq_none h] at hg; cases hg
  have hc : ∀ i, w.cell? ⟨g, i, none⟩ = (#[.int .i64 2, .int .i64 1, .slice (some ⟨b, 0, none⟩) 2 2] : Array Value)[i]? := fun i => cell_of_row w g i _ _ _ hg
  have h := checks_any (some ⟨g, 0, none⟩) 1 1 (fun i => dTwo b 2) w (fun _ => ⟨g, 0, rfl, hlt, fun i hi => by
    obtain rfl : i = 0 := by omega
    simp [hc, dTwo], fun i hi => by simpa [dTwo] using hp⟩)
  rwa [checksE_ok (by omega) (fun i hi => by simp [dTwo, TexD.may, May])] at h

theorem tex_info : (Try.prog.info? 30).map (fun i => (i.zero, i.size, i.bytes)) = some (some (.agg #[.int .i64 0, .int .i64 0, .slice none 0 0]), 3, 40) := by kernel_rfl

set_option maxHeartbeats 4000000 in
theorem textureNames_walk (w : World) : Calls Try.prog 8 #[] w fun e w' => e = .returned (.bool true) ∧ Below w.heap.size w w' := by
  obtain ⟨i0, hi0, hz0, hz1, hz2⟩ := info_parts tex_info
  have hq := eql_col
  go_enter Try.func8, Try.ntmps8
  go_wp2_with fail
  refine (two_any _).mono ?_
  rintro e w1 ⟨⟨b1, rfl, hp1⟩, bel1⟩
  have Hp1 := Lib.hid hp1
  clear hp1
  go_wp2_with fail
  refine (at_two_a _ _ Hp1.out).mono ?_
  rintro e w2 ⟨rfl, bel2⟩
  have bA := bel1.trans (bel2.mono bel1.size)
  have zA := bA.size
  clear bel1 bel2 Hp1
  have hkA : Keeps (fun Wo => (Below w.heap.size w Wo ∧ w.heap.size ≤ Wo.heap.size) ∧ w2.heap.size + 1 ≤ Wo.heap.size ∧ Wo.cell? ⟨w2.heap.size, 0, none⟩ = some (.int .u8 255) ∧ Wo.cell? ⟨w2.heap.size, 1, none⟩ = some (.int .u8 0) ∧ Wo.cell? ⟨w2.heap.size, 2, none⟩ = some (.int .u8 0) ∧ Wo.cell? ⟨w2.heap.size, 3, none⟩ = some (.int .u8 255)) := by
    repeat' (first | exact Keeps.below _ | exact Keeps.size _ | exact Keeps.cell _ _ | apply Keeps.and)
  go_wp2_with fail
  refine (two_any _).mono ?_
  rintro e w3 ⟨⟨b2, rfl, hp2⟩, bel3⟩
  have Hp2 := Lib.hid hp2
  clear hp2
  have s3 := hkA _ _ bel3 (by refine ⟨⟨?_, by first | omega | (simp; done) | (simp; omega)⟩, by first | omega | (simp; done) | (simp; omega), by simp [go_sem], by simp [go_sem], by simp [go_sem], by simp [go_sem]⟩; repeat' (first | exact Below.refl _ _ | assumption | apply Below.drew | refine Below.setCell ?_ (by first | omega | (simp; done) | (simp; omega)) _ | refine Below.alloc ?_ (by first | omega | (simp; done) | (simp; omega)) _))
  dsimp only at s3
  go_wp2_with fail
  refine (at_two_b _ _ Hp2.out).mono ?_
  rintro e w4 ⟨rfl, bel4⟩
  have s4 := hkA _ _ bel4 s3
  dsimp only at s4
  clear s3 Hp2 bel3 bel4
  have hkB : Keeps (fun Wo => ((Below w.heap.size w Wo ∧ w.heap.size ≤ Wo.heap.size) ∧ w2.heap.size + 1 ≤ Wo.heap.size ∧ Wo.cell? ⟨w2.heap.size, 0, none⟩ = some (.int .u8 255) ∧ Wo.cell? ⟨w2.heap.size, 1, none⟩ = some (.int .u8 0) ∧ Wo.cell? ⟨w2.heap.size, 2, none⟩ = some (.int .u8 0) ∧ Wo.cell? ⟨w2.heap.size, 3, none⟩ = some (.int .u8 255)) ∧ w4.heap.size + 1 ≤ Wo.heap.size ∧ Wo.cell? ⟨w4.heap.size, 0, none⟩ = some (.int .u8 255) ∧ Wo.cell? ⟨w4.heap.size, 1, none⟩ = some (.int .u8 0) ∧ Wo.cell? ⟨w4.heap.size, 2, none⟩ = some (.int .u8 0) ∧ Wo.cell? ⟨w4.heap.size, 3, none⟩ = some (.int .u8 255)) := by
    repeat' (first | exact Keeps.below _ | exact Keeps.size _ | exact Keeps.cell _ _ | apply Keeps.and)
  have z4 := s4.2.1
  go_wp2_with fail
  refine (two_any _).mono ?_
  rintro e w5 ⟨⟨b4, rfl, hp4⟩, bel5⟩
  clear hp4
  have s5 := hkB _ _ bel5 (by refine ⟨hkA _ _ ?_ s4, by first | omega | (simp; done) | (simp; omega), by simp [go_sem], by simp [go_sem], by simp [go_sem], by simp [go_sem]⟩; repeat' (first | exact Below.refl _ _ | assumption | apply Below.drew | refine Below.setCell ?_ (by first | omega | (simp; done) | (simp; omega)) _ | refine Below.alloc ?_ (by first | omega | (simp; done) | (simp; omega)) _))
  dsimp only at s5
  clear s4
  go_wp2_with fail
  refine (at_two_c _ _).mono ?_
  rintro e w6 ⟨rfl, bel6⟩
  have s6 := hkB _ _ bel6 s5
  dsimp only at s6
  clear s5
  have z6 := s6.2.1
  go_wp2_with fail
  refine (two_any _).mono ?_
  rintro e w7 ⟨⟨b3, rfl, hp3⟩, bel7⟩
  have Hp3 := Lib.hid hp3
  clear hp3
  have s7 := hkB _ _ bel7 (hkB _ _ (by repeat' (first | exact Below.refl _ _ | assumption | apply Below.drew | refine Below.setCell ?_ (by first | omega | (simp; done) | (simp; omega)) _ | refine Below.alloc ?_ (by first | omega | (simp; done) | (simp; omega)) _)) s6)
  dsimp only at s7
  clear s6 bel5 bel6 bel7
  have z7 := s7.2.1
  have hkD : Keeps (fun Wo => Px Wo (some ⟨b3, 0, none⟩) 2 twof ∧ (((Below w.heap.size w Wo ∧ w.heap.size ≤ Wo.heap.size) ∧ w2.heap.size + 1 ≤ Wo.heap.size ∧ Wo.cell? ⟨w2.heap.size, 0, none⟩ = some (.int .u8 255) ∧ Wo.cell? ⟨w2.heap.size, 1, none⟩ = some (.int .u8 0) ∧ Wo.cell? ⟨w2.heap.size, 2, none⟩ = some (.int .u8 0) ∧ Wo.cell? ⟨w2.heap.size, 3, none⟩ = some (.int .u8 255)) ∧ w4.heap.size + 1 ≤ Wo.heap.size ∧ Wo.cell? ⟨w4.heap.size, 0, none⟩ = some (.int .u8 255) ∧ Wo.cell? ⟨w4.heap.size, 1, none⟩ = some (.int .u8 0) ∧ Wo.cell? ⟨w4.heap.size, 2, none⟩ = some (.int .u8 0) ∧ Wo.cell? ⟨w4.heap.size, 3, none⟩ = some (.int .u8 255)) ∧ w7.heap.size + 1 ≤ Wo.heap.size ∧ Wo.cell? ⟨w7.heap.size, 0, none⟩ = some (.int .i64 2) ∧ Wo.cell? ⟨w7.heap.size, 1, none⟩ = some (.int .i64 1) ∧ Wo.cell? ⟨w7.heap.size, 2, none⟩ = some (.slice (some ⟨b3, 0, none⟩) 1 2)) := by
    refine Keeps.and (Keeps.px _ _ _) ?_
    repeat' (first | exact Keeps.below _ | exact Keeps.size _ | exact Keeps.cell _ _ | apply Keeps.and)
  have hmk : ∀ W : World, (Instr.makeSlice 39 (.int .i64 17) (.int .i64 17)).run Try.prog W = .ok (.slice (some ⟨W.heap.size, 0, none⟩) 17 17) (W.alloc (.cells (madeCells (Value.agg #[.int .i64 0, .int .i64 0, .slice none 0 0]).cells (17 * i0.size)) 30)) :=
    fun W => make_full Try.underlying39 hi0 hz0 17 (by rw [hz2]; omega) (by omega) W
  go_wp2_with fail
  go_region_held3 (fun Wo => Px Wo (some ⟨b3, 0, none⟩) 2 twof ∧ (((Below w.heap.size w Wo ∧ w.heap.size ≤ Wo.heap.size) ∧ w2.heap.size + 1 ≤ Wo.heap.size ∧ Wo.cell? ⟨w2.heap.size, 0, none⟩ = some (.int .u8 255) ∧ Wo.cell? ⟨w2.heap.size, 1, none⟩ = some (.int .u8 0) ∧ Wo.cell? ⟨w2.heap.size, 2, none⟩ = some (.int .u8 0) ∧ Wo.cell? ⟨w2.heap.size, 3, none⟩ = some (.int .u8 255)) ∧ w4.heap.size + 1 ≤ Wo.heap.size ∧ Wo.cell? ⟨w4.heap.size, 0, none⟩ = some (.int .u8 255) ∧ Wo.cell? ⟨w4.heap.size, 1, none⟩ = some (.int .u8 0) ∧ Wo.cell? ⟨w4.heap.size, 2, none⟩ = some (.int .u8 0) ∧ Wo.cell? ⟨w4.heap.size, 3, none⟩ = some (.int .u8 255)) ∧ w7.heap.size + 1 ≤ Wo.heap.size ∧ Wo.cell? ⟨w7.heap.size, 0, none⟩ = some (.int .i64 2) ∧ Wo.cell? ⟨w7.heap.size, 1, none⟩ = some (.int .i64 1) ∧ Wo.cell? ⟨w7.heap.size, 2, none⟩ = some (.slice (some ⟨b3, 0, none⟩) 1 2))
    (first | exact hkD _ _ hbel (by assumption) | (refine ⟨Hp3.out.below ?_, hkB _ _ ?_ s7, by first | omega | (simp; done) | (simp; omega), by simp [go_sem], by simp [go_sem], by simp [go_sem]⟩; repeat' (first | exact Below.refl _ _ | assumption | apply Below.drew | refine Below.setCell ?_ (by first | omega | (simp; done) | (simp; omega)) _ | refine Below.alloc ?_ (by first | omega | (simp; done) | (simp; omega)) _)) | (refine hkD _ _ ?_ (by assumption); repeat' (first | exact Below.refl _ _ | assumption | apply Below.drew | refine Below.setCell ?_ (by first | omega | (simp; done) | (simp; omega)) _ | refine Below.alloc ?_ (by first | omega | (simp; done) | (simp; omega)) _)))
    (first | (go_at_call 19; (with_reducible refine (alive09_any _).mono ?_); rintro e w' ⟨rfl, hbel⟩)
           | (go_at_call 20; (with_reducible refine (check_cut _ _).mono ?_); rintro e w' ⟨rfl, hbel⟩)
           | (go_at_call 22; (with_reducible refine (two_any _).mono ?_); rintro e w' ⟨⟨b5, rfl, hp5⟩, hbel⟩; have Hp5 := Lib.hid hp5; clear hp5)
           | (go_at_call 23; (with_reducible refine (checks_17 _ _).mono ?_); rintro e w' ⟨rfl, hbel⟩)
           | (go_at_call 23; (with_reducible refine (checks_pair _ b5 b3 _ (heap_alloc_new _ _) (Hp5.out.below (by repeat' (first | exact Below.refl _ _ | assumption | apply Below.drew | refine Below.setCell ?_ (by first | omega | (simp; done) | (simp; omega)) _ | refine Below.alloc ?_ (by first | omega | (simp; done) | (simp; omega)) _))) ?_).mono ?_); (refine Px.below (‹Px _ (some ⟨b3, 0, none⟩) 2 twof ∧ _›.1) ?_; repeat' (first | exact Below.refl _ _ | assumption | apply Below.drew | refine Below.setCell ?_ (by first | omega | (simp; done) | (simp; omega)) _ | refine Below.alloc ?_ (by first | omega | (simp; done) | (simp; omega)) _)); rintro e w' ⟨rfl, hbel⟩)
           | (go_at_call 23; (with_reducible refine (checks_one _ b5 _ (heap_alloc_new _ _) (Hp5.out.below (by repeat' (first | exact Below.refl _ _ | assumption | apply Below.drew | refine Below.setCell ?_ (by first | omega | (simp; done) | (simp; omega)) _ | refine Below.alloc ?_ (by first | omega | (simp; done) | (simp; omega)) _)))).mono ?_); rintro e w' ⟨rfl, hbel⟩))
  go_wp2
  go_ret
  exact ⟨rfl, (‹Px _ (some ⟨b3, 0, none⟩) 2 twof ∧ (((Below w.heap.size w _ ∧ _) ∧ _) ∧ _) ∧ _›).2.1.1.1.1⟩
end Go.Proofs.Ytgcappooiecaiaa
