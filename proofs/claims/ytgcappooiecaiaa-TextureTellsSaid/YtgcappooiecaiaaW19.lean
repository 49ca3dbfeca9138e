/- texture.Same, Twin and the reference's. -/
import Derived.Test.YtgcappooiecaiaaW18
import Derived.Test.YtgcappooiecaiaaW14
namespace Go.Proofs.Ytgcappooiecaiaa
open Go.RowKit
set_option linter.unusedVariables false

/-- Two textures are the same. -/
def SameT (W W' H H' : Int) (n m : Nat) (F G : Nat → Nat → Int) : Prop := W = W' ∧ H = H' ∧ n = m ∧ ∀ k, k < n → F k 0 = G k 0 ∧ F k 1 = G k 1 ∧ F k 2 = G k 2 ∧ F k 3 = G k 3
/-- A texture of the call's own. -/
def TwinR (W H : Int) (n : Nat) (F : Nat → Nat → Value) (B : Nat) (e : Ending) (w' : World) : Prop := ∃ A c, e = .returned (.agg #[.int .i64 W, .int .i64 H, .slice A n c]) ∧ w'.ownsRow B 23 4 (.slice A n c) n (cellsR 4 F n)
theorem below_of_grown {w w' : World} {B : Nat} (h : w.grownBy w' none) : Below w.heap.size w w' := (Below.refl _ _).grown h (Nat.le_refl _) (fun k hk => by cases hk)

theorem own_base {w : World} {b B e s n : Nat} {v : Value} {xs : List Value} (h : w.ownsRow B e s v n xs) (hb : b ≤ B) : w.ownsRow b e s v n xs := by
  refine ⟨h.1, ?_⟩
  rcases h.2 with h | ⟨g, cap, cur, h1, h2, h3⟩
  · exact .inl h
  · exact .inr ⟨g, cap, cur, h1, Nat.le_trans hb h2, h3⟩

set_option maxRecDepth 100000 in
set_option maxHeartbeats 2000000 in
theorem same31 (W W' H H' : Int) (A B : Option Addr) (n m c d : Nat) (F G : Nat → Nat → Int) (w : World) (hA : Row w A n 4 (fun i j => .int .u8 (F i j))) (hB : Row w B m 4 (fun i j => .int .u8 (G i j))) (hn : (n : Int) ≤ 9223372036854775807) (hm : (m : Int) ≤ 9223372036854775807) :
    Calls Try.prog 31 #[.agg #[.int .i64 W, .int .i64 H, .slice A n c], .agg #[.int .i64 W', .int .i64 H', .slice B m d]] w fun e w' => EqR (SameT W W' H H' n m F G) e ∧ Below w.heap.size w w' := by
  by_cases h1 : W = W'
  rotate_left
  · have g1 : (W == W') = false := by simpa using h1
    clear hA hB
    go_enter Try.func31, Try.ntmps31
    go_wp2
    go_ret
    exact ⟨⟨false, rfl, ⟨fun h => (by cases h), fun h => absurd h.1 h1⟩⟩, by repeat' (first | exact Below.refl _ _ | assumption | apply Below.drew | refine Below.setCell ?_ (by first | omega | (simp; done) | (simp; omega)) _ | refine Below.alloc ?_ (by first | omega | (simp; done) | (simp; omega)) _)⟩
  have g1 : (W == W') = true := by simpa using h1
  by_cases h2 : H = H'
  rotate_left
  · have g2 : (H == H') = false := by simpa using h2
    have h1' := Lib.hid h1
    clear hA hB h1
    go_enter Try.func31, Try.ntmps31
    go_wp2
    go_ret
    exact ⟨⟨false, rfl, ⟨fun h => (by cases h), fun h => absurd h.2.1 h2⟩⟩, by repeat' (first | exact Below.refl _ _ | assumption | apply Below.drew | refine Below.setCell ?_ (by first | omega | (simp; done) | (simp; omega)) _ | refine Below.alloc ?_ (by first | omega | (simp; done) | (simp; omega)) _)⟩
  have g2 : (H == H') = true := by simpa using h2
  have he := Lib.hid (fun W (h : Below w.heap.size w W) => equal_any A B n m c d F G W (hA.below h) (hB.below h) hn)
  have h1' := Lib.hid h1
  have h2' := Lib.hid h2
  clear hA hB h1 h2
  go_enter Try.func31, Try.ntmps31
  go_wp2_with fail
  refine (he.out _ (by repeat' (first | exact Below.refl _ _ | assumption | apply Below.drew | refine Below.setCell ?_ (by first | omega | (simp; done) | (simp; omega)) _ | refine Below.alloc ?_ (by first | omega | (simp; done) | (simp; omega)) _))).mono ?_
  rintro e w1 ⟨⟨b, rfl, hb⟩, bel1⟩
  have Hb := Lib.hid hb
  clear hb
  go_wp2
  go_ret
  refine ⟨⟨b, rfl, ?_⟩, ?_⟩
  · rw [Hb.out]; exact ⟨fun h => ⟨h1'.out, h2'.out, h.1, h.2⟩, fun h => ⟨h.2.2.1, h.2.2.2⟩⟩
  · refine Below.trans ?_ (bel1.mono (by simp; omega))
    repeat' (first | exact Below.refl _ _ | assumption | apply Below.drew | refine Below.setCell ?_ (by first | omega | (simp; done) | (simp; omega)) _ | refine Below.alloc ?_ (by first | omega | (simp; done) | (simp; omega)) _)

set_option maxRecDepth 100000 in
set_option maxHeartbeats 2000000 in
theorem same28 (W W' H H' : Int) (A B : Option Addr) (n m c d : Nat) (F G : Nat → Nat → Int) (w : World) (hA : Row w A n 4 (fun i j => .int .u8 (F i j))) (hB : Row w B m 4 (fun i j => .int .u8 (G i j))) (hn : (n : Int) ≤ 9223372036854775807) (hm : (m : Int) ≤ 9223372036854775807) :
    Calls Try.prog 28 #[.agg #[.int .i64 W, .int .i64 H, .slice A n c], .agg #[.int .i64 W', .int .i64 H', .slice B m d]] w fun e w' => EqR (SameT W W' H H' n m F G) e ∧ Below w.heap.size w w' := by
  by_cases h1 : W = W'
  rotate_left
  · have g1 : (W != W') = true := by simpa using h1
    clear hA hB
    go_enter Try.func28, Try.ntmps28
    go_wp2
    go_ret
    exact ⟨⟨false, rfl, ⟨fun h => (by cases h), fun h => absurd h.1 h1⟩⟩, by repeat' (first | exact Below.refl _ _ | assumption | apply Below.drew | refine Below.setCell ?_ (by first | omega | (simp; done) | (simp; omega)) _ | refine Below.alloc ?_ (by first | omega | (simp; done) | (simp; omega)) _)⟩
  have g1 : (W != W') = false := by simpa using h1
  by_cases h2 : H = H'
  rotate_left
  · have g2 : (H != H') = true := by simpa using h2
    have h1' := Lib.hid h1
    clear hA hB h1
    go_enter Try.func28, Try.ntmps28
    go_wp2
    go_ret
    exact ⟨⟨false, rfl, ⟨fun h => (by cases h), fun h => absurd h.2.1 h2⟩⟩, by repeat' (first | exact Below.refl _ _ | assumption | apply Below.drew | refine Below.setCell ?_ (by first | omega | (simp; done) | (simp; omega)) _ | refine Below.alloc ?_ (by first | omega | (simp; done) | (simp; omega)) _)⟩
  have g2 : (H != H') = false := by simpa using h2
  have h1' := Lib.hid h1
  have h2' := Lib.hid h2
  clear h1 h2
  by_cases h3 : n = m
  rotate_left
  · have g3 : ((n : Int) != (m : Int)) = true := by simp; omega
    clear hA hB
    go_enter Try.func28, Try.ntmps28
    go_wp2
    go_ret
    exact ⟨⟨false, rfl, ⟨fun h => (by cases h), fun h => absurd h.2.2.1 h3⟩⟩, by repeat' (first | exact Below.refl _ _ | assumption | apply Below.drew | refine Below.setCell ?_ (by first | omega | (simp; done) | (simp; omega)) _ | refine Below.alloc ?_ (by first | omega | (simp; done) | (simp; omega)) _)⟩
  subst h3
  have B0 : Hid (Below w.heap.size w ((w.alloc (.cells #[.int .i64 W, .int .i64 H, .slice A n c] 30)).alloc (.cells #[.int .i64 W', .int .i64 H', .slice B n d] 30))) := Lib.hid (by repeat' (first | exact Below.refl _ _ | assumption | apply Below.drew | refine Below.setCell ?_ (by first | omega | (simp; done) | (simp; omega)) _ | refine Below.alloc ?_ (by first | omega | (simp; done) | (simp; omega)) _))
  have HA := Lib.hid (hA.below B0.out)
  have HB := Lib.hid (hB.below B0.out)
  clear hA hB hm
  go_enter Try.func28, Try.ntmps28
  go_wp2
  go_loopw [5] (fun i wr => ∃ k : Nat, k ≤ n ∧ i = .int .i64 k ∧ (∃ q, wr = ((w.alloc (.cells #[.int .i64 W, .int .i64 H, .slice A n c] 30)).alloc (.cells #[.int .i64 W', .int .i64 H', .slice B n d] 30)).drewN q) ∧ ∀ k', k' < k → F k' 0 = G k' 0 ∧ F k' 1 = G k' 1 ∧ F k' 2 = G k' 2 ∧ F k' 3 = G k' 3) (fun i wr => n - (intOf i).toNat)
  case atStart => exact ⟨0, Nat.zero_le _, rfl, ⟨0, rfl⟩, fun j hj => absurd hj (by omega)⟩
  case round =>
    obtain ⟨k, hk, rfl, ⟨q, rfl⟩, hall⟩ := hrel
    have Hall := Lib.hid hall
    clear hall
    by_cases hkn : k < n
    · obtain ⟨g, o, rfl, hg, hc⟩ := HA.out (by omega)
      obtain ⟨g', o', rfl, hg', hc'⟩ := HB.out (by omega)
      have c0 := hc k hkn 0 (by omega)
      have c1 := hc k hkn 1 (by omega)
      have c2 := hc k hkn 2 (by omega)
      have c3 := hc k hkn 3 (by omega)
      have d0 := hc' k hkn 0 (by omega)
      have d1 := hc' k hkn 1 (by omega)
      have d2 := hc' k hkn 2 (by omega)
      have d3 := hc' k hkn 3 (by omega)
      dsimp only at c0 c1 c2 c3 d0 d1 d2 d3
      simp only [Nat.add_zero, Nat.mul_one, if_true, if_pos rfl, reduceCtorEq, if_false] at c0 c1 c2 c3 d0 d1 d2 d3
      have hi : (k : Int) < (n : Int) := by omega
      have hi0 : (0 : Int) ≤ (k : Int) := by omega
      clear hc hc'
      by_cases hcmp : F k 0 = G k 0 ∧ F k 1 = G k 1 ∧ F k 2 = G k 2 ∧ F k 3 = G k 3
      · have hq := fun W => equalIn_of_eql (eql_col ((F k 0)) ((F k 1)) ((F k 2)) ((F k 3)) ((G k 0)) ((G k 1)) ((G k 2)) ((G k 3)) W)
        have hv : ((F k 0 == G k 0) && ((F k 1 == G k 1) && ((F k 2 == G k 2) && (F k 3 == G k 3)))) = true := by have := hcmp; simp_all
        simp only [hv] at hq
        clear hv
        have Hc := Lib.hid hcmp
        clear hcmp
        go_wp2_with fail
        go_quiet (fail)
        go_wp2
        go_roundw
        case rel =>
          refine ⟨k + 1, by omega, by go_num, ⟨_, rfl⟩, fun j hj => ?_⟩
          rcases Nat.lt_or_ge j k with h | h
          · exact Hall.out j h
          · obtain rfl : j = k := by omega
            exact Hc.out
        case measure => simp [intOf]; omega
      · have hq := fun W => equalIn_of_eql (eql_col ((F k 0)) ((F k 1)) ((F k 2)) ((F k 3)) ((G k 0)) ((G k 1)) ((G k 2)) ((G k 3)) W)
        have hv : ((F k 0 == G k 0) && ((F k 1 == G k 1) && ((F k 2 == G k 2) && (F k 3 == G k 3)))) = false := by rw [Bool.eq_false_iff]; intro hh; apply hcmp; simpa using hh
        simp only [hv] at hq
        clear hv
        have Hc := Lib.hid hcmp
        clear hcmp
        go_wp2_with fail
        go_quiet (fail)
        go_wp2
        go_ret
        exact ⟨⟨false, rfl, ⟨fun h => (by cases h), fun h => absurd (h.2.2.2 k hkn) Hc.out⟩⟩, by first | exact below_drewN B0.out _ | exact below_drewN (below_drewN B0.out _) _⟩
    · obtain rfl : k = n := by omega
      go_wp2
      go_ret
      exact ⟨⟨true, rfl, ⟨fun _ => ⟨h1'.out, h2'.out, by trivial, Hall.out⟩, fun _ => rfl⟩⟩, below_drewN B0.out _⟩

set_option maxRecDepth 100000 in
set_option maxHeartbeats 2000000 in
theorem twin27 (W H : Int) (A : Option Addr) (n c : Nat) (F : Nat → Nat → Value) (w : World) (hA : Row w A n 4 F) (h1 : ∀ i j, (F i j).oneCell' = true) (hn : (n : Int) ≤ 1000000) :
    Calls Try.prog 27 #[.agg #[.int .i64 W, .int .i64 H, .slice A n c]] w fun e w' => TwinR W H n F w.heap.size e w' ∧ Below w.heap.size w w' := by
  have hcl := Lib.hid (fun W (h : Below w.heap.size w W) => clone_any A n c F W (hA.below h) h1 hn)
  clear hA h1
  go_enter Try.func27, Try.ntmps27
  go_wp2_with fail
  refine (hcl.out _ (by repeat' (first | exact Below.refl _ _ | assumption | apply Below.drew | refine Below.setCell ?_ (by first | omega | (simp; done) | (simp; omega)) _ | refine Below.alloc ?_ (by first | omega | (simp; done) | (simp; omega)) _))).mono ?_
  rintro e w1 ⟨⟨A1, c1, rfl, hown⟩, bel1⟩
  have BB1 : Below w.heap.size w w1 := by
    skip
    refine Below.trans ?_ (bel1.mono (by first | omega | (simp; done) | (simp; omega)))
    repeat' (first | exact Below.refl _ _ | assumption | apply Below.drew | refine Below.setCell ?_ (by first | omega | (simp; done) | (simp; omega)) _ | refine Below.alloc ?_ (by first | omega | (simp; done) | (simp; omega)) _)
  have P : Hid (HasBlk w1 (w.heap.size) 30 #[.int .i64 W, .int .i64 H, .slice A n c]) := Lib.hid (by have := ((hasBlk_new w 30 #[.int .i64 W, .int .i64 H, .slice A n c]).alloc (.cells #[.int .i64 0, .int .i64 0, .slice none 0 0] 30)).below bel1; simpa using this)
  have R : Hid (HasBlk w1 (w.heap.size + 1) 30 #[.int .i64 0, .int .i64 0, .slice none 0 0]) := Lib.hid (by have := (hasBlk_new (w.alloc (.cells #[.int .i64 W, .int .i64 H, .slice A n c] 30)) 30 #[.int .i64 0, .int .i64 0, .slice none 0 0]).below bel1; simpa using this)
  have BB1s := BB1.size
  have HBB1 := Lib.hid BB1
  clear BB1
  have lt_P := P.out.lt
  have P_0 := P.out.cell 0
  have P_1 := P.out.cell 1
  have P_2 := P.out.cell 2
  have P_f0 := P.out.frozen 0
  have P_f1 := P.out.frozen 1
  have P_f2 := P.out.frozen 2
  simp at P_0 P_1 P_2
  have lt_R := R.out.lt
  have R_0 := R.out.cell 0
  have R_1 := R.out.cell 1
  have R_2 := R.out.cell 2
  have R_f0 := R.out.frozen 0
  have R_f1 := R.out.frozen 1
  have R_f2 := R.out.frozen 2
  simp at R_0 R_1 R_2
  simp only [World.size_alloc] at hown
  have np := P.out.ne_own hown (by decide)
  have nr := R.out.ne_own hown (by decide)
  have Np := Lib.hid np
  have Nr := Lib.hid nr
  have Hown := Lib.hid hown
  clear np nr hown
  go_wp2
  refine bodyPost_ret (v := .agg #[.int .i64 W, .int .i64 H, .slice A1 n c1]) (by simp [results, Try.results27, go_sem, *]) rfl ⟨⟨A1, c1, rfl, ?_⟩, ?_⟩
  · refine own_base (B := w.heap.size + 1 + 1) ?_ (by omega)
    repeat' (first | exact Hown.out | refine ownsRow_setCell_other ?_ (by first | exact Np.out | exact Nr.out) _)
  · have bel0 := HBB1.out
    repeat' (first | exact Below.refl _ _ | assumption | apply Below.drew | refine Below.setCell ?_ (by first | omega | (simp; done) | (simp; omega)) _ | refine Below.alloc ?_ (by first | omega | (simp; done) | (simp; omega)) _)
end Go.Proofs.Ytgcappooiecaiaa
