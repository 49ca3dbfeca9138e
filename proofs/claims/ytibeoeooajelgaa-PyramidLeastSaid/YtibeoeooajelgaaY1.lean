/- pyramid: slices.Min, slices.Max; at. -/
import Derived.Test.YtibeoeooajelgaaF15
import Derived.Test.YtibeoeooajelgaaPyr2
namespace Go.Proofs.Ytibeoeooajelgaa
open Go.RowKit
set_option linter.unusedVariables false

set_option maxRecDepth 100000 in
set_option maxHeartbeats 4000000 in
theorem min_any (A : Option Addr) (n c : Nat) (l : Nat → Int) (w : World) (hA : Row w A n 1 (fun i _ => .int .i64 (l i))) (hn : 0 < n) (hb : n ≤ 1000000) :
    Calls Try.prog 70 #[.slice A n c] w fun e w' => (∃ m, e = .returned (.int .i64 m) ∧ (∀ i, i < n → m ≤ l i) ∧ ∃ i, i < n ∧ l i = m) ∧ Below w.heap.size w w' := by
  obtain ⟨g, o, hg, hlt, hc⟩ := hA hn
  subst hg
  have C := Lib.hid (show ∀ i, i < n → w.cell? ⟨g, o + i, none⟩ = some (.int .i64 (l i)) from fun i hi => by have := hc i hi 0 (by omega); simpa using this)
  have c0 := C.out 0 hn
  rw [Nat.add_zero] at c0
  have hn1 : ¬ (n : Int) < 1 := by omega
  have hn0 : (0 : Int) < (n : Int) := by omega
  clear hc hA
  go_enter Try.func70, Try.ntmps70
  go_wp2
  clear c0
  go_loopw [3, 4] (fun o' i' wr => ∃ (t : Nat) (m : Int), 1 ≤ t ∧ t ≤ n ∧ i' = .int .i64 t ∧ o' = .int .i64 m ∧ ((∀ i, i < t → m ≤ l i) ∧ ∃ i, i < n ∧ l i = m) ∧ wr = w) (fun o' i' wr => n - (intOf i').toNat)
  case atStart => exact ⟨1, l 0, by omega, by omega, rfl, rfl, ⟨fun i hi => by rw [show i = 0 by omega]; exact Int.le_refl _, 0, hn, rfl⟩, rfl⟩
  case round =>
    obtain ⟨t, m, ht1, htn, rfl, rfl, ⟨hm, hx⟩, rfl⟩ := hrel
    have HM := Lib.hid hm
    have HX := Lib.hid hx
    clear hm hx
    by_cases htl : t < n
    · have c1 := C.out t htl
      have i1 : (t : Int) < (n : Int) := by omega
      have i0 : (0 : Int) ≤ (t : Int) := by omega
      generalize hv : l t = v at c1
      rcases Int.lt_trichotomy m v with q | q | q
      · have q1 : m ≤ v := by omega
        have q2 : ¬ v ≤ m := by omega
        have q3 : ¬ v < m := by omega
        have QQ := Lib.hid (And.intro q hv)
        clear hv
        go_wp2
        go_roundw
        case rel => exact ⟨t + 1, m, by omega, by omega, by go_num, rfl, ⟨fun i hi => by
          have h1 := QQ.out
          by_cases e : i = t
          · subst e; rw [h1.2]; omega
          · have := HM.out i (by omega)
            omega, HX.out⟩, by first | rfl | trivial⟩
        case measure => simp [intOf]; omega
      · subst q
        have QQ := Lib.hid hv
        clear hv
        go_wp2
        go_roundw
        case rel => exact ⟨t + 1, m, by omega, by omega, by go_num, rfl, ⟨fun i hi => by
          have h1 := QQ.out
          by_cases e : i = t
          · subst e; rw [h1]; omega
          · exact HM.out i (by omega), HX.out⟩, by first | rfl | trivial⟩
        case measure => simp [intOf]; omega
      · have q1 : v ≤ m := by omega
        have q2 : ¬ m ≤ v := by omega
        have q3 : ¬ m < v := by omega
        have QQ := Lib.hid (And.intro q hv)
        clear hv
        go_wp2
        go_roundw
        case rel => exact ⟨t + 1, v, by omega, by omega, by go_num, rfl, ⟨fun i hi => by
          have h1 := QQ.out
          by_cases e : i = t
          · subst e; rw [h1.2]; omega
          · have := HM.out i (by omega)
            omega, ⟨t, htl, QQ.out.2⟩⟩, by first | rfl | trivial⟩
        case measure => simp [intOf]; omega
    · obtain rfl : t = n := by omega
      go_wp2
      go_ret
      exact ⟨⟨m, rfl, HM.out, HX.out⟩, Below.refl _ _⟩

set_option maxRecDepth 100000 in
set_option maxHeartbeats 4000000 in
theorem max_any (A : Option Addr) (n c : Nat) (l : Nat → Int) (w : World) (hA : Row w A n 1 (fun i _ => .int .i64 (l i))) (hn : 0 < n) (hb : n ≤ 1000000) :
    Calls Try.prog 71 #[.slice A n c] w fun e w' => (∃ m, e = .returned (.int .i64 m) ∧ (∀ i, i < n → l i ≤ m) ∧ ∃ i, i < n ∧ l i = m) ∧ Below w.heap.size w w' := by
  obtain ⟨g, o, hg, hlt, hc⟩ := hA hn
  subst hg
  have C := Lib.hid (show ∀ i, i < n → w.cell? ⟨g, o + i, none⟩ = some (.int .i64 (l i)) from fun i hi => by have := hc i hi 0 (by omega); simpa using this)
  have c0 := C.out 0 hn
  rw [Nat.add_zero] at c0
  have hn1 : ¬ (n : Int) < 1 := by omega
  have hn0 : (0 : Int) < (n : Int) := by omega
  clear hc hA
  go_enter Try.func71, Try.ntmps71
  go_wp2
  clear c0
  go_loopw [3, 4] (fun o' i' wr => ∃ (t : Nat) (m : Int), 1 ≤ t ∧ t ≤ n ∧ i' = .int .i64 t ∧ o' = .int .i64 m ∧ ((∀ i, i < t → l i ≤ m) ∧ ∃ i, i < n ∧ l i = m) ∧ wr = w) (fun o' i' wr => n - (intOf i').toNat)
  case atStart => exact ⟨1, l 0, by omega, by omega, rfl, rfl, ⟨fun i hi => by rw [show i = 0 by omega]; exact Int.le_refl _, 0, hn, rfl⟩, rfl⟩
  case round =>
    obtain ⟨t, m, ht1, htn, rfl, rfl, ⟨hm, hx⟩, rfl⟩ := hrel
    have HM := Lib.hid hm
    have HX := Lib.hid hx
    clear hm hx
    by_cases htl : t < n
    · have c1 := C.out t htl
      have i1 : (t : Int) < (n : Int) := by omega
      have i0 : (0 : Int) ≤ (t : Int) := by omega
      generalize hv : l t = v at c1
      rcases Int.lt_trichotomy m v with q | q | q
      · have q1 : m ≤ v := by omega
        have q2 : ¬ v ≤ m := by omega
        have q3 : ¬ v < m := by omega
        have QQ := Lib.hid (And.intro q hv)
        clear hv
        go_wp2
        go_roundw
        case rel => exact ⟨t + 1, v, by omega, by omega, by go_num, rfl, ⟨fun i hi => by
          have h1 := QQ.out
          by_cases e : i = t
          · subst e; rw [h1.2]; omega
          · have := HM.out i (by omega)
            omega, ⟨t, htl, QQ.out.2⟩⟩, by first | rfl | trivial⟩
        case measure => simp [intOf]; omega
      · subst q
        have QQ := Lib.hid hv
        clear hv
        go_wp2
        go_roundw
        case rel => exact ⟨t + 1, m, by omega, by omega, by go_num, rfl, ⟨fun i hi => by
          have h1 := QQ.out
          by_cases e : i = t
          · subst e; rw [h1]; omega
          · exact HM.out i (by omega), HX.out⟩, by first | rfl | trivial⟩
        case measure => simp [intOf]; omega
      · have q1 : v ≤ m := by omega
        have q2 : ¬ m ≤ v := by omega
        have q3 : ¬ m < v := by omega
        have QQ := Lib.hid (And.intro q hv)
        clear hv
        go_wp2
        go_roundw
        case rel => exact ⟨t + 1, m, by omega, by omega, by go_num, rfl, ⟨fun i hi => by
          have h1 := QQ.out
          by_cases e : i = t
          · subst e; rw [h1.2]; omega
          · have := HM.out i (by omega)
            omega, HX.out⟩, by first | rfl | trivial⟩
        case measure => simp [intOf]; omega
    · obtain rfl : t = n := by omega
      go_wp2
      go_ret
      exact ⟨⟨m, rfl, HM.out, HX.out⟩, Below.refl _ _⟩

/-- A level's numbers, row by row. -/
def LD.row (l : LD) (k : Nat) : Int := l.f (k % l.W) (k / l.W)
theorem LD.row_at {l : LD} {x y : Nat} (hx : x < l.W) : l.row (y * l.W + x) = l.f x y := by
  unfold LD.row
  rw [Nat.add_comm, Nat.add_mul_mod_self_right, Nat.mod_eq_of_lt hx, Nat.add_mul_div_right _ _ (by omega), Nat.div_eq_of_lt hx, Nat.zero_add]
theorem LD.row_lt {l : LD} {x y : Nat} (hx : x < l.W) (hy : y < l.H) : y * l.W + x < l.W * l.H := by
  have h1 : (y + 1) * l.W ≤ l.H * l.W := Nat.mul_le_mul_right _ hy
  rw [Nat.add_mul, Nat.one_mul] at h1
  rw [Nat.mul_comm l.W l.H]
  omega
set_option maxRecDepth 100000 in
set_option maxHeartbeats 4000000 in
theorem at_any (l : LD) (A : Option Addr) (c x y : Nat) (w : World) (hW : l.W ≤ 64) (hH : l.H ≤ 64) (hx : x ≤ 1000) (hy : y ≤ 1000) (hA : Row w A (l.W * l.H) 1 (fun i _ => .int .i64 (l.row i))) :
    Calls Try.prog 81 #[.agg #[.int .i64 l.W, .int .i64 l.H, .slice A (l.W * l.H) c], .int .i64 x, .int .i64 y] w fun e w' => e = .returned (.int .i64 (l.at x y)) ∧ Below w.heap.size w w' := by
  have HB := Lib.hid ((Below.refl w.heap.size w).alloc (Nat.le_refl _) (.cells #[.int .i64 l.W, .int .i64 l.H, .slice A (l.W * l.H) c] 74))
  by_cases h1 : x < l.W
  rotate_left
  · rw [LD.at_out (l := l) (x := x) (y := y) (by omega)]
    have g1 : (l.W : Int) ≤ (x : Int) := by omega
    have g1' : decide ((l.W : Int) ≤ (x : Int)) = true := decide_eq_true g1
    clear hA
    go_enter Try.func81, Try.ntmps81
    go_wp2
    go_ret
    exact ⟨rfl, HB.out⟩
  by_cases h2 : y < l.H
  rotate_left
  · rw [LD.at_out (l := l) (x := x) (y := y) (by omega)]
    have g1 : ¬ (l.W : Int) ≤ (x : Int) := by omega
    have g1' : decide ((l.W : Int) ≤ (x : Int)) = false := decide_eq_false g1
    have g2 : (l.H : Int) ≤ (y : Int) := by omega
    have g2' : decide ((l.H : Int) ≤ (y : Int)) = true := decide_eq_true g2
    clear hA
    go_enter Try.func81, Try.ntmps81
    go_wp2
    go_ret
    exact ⟨rfl, HB.out⟩
  rw [LD.at_in h1 h2]
  have hr := LD.row_at (l := l) (y := y) h1
  have hl := LD.row_lt h1 h2
  have h64 : l.W * l.H ≤ 4096 := Nat.mul_le_mul hW hH
  obtain ⟨g, o, hg, hlt, hc⟩ := hA (by omega)
  subst hg
  have c0 := hc _ hl 0 (by omega)
  simp only [Nat.mul_one, Nat.add_zero] at c0
  rw [hr] at c0
  have g1 : ¬ (l.W : Int) ≤ (x : Int) := by omega
  have g1' : decide ((l.W : Int) ≤ (x : Int)) = false := decide_eq_false g1
  have g2 : ¬ (l.H : Int) ≤ (y : Int) := by omega
  have g2' : decide ((l.H : Int) ≤ (y : Int)) = false := decide_eq_false g2
  have hyw : (y : Int) * (l.W : Int) = ((y * l.W : Nat) : Int) := by push_cast; rfl
  have w1 : IntKind.i64.wrap (((y * l.W : Nat) : Int)) = ((y * l.W : Nat) : Int) := IntWalk.i64_in _ (by omega)
  have w2 : IntKind.i64.wrap (((y * l.W : Nat) : Int) + (x : Int)) = ((y * l.W : Nat) : Int) + (x : Int) := IntWalk.i64_in _ (by omega)
  generalize hq : y * l.W = q at *
  generalize hz : l.W * l.H = z at *
  generalize l.f x y = v at *
  have i1 : ((q : Nat) : Int) + (x : Int) < (z : Int) := by omega
  have i0 : (0 : Int) ≤ ((q : Nat) : Int) + (x : Int) := by omega
  have tn : (((q : Nat) : Int) + (x : Int)).toNat = q + x := by omega
  clear hc hr hl hz hq
  go_enter Try.func81, Try.ntmps81
  go_wp2
  go_ret
  exact ⟨rfl, HB.out⟩
end Go.Proofs.Ytibeoeooajelgaa
