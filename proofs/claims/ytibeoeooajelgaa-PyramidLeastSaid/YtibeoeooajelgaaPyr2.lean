/- pyramid: the least within a rectangle; plain law, no program. -/
import Derived.Test.YtibeoeooajelgaaPyr
namespace Go.Proofs.Ytibeoeooajelgaa
set_option linter.unusedVariables false
/-- The least of a bound and of a set of places. -/
def LstB (S : Nat → Nat → Prop) (f : Nat → Nat → Int) (b m : Int) : Prop := m ≤ b ∧ (∀ x y, S x y → m ≤ f x y) ∧ (m = b ∨ ∃ x y, S x y ∧ f x y = m)
theorem LstB.fn {S : Nat → Nat → Prop} {f : Nat → Nat → Int} {b m n : Int} (h : LstB S f b m) (k : LstB S f b n) : m = n := by
  obtain ⟨h0, h1, h2⟩ := h
  obtain ⟨k0, k1, k2⟩ := k
  have : m ≤ n := by
    rcases k2 with rfl | ⟨x, y, hs, rfl⟩
    · exact h0
    · exact h1 x y hs
  have : n ≤ m := by
    rcases h2 with rfl | ⟨x, y, hs, rfl⟩
    · exact k0
    · exact k1 x y hs
  omega
theorem LstB.none {S : Nat → Nat → Prop} {f : Nat → Nat → Int} {b : Int} (h : ∀ x y, ¬ S x y) : LstB S f b b := ⟨Int.le_refl _, fun x y hs => absurd hs (h x y), .inl rfl⟩
theorem LstB.all {S : Nat → Nat → Prop} {f : Nat → Nat → Int} {b : Int} (h : ∀ x y, S x y → b ≤ f x y) : LstB S f b b := ⟨Int.le_refl _, h, .inl rfl⟩
theorem Lst.bound {S : Nat → Nat → Prop} {f : Nat → Nat → Int} {b m : Int} (h : Lst S f m) (hb : m ≤ b) : LstB S f b m := ⟨hb, h.1, .inr h.2⟩
theorem LstB.congr {S T : Nat → Nat → Prop} {f : Nat → Nat → Int} {b m : Int} (h : LstB S f b m) (e : ∀ x y, S x y ↔ T x y) : LstB T f b m := by
  rw [show T = S from funext fun x => funext fun y => propext (e x y).symm]
  exact h
theorem LstB.or {S T : Nat → Nat → Prop} {f : Nat → Nat → Int} {b m n : Int} (h : LstB S f b m) (k : LstB T f m n) : LstB (fun x y => S x y ∨ T x y) f b n := by
  obtain ⟨h0, h1, h2⟩ := h
  obtain ⟨k0, k1, k2⟩ := k
  refine ⟨by omega, fun x y hs => ?_, ?_⟩
  · rcases hs with hs | hs
    · have := h1 x y hs
      omega
    · exact k1 x y hs
  · rcases k2 with rfl | ⟨x, y, hs, e⟩
    · rcases h2 with rfl | ⟨x, y, hs, e⟩
      · exact .inl rfl
      · exact .inr ⟨x, y, .inl hs, e⟩
    · exact .inr ⟨x, y, .inr hs, e⟩
/-- A rectangle, both ends in it. -/
structure RC where
  X0 : Int
  Y0 : Int
  X1 : Int
  Y1 : Int
/-- The pixels of a rectangle within a block. -/
def LD.blk (l : LD) (r : RC) (k x y a b : Nat) : Prop := a < l.W ∧ b < l.H ∧ a / 2 ^ k = x ∧ b / 2 ^ k = y ∧ r.X0 ≤ a ∧ (a : Int) ≤ r.X1 ∧ r.Y0 ≤ b ∧ (b : Int) ≤ r.Y1
theorem div_iff {a p x : Nat} (hp : 0 < p) : a / p = x ↔ x * p ≤ a ∧ a < (x + 1) * p := by
  constructor
  · rintro rfl
    exact ⟨Nat.div_mul_le_self _ _, by rw [Nat.mul_comm]; exact Nat.lt_mul_div_succ a hp⟩
  · rintro ⟨h1, h2⟩
    exact Nat.div_eq_of_lt_le h1 h2
theorem two_pos (k : Nat) : 0 < 2 ^ k := Nat.pow_pos (by omega)
/-- Out: there is no pixel. -/
theorem LD.low_out {l : LD} {r : RC} {k x y : Nat} {b : Int} (h : ¬ x < (l.lev k).W ∨ ¬ y < (l.lev k).H ∨ r.X1 < ((x * 2 ^ k : Nat) : Int) ∨ (((x + 1) * 2 ^ k : Nat) : Int) ≤ r.X0 ∨ r.Y1 < ((y * 2 ^ k : Nat) : Int) ∨ (((y + 1) * 2 ^ k : Nat) : Int) ≤ r.Y0) : LstB (l.blk r k x y) l.f b b := LstB.none fun a c hs => by
  obtain ⟨h1, h2, h3, h4, h5, h6, h7, h8⟩ := hs
  obtain ⟨a1, a2⟩ := (div_iff (two_pos k)).1 h3
  obtain ⟨c1, c2⟩ := (div_iff (two_pos k)).1 h4
  rw [LD.lev_W, LD.lev_H] at h
  omega
/-- What lies below is not less than the number at the place. -/
theorem LD.low_over {l : LD} (hl : l.Le) {r : RC} {k x y : Nat} {b : Int} (hx : x < (l.lev k).W) (hy : y < (l.lev k).H) (h : b ≤ (l.lev k).f x y) : LstB (l.blk r k x y) l.f b b := LstB.all fun a c hs => by
  have := (LD.lev_lst hl k x y hx hy).1 a c ⟨hs.1, hs.2.1, hs.2.2.1, hs.2.2.2.1⟩
  omega
/-- The block lies within the rectangle. -/
theorem LD.low_in {l : LD} (hl : l.Le) {r : RC} {k x y : Nat} {b : Int} (hx : x < (l.lev k).W) (hy : y < (l.lev k).H) (h : (l.lev k).f x y < b) (h1 : r.X0 ≤ ((x * 2 ^ k : Nat) : Int)) (h2 : (((x + 1) * 2 ^ k : Nat) : Int) - 1 ≤ r.X1) (h3 : r.Y0 ≤ ((y * 2 ^ k : Nat) : Int)) (h4 : (((y + 1) * 2 ^ k : Nat) : Int) - 1 ≤ r.Y1) : LstB (l.blk r k x y) l.f b ((l.lev k).f x y) := by
  obtain ⟨m1, m2⟩ := LD.lev_lst hl k x y hx hy
  refine ⟨by omega, fun a c hs => m1 a c ⟨hs.1, hs.2.1, hs.2.2.1, hs.2.2.2.1⟩, .inr ?_⟩
  obtain ⟨a, c, ⟨q1, q2, q3, q4⟩, e⟩ := m2
  obtain ⟨a1, a2⟩ := (div_iff (two_pos k)).1 q3
  obtain ⟨c1, c2⟩ := (div_iff (two_pos k)).1 q4
  exact ⟨a, c, ⟨q1, q2, q3, q4, by omega, by omega, by omega, by omega⟩, e⟩
/-- The four children part the block. -/
theorem LD.blk_four {l : LD} {r : RC} {k x y a b : Nat} : (((l.blk r k (2 * x) (2 * y) a b ∨ l.blk r k (2 * x + 1) (2 * y) a b) ∨ l.blk r k (2 * x) (2 * y + 1) a b) ∨ l.blk r k (2 * x + 1) (2 * y + 1) a b) ↔ l.blk r (k + 1) x y a b := by
  have hdv : ∀ a, a / 2 ^ (k + 1) = a / 2 ^ k / 2 := fun a => by rw [Nat.pow_succ, Nat.div_div_eq_div_mul]
  unfold LD.blk
  rw [hdv, hdv]
  omega
/-- Level 0's blocks are pixels: out, or in. -/
theorem LD.low_zero {r : RC} {x y : Nat} (h1 : ¬ r.X1 < ((x * 2 ^ 0 : Nat) : Int)) (h2 : ¬ (((x + 1) * 2 ^ 0 : Nat) : Int) ≤ r.X0) (h3 : ¬ r.Y1 < ((y * 2 ^ 0 : Nat) : Int)) (h4 : ¬ (((y + 1) * 2 ^ 0 : Nat) : Int) ≤ r.Y0) : r.X0 ≤ ((x * 2 ^ 0 : Nat) : Int) ∧ (((x + 1) * 2 ^ 0 : Nat) : Int) - 1 ≤ r.X1 ∧ r.Y0 ≤ ((y * 2 ^ 0 : Nat) : Int) ∧ (((y + 1) * 2 ^ 0 : Nat) : Int) - 1 ≤ r.Y1 := by
  simp only [Nat.pow_zero, Nat.mul_one] at *
  omega
/-- Level k is the last: of one pixel, and none ahead is. -/
def LD.Top (l : LD) (k : Nat) : Prop := (l.lev k).W = 1 ∧ (l.lev k).H = 1 ∧ ∀ j, j < k → ¬ ((l.lev j).W = 1 ∧ (l.lev j).H = 1)
theorem LD.Top.fn {l : LD} {k j : Nat} (h : l.Top k) (h' : l.Top j) : k = j := by
  obtain ⟨a, b, c⟩ := h
  obtain ⟨d, e, f⟩ := h'
  rcases Nat.lt_trichotomy k j with h | h | h
  · exact absurd ⟨a, b⟩ (f k h)
  · exact h
  · exact absurd ⟨d, e⟩ (c j h)
theorem LD.lev_pos {l : LD} (h1 : 1 ≤ l.W) (h2 : 1 ≤ l.H) : ∀ k, 1 ≤ (l.lev k).W ∧ 1 ≤ (l.lev k).H
  | 0 => ⟨h1, h2⟩
  | k + 1 => by
    have := LD.lev_pos h1 h2 k
    show 1 ≤ ((l.lev k).W + 1) / 2 ∧ 1 ≤ ((l.lev k).H + 1) / 2
    omega
theorem LD.lev_small {l : LD} (h1 : l.W ≤ 64) (h2 : l.H ≤ 64) : ∀ k, (l.lev k).W ≤ 64 ∧ (l.lev k).H ≤ 64
  | 0 => ⟨h1, h2⟩
  | k + 1 => by
    have := LD.lev_small h1 h2 k
    show ((l.lev k).W + 1) / 2 ≤ 64 ∧ ((l.lev k).H + 1) / 2 ≤ 64
    omega
theorem LD.lev_max {l : LD} (h1 : l.W ≤ 64) (h2 : l.H ≤ 64) (k : Nat) (hk : k ≤ 6) : (l.lev k).W ≤ 2 ^ (6 - k) ∧ (l.lev k).H ≤ 2 ^ (6 - k) := by
  induction k with
  | zero => exact ⟨h1, h2⟩
  | succ k ih =>
    obtain ⟨a, b⟩ := ih (by omega)
    show ((l.lev k).W + 1) / 2 ≤ _ ∧ ((l.lev k).H + 1) / 2 ≤ _
    have e : 2 ^ (6 - k) = 2 * 2 ^ (6 - (k + 1)) := by rw [show 6 - k = (6 - (k + 1)) + 1 by omega, Nat.pow_succ]; omega
    omega
/-- The loop of build: as long as the level is of more than one pixel there are fewer than six behind. -/
theorem LD.more {l : LD} (h1 : l.W ≤ 64) (h2 : l.H ≤ 64) {k : Nat} (hk : k ≤ 6) (h : 1 < (l.lev k).W ∨ 1 < (l.lev k).H) : k < 6 := by
  obtain ⟨a, b⟩ := LD.lev_max h1 h2 k hk
  rcases Nat.lt_or_ge k 6 with h' | h'
  · exact h'
  · obtain rfl : k = 6 := by omega
    have e : (2 : Nat) ^ (6 - 6) = 1 := rfl
    omega
end Go.Proofs.Ytibeoeooajelgaa
