/- pyramid: levels of least numbers; plain law, no program. -/
namespace Go.Proofs.Ytibeoeooajelgaa
set_option linter.unusedVariables false
/-- A level. -/
structure LD where
  W : Nat
  H : Nat
  f : Nat → Nat → Int
/-- The number at a place; the greatest outside. -/
def LD.at (l : LD) (x y : Nat) : Int := if x < l.W ∧ y < l.H then l.f x y else 66560
def LD.nxt (l : LD) : LD := ⟨(l.W + 1) / 2, (l.H + 1) / 2, fun x y => min (min (min (l.at (2 * x) (2 * y)) (l.at (2 * x + 1) (2 * y))) (l.at (2 * x) (2 * y + 1))) (l.at (2 * x + 1) (2 * y + 1))⟩
def LD.lev (l : LD) : Nat → LD
  | 0 => l
  | k + 1 => (l.lev k).nxt
/-- The least of a set of places. -/
def Lst (S : Nat → Nat → Prop) (f : Nat → Nat → Int) (m : Int) : Prop := (∀ a b, S a b → m ≤ f a b) ∧ ∃ a b, S a b ∧ f a b = m
theorem Lst.fn {S : Nat → Nat → Prop} {f : Nat → Nat → Int} {m n : Int} (h : Lst S f m) (k : Lst S f n) : m = n := by
  obtain ⟨h1, a, b, h2, h3⟩ := h
  obtain ⟨k1, c, d, k2, k3⟩ := k
  have := h1 c d k2
  have := k1 a b h2
  omega
def LD.Le (l : LD) : Prop := ∀ x y, x < l.W → y < l.H → l.f x y ≤ 66560
theorem LD.at_in {l : LD} {x y : Nat} (h1 : x < l.W) (h2 : y < l.H) : l.at x y = l.f x y := if_pos ⟨h1, h2⟩
theorem LD.at_out {l : LD} {x y : Nat} (h : ¬ (x < l.W ∧ y < l.H)) : l.at x y = 66560 := if_neg h
theorem LD.nxt_lst {l : LD} (hl : l.Le) {x y : Nat} (h1 : x < l.nxt.W) (h2 : y < l.nxt.H) : Lst (fun a b => a < l.W ∧ b < l.H ∧ a / 2 = x ∧ b / 2 = y) l.f (l.nxt.f x y) := by
  have h1' : 2 * x < l.W := by have : x < (l.W + 1) / 2 := h1; omega
  have h2' : 2 * y < l.H := by have : y < (l.H + 1) / 2 := h2; omega
  have e0 := LD.at_in h1' h2'
  have c0 := hl _ _ h1' h2'
  show Lst _ _ (min (min (min (l.at (2 * x) (2 * y)) (l.at (2 * x + 1) (2 * y))) (l.at (2 * x) (2 * y + 1))) (l.at (2 * x + 1) (2 * y + 1)))
  refine ⟨?_, ?_⟩
  · rintro a b ⟨ha, hb, rfl, rfl⟩
    have hab := LD.at_in ha hb
    obtain e | e : a = 2 * (a / 2) ∨ a = 2 * (a / 2) + 1 := by omega
    all_goals (obtain e' | e' : b = 2 * (b / 2) ∨ b = 2 * (b / 2) + 1 := by omega)
    all_goals (rw [← hab]; generalize hA : a / 2 = A at *; generalize hB : b / 2 = B at *; subst e e'; omega)
  · by_cases hx : 2 * x + 1 < l.W
    · by_cases hy : 2 * y + 1 < l.H
      · have e1 := LD.at_in hx h2'
        have e2 := LD.at_in h1' hy
        have e3 := LD.at_in hx hy
        rw [e0, e1, e2, e3]
        obtain h | h | h | h : min (min (min (l.f (2 * x) (2 * y)) (l.f (2 * x + 1) (2 * y))) (l.f (2 * x) (2 * y + 1))) (l.f (2 * x + 1) (2 * y + 1)) = l.f (2 * x) (2 * y) ∨ min (min (min (l.f (2 * x) (2 * y)) (l.f (2 * x + 1) (2 * y))) (l.f (2 * x) (2 * y + 1))) (l.f (2 * x + 1) (2 * y + 1)) = l.f (2 * x + 1) (2 * y) ∨ min (min (min (l.f (2 * x) (2 * y)) (l.f (2 * x + 1) (2 * y))) (l.f (2 * x) (2 * y + 1))) (l.f (2 * x + 1) (2 * y + 1)) = l.f (2 * x) (2 * y + 1) ∨ min (min (min (l.f (2 * x) (2 * y)) (l.f (2 * x + 1) (2 * y))) (l.f (2 * x) (2 * y + 1))) (l.f (2 * x + 1) (2 * y + 1)) = l.f (2 * x + 1) (2 * y + 1) := by omega
        · exact ⟨_, _, ⟨h1', h2', by omega, by omega⟩, h.symm⟩
        · exact ⟨_, _, ⟨hx, h2', by omega, by omega⟩, h.symm⟩
        · exact ⟨_, _, ⟨h1', hy, by omega, by omega⟩, h.symm⟩
        · exact ⟨_, _, ⟨hx, hy, by omega, by omega⟩, h.symm⟩
      · have e1 := LD.at_in hx h2'
        have e2 := LD.at_out (l := l) (x := 2 * x) (y := 2 * y + 1) (by omega)
        have e3 := LD.at_out (l := l) (x := 2 * x + 1) (y := 2 * y + 1) (by omega)
        rw [e0, e1, e2, e3]
        obtain h | h : min (min (min (l.f (2 * x) (2 * y)) (l.f (2 * x + 1) (2 * y))) 66560) 66560 = l.f (2 * x) (2 * y) ∨ min (min (min (l.f (2 * x) (2 * y)) (l.f (2 * x + 1) (2 * y))) 66560) 66560 = l.f (2 * x + 1) (2 * y) := by omega
        · exact ⟨_, _, ⟨h1', h2', by omega, by omega⟩, h.symm⟩
        · exact ⟨_, _, ⟨hx, h2', by omega, by omega⟩, h.symm⟩
    · have e1 := LD.at_out (l := l) (x := 2 * x + 1) (y := 2 * y) (by omega)
      have e3 := LD.at_out (l := l) (x := 2 * x + 1) (y := 2 * y + 1) (by omega)
      by_cases hy : 2 * y + 1 < l.H
      · have e2 := LD.at_in h1' hy
        rw [e0, e1, e2, e3]
        obtain h | h : min (min (min (l.f (2 * x) (2 * y)) 66560) (l.f (2 * x) (2 * y + 1))) 66560 = l.f (2 * x) (2 * y) ∨ min (min (min (l.f (2 * x) (2 * y)) 66560) (l.f (2 * x) (2 * y + 1))) 66560 = l.f (2 * x) (2 * y + 1) := by omega
        · exact ⟨_, _, ⟨h1', h2', by omega, by omega⟩, h.symm⟩
        · exact ⟨_, _, ⟨h1', hy, by omega, by omega⟩, h.symm⟩
      · have e2 := LD.at_out (l := l) (x := 2 * x) (y := 2 * y + 1) (by omega)
        rw [e0, e1, e2, e3]
        exact ⟨_, _, ⟨h1', h2', by omega, by omega⟩, by omega⟩
theorem LD.nxt_le {l : LD} (hl : l.Le) : l.nxt.Le := fun x y h1 h2 => by
  obtain ⟨_, a, b, ⟨ha, hb, _⟩, h⟩ := LD.nxt_lst hl h1 h2
  rw [← h]
  exact hl a b ha hb
theorem LD.lev_le {l : LD} (hl : l.Le) : ∀ k, (l.lev k).Le
  | 0 => hl
  | k + 1 => LD.nxt_le (LD.lev_le hl k)
theorem LD.lev_W (l : LD) : ∀ k x, x < (l.lev k).W ↔ x * 2 ^ k < l.W
  | 0, x => by simp [LD.lev]
  | k + 1, x => by
    have ih := LD.lev_W l k (2 * x)
    show x < ((l.lev k).W + 1) / 2 ↔ _
    rw [show x * 2 ^ (k + 1) = 2 * x * 2 ^ k by rw [Nat.pow_succ, Nat.mul_comm (2 ^ k) 2, ← Nat.mul_assoc, Nat.mul_comm x 2], ← ih]
    omega
theorem LD.lev_H (l : LD) : ∀ k x, x < (l.lev k).H ↔ x * 2 ^ k < l.H
  | 0, x => by simp [LD.lev]
  | k + 1, x => by
    have ih := LD.lev_H l k (2 * x)
    show x < ((l.lev k).H + 1) / 2 ↔ _
    rw [show x * 2 ^ (k + 1) = 2 * x * 2 ^ k by rw [Nat.pow_succ, Nat.mul_comm (2 ^ k) 2, ← Nat.mul_assoc, Nat.mul_comm x 2], ← ih]
    omega
/-- Each level's number is the least below it. -/
theorem LD.lev_lst {l : LD} (hl : l.Le) : ∀ k x y, x < (l.lev k).W → y < (l.lev k).H → Lst (fun a b => a < l.W ∧ b < l.H ∧ a / 2 ^ k = x ∧ b / 2 ^ k = y) l.f ((l.lev k).f x y)
  | 0, x, y, h1, h2 => by
    refine ⟨?_, x, y, ⟨h1, h2, by simp, by simp⟩, rfl⟩
    rintro a b ⟨_, _, e1, e2⟩
    simp at e1 e2
    subst e1 e2
    exact Int.le_refl _
  | k + 1, x, y, h1, h2 => by
    have hn := LD.nxt_lst (LD.lev_le hl k) h1 h2
    obtain ⟨n1, c, d, ⟨hc, hd, e1, e2⟩, n2⟩ := hn
    have hdv : ∀ a, a / 2 ^ (k + 1) = a / 2 ^ k / 2 := fun a => by rw [Nat.pow_succ, Nat.div_div_eq_div_mul]
    refine ⟨?_, ?_⟩
    · rintro a b ⟨ha, hb, q1, q2⟩
      rw [hdv] at q1 q2
      have w1 : a / 2 ^ k < (l.lev k).W := (LD.lev_W l k _).2 (Nat.lt_of_le_of_lt (Nat.div_mul_le_self _ _) ha)
      have w2 : b / 2 ^ k < (l.lev k).H := (LD.lev_H l k _).2 (Nat.lt_of_le_of_lt (Nat.div_mul_le_self _ _) hb)
      have := n1 _ _ ⟨w1, w2, q1, q2⟩
      have := (LD.lev_lst hl k _ _ w1 w2).1 a b ⟨ha, hb, rfl, rfl⟩
      show ((l.lev k).nxt.f x y) ≤ _
      omega
    · obtain ⟨_, a, b, ⟨ha, hb, q1, q2⟩, q3⟩ := LD.lev_lst hl k c d hc hd
      exact ⟨a, b, ⟨ha, hb, by rw [hdv, q1, e1], by rw [hdv, q2, e2]⟩, q3.trans n2⟩
end Go.Proofs.Ytibeoeooajelgaa
