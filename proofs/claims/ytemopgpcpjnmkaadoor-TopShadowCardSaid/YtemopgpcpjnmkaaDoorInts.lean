/- Slices of ints: how they read. Over any program. -/
import Derived.Test.YtemopgpcpjnmkaaDoorApp
import Derived.Test.YtemopgpcpjnmkaaDoorArg
namespace Go.Proofs.YtemopgpcpjnmkaaDoor
open Go.RowKit
set_option linter.unusedVariables false

/-- A slice that reads as these numbers. -/
def IS (w : World) (A : Option Addr) (n : Nat) (l : Nat → Int) : Prop :=
  0 < n → ∃ g off, A = some ⟨g, off, none⟩ ∧ g < w.heap.size ∧ ∀ i, i < n → w.cell? ⟨g, off + i, none⟩ = some (.int .i64 (l i))
theorem IS.below {w w' : World} {A : Option Addr} {n : Nat} {l : Nat → Int} (h : IS w A n l) (hb : Below w.heap.size w w') : IS w' A n l := fun hn => by
  obtain ⟨g, off, e, hl, hc⟩ := h hn
  exact ⟨g, off, e, Nat.lt_of_lt_of_le hl hb.size, fun i hi => (hb.cell (p := ⟨g, off + i, none⟩) hl).trans (hc i hi)⟩
theorem IS.take {w : World} {A : Option Addr} {n m : Nat} {l : Nat → Int} (h : IS w A n l) (hm : m ≤ n) : IS w A m l := fun hn => by
  obtain ⟨g, off, e, hl, hc⟩ := h (by omega)
  exact ⟨g, off, e, hl, fun i hi => hc i (by omega)⟩
def iv (x : Int) : Value := .int .i64 x
def cellsI (n : Nat) (l : Nat → Int) : List Value := (List.range n).map fun i => iv (l i)
theorem cellsI_len (n : Nat) (l : Nat → Int) : (cellsI n l).length = n := by simp [cellsI]
theorem cellsI_at {n : Nat} {l : Nat → Int} {i : Nat} (h : i < n) : (cellsI n l)[i]? = some (iv (l i)) := by simp [cellsI, h]
theorem cellsI_one (n : Nat) (l : Nat → Int) : ∀ u ∈ cellsI n l, u.oneCell' = true := by
  intro u hu
  obtain ⟨i, _, rfl⟩ := List.mem_map.1 hu
  rfl
theorem cellsI_succ (n : Nat) (l : Nat → Int) : cellsI (n + 1) l = cellsI n l ++ [iv (l n)] := by
  unfold cellsI; rw [List.range_succ, List.map_append]; rfl
theorem IS.news {w : World} {A : Option Addr} {n : Nat} {l : Nat → Int} (h : IS w A n l) : 0 < n → ∃ ad, A = some ad ∧ ∀ j u, (cellsI n l)[j]? = some u → w.cell? (ad.add j) = some u := by
  intro hn
  obtain ⟨g, off, rfl, hg, hc⟩ := h hn
  refine ⟨_, rfl, fun j u hj => ?_⟩
  have hjn : j < n := by
    have := (List.getElem?_eq_some_iff.1 hj).1
    simpa [cellsI] using this
  rw [cellsI_at hjn] at hj
  rw [← hj, Addr.add_lit, hc j hjn]
  rfl
theorem IS.of_own {w : World} {base e : Nat} {A : Option Addr} {n c : Nat} {cs : List Value} (h : w.ownsRow base e 1 (.slice A n c) n cs) (l : Nat → Int) (hl : ∀ i, i < n → cs[i]? = some (iv (l i))) : IS w A n l := by
  intro hn
  obtain ⟨A', c', e, _, _, hat⟩ := own_at h
  injection e with e1 _ _
  subst e1
  obtain ⟨g, rfl, hb, hg, hc⟩ := hat hn
  refine ⟨g, 0, rfl, hg, fun i hi => ?_⟩
  rw [Nat.zero_add, hc i (by omega), hl i hi]
  rfl
theorem IS.of_cells {w : World} {base e : Nat} {A : Option Addr} {n c : Nat} {l : Nat → Int} (h : w.ownsRow base e 1 (.slice A n c) n (cellsI n l)) : IS w A n l :=
  IS.of_own h l fun i hi => cellsI_at hi
theorem owns_none (w : World) (base e size : Nat) : w.ownsRow base e size (.slice none 0 0) 0 [] := ⟨by simp, .inl ⟨rfl, rfl⟩⟩

/-- An argument of ints. -/
theorem arg_ints {P : Program} {w : World} {v : Value} {t e : TypeId} (ht : P.underlying t = some (.slice e)) (he : P.underlying e = some (.int .i64)) (hk : P.cellsOf e = 1) (h : Arg P w t v) :
    ∃ A n c l, v = .slice A n c ∧ (n ≤ c ∧ c ≤ maxLen) ∧ (∀ i, -9223372036854775808 ≤ l i ∧ l i ≤ 9223372036854775807) ∧ IS w A n l := by
  obtain ⟨A, n, c, rfl, hr⟩ := h.slice ht
  obtain ⟨A', n', c', e', hnc, hcm, hat⟩ := hr.slice ht (by omega)
  simp only [List.cons.injEq, Value.slice.injEq, and_true] at e'
  obtain ⟨rfl, rfl, rfl⟩ := e'
  rcases Nat.eq_zero_or_pos n with rfl | hn
  · exact ⟨A, 0, c, fun _ => 0, rfl, ⟨hnc, hcm⟩, fun _ => (by decide : (-9223372036854775808:Int) ≤ 0 ∧ (0:Int) ≤ 9223372036854775807), fun h => absurd h (by omega)⟩
  · obtain ⟨g, off, rfl, hg, hc⟩ := hat (by omega)
    have hx : ∀ i, ∃ x : Int, (-9223372036854775808 ≤ x ∧ x ≤ 9223372036854775807) ∧ (i < n → w.cell? ⟨g, off + i, none⟩ = some (.int .i64 x)) := by
      intro i
      by_cases hi : i < n
      · obtain ⟨cs', hl, hcell, hrd⟩ := hc i (by omega)
        obtain ⟨x, rfl, hwf⟩ := hrd.int he
        have hb : -9223372036854775808 ≤ x ∧ x ≤ 9223372036854775807 := by
          simp [Lit.wf, IntKind.min, IntKind.max, IntKind.bits, IntKind.signed] at hwf
          omega
        have h0 := hcell 0 (by omega)
        rw [hk] at h0
        simp only [Nat.mul_one, Nat.add_zero] at h0
        exact ⟨x, hb, fun _ => by rw [h0]; rfl⟩
      · exact ⟨0, by constructor <;> decide, fun h => absurd h hi⟩
    obtain ⟨b, hb⟩ := Classical.axiomOfChoice hx
    exact ⟨_, n, c, b, rfl, ⟨hnc, hcm⟩, fun i => (hb i).1, fun _ => ⟨g, off, rfl, hg, fun i hi => (hb i).2 hi⟩⟩
end Go.Proofs.YtemopgpcpjnmkaaDoor
