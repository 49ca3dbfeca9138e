/- Slices of elements of s cells: how they read, over any program. -/
import Derived.Test.YtemopgpcpjnmkaaDoorApp
import Derived.Test.YtemopgpcpjnmkaaDoorArg
namespace Go.Proofs.YtemopgpcpjnmkaaDoor
open Go.RowKit
set_option linter.unusedVariables false

/-- A slice of n elements of s cells each, that reads as F. -/
def Row (w : World) (A : Option Addr) (n s : Nat) (F : Nat → Nat → Value) : Prop :=
  0 < n → ∃ g off, A = some ⟨g, off, none⟩ ∧ g < w.heap.size ∧ ∀ i, i < n → ∀ j, j < s → w.cell? ⟨g, off + i * s + j, none⟩ = some (F i j)
section
variable {w w' : World} {A : Option Addr} {n s : Nat} {F G : Nat → Nat → Value}
theorem Row.below (h : Row w A n s F) (hb : Below w.heap.size w w') : Row w' A n s F := fun hn => by
  obtain ⟨g, off, e, hl, hc⟩ := h hn
  exact ⟨g, off, e, Nat.lt_of_lt_of_le hl hb.size, fun i hi j hj => (hb.cell (p := ⟨g, off + i * s + j, none⟩) hl).trans (hc i hi j hj)⟩
theorem Row.take {m : Nat} (h : Row w A n s F) (hm : m ≤ n) : Row w A m s F := fun hn => by
  obtain ⟨g, off, e, hl, hc⟩ := h (by omega)
  exact ⟨g, off, e, hl, fun i hi => hc i (by omega)⟩
theorem Row.congr (h : Row w A n s F) (he : ∀ i, i < n → ∀ j, j < s → F i j = G i j) : Row w A n s G := fun hn => by
  obtain ⟨g, off, e, hl, hc⟩ := h hn
  exact ⟨g, off, e, hl, fun i hi j hj => by rw [hc i hi j hj, he i hi j hj]⟩
theorem Row.zero (w : World) (A : Option Addr) (s : Nat) (F : Nat → Nat → Value) : Row w A 0 s F := fun h => absurd h (Nat.lt_irrefl 0)
theorem Row.drew (h : Row w A n s F) : Row w.drew A n s F := h
theorem Row.drewN (h : Row w A n s F) (q : Nat) : Row (w.drewN q) A n s F := h

/-- The cells of n such elements. -/
def cellsR (s : Nat) (F : Nat → Nat → Value) : Nat → List Value
  | 0 => []
  | k + 1 => cellsR s F k ++ (List.range s).map (F k)
theorem cellsR_succ (s : Nat) (F : Nat → Nat → Value) (k : Nat) : cellsR s F (k + 1) = cellsR s F k ++ (List.range s).map (F k) := rfl
theorem cellsR_len (s : Nat) (F : Nat → Nat → Value) : ∀ k, (cellsR s F k).length = k * s
  | 0 => by simp [cellsR]
  | k + 1 => by rw [cellsR_succ, List.length_append, cellsR_len s F k, Nat.succ_mul]; simp
theorem cellsR_at {s : Nat} {F : Nat → Nat → Value} : ∀ {k i j : Nat}, i < k → j < s → (cellsR s F k)[i * s + j]? = some (F i j)
  | 0, i, j, h, _ => by omega
  | k + 1, i, j, h, hj => by
    have hl := cellsR_len s F k
    rw [cellsR_succ]
    by_cases e : i = k
    · subst e
      rw [List.getElem?_append_right (by omega), hl, show i * s + j - i * s = j from by omega]
      simp [hj]
    · have hik : i + 1 ≤ k := by omega
      have := Nat.mul_le_mul_right s hik
      rw [Nat.succ_mul] at this
      rw [List.getElem?_append_left (by omega)]
      exact cellsR_at (by omega) hj
theorem cellsR_congr {s k : Nat} (h : ∀ i, i < k → ∀ j, j < s → F i j = G i j) : cellsR s F k = cellsR s G k := by
  induction k with
  | zero => rfl
  | succ k ih =>
    rw [cellsR_succ, cellsR_succ, ih fun i hi => h i (by omega)]
    congr 1
    exact List.map_congr_left fun j hj => h k (by omega) j (List.mem_range.1 hj)
theorem cellsR_one {s : Nat} {F : Nat → Nat → Value} (h1 : ∀ i j, (F i j).oneCell' = true) : ∀ k, ∀ u ∈ cellsR s F k, u.oneCell' = true
  | 0, u, hu => by simp [cellsR] at hu
  | k + 1, u, hu => by
    rw [cellsR_succ, List.mem_append] at hu
    rcases hu with hu | hu
    · exact cellsR_one h1 k u hu
    · obtain ⟨j, _, rfl⟩ := List.mem_map.1 hu
      exact h1 k j
theorem Row.news (hs : 0 < s) (h : Row w A n s F) : 0 < n → ∃ ad, A = some ad ∧ ∀ j u, (cellsR s F n)[j]? = some u → w.cell? (ad.add j) = some u := by
  intro hn
  obtain ⟨g, off, rfl, hg, hc⟩ := h hn
  refine ⟨_, rfl, fun q u hj => ?_⟩
  have hq : q < n * s := by
    have := (List.getElem?_eq_some_iff.1 hj).1
    rwa [cellsR_len] at this
  have hd : q / s < n := Nat.div_lt_of_lt_mul (by rw [Nat.mul_comm]; exact hq)
  have hm : q % s < s := Nat.mod_lt _ hs
  have he : q / s * s + q % s = q := by rw [Nat.mul_comm]; exact Nat.div_add_mod q s
  have h1 := cellsR_at (F := F) hd hm
  rw [he] at h1
  rw [hj] at h1
  have h2 := hc (q / s) hd (q % s) hm
  rw [Nat.add_assoc, he] at h2
  rw [Addr.add_lit, h2, h1]
theorem Row.of_own {base e c : Nat} {cs : List Value} (h : w.ownsRow base e s (.slice A n c) n cs) (hl : ∀ i, i < n → ∀ j, j < s → cs[i * s + j]? = some (F i j)) : Row w A n s F := by
  intro hn
  obtain ⟨A', c', e, _, _, hat⟩ := own_at h
  injection e with e1 _ _
  subst e1
  obtain ⟨g, rfl, hb, hg, hc⟩ := hat hn
  refine ⟨g, 0, rfl, hg, fun i hi j hj => ?_⟩
  have hik : i + 1 ≤ n := hi
  have := Nat.mul_le_mul_right s hik
  rw [Nat.succ_mul] at this
  rw [Nat.zero_add, hc (i * s + j) (by omega), hl i hi j hj]
theorem Row.of_cells {base e c : Nat} (h : w.ownsRow base e s (.slice A n c) n (cellsR s F n)) : Row w A n s F :=
  Row.of_own h fun i hi j hj => cellsR_at hi hj
theorem Row.of_blk {g : Nat} {t : TypeId} {cs : Array Value} (h : HasBlk w g t cs) (hl : ∀ i, i < n → ∀ j, j < s → cs[i * s + j]? = some (F i j)) : Row w (some ⟨g, 0, none⟩) n s F := by
  intro hn
  refine ⟨g, 0, rfl, h.lt, fun i hi j hj => ?_⟩
  rw [Nat.zero_add, h.cell, hl i hi j hj]
theorem own_nil (w : World) (base e s : Nat) : w.ownsRow base e s (.slice none 0 0) 0 [] := ⟨by simp, .inl ⟨rfl, rfl⟩⟩
end
/-- An argument that is such a slice. -/
theorem arg_rows {P : Program} {w : World} {v : Value} {t e : TypeId} (s : Nat) (Q : (Nat → Value) → Prop) (ht : P.underlying t = some (.slice e)) (hk : P.cellsOf e = s) (hs : 0 < s)
    (hq : ∀ cs, cs.length = s → Rd P w e cs → Q fun j => cs.getD j undef) (hq0 : ∃ f, Q f) (h : Rd P w t [v]) :
    ∃ A n c F, v = .slice A n c ∧ (n ≤ c ∧ c ≤ maxLen) ∧ (∀ i, Q (F i)) ∧ Row w A n s F := by
  obtain ⟨A, n, c, e', hnc, hcm, hat⟩ := h.slice ht (by omega)
  simp only [List.cons.injEq, and_true] at e'
  subst e'
  obtain ⟨f0, hf0⟩ := hq0
  rcases Nat.eq_zero_or_pos n with rfl | hn
  · exact ⟨A, 0, c, fun _ => f0, rfl, ⟨hnc, hcm⟩, fun _ => hf0, Row.zero _ _ _ _⟩
  · obtain ⟨g, off, rfl, hg, hc⟩ := hat (by omega)
    have hx : ∀ i, ∃ f : Nat → Value, Q f ∧ (i < n → ∀ j, j < s → w.cell? ⟨g, off + i * s + j, none⟩ = some (f j)) := by
      intro i
      by_cases hi : i < n
      · obtain ⟨cs', hl, hcell, hrd⟩ := hc i (by omega)
        rw [hk] at hl hcell
        refine ⟨_, hq cs' hl hrd, fun _ j hj => ?_⟩
        rw [hcell j hj, List.getElem?_eq_getElem (by omega)]
        simp [List.getD, List.getElem?_eq_getElem (show j < cs'.length by omega)]
      · exact ⟨f0, hf0, fun h => absurd h hi⟩
    obtain ⟨F, hF⟩ := Classical.axiomOfChoice hx
    exact ⟨_, n, c, F, rfl, ⟨hnc, hcm⟩, fun i => (hF i).1, fun _ => ⟨g, off, rfl, hg, fun i hi j hj => (hF i).2 hi j hj⟩⟩
end Go.Proofs.YtemopgpcpjnmkaaDoor
