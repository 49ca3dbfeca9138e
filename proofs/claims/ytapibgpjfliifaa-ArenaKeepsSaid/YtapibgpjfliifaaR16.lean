/- ArenaKeeps: the plain law of what was given and what lives. -/
import Derived.Test.YtapibgpjfliifaaR14
import Derived.Test.YtapibgpjfliifaaR8
namespace Go.Proofs.Ytapibgpjfliifaa
open Go.RowKit
set_option linter.unusedVariables false

/-- m handles (S, Q) were given; lv tells which are held. -/
def KInv (m : Nat) (S Q : Nat → Int) (lv : Nat → Bool) (n : Nat) (g : Nat → Int) (b : Nat → Bool) : Prop :=
  MayA n g ∧ (∀ i, i < m → 0 ≤ S i ∧ S i < n ∧ Q i ≤ g (S i).toNat) ∧ (∀ i, i < m → (lv i = true ↔ (g (S i).toNat = Q i ∧ b (S i).toNat = true))) ∧ (∀ i j, i < m → j < m → S i = S j → Q i = Q j → i = j)
theorem KInv.zero {n : Nat} {g : Nat → Int} {b : Nat → Bool} (S Q : Nat → Int) (lv : Nat → Bool) (h : MayA n g) : KInv 0 S Q lv n g b :=
  ⟨h, fun i hi => absurd hi (by omega), fun i hi => absurd hi (by omega), fun i j hi => absurd hi (by omega)⟩
theorem KInv.holds {m n : Nat} {S Q : Nat → Int} {lv : Nat → Bool} {g : Nat → Int} {b : Nat → Bool} (h : KInv m S Q lv n g b) {i : Nat} (hi : i < m) : HoldsA n g b (S i) (Q i) ↔ lv i = true := by
  obtain ⟨h0, h1, h2, _⟩ := h
  obtain ⟨a, c, _⟩ := h1 i hi
  rw [h2 i hi]
  exact ⟨fun ⟨_, _, _, x, y⟩ => ⟨x, y⟩, fun ⟨x, y⟩ => ⟨h0, a, c, x, y⟩⟩
theorem KInv.held {m n : Nat} {S Q : Nat → Int} {lv : Nat → Bool} {g : Nat → Int} {b : Nat → Bool} (h : KInv m S Q lv n g b) {i : Nat} (hi : i < m) : HeldA n g b (S i) (Q i) ↔ lv i = true := by
  rw [← h.holds hi]
  exact ⟨fun x => ⟨h.1, x⟩, fun x => x.2⟩
theorem may_made {n k n' : Nat} {g g' : Nat → Int} {b b' : Nat → Bool} (h : MayA n g) (hm : Made n g b k n' g' b') : MayA n' g' := by
  rcases hm with ⟨hk, hf, _, rfl, rfl, rfl⟩ | ⟨rfl, hl, _, rfl, rfl, rfl⟩
  · refine ⟨h.1, fun i hi => ?_⟩
    by_cases e : i = k
    · subst e
      rw [upd_at]
      have h1 := h.2 i hi
      unfold freeS at hf
      unfold okS at h1 ⊢
      simp at hf h1 ⊢
      omega
    · rw [upd_ne _ _ e]; exact h.2 i hi
  · refine ⟨by omega, fun i hi => ?_⟩
    by_cases e : i = k
    · subst e
      rw [upd_at]; decide
    · rw [upd_ne _ _ e]; exact h.2 i (by omega)
theorem made_lt {n k n' : Nat} {g g' : Nat → Int} {b b' : Nat → Bool} (hm : Made n g b k n' g' b') : k < n' ∧ b' k = true ∧ n ≤ n' ∧ n' ≤ n + 1 := by
  rcases hm with ⟨hk, hf, _, rfl, rfl, rfl⟩ | ⟨rfl, hl, _, rfl, rfl, rfl⟩ <;> exact ⟨by omega, upd_at _ _ _, by omega, by omega⟩
theorem KInv.fresh {m n k n' : Nat} {S Q : Nat → Int} {lv : Nat → Bool} {g g' : Nat → Int} {b b' : Nat → Bool} (h : KInv m S Q lv n g b) (hm : Made n g b k n' g' b') {i : Nat} (hi : i < m) : ¬ (S i = k ∧ Q i = g' k) := by
  rintro ⟨e1, e2⟩
  obtain ⟨a, c, d⟩ := h.2.1 i hi
  rcases hm with ⟨hk, hf, _, rfl, rfl, rfl⟩ | ⟨rfl, hl, _, rfl, rfl, rfl⟩
  · rw [upd_at] at e2
    rw [e1, Int.toNat_natCast] at d
    omega
  · omega
theorem KInv.nothold {n k n' : Nat} {g g' : Nat → Int} {b b' : Nat → Bool} (hm : Made n g b k n' g' b') : ¬ HoldsA n g b k (g' k) := by
  rintro ⟨_, _, a, e, f⟩
  rw [Int.toNat_natCast] at e f
  rcases hm with ⟨hk, hf, _, rfl, rfl, rfl⟩ | ⟨rfl, hl, _, rfl, rfl, rfl⟩
  · rw [upd_at] at e; omega
  · omega
theorem KInv.make {m n k n' : Nat} {S Q : Nat → Int} {lv : Nat → Bool} {g g' : Nat → Int} {b b' : Nat → Bool} (h : KInv m S Q lv n g b) (hm : Made n g b k n' g' b') : KInv (m + 1) (upd S m k) (upd Q m (g' k)) (upd lv m true) n' g' b' := by
  have hf := fun i hi => h.fresh hm (i := i) hi
  obtain ⟨hk, hbk, hnn, _⟩ := made_lt hm
  refine ⟨may_made h.1 hm, fun i hi => ?_, fun i hi => ?_, fun i j hi hj e1 e2 => ?_⟩
  · by_cases e : i = m
    · subst e
      rw [upd_at, upd_at, Int.toNat_natCast]
      omega
    · rw [upd_ne _ _ e, upd_ne _ _ e]
      obtain ⟨a, c, d⟩ := h.2.1 i (by omega)
      refine ⟨a, by omega, ?_⟩
      rcases hm with ⟨hk, hf, _, rfl, rfl, rfl⟩ | ⟨rfl, hl, _, rfl, rfl, rfl⟩
      · by_cases e : (S i).toNat = k
        · rw [e, upd_at]; rw [e] at d; omega
        · rw [upd_ne _ _ e]; exact d
      · rw [upd_ne _ _ (by omega)]; exact d
  · by_cases e : i = m
    · subst e
      rw [upd_at, upd_at, upd_at, Int.toNat_natCast]
      simp [hbk]
    · rw [upd_ne _ _ e, upd_ne _ _ e, upd_ne _ _ e]
      obtain ⟨a, c, d⟩ := h.2.1 i (by omega)
      have h2 := h.2.2.1 i (by omega)
      rw [h2]
      rcases hm with ⟨hk, hfr, _, rfl, rfl, rfl⟩ | ⟨rfl, hl, _, rfl, rfl, rfl⟩
      · by_cases e : (S i).toNat = k
        · rw [e, upd_at, upd_at]
          rw [e] at d
          unfold freeS at hfr
          simp at hfr
          constructor
          · rintro ⟨_, h⟩; rw [hfr.1] at h; cases h
          · rintro ⟨h, _⟩; omega
        · rw [upd_ne _ _ e, upd_ne _ _ e]
      · rw [upd_ne _ _ (by omega), upd_ne _ _ (by omega)]
  · by_cases ei : i = m
    · subst ei
      by_cases ej : j = i
      · exact ej.symm
      · rw [upd_at, upd_ne _ _ ej] at e1
        rw [upd_at, upd_ne _ _ ej] at e2
        exact absurd ⟨e1.symm, e2.symm⟩ (hf j (by omega))
    · by_cases ej : j = m
      · subst ej
        rw [upd_at, upd_ne _ _ ei] at e1
        rw [upd_at, upd_ne _ _ ei] at e2
        exact absurd ⟨e1, e2⟩ (hf i (by omega))
      · rw [upd_ne _ _ ei, upd_ne _ _ ej] at e1
        rw [upd_ne _ _ ei, upd_ne _ _ ej] at e2
        exact h.2.2.2 i j (by omega) (by omega) e1 e2
theorem KInv.kill {m n j : Nat} {S Q : Nat → Int} {lv : Nat → Bool} {g : Nat → Int} {b : Nat → Bool} (h : KInv m S Q lv n g b) (hj : j < m) (hl : lv j = true) : KInv m S Q (upd lv j false) n g (upd b (S j).toNat false) := by
  obtain ⟨h0, h1, h2, h3⟩ := h
  have hj2 := (h2 j hj).1 hl
  refine ⟨h0, h1, fun i hi => ?_, h3⟩
  obtain ⟨a, c, d⟩ := h1 i hi
  obtain ⟨a', c', d'⟩ := h1 j hj
  by_cases e : i = j
  · subst e
    rw [upd_at, upd_at]
    simp
  · rw [upd_ne _ _ e, h2 i hi]
    by_cases es : (S i).toNat = (S j).toNat
    · have es' : S i = S j := by omega
      rw [es, upd_at]
      constructor
      · rintro ⟨x, _⟩
        exact absurd (h3 i j hi hj es' (by rw [← x]; exact hj2.1)) e
      · rintro ⟨_, y⟩; cases y
    · rw [upd_ne _ _ es]
theorem KInv.lapse {m n j : Nat} {S Q : Nat → Int} {lv : Nat → Bool} {g : Nat → Int} {b : Nat → Bool} (h : KInv m S Q lv n g b) (hl : lv j = false) : KInv m S Q (upd lv j false) n g b := by
  have e : upd lv j false = lv := by
    funext i
    unfold upd
    split
    · rename_i e; rw [e, hl]
    · rfl
  rw [e]; exact h

/-- The cells of handles, of marks. -/
def hs (S Q : Nat → Int) (i j : Nat) : Value := if j = 0 then .int .i64 (S i) else .int .i64 (Q i)
def ls (lv : Nat → Bool) (i j : Nat) : Value := .bool (lv i)
theorem hs_grow (m : Nat) (S Q : Nat → Int) (x y : Int) : cellsR 2 (hs (upd S m x) (upd Q m y)) (m + 1) = cellsR 2 (hs S Q) m ++ [.int .i64 x, .int .i64 y] := by
  rw [cellsR_succ]
  have e : cellsR 2 (hs (upd S m x) (upd Q m y)) m = cellsR 2 (hs S Q) m := cellsR_congr fun i hi j hj => by
    unfold hs
    rw [upd_ne _ _ (by omega), upd_ne _ _ (by omega)]
  rw [e]
  simp [List.range, List.range.loop, hs, upd]
theorem ls_grow (m : Nat) (lv : Nat → Bool) (x : Bool) : cellsR 1 (ls (upd lv m x)) (m + 1) = cellsR 1 (ls lv) m ++ [.bool x] := by
  rw [cellsR_succ]
  have e : cellsR 1 (ls (upd lv m x)) m = cellsR 1 (ls lv) m := cellsR_congr fun i hi j hj => by
    unfold ls
    rw [upd_ne _ _ (by omega)]
  rw [e]
  simp [List.range, List.range.loop, ls, upd]
theorem ls_set {m k : Nat} {lv : Nat → Bool} (hk : k < m) (x : Bool) : (cellsR 1 (ls lv) m).set k (.bool x) = cellsR 1 (ls (upd lv k x)) m := by
  have h : (cellsR 1 (ls lv) m).set (k * 1 + 0) (.bool x) = cellsR 1 (ls (upd lv k x)) m :=
    cellsL_set (by omega) hk (by omega) (by simp [ls, upd]) (fun i j' hi hj' hne => by
      unfold ls
      rw [upd_ne _ _ (fun e => hne ⟨e, by omega⟩)])
  simpa using h
theorem own_apart {w : World} {b1 b2 e1 e2 s1 s2 n1 n2 : Nat} {v1 v2 : Value} {x1 x2 : List Value} (h1 : w.ownsRow b1 e1 s1 v1 n1 x1) (h2 : w.ownsRow b2 e2 s2 v2 n2 x2) (hne : e1 ≠ e2) : v1.ownBlock = none ∨ v1.ownBlock ≠ v2.ownBlock := by
  rcases h1.2 with ⟨rfl, _⟩ | ⟨g, cap, cur, rfl, _, hg, _⟩
  · exact .inl rfl
  · right
    intro he
    rcases h2.2 with ⟨rfl, _⟩ | ⟨g', cap', cur', rfl, _, hg', _⟩
    · simp [Value.ownBlock] at he
    · have hgg : g = g' := by simpa [Value.ownBlock] using he
      subst hgg
      rw [hg] at hg'
      injection hg' with hg'
      injection hg' with _ ht
      exact hne ht
theorem bool_info : (Try.prog.info? 4).map (fun i => (i.zero, i.size, i.bytes)) = some (some (.bool false), 1, 1) := by kernel_rfl
end Go.Proofs.Ytapibgpjfliifaa
