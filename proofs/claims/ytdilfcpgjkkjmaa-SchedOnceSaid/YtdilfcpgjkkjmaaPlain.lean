/- sched: what a pool is, what becomes of it; plain law, no program. -/
namespace Go.Proofs.Ytdilfcpgjkkjmaa
set_option linter.unusedVariables false
/-- A pool. -/
structure SD where
  np : Nat
  ph : Nat → Int
  p : Int
  n : Int
  nb : Nat
  bz : Nat → Int
  d : Int
def SPh (np : Nat) (ph : Nat → Int) : Prop := np ≤ 16 ∧ ∀ i, i < np → 0 ≤ ph i ∧ ph i ≤ 16384
/-- phased's answer. -/
def PhV (np : Nat) (ph : Nat → Int) (e : Int) : Prop := (16 < np ∧ e = 4) ∨ (np ≤ 16 ∧ (∃ i, i < np ∧ (ph i < 0 ∨ 16384 < ph i)) ∧ e = 2) ∨ (SPh np ph ∧ e = 0)
theorem PhV.fn {np : Nat} {ph : Nat → Int} {e e' : Int} (h : PhV np ph e) (h' : PhV np ph e') : e' = e := by
  rcases h with ⟨a, rfl⟩ | ⟨a, ⟨i, hi, b⟩, rfl⟩ | ⟨⟨a, b⟩, rfl⟩ <;> rcases h' with ⟨a', rfl⟩ | ⟨a', ⟨i', hi', b'⟩, rfl⟩ | ⟨⟨a', b'⟩, rfl⟩ <;> first | rfl | omega | (have := b' i hi; omega) | (have := b i' hi'; omega)
theorem PhV.zero {np : Nat} {ph : Nat → Int} {e : Int} (h : PhV np ph e) : e = 0 ↔ SPh np ph := by
  rcases h with ⟨a, rfl⟩ | ⟨a, ⟨i, hi, b⟩, rfl⟩ | ⟨h, rfl⟩
  · exact ⟨fun h => by omega, fun h => by have := h.1; omega⟩
  · exact ⟨fun h => by omega, fun h => by have := h.2 i hi; omega⟩
  · exact ⟨fun _ => h, fun _ => rfl⟩
/-- How many of the first k do a task. -/
def wk (b : Nat → Int) : Nat → Int
  | 0 => 0
  | k + 1 => wk b k + (if 0 ≤ b k then 1 else 0)
theorem wk_le (b : Nat → Int) : ∀ k, 0 ≤ wk b k ∧ wk b k ≤ k
  | 0 => by simp [wk]
  | k + 1 => by have := wk_le b k; unfold wk; split <;> omega
theorem wk_congr {b b' : Nat → Int} : ∀ {k}, (∀ i, i < k → b' i = b i) → wk b' k = wk b k
  | 0, _ => rfl
  | k + 1, h => by unfold wk; rw [wk_congr (k := k) fun i hi => h i (by omega), h k (by omega)]
theorem wk_zero {b : Nat → Int} : ∀ {k}, (∀ i, i < k → b i < 0) → wk b k = 0
  | 0, _ => rfl
  | k + 1, h => by unfold wk; rw [wk_zero (k := k) fun i hi => h i (by omega), if_neg (by have := h k (by omega); omega)]; rfl
theorem wk_none {b : Nat → Int} : ∀ {k}, wk b k = 0 → ∀ i, i < k → b i < 0
  | 0, _, i, h => by omega
  | k + 1, h, i, hi => by
    have := wk_le b k
    unfold wk at h
    by_cases hb : 0 ≤ b k
    · rw [if_pos hb] at h; omega
    · rw [if_neg hb] at h
      by_cases e : i = k
      · subst e; omega
      · exact wk_none (k := k) (by omega) i (by omega)
def upd1 {α : Type} (f : Nat → α) (k : Nat) (x : α) : Nat → α := fun i => if i = k then x else f i
theorem upd1_at {α : Type} (f : Nat → α) (k : Nat) (x : α) : upd1 f k x k = x := if_pos rfl
theorem upd1_ne {α : Type} (f : Nat → α) {k i : Nat} (x : α) (h : i ≠ k) : upd1 f k x i = f i := if_neg h
theorem wk_upd (b : Nat → Int) (j : Nat) (x : Int) : ∀ k, j < k → wk (upd1 b j x) k = wk b k - (if 0 ≤ b j then 1 else 0) + (if 0 ≤ x then 1 else 0)
  | 0, h => by omega
  | k + 1, h => by
    unfold wk
    by_cases e : j = k
    · subst e
      rw [wk_congr (k := j) (b := b) fun i hi => upd1_ne b x (by omega), upd1_at]; omega
    · rw [wk_upd b j x k (by omega), upd1_ne b x (by omega)]; omega
/-- Is all done? How many tasks has the phase? -/
def SD.over (s : SD) : Prop := s.p = s.np
instance (s : SD) : Decidable s.over := inferInstanceAs (Decidable (s.p = s.np))
def SD.tasks (s : SD) : Int := if s.p = s.np then 0 else s.ph s.p.toNat
def SD.busyOk (s : SD) : Prop := (∀ i, i < s.nb → -1 ≤ s.bz i ∧ s.bz i < s.n) ∧ ∀ i, i < s.nb → ∀ k, k < i → 0 ≤ s.bz i → s.bz i ≠ s.bz k
def SD.May (s : SD) : Prop := SPh s.np s.ph ∧ (1 ≤ s.nb ∧ s.nb ≤ 64) ∧ (0 ≤ s.p ∧ s.p ≤ s.np) ∧ (0 ≤ s.n ∧ s.n ≤ s.tasks) ∧ s.busyOk ∧ s.d = s.n - wk s.bz s.nb ∧ (s.p = s.np ∨ s.d ≠ s.tasks)
/-- Check's answer. -/
def MayV (s : SD) (e : Int) : Prop := (s.May ∧ e = 0) ∨ (¬ s.May ∧ e = 8)
theorem MayV.fn {s : SD} {e e' : Int} (h : MayV s e) (h' : MayV s e') : e' = e := by
  rcases h with ⟨a, rfl⟩ | ⟨a, rfl⟩ <;> rcases h' with ⟨a', rfl⟩ | ⟨a', rfl⟩ <;> first | rfl | exact absurd a a' | exact absurd a' a
/-- The reference's way of saying it. -/
def SD.RMay (s : SD) : Prop := SPh s.np s.ph ∧ (1 ≤ s.nb ∧ s.nb ≤ 64) ∧ (0 ≤ s.p ∧ s.p ≤ s.np) ∧
  ((∀ i, i < s.nb → -1 ≤ s.bz i ∧ s.bz i < max 0 s.n) ∧ ∀ i, i < s.nb → ∀ k, k < i → 0 ≤ s.bz i → s.bz i ≠ s.bz k) ∧
  ((s.p = s.np ∧ s.n = 0 ∧ s.d = 0) ∨ (s.p ≠ s.np ∧ s.ph s.p.toNat ≠ 0 ∧ 0 ≤ s.n ∧ s.n ≤ s.ph s.p.toNat ∧ s.d = s.n - wk s.bz s.nb ∧ s.d < s.ph s.p.toNat))
theorem SD.rmay (s : SD) : s.RMay ↔ s.May := by
  unfold SD.RMay SD.May SD.busyOk SD.tasks
  have hw := wk_le s.bz s.nb
  constructor
  · rintro ⟨h1, h2, h3, ⟨h4, h5⟩, h6⟩
    rcases h6 with ⟨a, b, c⟩ | ⟨a, b, c, d, e, f⟩
    · refine ⟨h1, h2, h3, ?_, ⟨fun i hi => ?_, h5⟩, ?_, .inl a⟩
      · rw [if_pos a]; omega
      · have := h4 i hi; omega
      · rw [wk_zero fun i hi => by have := h4 i hi; omega]; omega
    · rw [if_neg a]
      exact ⟨h1, h2, h3, ⟨c, d⟩, ⟨fun i hi => by have := h4 i hi; omega, h5⟩, e, .inr (by omega)⟩
  · rintro ⟨h1, h2, h3, h4, ⟨h5, h6⟩, h7, h8⟩
    refine ⟨h1, h2, h3, ⟨fun i hi => by have := h5 i hi; omega, h6⟩, ?_⟩
    by_cases a : s.p = s.np
    · rw [if_pos a] at h4
      have hz : s.n = 0 := by omega
      refine .inl ⟨a, hz, ?_⟩
      rw [h7, hz, wk_zero fun i hi => by have := h5 i hi; omega]; rfl
    · rw [if_neg a] at h4 h8
      have h9 : s.d ≠ s.ph s.p.toNat := by rcases h8 with h | h; exact absurd h a; exact h
      refine .inr ⟨a, fun hz => ?_, h4.1, h4.2, h7, by omega⟩
      apply h9
      rw [h7, wk_zero fun i hi => by have := h5 i hi; omega]; omega
/-- The first phase from k on that has a task. -/
def skipTo (ph : Nat → Int) (np : Nat) : Nat → Nat → Nat
  | 0, k => k
  | f + 1, k => if k < np ∧ ph k = 0 then skipTo ph np f (k + 1) else k
theorem skipTo_spec (ph : Nat → Int) (np : Nat) : ∀ f k, np ≤ k + f → k ≤ np → k ≤ skipTo ph np f k ∧ skipTo ph np f k ≤ np ∧ (∀ i, k ≤ i → i < skipTo ph np f k → ph i = 0) ∧ (skipTo ph np f k < np → ph (skipTo ph np f k) ≠ 0)
  | 0, k, h, hk => by unfold skipTo; exact ⟨Nat.le_refl _, hk, fun i h1 h2 => absurd h1 (by omega), fun h => absurd h (by omega)⟩
  | f + 1, k, h, hk => by
    unfold skipTo
    by_cases c : k < np ∧ ph k = 0
    · rw [if_pos c]
      obtain ⟨h1, h2, h3, h4⟩ := skipTo_spec ph np f (k + 1) (by omega) c.1
      refine ⟨by omega, h2, fun i hi hlt => ?_, h4⟩
      by_cases e : i = k
      · subst e; exact c.2
      · exact h3 i (by omega) hlt
    · rw [if_neg c]
      exact ⟨Nat.le_refl _, hk, fun i h1 h2 => absurd h1 (by omega), fun h hz => c ⟨h, hz⟩⟩
/-- Where skipping ends: j is the first one from k on that has a task, or the end. -/
def SkipTo (ph : Nat → Int) (np k j : Nat) : Prop := k ≤ j ∧ j ≤ np ∧ (∀ i, k ≤ i → i < j → ph i = 0) ∧ (j < np → ph j ≠ 0)
theorem SkipTo.fn {ph : Nat → Int} {np k j j' : Nat} (h : SkipTo ph np k j) (h' : SkipTo ph np k j') : j' = j := by
  obtain ⟨a, b, c, d⟩ := h
  obtain ⟨a', b', c', d'⟩ := h'
  rcases Nat.lt_trichotomy j j' with x | x | x
  · exact absurd (c' j a x) (d (by omega))
  · exact x.symm
  · exact absurd (c j' a' x) (d' (by omega))
/-- The pool behind begin. -/
def SD.begin (s : SD) (j : Nat) : SD := ⟨s.np, s.ph, j, 0, s.nb, s.bz, 0⟩
def SDnew (np : Nat) (ph : Nat → Int) (wn : Nat) (j : Nat) : SD := ⟨np, ph, j, 0, wn, fun _ => -1, 0⟩
def SD0 : SD := ⟨0, fun _ => 0, 0, 0, 0, fun _ => 0, 0⟩
/-- New's answer. -/
def NewV (workers : Int) (np : Nat) (ph : Nat → Int) (s : SD) (e : Int) : Prop :=
  ((workers < 1 ∨ 64 < workers) ∧ s = SD0 ∧ e = 2) ∨ (¬ (workers < 1 ∨ 64 < workers) ∧ ((PhV np ph e ∧ e ≠ 0 ∧ s = SD0) ∨ (SPh np ph ∧ e = 0 ∧ ∃ j, SkipTo ph np 0 j ∧ s = SDnew np ph workers.toNat j)))
theorem NewV.fn {wn : Int} {np : Nat} {ph : Nat → Int} {s s' : SD} {e e' : Int} (h : NewV wn np ph s e) (h' : NewV wn np ph s' e') : s' = s ∧ e' = e := by
  rcases h with ⟨a, rfl, rfl⟩ | ⟨a, ⟨b, c, rfl⟩ | ⟨b, rfl, j, hj, rfl⟩⟩ <;> rcases h' with ⟨a', rfl, rfl⟩ | ⟨a', ⟨b', c', rfl⟩ | ⟨b', rfl, j', hj', rfl⟩⟩
  · exact ⟨rfl, rfl⟩
  · exact absurd a a'
  · exact absurd a a'
  · exact absurd a' a
  · exact ⟨rfl, b.fn b'⟩
  · exact absurd (b.zero.2 b') c
  · exact absurd a' a
  · exact absurd (b'.zero.2 b) c'
  · rw [hj.fn hj']; exact ⟨rfl, rfl⟩
/-- Can a worker go on? -/
def SD.can (s : SD) (k : Nat) : Bool := decide (0 ≤ s.bz k) || decide (s.n < s.tasks)
/-- A worker goes on: it takes a task, or ends one. -/
def SD.take (s : SD) (k : Nat) : SD := ⟨s.np, s.ph, s.p, s.n + 1, s.nb, upd1 s.bz k s.n, s.d⟩
def SD.fin (s : SD) (k : Nat) : SD := ⟨s.np, s.ph, s.p, s.n, s.nb, upd1 s.bz k (-1), s.d + 1⟩
/-- Step's answer. -/
def StepV (s : SD) (worker : Int) (t : SD) (u v e : Int) : Prop :=
  (¬ s.May ∧ t = SD0 ∧ u = 0 ∧ v = 0 ∧ e = 8) ∨
  (s.May ∧ (worker < 0 ∨ (s.nb : Int) ≤ worker) ∧ t = SD0 ∧ u = 0 ∧ v = 0 ∧ e = 2) ∨
  (s.May ∧ ∃ k : Nat, worker = k ∧ k < s.nb ∧
    ((s.can k = false ∧ t = SD0 ∧ u = 0 ∧ v = 0 ∧ e = 6) ∨
     (s.can k = true ∧ s.bz k < 0 ∧ t = s.take k ∧ u = -1 ∧ v = -1 ∧ e = 0) ∨
     (s.can k = true ∧ 0 ≤ s.bz k ∧ s.d + 1 ≠ s.tasks ∧ t = s.fin k ∧ u = s.p ∧ v = s.bz k ∧ e = 0) ∨
     (s.can k = true ∧ 0 ≤ s.bz k ∧ s.d + 1 = s.tasks ∧ (∃ j, SkipTo s.ph s.np (s.p + 1).toNat j ∧ t = (s.fin k).begin j) ∧ u = s.p ∧ v = s.bz k ∧ e = 0)))
theorem StepV.fn {s t t' : SD} {wn u v e u' v' e' : Int} (h : StepV s wn t u v e) (h' : StepV s wn t' u' v' e') : t' = t ∧ u' = u ∧ v' = v ∧ e' = e := by
  rcases h with ⟨m, rfl, rfl, rfl, rfl⟩ | ⟨m, x, rfl, rfl, rfl, rfl⟩ | ⟨m, k, rfl, hk, h⟩ <;> rcases h' with ⟨m', rfl, rfl, rfl, rfl⟩ | ⟨m', x', rfl, rfl, rfl, rfl⟩ | ⟨m', k', e9, hk', h'⟩
  · exact ⟨rfl, rfl, rfl, rfl⟩
  · exact absurd m' m
  · exact absurd m' m
  · exact absurd m m'
  · exact ⟨rfl, rfl, rfl, rfl⟩
  · omega
  · exact absurd m m'
  · omega
  · obtain rfl : k = k' := by omega
    rcases h with ⟨c, rfl, rfl, rfl, rfl⟩ | ⟨c, b, rfl, rfl, rfl, rfl⟩ | ⟨c, b, q, rfl, rfl, rfl, rfl⟩ | ⟨c, b, q, ⟨j, hj, rfl⟩, rfl, rfl, rfl⟩ <;> rcases h' with ⟨c', rfl, rfl, rfl, rfl⟩ | ⟨c', b', rfl, rfl, rfl, rfl⟩ | ⟨c', b', q', rfl, rfl, rfl, rfl⟩ | ⟨c', b', q', ⟨j', hj', rfl⟩, rfl, rfl, rfl⟩
    all_goals first
      | exact ⟨rfl, rfl, rfl, rfl⟩
      | (exfalso; omega)
      | (rw [c] at c'; cases c'; done)
      | (rw [hj.fn hj']; exact ⟨rfl, rfl, rfl, rfl⟩)
/-- What is left. -/
def sumTo (f : Nat → Int) : Nat → Int
  | 0 => 0
  | k + 1 => sumTo f k + f k
def SD.left (s : SD) : Int := wk s.bz s.nb + 2 * (s.tasks - s.n) + (if s.p = s.np then 0 else 2 * (sumTo s.ph s.np - sumTo s.ph (s.p.toNat + 1)))
def LeftV (s : SD) (x e : Int) : Prop := (s.May ∧ x = s.left ∧ e = 0) ∨ (¬ s.May ∧ x = 0 ∧ e = 8)
theorem LeftV.fn {s : SD} {x e x' e' : Int} (h : LeftV s x e) (h' : LeftV s x' e') : x' = x ∧ e' = e := by
  rcases h with ⟨a, rfl, rfl⟩ | ⟨a, rfl, rfl⟩ <;> rcases h' with ⟨a', rfl, rfl⟩ | ⟨a', rfl, rfl⟩ <;> first | exact ⟨rfl, rfl⟩ | exact absurd a a' | exact absurd a' a
def EndV (s : SD) (b : Bool) (e : Int) : Prop := (s.May ∧ b = decide (s.p = s.np) ∧ e = 0) ∨ (¬ s.May ∧ b = false ∧ e = 8)
theorem EndV.fn {s : SD} {x x' : Bool} {e e' : Int} (h : EndV s x e) (h' : EndV s x' e') : x' = x ∧ e' = e := by
  rcases h with ⟨a, rfl, rfl⟩ | ⟨a, rfl, rfl⟩ <;> rcases h' with ⟨a', rfl, rfl⟩ | ⟨a', rfl, rfl⟩ <;> first | exact ⟨rfl, rfl⟩ | exact absurd a a' | exact absurd a' a
/-- Those that can go on, of the first k; there are so many. -/
def rdyL (s : SD) : Nat → List Int
  | 0 => []
  | k + 1 => if s.can k then rdyL s k ++ [(k : Int)] else rdyL s k
theorem rdyL_le (s : SD) : ∀ k, (rdyL s k).length ≤ k
  | 0 => by simp [rdyL]
  | k + 1 => by have := rdyL_le s k; unfold rdyL; split <;> (try simp) <;> omega
theorem rdyL_mem (s : SD) : ∀ k x, x ∈ rdyL s k ↔ ∃ i : Nat, i < k ∧ x = i ∧ s.can i = true
  | 0, x => by simp [rdyL]
  | k + 1, x => by
    have ih := rdyL_mem s k x
    unfold rdyL
    by_cases c : s.can k = true
    · rw [if_pos c, List.mem_append, ih]
      constructor
      · rintro (⟨i, h, e, g⟩ | h)
        · exact ⟨i, by omega, e, g⟩
        · exact ⟨k, by omega, by simpa using h, c⟩
      · rintro ⟨i, h, e, g⟩
        by_cases q : i = k
        · right; subst q; simpa using e
        · left; exact ⟨i, by omega, e, g⟩
    · rw [if_neg c, ih]
      constructor
      · rintro ⟨i, h, e, g⟩; exact ⟨i, by omega, e, g⟩
      · rintro ⟨i, h, e, g⟩
        refine ⟨i, ?_, e, g⟩
        rcases Nat.lt_or_ge i k with q | q
        · exact q
        · obtain rfl : i = k := by omega
          exact absurd g c
theorem rdyL_sorted (s : SD) : ∀ k, (rdyL s k).Pairwise (· < ·)
  | 0 => List.Pairwise.nil
  | k + 1 => by
    unfold rdyL
    split
    · rw [List.pairwise_append]
      refine ⟨rdyL_sorted s k, List.pairwise_singleton _ _, fun a ha b hb => ?_⟩
      obtain ⟨i, h, e, _⟩ := (rdyL_mem s k a).1 ha
      have : b = k := by simpa using hb
      omega
    · exact rdyL_sorted s k
def RdyV (s : SD) (l : List Int) (e : Int) : Prop := (s.May ∧ l = rdyL s s.nb ∧ e = 0) ∨ (¬ s.May ∧ l = [] ∧ e = 8)
theorem RdyV.fn {s : SD} {l l' : List Int} {e e' : Int} (h : RdyV s l e) (h' : RdyV s l' e') : l' = l ∧ e' = e := by
  rcases h with ⟨a, rfl, rfl⟩ | ⟨a, rfl, rfl⟩ <;> rcases h' with ⟨a', rfl, rfl⟩ | ⟨a', rfl, rfl⟩ <;> first | exact ⟨rfl, rfl⟩ | exact absurd a a' | exact absurd a' a
end Go.Proofs.Ytdilfcpgjkkjmaa
