/- sched: what follows for pools; plain law, no program. -/
import Derived.Test.YtdilfcpgjkkjmaaPlain
namespace Go.Proofs.Ytdilfcpgjkkjmaa
set_option linter.unusedVariables false
theorem sumTo_skip {f : Nat → Int} {a : Nat} : ∀ {b}, a ≤ b → (∀ i, a ≤ i → i < b → f i = 0) → sumTo f b = sumTo f a
  | 0, h, _ => by rw [show a = 0 from by omega]
  | b + 1, h, hz => by
    by_cases e : a = b + 1
    · rw [e]
    · show sumTo f b + f b = _
      rw [sumTo_skip (b := b) (by omega) fun i h1 h2 => hz i h1 (by omega), hz b (by omega) (by omega)]; omega
theorem sumTo_mono {f : Nat → Int} {n a : Nat} (h0 : ∀ i, i < n → 0 ≤ f i) : ∀ {b}, a ≤ b → b ≤ n → sumTo f a ≤ sumTo f b
  | 0, h, _ => by rw [show a = 0 from by omega]; exact Int.le_refl _
  | b + 1, h, hb => by
    by_cases e : a = b + 1
    · rw [e]; exact Int.le_refl _
    · have := sumTo_mono (a := a) h0 (b := b) (by omega) (by omega)
      have := h0 b (by omega)
      show sumTo f a ≤ sumTo f b + f b
      omega
/-- What is known of a pool that may be. -/
theorem SD.May.parts {s : SD} (h : s.May) : (∀ i, i < s.np → 0 ≤ s.ph i ∧ s.ph i ≤ 16384) ∧ s.np ≤ 16 ∧ 1 ≤ s.nb ∧ s.nb ≤ 64 ∧ (∃ q : Nat, s.p = q ∧ q ≤ s.np) ∧ 0 ≤ s.n ∧ s.n ≤ s.tasks ∧ (∀ i, i < s.nb → -1 ≤ s.bz i ∧ s.bz i < s.n) ∧ s.d = s.n - wk s.bz s.nb ∧ (s.p = s.np ∨ s.d ≠ s.tasks) :=
  ⟨h.1.2, h.1.1, h.2.1.1, h.2.1.2, ⟨s.p.toNat, by have := h.2.2.1; omega, by have := h.2.2.1; omega⟩, h.2.2.2.1.1, h.2.2.2.1.2, h.2.2.2.2.1.1, h.2.2.2.2.2.1, h.2.2.2.2.2.2⟩
theorem SD.tasks_over {s : SD} (h : s.p = s.np) : s.tasks = 0 := if_pos h
theorem SD.tasks_at {s : SD} (h : s.p ≠ s.np) : s.tasks = s.ph s.p.toNat := if_neg h
theorem SD.May.tasks_bd {s : SD} (h : s.May) : 0 ≤ s.tasks ∧ s.tasks ≤ 16384 := by
  obtain ⟨h1, _, _, _, ⟨q, hq, hqn⟩, _⟩ := h.parts
  by_cases e : s.p = s.np
  · rw [SD.tasks_over e]; omega
  · rw [SD.tasks_at e, hq]; exact h1 _ (by omega)
theorem SD.May.over_can {s : SD} (h : s.May) (ho : s.p = s.np) : ∀ i, i < s.nb → s.can i = false := by
  intro i hi
  obtain ⟨_, _, _, _, _, h0, ht, hb, _⟩ := h.parts
  rw [SD.tasks_over ho] at ht
  have := hb i hi
  unfold SD.can
  rw [SD.tasks_over ho]
  simp; omega
theorem SD.May.some_can {s : SD} (h : s.May) (ho : s.p ≠ s.np) : ∃ i, i < s.nb ∧ s.can i = true := by
  obtain ⟨_, _, n1, _, _, h0, ht, hb, hd, hx⟩ := h.parts
  have hx' : s.d ≠ s.tasks := by rcases hx with h | h; exact absurd h ho; exact h
  by_cases c : s.n < s.tasks
  · exact ⟨0, by omega, by unfold SD.can; simp [c]⟩
  · by_cases e : ∀ i, i < s.nb → s.bz i < 0
    · rw [wk_zero e] at hd; omega
    · simp only [Classical.not_forall] at e
      obtain ⟨i, hi, hb⟩ := e
      exact ⟨i, hi, by unfold SD.can; simp; omega⟩
theorem SD.May.ready {s : SD} (h : s.May) : 0 < (rdyL s s.nb).length ↔ s.p ≠ s.np := by
  constructor
  · intro hl ho
    obtain ⟨x, hx⟩ := List.exists_mem_of_length_pos hl
    obtain ⟨i, hi, _, hc⟩ := (rdyL_mem s s.nb x).1 hx
    rw [h.over_can ho i hi] at hc; cases hc
  · intro ho
    obtain ⟨i, hi, hc⟩ := h.some_can ho
    exact List.length_pos_of_mem ((rdyL_mem s s.nb i).2 ⟨i, hi, rfl, hc⟩)
theorem SD.May.left_bd {s : SD} (h : s.May) : 0 ≤ s.left := by
  obtain ⟨h1, _, _, _, ⟨q, hq, hqn⟩, h0, ht, hb, hd, hx⟩ := h.parts
  have hw := wk_le s.bz s.nb
  unfold SD.left
  split
  · omega
  · rename_i ho
    have := sumTo_mono (f := s.ph) (a := s.p.toNat + 1) (fun i hi => (h1 i hi).1) (b := s.np) (by omega) (Nat.le_refl _)
    omega
theorem SD.May.left_over {s : SD} (h : s.May) (ho : s.p = s.np) : s.left = 0 := by
  obtain ⟨_, _, _, _, _, h0, ht, hb, hd, hx⟩ := h.parts
  rw [SD.tasks_over ho] at ht
  unfold SD.left
  rw [if_pos ho, SD.tasks_over ho, wk_zero fun i hi => by have := hb i hi; omega]; omega
theorem SD.May.left_pos {s : SD} (h : s.May) : 0 < s.left ↔ s.p ≠ s.np := by
  constructor
  · intro hl ho; rw [h.left_over ho] at hl; omega
  · intro ho
    obtain ⟨h1, _, _, _, ⟨q, hq, hqn⟩, h0, ht, hb, hd, hx⟩ := h.parts
    have hx' : s.d ≠ s.tasks := by rcases hx with h | h; exact absurd h ho; exact h
    have hw := wk_le s.bz s.nb
    unfold SD.left
    rw [if_neg ho]
    have := sumTo_mono (f := s.ph) (a := s.p.toNat + 1) (fun i hi => (h1 i hi).1) (b := s.np) (by omega) (Nat.le_refl _)
    omega
theorem take_tasks (s : SD) (k : Nat) : (s.take k).tasks = s.tasks := rfl
theorem fin_tasks (s : SD) (k : Nat) : (s.fin k).tasks = s.tasks := rfl
theorem SD.May.take {s : SD} (h : s.May) {k : Nat} (hk : k < s.nb) (hc : s.can k = true) (hb : s.bz k < 0) : (s.take k).May ∧ (s.take k).left = s.left - 1 := by
  obtain ⟨h1, h2, h3, h4, h5, h6, h7⟩ := h
  have hlt : s.n < s.tasks := by unfold SD.can at hc; simp at hc; omega
  have hw : wk (upd1 s.bz k s.n) s.nb = wk s.bz s.nb + 1 := by rw [wk_upd s.bz k s.n s.nb hk, if_neg (by omega), if_pos h4.1]; omega
  refine ⟨⟨h1, h2, h3, ⟨?_, ?_⟩, ⟨fun i hi => ?_, fun i hi j hj h0 => ?_⟩, ?_, ?_⟩, ?_⟩
  · show 0 ≤ s.n + 1; omega
  · show s.n + 1 ≤ s.tasks; omega
  · show -1 ≤ upd1 s.bz k s.n i ∧ upd1 s.bz k s.n i < s.n + 1
    have := h5.1 i hi
    by_cases e : i = k
    · subst e; rw [upd1_at]; omega
    · rw [upd1_ne _ _ e]; omega
  · show upd1 s.bz k s.n i ≠ upd1 s.bz k s.n j
    have hi' : i < s.nb := hi
    have h0' : 0 ≤ upd1 s.bz k s.n i := h0
    have a := h5.1 i hi'
    have b := h5.1 j (by omega)
    by_cases e : i = k
    · subst e
      rw [upd1_at, upd1_ne _ _ (show j ≠ i by omega)]; omega
    · rw [upd1_ne _ _ e] at h0' ⊢
      by_cases e' : j = k
      · subst e'; rw [upd1_at]; omega
      · rw [upd1_ne _ _ e']; exact h5.2 i hi' j hj h0'
  · show s.d = s.n + 1 - wk (upd1 s.bz k s.n) s.nb
    omega
  · exact h7
  · show wk (upd1 s.bz k s.n) s.nb + 2 * (s.tasks - (s.n + 1)) + (if s.p = s.np then 0 else 2 * (sumTo s.ph s.np - sumTo s.ph (s.p.toNat + 1))) = s.left - 1
    rw [hw]
    unfold SD.left
    omega
theorem SD.May.fin_wk {s : SD} (h : s.May) {k : Nat} (hk : k < s.nb) (hb : 0 ≤ s.bz k) : wk (upd1 s.bz k (-1)) s.nb = wk s.bz s.nb - 1 := by
  rw [wk_upd s.bz k (-1) s.nb hk, if_pos hb, if_neg (by omega)]; omega
theorem SD.May.busy_not_over {s : SD} (h : s.May) {k : Nat} (hk : k < s.nb) (hb : 0 ≤ s.bz k) : s.p ≠ s.np := by
  intro ho
  obtain ⟨_, _, _, _, _, h0, ht, hbz, _⟩ := h.parts
  rw [SD.tasks_over ho] at ht
  have := hbz k hk
  omega
theorem SD.May.fin {s : SD} (h : s.May) {k : Nat} (hk : k < s.nb) (hb : 0 ≤ s.bz k) (hd : s.d + 1 ≠ s.tasks) : (s.fin k).May ∧ (s.fin k).left = s.left - 1 := by
  have hw := h.fin_wk hk hb
  obtain ⟨h1, h2, h3, h4, h5, h6, h7⟩ := h
  refine ⟨⟨h1, h2, h3, h4, ⟨fun i hi => ?_, fun i hi j hj h0 => ?_⟩, ?_, ?_⟩, ?_⟩
  · show -1 ≤ upd1 s.bz k (-1) i ∧ upd1 s.bz k (-1) i < s.n
    have := h5.1 i hi
    by_cases e : i = k
    · subst e; rw [upd1_at]; omega
    · rw [upd1_ne _ _ e]; omega
  · show upd1 s.bz k (-1) i ≠ upd1 s.bz k (-1) j
    have hi' : i < s.nb := hi
    have h0' : 0 ≤ upd1 s.bz k (-1) i := h0
    by_cases e : i = k
    · subst e; rw [upd1_at] at h0'; omega
    · rw [upd1_ne _ _ e] at h0' ⊢
      by_cases e' : j = k
      · subst e'; rw [upd1_at]; omega
      · rw [upd1_ne _ _ e']; exact h5.2 i hi' j hj h0'
  · show s.d + 1 = s.n - wk (upd1 s.bz k (-1)) s.nb
    omega
  · exact .inr hd
  · show wk (upd1 s.bz k (-1)) s.nb + 2 * (s.tasks - s.n) + (if s.p = s.np then 0 else 2 * (sumTo s.ph s.np - sumTo s.ph (s.p.toNat + 1))) = s.left - 1
    rw [hw]
    unfold SD.left
    omega
/-- At a phase's end nobody does a task any more. -/
theorem SD.May.end_idle {s : SD} (h : s.May) {k : Nat} (hk : k < s.nb) (hb : 0 ≤ s.bz k) (hd : s.d + 1 = s.tasks) : s.n = s.tasks ∧ wk s.bz s.nb = 1 ∧ ∀ i, i < s.nb → upd1 s.bz k (-1) i < 0 := by
  have hw := h.fin_wk hk hb
  have hw0 := wk_le (upd1 s.bz k (-1)) s.nb
  obtain ⟨_, _, _, _, _, h0, ht, hbz, hd', _⟩ := h.parts
  refine ⟨by omega, by omega, wk_none (by omega)⟩
theorem SD.May.begin {s : SD} (h : s.May) {k j : Nat} (hk : k < s.nb) (hb : 0 ≤ s.bz k) (hd : s.d + 1 = s.tasks) (hj : SkipTo s.ph s.np (s.p + 1).toNat j) : ((s.fin k).begin j).May ∧ ((s.fin k).begin j).left = s.left - 1 := by
  obtain ⟨e1, e2, e3⟩ := h.end_idle hk hb hd
  have ho := h.busy_not_over hk hb
  obtain ⟨h1, h2, h3, h4, ⟨q, hq, hqn⟩, h5, h6, h7, h8, h9⟩ := h.parts
  obtain ⟨j1, j2, j3, j4⟩ := hj
  have hwz : wk (upd1 s.bz k (-1)) s.nb = 0 := wk_zero e3
  have hjn : (((j : Nat) : Int) = (s.np : Int)) ↔ j = s.np := by omega
  have ht : ((s.fin k).begin j).tasks = if j = s.np then 0 else s.ph j := by
    show (if ((j : Nat) : Int) = (s.np : Int) then 0 else s.ph (((j : Nat) : Int)).toNat) = _
    simp only [hjn, Int.toNat_natCast]
  have hb1 : ∀ i, i < s.nb → upd1 s.bz k (-1) i = -1 := by
    intro i hi
    have := e3 i hi
    by_cases e : i = k
    · subst e; exact upd1_at _ _ _
    · rw [upd1_ne _ _ e] at this ⊢
      have := h7 i hi
      omega
  have htp : 0 ≤ ((s.fin k).begin j).tasks := by
    rw [ht]; split
    · omega
    · exact (h1 j (by omega)).1
  refine ⟨⟨⟨h2, h1⟩, ⟨h3, h4⟩, ⟨?_, ?_⟩, ⟨?_, ?_⟩, ⟨fun i hi => ?_, fun i hi x hx h0 => ?_⟩, ?_, ?_⟩, ?_⟩
  · show (0 : Int) ≤ (j : Int); omega
  · show (j : Int) ≤ (s.np : Int); omega
  · show (0 : Int) ≤ 0; omega
  · exact htp
  · show -1 ≤ upd1 s.bz k (-1) i ∧ upd1 s.bz k (-1) i < 0
    rw [hb1 i hi]; omega
  · have h0' : 0 ≤ upd1 s.bz k (-1) i := h0
    rw [hb1 i hi] at h0'; omega
  · show (0 : Int) = 0 - wk (upd1 s.bz k (-1)) s.nb
    omega
  · by_cases e : j = s.np
    · exact .inl (by show (j : Int) = (s.np : Int); omega)
    · refine .inr ?_
      rw [ht, if_neg e]
      exact Ne.symm (j4 (by omega))
  · show wk (upd1 s.bz k (-1)) s.nb + 2 * (((s.fin k).begin j).tasks - 0) + (if ((j : Nat) : Int) = (s.np : Int) then 0 else 2 * (sumTo s.ph s.np - sumTo s.ph (((j : Nat) : Int).toNat + 1))) = s.left - 1
    have hs := sumTo_skip j1 j3
    have hp1 : (s.p + 1).toNat = s.p.toNat + 1 := by omega
    rw [hp1] at hs
    unfold SD.left
    rw [hwz, ht, if_neg ho, e2, ← e1, ← hs]
    simp only [hjn, Int.toNat_natCast]
    by_cases e : j = s.np
    · rw [if_pos e, if_pos e, e]; omega
    · rw [if_neg e, if_neg e]
      show _ + 2 * (_ - 0) + 2 * (_ - (sumTo s.ph j + s.ph j)) = _
      omega
theorem StepV.ok {s t : SD} {x u v : Int} (hm : s.May) (h : StepV s x t u v 0) : t.May ∧ t.left = s.left - 1 ∧ x ∈ rdyL s s.nb := by
  rcases h with ⟨m, _, _, _, e⟩ | ⟨_, _, _, _, _, e⟩ | ⟨_, k, rfl, hk, h⟩
  · cases e
  · cases e
  · rcases h with ⟨_, _, _, _, e⟩ | ⟨c, b, rfl, _⟩ | ⟨c, b, d, rfl, _⟩ | ⟨c, b, d, ⟨j, hj, rfl⟩, _⟩
    · cases e
    · exact ⟨(hm.take hk c b).1, (hm.take hk c b).2, (rdyL_mem s s.nb k).2 ⟨k, hk, rfl, c⟩⟩
    · exact ⟨(hm.fin hk b d).1, (hm.fin hk b d).2, (rdyL_mem s s.nb k).2 ⟨k, hk, rfl, c⟩⟩
    · exact ⟨(hm.begin hk b d hj).1, (hm.begin hk b d hj).2, (rdyL_mem s s.nb k).2 ⟨k, hk, rfl, c⟩⟩
theorem StepV.bad {s t : SD} {x u v e : Int} (hm : s.May) (h : StepV s x t u v e) (he : e ≠ 0) : x ∉ rdyL s s.nb := by
  intro hx
  obtain ⟨i, hi, rfl, hc⟩ := (rdyL_mem s s.nb x).1 hx
  rcases h with ⟨m, _⟩ | ⟨_, q, _⟩ | ⟨_, k, e9, hk, h⟩
  · exact absurd hm m
  · omega
  · obtain rfl : i = k := by omega
    rcases h with ⟨c, _⟩ | ⟨_, _, _, _, _, rfl⟩ | ⟨_, _, _, _, _, _, rfl⟩ | ⟨_, _, _, _, _, _, rfl⟩
    · rw [hc] at c; cases c
    · exact he rfl
    · exact he rfl
    · exact he rfl
/-- What is new may be. -/
theorem SDnew_may {np wn : Nat} {ph : Nat → Int} {j : Nat} (h : SPh np ph) (h1 : 1 ≤ wn) (h2 : wn ≤ 64) (hj : SkipTo ph np 0 j) : (SDnew np ph wn j).May ∧ (SDnew np ph wn j).left = 2 * sumTo ph np := by
  obtain ⟨j1, j2, j3, j4⟩ := hj
  have hjn : (((j : Nat) : Int) = (np : Int)) ↔ j = np := by omega
  have ht : (SDnew np ph wn j).tasks = if j = np then 0 else ph j := by
    show (if ((j : Nat) : Int) = (np : Int) then 0 else ph (((j : Nat) : Int)).toNat) = _
    simp only [hjn, Int.toNat_natCast]
  have hw : wk (fun _ => (-1 : Int)) wn = 0 := wk_zero fun i _ => by decide
  refine ⟨⟨h, ⟨h1, h2⟩, ⟨?_, ?_⟩, ⟨?_, ?_⟩, ⟨fun i hi => ?_, fun i hi x hx h0 => ?_⟩, ?_, ?_⟩, ?_⟩
  · show (0 : Int) ≤ (j : Int); omega
  · show (j : Int) ≤ (np : Int); omega
  · show (0 : Int) ≤ 0; omega
  · rw [ht]; split
    · exact Int.le_refl _
    · exact (h.2 j (by omega)).1
  · show (-1 : Int) ≤ -1 ∧ (-1 : Int) < 0; omega
  · have h0' : (0 : Int) ≤ -1 := h0
    omega
  · show (0 : Int) = 0 - wk (fun _ => (-1 : Int)) wn
    omega
  · by_cases e : j = np
    · exact .inl (by show (j : Int) = (np : Int); omega)
    · refine .inr ?_
      rw [ht, if_neg e]
      exact Ne.symm (j4 (by omega))
  · show wk (fun _ => (-1 : Int)) wn + 2 * ((SDnew np ph wn j).tasks - 0) + (if ((j : Nat) : Int) = (np : Int) then 0 else 2 * (sumTo ph np - sumTo ph (((j : Nat) : Int).toNat + 1))) = _
    have hs : sumTo ph j = 0 := sumTo_skip j1 j3
    rw [hw, ht]
    simp only [hjn, Int.toNat_natCast]
    by_cases e : j = np
    · rw [if_pos e, if_pos e, ← e]; omega
    · rw [if_neg e, if_neg e]
      show _ + 2 * (_ - 0) + 2 * (_ - (sumTo ph j + ph j)) = _
      omega
/-- Which tasks are done. -/
def DoneI (s : SD) (D : Nat → Nat → Bool) : Prop := ∀ q z : Nat, q < s.np → (z : Int) < s.ph q → (D q z = true ↔ ((q : Int) < s.p ∨ ((q : Int) = s.p ∧ (z : Int) < s.n ∧ ∀ i, i < s.nb → s.bz i ≠ z)))
def updD (D : Nat → Nat → Bool) (a b : Nat) : Nat → Nat → Bool := fun q z => if q = a ∧ z = b then true else D q z
theorem DoneI.take {s : SD} {D : Nat → Nat → Bool} (h : DoneI s D) (hm : s.May) {k : Nat} (hk : k < s.nb) (hb : s.bz k < 0) : DoneI (s.take k) D := by
  intro q z hq hz
  rw [h q z hq hz]
  show _ ↔ ((q : Int) < s.p ∨ ((q : Int) = s.p ∧ (z : Int) < s.n + 1 ∧ ∀ i, i < s.nb → upd1 s.bz k s.n i ≠ z))
  have hn := hm.parts.2.2.2.2.2.1
  constructor
  · rintro (a | ⟨a, b, c⟩)
    · exact .inl a
    · refine .inr ⟨a, by omega, fun i hi => ?_⟩
      by_cases e : i = k
      · subst e; rw [upd1_at]; omega
      · rw [upd1_ne _ _ e]; exact c i hi
  · rintro (a | ⟨a, b, c⟩)
    · exact .inl a
    · have c' := c k hk
      rw [upd1_at] at c'
      refine .inr ⟨a, by omega, fun i hi => ?_⟩
      by_cases e : i = k
      · subst e; omega
      · have := c i hi
        rwa [upd1_ne _ _ e] at this
theorem DoneI.fin {s : SD} {D : Nat → Nat → Bool} (h : DoneI s D) (hm : s.May) {k a b : Nat} (hk : k < s.nb) (hb : s.bz k = b) (ha : s.p = a) : DoneI (s.fin k) (updD D a b) := by
  intro q z hq hz
  show (if q = a ∧ z = b then true else D q z) = true ↔ ((q : Int) < s.p ∨ ((q : Int) = s.p ∧ (z : Int) < s.n ∧ ∀ i, i < s.nb → upd1 s.bz k (-1) i ≠ z))
  have hd := hm.2.2.2.2.1
  by_cases e : q = a ∧ z = b
  · rw [if_pos e]
    obtain ⟨rfl, rfl⟩ := e
    refine ⟨fun _ => .inr ⟨ha.symm, by have := hd.1 k hk; omega, fun i hi => ?_⟩, fun _ => rfl⟩
    by_cases e : i = k
    · subst e; rw [upd1_at]; omega
    · rw [upd1_ne _ _ e]
      intro hz
      rcases Nat.lt_trichotomy i k with x | x | x
      · exact hd.2 k hk i x (by omega) (by omega)
      · exact e x
      · exact hd.2 i hi k x (by omega) (by omega)
  · rw [if_neg e, h q z hq hz]
    constructor
    · rintro (x | ⟨x, y, c⟩)
      · exact .inl x
      · refine .inr ⟨x, y, fun i hi => ?_⟩
        by_cases e : i = k
        · subst e; rw [upd1_at]; omega
        · rw [upd1_ne _ _ e]; exact c i hi
    · rintro (x | ⟨x, y, c⟩)
      · exact .inl x
      · refine .inr ⟨x, y, fun i hi => ?_⟩
        by_cases e' : i = k
        · subst e'; omega
        · have := c i hi
          rwa [upd1_ne _ _ e'] at this
theorem DoneI.begin {s : SD} {D : Nat → Nat → Bool} (hm : s.May) {k j : Nat} (hk : k < s.nb) (hb : 0 ≤ s.bz k) (hd : s.d + 1 = s.tasks) (hj : SkipTo s.ph s.np (s.p + 1).toNat j) (h : DoneI (s.fin k) D) : DoneI ((s.fin k).begin j) D := by
  obtain ⟨e1, e2, e3⟩ := hm.end_idle hk hb hd
  have ho := hm.busy_not_over hk hb
  obtain ⟨h1, _, _, _, ⟨p, hp, hpn⟩, _⟩ := hm.parts
  obtain ⟨j1, j2, j3, j4⟩ := hj
  intro q z hq hz
  rw [h q z hq hz]
  show ((q : Int) < s.p ∨ ((q : Int) = s.p ∧ (z : Int) < s.n ∧ ∀ i, i < s.nb → upd1 s.bz k (-1) i ≠ z)) ↔ ((q : Int) < (j : Int) ∨ ((q : Int) = (j : Int) ∧ (z : Int) < 0 ∧ _))
  have hz' : (z : Int) < s.ph q := hz
  constructor
  · rintro (a | ⟨a, b, c⟩)
    · left; omega
    · left; omega
  · rintro (a | ⟨a, b, c⟩)
    · by_cases x : (q : Int) < s.p
      · exact .inl x
      · by_cases y : (q : Int) = s.p
        · refine .inr ⟨y, ?_, fun i hi => ?_⟩
          · rw [e1, SD.tasks_at ho, ← y]; simpa using hz'
          · have := e3 i hi; omega
        · have := j3 q (by omega) (by omega)
          omega
    · omega
theorem DoneI.new {np wn : Nat} {ph : Nat → Int} {j : Nat} (hj : SkipTo ph np 0 j) : DoneI (SDnew np ph wn j) (fun _ _ => false) := by
  intro q z hq hz
  show (false = true) ↔ ((q : Int) < (j : Int) ∨ ((q : Int) = (j : Int) ∧ (z : Int) < 0 ∧ _))
  have hz' : (z : Int) < ph q := hz
  refine ⟨fun h => (by cases h), ?_⟩
  rintro (a | ⟨a, b, c⟩)
  · have := hj.2.2.1 q (by omega) (by omega)
    omega
  · omega
/-- How many are done. -/
def SD.many (s : SD) : Int := sumTo s.ph s.p.toNat + s.d
/-- One step, and the tasks that are done. -/
theorem StepV.done {s t : SD} {x u v : Int} {D : Nat → Nat → Bool} (hm : s.May) (hD : DoneI s D) (h : StepV s x t u v 0) :
    (u = -1 ∧ v = -1 ∧ DoneI t D ∧ t.many = s.many ∧ t.p = s.p) ∨
    ∃ a b : Nat, u = a ∧ v = b ∧ s.p = a ∧ a < s.np ∧ (b : Int) < s.ph a ∧ D a b = false ∧ (∀ q z : Nat, q < a → (z : Int) < s.ph q → D q z = true) ∧ DoneI t (updD D a b) ∧ t.many = s.many + 1 ∧ s.p ≤ t.p := by
  obtain ⟨h1, h2, h3, h4, ⟨p, hp, hpn⟩, h5, h6, h7, h8, h9⟩ := hm.parts
  rcases h with ⟨m, _, _, _, e⟩ | ⟨_, _, _, _, _, e⟩ | ⟨_, k, rfl, hk, h⟩
  · cases e
  · cases e
  · have hpre : 0 ≤ s.bz k → ∃ a b : Nat, s.p = a ∧ s.bz k = b ∧ a < s.np ∧ (b : Int) < s.ph a ∧ D a b = false ∧ (∀ q z : Nat, q < a → (z : Int) < s.ph q → D q z = true) := by
      intro hb
      have ho := hm.busy_not_over hk hb
      have hlt : (((s.bz k).toNat : Nat) : Int) < s.ph p := by
        have := h7 k hk
        rw [SD.tasks_at ho, hp] at h6
        simp at h6
        omega
      refine ⟨p, (s.bz k).toNat, hp, by omega, by omega, hlt, ?_, fun q z hq hz => (hD q z (by omega) hz).2 (.inl (by omega))⟩
      rw [Bool.eq_false_iff]
      intro hd
      rcases (hD p _ (by omega) hlt).1 hd with a | ⟨_, _, c⟩
      · omega
      · exact c k hk (by omega)
    rcases h with ⟨_, _, _, _, e⟩ | ⟨c, b, rfl, rfl, rfl, _⟩ | ⟨c, b, d, rfl, rfl, rfl, _⟩ | ⟨c, b, d, ⟨j, hj, rfl⟩, rfl, rfl, _⟩
    · cases e
    · exact .inl ⟨rfl, rfl, hD.take hm hk b, rfl, rfl⟩
    · obtain ⟨a, b', ea, eb, x1, x2, x3, x4⟩ := hpre b
      refine .inr ⟨a, b', ea, eb, ea, x1, x2, x3, x4, hD.fin hm hk eb ea, ?_, Int.le_refl _⟩
      show sumTo s.ph s.p.toNat + (s.d + 1) = sumTo s.ph s.p.toNat + s.d + 1
      omega
    · obtain ⟨a, b', ea, eb, x1, x2, x3, x4⟩ := hpre b
      refine .inr ⟨a, b', ea, eb, ea, x1, x2, x3, x4, DoneI.begin hm hk b d hj (hD.fin hm hk eb ea), ?_, ?_⟩
      · show sumTo s.ph ((j : Nat) : Int).toNat + 0 = sumTo s.ph s.p.toNat + s.d + 1
        have hs := sumTo_skip hj.1 hj.2.2.1
        have hp1 : (s.p + 1).toNat = s.p.toNat + 1 := by omega
        rw [hp1] at hs
        have ht := SD.tasks_at (hm.busy_not_over hk b)
        rw [Int.toNat_natCast, hs]
        show sumTo s.ph s.p.toNat + s.ph s.p.toNat + 0 = _
        omega
      · show s.p ≤ (j : Int)
        have := hj.1
        omega
theorem SDnew_many {np wn : Nat} {ph : Nat → Int} {j : Nat} (hj : SkipTo ph np 0 j) : (SDnew np ph wn j).many = 0 := by
  show sumTo ph ((j : Nat) : Int).toNat + 0 = 0
  rw [Int.toNat_natCast, sumTo_skip hj.1 hj.2.2.1]; rfl
end Go.Proofs.Ytdilfcpgjkkjmaa
