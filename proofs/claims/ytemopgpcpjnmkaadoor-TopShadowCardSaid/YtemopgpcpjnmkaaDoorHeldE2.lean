/- XHeldE: a place where two operations may come up. -/
import Derived.Test.YtemopgpcpjnmkaaDoorHeldE
namespace Go.Proofs.YtemopgpcpjnmkaaDoor
set_option linter.unusedVariables false
section
variable {P : Program} {ops : Array Oper} {Q : Exit → Act → World → Prop} {md : Region.Mode} {S : World → Prop} {e : Nat}
theorem wpOp_go {j : Nat} {oi : Oper} {a : Act} {w : World} {R : Act → World → Prop} (hi : ops[j]? = some oi)
    (h : ∀ K : Exit → Act → World → Prop, (∀ a' w', R a' w' → K .normal a' w') → wpList P ops K [oi] a w) : wpOp P ops Q j R a w := by
  have h1 := h (fun x a' w' => x = .normal ∧ R a' w') (fun a' w' h2 => ⟨rfl, h2⟩)
  unfold wpOp
  simp only [hi]
  simp only [wpList] at h1
  split
  · rename_i hw
    rw [if_pos hw] at h1
    rcases h1 with h1 | ⟨_, a', w', h1, _⟩
    · left
      unfold Oper.wp at h1 ⊢
      generalize (execOp a.eval oi).run P w = r at *
      cases r with
      | ok n w' =>
        cases n <;> simp only [Oper.upon] at h1 ⊢
        case value u => exact h1.2
        case skip => exact h1.2
        case defer d => exact h1.2
        case enter f args =>
          refine Calls.mono h1 fun ex w'' he => ?_
          cases ex with
          | returned u => exact he.2
          | panicked c => cases he.1
          | outgrown => obtain ⟨_, _, h2, _⟩ := he; cases h2
        case row row args => exact Rows.mono h1 fun u w'' he => he.2
      | halt x w' =>
        cases x <;> simp only [Oper.upon] at h1 ⊢
        case panic u => cases h1.1
    · cases h1
  · rename_i hw
    rw [if_neg hw] at h1
    exact h1.2
/-- Number i or number j. -/
theorem wpAnyE_two {i j : Nat} {oi oj : Oper} {fuel : Nat} {listed : Array Bool} {a : Act} {w : World} (hi : ops[i]? = some oi) (hj : ops[j]? = some oj) (hr : Region.ready md ops listed = [i, j])
    (h1 : ∀ K : Exit → Act → World → Prop, (∀ a' w', (i ≠ e → S w') → wpAnyE P md ops Q S e fuel (listed.setIfInBounds i true) a' w' → K .normal a' w') → wpList P ops K [oi] a w)
    (h2 : ∀ K : Exit → Act → World → Prop, (∀ a' w', (j ≠ e → S w') → wpAnyE P md ops Q S e fuel (listed.setIfInBounds j true) a' w' → K .normal a' w') → wpList P ops K [oj] a w)
    : wpAnyE P md ops Q S e (fuel + 1) listed a w := by
  refine ⟨fun h0 => (by rw [hr] at h0; cases h0), fun k hk => ?_⟩
  rw [hr] at hk
  obtain rfl | rfl : k = i ∨ k = j := by simpa using hk
  · exact wpOp_go hi (fun K hK => h1 K (fun a' w' q1 q2 => hK a' w' ⟨q1, q2⟩))
  · exact wpOp_go hj (fun K hK => h2 K (fun a' w' q1 q2 => hK a' w' ⟨q1, q2⟩))
/-- Number i first; S stands behind every operation (e is beyond the last). -/
theorem wpAnyE_firstA {i : Nat} {oi : Oper} {v : Value} (hi : ops[i]? = some oi) (hsel : ∀ (j : Nat) (o : Oper) cs b, ops[j]? = some o → o.op ≠ .select cs b) (he : ops.size ≤ e)
    (hQ : ∀ c a w, Q (.panic c) (a.put oi.dst v) w → Q (.panic c) a w) :
    ∀ (fuel : Nat) (listed : Array Bool) (a : Act) (w : World), listed.size = ops.size →
      (∀ j oj, ops[j]? = some oj → j ≠ i → listed.getD j true = false → (∀ x ∈ oj.after, Region.binds md x = true → x.on ≠ i) → oi.apart ops oj = true) →
      i ∈ Region.ready md ops listed → YieldsIf P ops S oi v a → S w →
      wpAnyE P md ops Q S e fuel (listed.setIfInBounds i true) (a.put oi.dst v) w → wpAnyE P md ops Q S e (fuel + 1) listed a w := by
  intro fuel
  induction fuel with
  | zero =>
    intro listed a w _ _ hr hy hS H
    refine ⟨fun h => (by rw [h] at hr; cases hr), fun j hj => ?_⟩
    by_cases hji : j = i
    · subst hji; exact hy.wpOp hi hS ⟨fun _ => hS, H⟩
    · have := ready_mono hj hji
      rw [H.1] at this
      cases this
  | succ fuel ih =>
    intro listed a w hsz hfree hr hy hS H
    refine ⟨fun h => (by rw [h] at hr; cases hr), fun j hj => ?_⟩
    by_cases hji : j = i
    · subst hji; exact hy.wpOp hi hS ⟨fun _ => hS, H⟩
    · have h1 := H.2 j (ready_mono hj hji)
      have hun := (mem_ready.1 hr).1
      obtain ⟨hjun, oj, hoj, hall⟩ := mem_ready.1 hj
      have hje : j ≠ e := fun h => by
        have := (Array.getElem?_eq_some_iff.1 hoj).1
        omega
      have hnot : ∀ x ∈ oj.after, Region.binds md x = true → x.on ≠ i := fun x hx hb heq => by
        have h1 := hall x hx hb
        have h0 := (mem_ready.1 hr).1
        rw [heq] at h1
        rcases Nat.lt_or_ge i listed.size with h' | h'
        · simp [h'] at h0 h1; rw [h0] at h1; cases h1
        · simp [Array.getElem?_eq_none h'] at h1
      have h2 := wpOp_putIf hoj (hfree j oj hoj hji hjun hnot) (fun cs b => hsel i oi cs b hi) (fun cs b => hsel j oj cs b hoj) hQ hy h1
      have hfree' : ∀ k ok, ops[k]? = some ok → k ≠ i → (listed.setIfInBounds j true).getD k true = false →
          (∀ x ∈ ok.after, Region.binds md x = true → x.on ≠ i) → oi.apart ops ok = true := fun k ok hk hki hun hno => by
        refine hfree k ok hk hki ?_ hno
        by_cases hjk : j = k
        · subst hjk; exact hjun
        · rw [getD_set_ne true hjk] at hun; exact hun
      refine wpOp_mono (fun a' w' h3 => ⟨h3.2.1, ih (listed.setIfInBounds j true) a' w' (by simpa using hsz) hfree' (ready_mono hr (Ne.symm hji)) h3.1 (h3.2.1 hje) ?_⟩) h2
      rw [Array.setIfInBounds_comm _ _ hji]
      exact h3.2.2
theorem wpAnyE_takeA {i : Nat} {oi : Oper} {v : Value} {fuel : Nat} {listed : Array Bool} {a : Act} {w : World} (hi : ops[i]? = some oi)
    (hb : (Region.noSelect ops && Region.free md ops listed i && (Region.ready md ops listed).contains i && Nat.ble ops.size e && (listed.size == ops.size)) = true)
    (hQ : ∀ c a w, Q (.panic c) (a.put oi.dst v) w → Q (.panic c) a w) (hy : YieldsIf P ops S oi v a) (hS : S w)
    (h : wpAnyE P md ops Q S e fuel (listed.setIfInBounds i true) (a.put oi.dst v) w) : wpAnyE P md ops Q S e (fuel + 1) listed a w := by
  simp only [Bool.and_eq_true, beq_iff_eq] at hb
  obtain ⟨⟨⟨⟨hs, hf⟩, hr⟩, hw⟩, hz⟩ := hb
  exact wpAnyE_firstA hi (Region.noSelect_spec hs) (Nat.le_of_ble_eq_true hw) hQ fuel listed a w hz (Region.free_spec hi hf) (by simpa using hr) hy hS h
end
end Go.Proofs.YtemopgpcpjnmkaaDoor
