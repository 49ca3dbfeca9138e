/- XHeldE: a place where two operations may come up. -/
import Derived.Test.YtibeoeooajelgaaHeldE
namespace Go.Proofs.Ytibeoeooajelgaa
set_option linter.unusedVariables false
section
variable {P : Program} {ops : Array Oper} {Q : Exit → Act → World → Prop} {md : Region.Mode} {S : World → Prop} {e : Nat}
theorem wpOp_go {j : Nat} {oi : Oper} {a : Act} {w : World} {R : Act → World → Prop} (hi : ops[j]? = some oi)
    (h : ∀ K : Exit → Act → World → Prop, (∀ a' w', R a' w' → K .normal a' w') → wpList P ops K [oi] a w) : wpOp P ops Q j R a w := by
  have h1 := h (fun x a' w' => x = .normal ∧ R a' w') (fun a' w' h2 => ⟨rfl, h2⟩)
  unfold wpOp
  simp only [hi]
  simp only [wpList] at h1
  split
  · rename_i hw
    rw [if_pos hw] at h1
    rcases h1 with h1 | ⟨_, a', w', h1, _⟩
    · left
      unfold Oper.wp at h1 ⊢
      generalize (execOp a.eval oi).run P w = r at *
      cases r with
      | ok n w' =>
        cases n <;> simp only [Oper.upon] at h1 ⊢
        case value u => exact h1.2
        case skip => exact h1.2
        case defer d => exact h1.2
        case enter f args =>
          refine Calls.mono h1 fun ex w'' he => ?_
          cases ex with
          | returned u => exact he.2
          | panicked c => cases he.1
          | outgrown => obtain ⟨_, _, h2, _⟩ := he; cases h2
        case row row args => exact Rows.mono h1 fun u w'' he => he.2
      | halt x w' =>
        cases x <;> simp only [Oper.upon] at h1 ⊢
        case panic u => cases h1.1
    · cases h1
  · rename_i hw
    rw [if_neg hw] at h1
    exact h1.2
/-- Number i or number j. -/
theorem wpAnyE_two {i j : Nat} {oi oj : Oper} {fuel : Nat} {listed : Array Bool} {a : Act} {w : World} (hi : ops[i]? = some oi) (hj : ops[j]? = some oj) (hr : Region.ready md ops listed = [i, j])
    (h1 : ∀ K : Exit → Act → World → Prop, (∀ a' w', (i ≠ e → S w') → wpAnyE P md ops Q S e fuel (listed.setIfInBounds i true) a' w' → K .normal a' w') → wpList P ops K [oi] a w)
    (h2 : ∀ K : Exit → Act → World → Prop, (∀ a' w', (j ≠ e → S w') → wpAnyE P md ops Q S e fuel (listed.setIfInBounds j true) a' w' → K .normal a' w') → wpList P ops K [oj] a w)
    : wpAnyE P md ops Q S e (fuel + 1) listed a w := by
  refine ⟨fun h0 => (by rw [hr] at h0; cases h0), fun k hk => ?_⟩
  rw [hr] at hk
  obtain rfl | rfl : k = i ∨ k = j := by simpa using hk
  · exact wpOp_go hi (fun K hK => h1 K (fun a' w' q1 q2 => hK a' w' ⟨q1, q2⟩))
  · exact wpOp_go hj (fun K hK => h2 K (fun a' w' q1 q2 => hK a' w' ⟨q1, q2⟩))
end
end Go.Proofs.Ytibeoeooajelgaa
