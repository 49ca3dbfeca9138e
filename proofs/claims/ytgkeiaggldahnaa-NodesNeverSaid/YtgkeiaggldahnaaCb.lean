/- A proposition as a bool, whether or not it can be decided. -/
import Derived.Test.YtgkeiaggldahnaaLib
namespace Go.Proofs.Ytgkeiaggldahnaa
open Go.RowKit
set_option linter.unusedVariables false
noncomputable def cB (p : Prop) : Bool := @decide p (Classical.propDecidable p)
theorem cB_yes {p : Prop} (h : p) : cB p = true := @decide_eq_true p (Classical.propDecidable p) h
theorem cB_no {p : Prop} (h : ¬ p) : cB p = false := @decide_eq_false p (Classical.propDecidable p) h
theorem cB_iff {p : Prop} : cB p = true ↔ p := ⟨fun h => Classical.byContradiction fun hn => (by rw [cB_no hn] at h; cases h), cB_yes⟩
theorem cB_eq {p : Prop} {b : Bool} (h : b = true ↔ p) : b = cB p := by
  cases b with
  | true => exact (cB_yes (h.1 rfl)).symm
  | false => exact (cB_no fun hp => by have := h.2 hp; cases this).symm
theorem cB_congr {p q : Prop} (h : p ↔ q) : cB p = cB q := cB_eq (cB_iff.trans h)
theorem calls_congr {P : Program} {f : FuncId} {a : Array Value} {w : World} {v v' : Value} {Q : World → Prop} (h : Calls P f a w fun e w' => e = .returned v ∧ Q w') (hv : v = v') : Calls P f a w fun e w' => e = .returned v' ∧ Q w' := hv ▸ h
end Go.Proofs.Ytgkeiaggldahnaa
