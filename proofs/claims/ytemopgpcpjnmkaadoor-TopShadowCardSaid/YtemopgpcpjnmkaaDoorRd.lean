/- How slices read that lie in structs or in slices. Over any program. -/
import Derived.Test.YtemopgpcpjnmkaaDoorRow
import Derived.Test.YtemopgpcpjnmkaaDoorInts
namespace Go.Proofs.YtemopgpcpjnmkaaDoor
open Go.RowKit
set_option linter.unusedVariables false
section
variable {P : Program} {w : World} {t e : TypeId} {cs : List Value}
theorem i64_bounds {n : Int} (h : (Lit.int .i64 n).wf = true) : -9223372036854775808 ≤ n ∧ n ≤ 9223372036854775807 := by
  simp [Lit.wf, IntKind.min, IntKind.max, IntKind.bits, IntKind.signed] at h; omega
theorem u8_bounds {n : Int} (h : (Lit.int .u8 n).wf = true) : 0 ≤ n ∧ n ≤ 255 := by
  simp [Lit.wf, IntKind.min, IntKind.max, IntKind.bits, IntKind.signed] at h; omega
theorem rd_rows (s : Nat) (Q : (Nat → Value) → Prop) (ht : P.underlying t = some (.slice e)) (hk : P.cellsOf e = s) (hs : 0 < s)
    (hq : ∀ cs, cs.length = s → Rd P w e cs → Q fun j => cs.getD j undef) (hq0 : ∃ f, Q f) (h : Rd P w t cs) :
    ∃ A n c F, cs = [.slice A n c] ∧ (n ≤ c ∧ c ≤ maxLen) ∧ (∀ i, Q (F i)) ∧ Row w A n s F := by
  obtain ⟨a, n, c, rfl, _⟩ := h.slice ht (by omega)
  obtain ⟨A, n', c', F, e1, h1⟩ := arg_rows s Q ht hk hs hq hq0 h
  exact ⟨A, n', c', F, by rw [e1], h1⟩
theorem rd_ints (ht : P.underlying t = some (.slice e)) (he : P.underlying e = some (.int .i64)) (hk : P.cellsOf e = 1) (h : Rd P w t cs) :
    ∃ A n c l, cs = [.slice A n c] ∧ (n ≤ c ∧ c ≤ maxLen) ∧ (∀ i, -9223372036854775808 ≤ l i ∧ l i ≤ 9223372036854775807) ∧ IS w A n l := by
  obtain ⟨A, n, c, F, rfl, hnc, hF, hr⟩ := rd_rows 1 (fun f => ∃ x : Int, f 0 = .int .i64 x ∧ -9223372036854775808 ≤ x ∧ x ≤ 9223372036854775807) ht hk (by omega)
    (fun cs hl hr => by
      obtain ⟨x, rfl, hw⟩ := hr.int he
      exact ⟨x, rfl, i64_bounds hw⟩) ⟨fun _ => .int .i64 0, 0, rfl, by decide, by decide⟩ h
  obtain ⟨l, hl⟩ := Classical.axiomOfChoice hF
  refine ⟨A, n, c, l, rfl, hnc, fun i => (hl i).2, fun hn => ?_⟩
  obtain ⟨g, off, hA, hg, hc⟩ := hr hn
  refine ⟨g, off, hA, hg, fun i hi => ?_⟩
  have := hc i hi 0 (by omega)
  rw [(hl i).1] at this
  simpa using this
end
end Go.Proofs.YtemopgpcpjnmkaaDoor
