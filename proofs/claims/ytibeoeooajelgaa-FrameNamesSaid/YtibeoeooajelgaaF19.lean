/- FrameDepths: the plain law. -/
import Derived.Test.YtibeoeooajelgaaF16
import Derived.Test.YtibeoeooajelgaaF18
namespace Go.Proofs.Ytibeoeooajelgaa
open Go.RowKit
set_option linter.unusedVariables false
theorem put_depth {f : FD} (h : f.May) {k : Nat} {d i t : Int} (c : Nat → Int) (hk : k < f.nd) (hs : SomeP d i t) (j : Nat) : f.D j ≤ (f.put k d i t c).D j := by
  unfold FD.put
  split
  · rename_i ho
    show f.D j ≤ upd f.D k d j
    by_cases e : j = k
    · subst e
      rw [upd_at]
      unfold SomeP at hs
      have h3 := h.2.2 j hk
      unfold OkPix SomeP at h3
      unfold FD.Over NearP at ho
      omega
    · rw [upd_ne _ _ e]
      exact Int.le_refl _
  · exact Int.le_refl _
theorem put_at {f : FD} {k : Nat} {d i t : Int} (c : Nat → Int) : d ≤ (f.put k d i t c).D k := by
  unfold FD.put
  split
  · show d ≤ upd f.D k d k
    rw [upd_at]
    exact Int.le_refl _
  · rename_i ho
    unfold FD.Over NearP at ho
    omega
theorem put_else {f : FD} {k : Nat} {d i t : Int} (c : Nat → Int) {j : Nat} (e : j ≠ k) : (f.put k d i t c).D j = f.D j ∧ (f.put k d i t c).I j = f.I j ∧ (f.put k d i t c).T j = f.T j ∧ (f.put k d i t c).C j = f.C j := by
  unfold FD.put
  split
  · exact ⟨upd_ne _ _ e, upd_ne _ _ e, upd_ne _ _ e, upd_ne _ _ e⟩
  · exact ⟨rfl, rfl, rfl, rfl⟩
theorem lay_W (f : FD) (k : Nat) (d : Int) (c : Nat → Int) : (f.lay k d c).W = f.W ∧ (f.lay k d c).H = f.H ∧ (f.lay k d c).nc = f.nc ∧ (f.lay k d c).nd = f.nd ∧ (f.lay k d c).ni = f.ni ∧ (f.lay k d c).nt = f.nt := by
  unfold FD.lay
  split <;> exact ⟨rfl, rfl, rfl, rfl, rfl, rfl⟩
theorem lay_rest (f : FD) (k : Nat) (d : Int) (c : Nat → Int) (j : Nat) : (f.lay k d c).D j = f.D j ∧ (f.lay k d c).I j = f.I j ∧ (f.lay k d c).T j = f.T j ∧ (j ≠ k → (f.lay k d c).C j = f.C j) := by
  unfold FD.lay
  split
  · exact ⟨rfl, rfl, rfl, fun e => upd_ne _ _ e⟩
  · exact ⟨rfl, rfl, rfl, fun _ => rfl⟩
theorem FD.May.lay {f : FD} (h : f.May) (k : Nat) (d : Int) (c : Nat → Int) : (f.lay k d c).May := by
  unfold FD.lay
  split
  · exact h
  · exact h
theorem lay_same {f : FD} {k : Nat} {d : Int} (c : Nat → Int) (h : ¬ (f.I k < 0 ∨ f.D k < d)) : f.lay k d c = f := by
  unfold FD.lay
  rw [if_neg h]
theorem put_out {f g : FD} {x y d i t z : Int} {c : Nat → Int} (h : f.May) (hn : ¬ (f.In x y ∧ SomeP d i t)) (hv : PutV f x y d i t c g z) : z = 2 ∧ g = FD0 := by
  rcases hv with ⟨a, _⟩ | ⟨_, _, a, b⟩ | ⟨_, a, b, _⟩
  · exact absurd h a
  · exact ⟨a, b⟩
  · exact absurd ⟨a, b⟩ hn
theorem put_in {f g : FD} {x y d i t z : Int} {c : Nat → Int} (h : f.May) (hi : f.In x y) (hs : SomeP d i t) {k : Nat} (hk : y * f.W + x = k) (hv : PutV f x y d i t c g z) : z = 0 ∧ g = f.put k d i t c := by
  rcases hv with ⟨a, _⟩ | ⟨_, a, _⟩ | ⟨_, _, _, rfl, l, hl, _, rfl⟩
  · exact absurd h a
  · exact absurd ⟨hi, hs⟩ a
  · obtain rfl : l = k := by omega
    exact ⟨rfl, rfl⟩
theorem lay_out {f g : FD} {x y d z : Int} {c : Nat → Int} (h : f.May) (hn : ¬ (f.In x y ∧ DeepP d)) (hv : LayV f x y d c g z) : z = 2 ∧ g = FD0 := by
  rcases hv with ⟨a, _⟩ | ⟨_, _, a, b⟩ | ⟨_, a, b, _⟩
  · exact absurd h a
  · exact ⟨a, b⟩
  · exact absurd ⟨a, b⟩ hn
theorem lay_in {f g : FD} {x y d z : Int} {c : Nat → Int} (h : f.May) (hi : f.In x y) (hs : DeepP d) {k : Nat} (hk : y * f.W + x = k) (hv : LayV f x y d c g z) : z = 0 ∧ g = f.lay k d c := by
  rcases hv with ⟨a, _⟩ | ⟨_, a, _⟩ | ⟨_, _, _, rfl, l, hl, _, rfl⟩
  · exact absurd h a
  · exact absurd ⟨hi, hs⟩ a
  · obtain rfl : l = k := by omega
    exact ⟨rfl, rfl⟩
theorem at_wrap {f : FD} {x y : Int} (h : f.May) (hi : f.In x y) {k : Nat} (hk : y * f.W + x = k) (hn : k < f.nd) : IntKind.i64.wrap (IntKind.i64.wrap (y * f.W) + x) = (k : Int) := by
  obtain ⟨⟨m1, m2, m3, m4⟩, ⟨_, l2, _, _⟩, _⟩ := h
  obtain ⟨b0, b1⟩ := mul_bound m1 m2 m3 m4
  obtain ⟨x0, _, y0, _⟩ := hi
  have q0 : 0 ≤ y * f.W := Int.mul_nonneg y0 (by omega)
  generalize y * f.W = Q at *
  rw [IntWalk.i64_in Q (by omega), IntWalk.i64_in _ (by omega)]
  exact hk
theorem at_wrap64 {f : FD} {x y : Int} (h : f.May) (hi : f.In x y) {k : Nat} (hk : y * f.W + x = k) (hn : k < f.nd) : wrap64 (wrap64 (y * f.W) + x) = (k : Int) := by
  obtain ⟨⟨m1, m2, m3, m4⟩, ⟨_, l2, _, _⟩, _⟩ := h
  obtain ⟨b0, b1⟩ := mul_bound m1 m2 m3 m4
  obtain ⟨x0, _, y0, _⟩ := hi
  have q0 : 0 ≤ y * f.W := Int.mul_nonneg y0 (by omega)
  generalize y * f.W = Q at *
  have e1 : wrap64 Q = Q := by unfold wrap64; omega
  rw [e1]
  unfold wrap64
  omega
theorem FOk.drewN {w : World} {p : FP} {f : FD} (h : FOk w p f) (q : Nat) : FOk (w.drewN q) p f := h.below (below_drewN (Below.refl _ _) q)
theorem HasBlk.drewN {w : World} {g t : Nat} {cs : Array Value} (h : HasBlk w g t cs) (q : Nat) : HasBlk (w.drewN q) g t cs := h.below (below_drewN (Below.refl _ _) q)
end Go.Proofs.Ytibeoeooajelgaa
