/- Frames as plain data: what may be, what is put and laid; the order in which fragments are put counts for nothing. No program. -/
import Derived.Test.YtibeoeooajelgaaLib
namespace Go.Proofs.Ytibeoeooajelgaa
set_option linter.unusedVariables false

def upd {α : Type} (f : Nat → α) (k : Nat) (x : α) (i : Nat) : α := if i = k then x else f i
theorem upd_at {α : Type} (f : Nat → α) (k : Nat) (x : α) : upd f k x k = x := by simp [upd]
theorem upd_ne {α : Type} (f : Nat → α) {k i : Nat} (x : α) (h : i ≠ k) : upd f k x i = f i := by simp [upd, h]
theorem upd_comm {α : Type} (f : Nat → α) {k l : Nat} (x y : α) (h : k ≠ l) : upd (upd f k x) l y = upd (upd f l y) k x := by
  funext i
  unfold upd
  by_cases e : i = l <;> by_cases e' : i = k <;> simp [e, e'] <;> omega
theorem upd_twice {α : Type} (f : Nat → α) (k : Nat) (x y : α) : upd (upd f k x) k y = upd f k y := by
  funext i
  unfold upd
  split <;> rfl
theorem upd_same {α : Type} (f : Nat → α) (k : Nat) : upd f k (f k) = f := by
  funext i
  unfold upd
  split
  · rename_i e; rw [e]
  · rfl

/-- May depth, item and triangle be somebody's? -/
def SomeP (d i t : Int) : Prop := (-1024 ≤ d ∧ d ≤ 66560) ∧ 0 ≤ i ∧ i < 256 ∧ 0 ≤ t ∧ t < 64
def OkPix (d i t : Int) : Prop := (d = -2048 ∧ i = -1 ∧ t = -1) ∨ SomeP d i t
/-- Is a fragment nearer than another one? -/
def NearP (d i t p d' i' t' p' : Int) : Prop := d' < d ∨ (d = d' ∧ (i < i' ∨ (i = i' ∧ (t < t' ∨ (t = t' ∧ p < p')))))
instance (d i t p d' i' t' p' : Int) : Decidable (NearP d i t p d' i' t' p') := by unfold NearP; infer_instance
instance (d i t : Int) : Decidable (SomeP d i t) := by unfold SomeP; infer_instance
instance (d i t : Int) : Decidable (OkPix d i t) := by unfold OkPix; infer_instance
structure FD where
  W : Int
  H : Int
  nc : Nat
  nd : Nat
  ni : Nat
  nt : Nat
  C : Nat → Nat → Int
  D : Nat → Int
  I : Nat → Int
  T : Nat → Int
/-- May a frame be? -/
def FD.May (f : FD) : Prop := (1 ≤ f.W ∧ f.W ≤ 64 ∧ 1 ≤ f.H ∧ f.H ≤ 64) ∧ ((f.nc : Int) = f.W * f.H ∧ (f.nd : Int) = f.W * f.H ∧ (f.ni : Int) = f.W * f.H ∧ (f.nt : Int) = f.W * f.H) ∧ ∀ k, k < f.nd → OkPix (f.D k) (f.I k) (f.T k)
/-- Does a fragment take the place of what a pixel has? -/
def FD.Over (f : FD) (k : Nat) (d i t : Int) : Prop := f.I k < 0 ∨ NearP d i t 0 (f.D k) (f.I k) (f.T k) 0
instance (f : FD) (k : Nat) (d i t : Int) : Decidable (f.Over k d i t) := by unfold FD.Over; infer_instance
def FD.set (f : FD) (k : Nat) (d i t : Int) (c : Nat → Int) : FD := ⟨f.W, f.H, f.nc, f.nd, f.ni, f.nt, upd f.C k c, upd f.D k d, upd f.I k i, upd f.T k t⟩
def FD.put (f : FD) (k : Nat) (d i t : Int) (c : Nat → Int) : FD := if f.Over k d i t then f.set k d i t c else f
def FD.col (f : FD) (k : Nat) (c : Nat → Int) : FD := ⟨f.W, f.H, f.nc, f.nd, f.ni, f.nt, upd f.C k c, f.D, f.I, f.T⟩
/-- A pixel that is the frame's. -/
def FD.In (f : FD) (x y : Int) : Prop := 0 ≤ x ∧ x < f.W ∧ 0 ≤ y ∧ y < f.H
instance (f : FD) (x y : Int) : Decidable (f.In x y) := by unfold FD.In; infer_instance
/-- Two frames are the same. -/
def FD.Same (f g : FD) : Prop := (f.W = g.W ∧ f.H = g.H) ∧ (f.nc = g.nc ∧ ∀ k, k < f.nc → f.C k 0 = g.C k 0 ∧ f.C k 1 = g.C k 1 ∧ f.C k 2 = g.C k 2 ∧ f.C k 3 = g.C k 3) ∧ (f.nd = g.nd ∧ ∀ k, k < f.nd → f.D k = g.D k) ∧ (f.ni = g.ni ∧ ∀ k, k < f.ni → f.I k = g.I k) ∧ (f.nt = g.nt ∧ ∀ k, k < f.nt → f.T k = g.T k)
theorem FD.Same.refl (f : FD) : f.Same f := ⟨⟨rfl, rfl⟩, ⟨rfl, fun _ _ => ⟨rfl, rfl, rfl, rfl⟩⟩, ⟨rfl, fun _ _ => rfl⟩, ⟨rfl, fun _ _ => rfl⟩, ⟨rfl, fun _ _ => rfl⟩⟩
theorem FD.put_W (f : FD) (k : Nat) (d i t : Int) (c : Nat → Int) : (f.put k d i t c).W = f.W ∧ (f.put k d i t c).H = f.H ∧ (f.put k d i t c).nc = f.nc ∧ (f.put k d i t c).nd = f.nd ∧ (f.put k d i t c).ni = f.ni ∧ (f.put k d i t c).nt = f.nt := by
  unfold FD.put
  split <;> exact ⟨rfl, rfl, rfl, rfl, rfl, rfl⟩
theorem FD.May.put {f : FD} (h : f.May) {d i t : Int} (hs : SomeP d i t) (k : Nat) (c : Nat → Int) : (f.put k d i t c).May := by
  unfold FD.put
  split
  · obtain ⟨h1, h2, h3⟩ := h
    refine ⟨h1, h2, fun j hj => ?_⟩
    show OkPix (upd f.D k d j) (upd f.I k i j) (upd f.T k t j)
    by_cases e : j = k
    · subst e
      rw [upd_at, upd_at, upd_at]
      exact .inr hs
    · rw [upd_ne _ _ e, upd_ne _ _ e, upd_ne _ _ e]
      exact h3 j hj
  · exact h
/-- The order in which two fragments are put, at any pixels, counts for nothing, unless they are alike. -/
theorem FD.put_comm (f : FD) (k l : Nat) {d i t d' i' t' : Int} (c c' : Nat → Int) (h : SomeP d i t) (h' : SomeP d' i' t') (hne : ¬ (d = d' ∧ i = i' ∧ t = t')) :
    (f.put k d i t c).put l d' i' t' c' = (f.put l d' i' t' c').put k d i t c := by
  unfold SomeP at h h'
  by_cases e : k = l
  · subst e
    by_cases o1 : f.Over k d i t <;> by_cases o2 : f.Over k d' i' t'
    · have e1 : f.put k d i t c = f.set k d i t c := by unfold FD.put; rw [if_pos o1]
      have e2 : f.put k d' i' t' c' = f.set k d' i' t' c' := by unfold FD.put; rw [if_pos o2]
      rw [e1, e2]
      by_cases n1 : NearP d i t 0 d' i' t' 0
      · have q1 : ¬ (f.set k d i t c).Over k d' i' t' := by
          unfold FD.Over FD.set NearP at *
          dsimp only
          rw [upd_at, upd_at, upd_at]
          omega
        have q2 : (f.set k d' i' t' c').Over k d i t := by
          unfold FD.Over FD.set
          dsimp only
          rw [upd_at, upd_at, upd_at]
          exact .inr n1
        unfold FD.put
        rw [if_neg q1, if_pos q2]
        unfold FD.set
        dsimp only
        rw [upd_twice, upd_twice, upd_twice, upd_twice]
      · have n2 : NearP d' i' t' 0 d i t 0 := by unfold NearP at *; omega
        have q1 : (f.set k d i t c).Over k d' i' t' := by
          unfold FD.Over FD.set
          dsimp only
          rw [upd_at, upd_at, upd_at]
          exact .inr n2
        have q2 : ¬ (f.set k d' i' t' c').Over k d i t := by
          unfold FD.Over FD.set NearP at *
          dsimp only
          rw [upd_at, upd_at, upd_at]
          omega
        unfold FD.put
        rw [if_neg q2, if_pos q1]
        unfold FD.set
        dsimp only
        rw [upd_twice, upd_twice, upd_twice, upd_twice]
    · have e1 : f.put k d i t c = f.set k d i t c := by unfold FD.put; rw [if_pos o1]
      have e2 : f.put k d' i' t' c' = f := by unfold FD.put; rw [if_neg o2]
      rw [e1, e2, e1]
      have q1 : ¬ (f.set k d i t c).Over k d' i' t' := by
        unfold FD.Over FD.set NearP at *
        dsimp only
        rw [upd_at, upd_at, upd_at]
        omega
      unfold FD.put
      rw [if_neg q1]
    · have e1 : f.put k d i t c = f := by unfold FD.put; rw [if_neg o1]
      have e2 : f.put k d' i' t' c' = f.set k d' i' t' c' := by unfold FD.put; rw [if_pos o2]
      rw [e1, e2]
      have q1 : ¬ (f.set k d' i' t' c').Over k d i t := by
        unfold FD.Over FD.set NearP at *
        dsimp only
        rw [upd_at, upd_at, upd_at]
        omega
      unfold FD.put
      rw [if_neg q1]
    · have e1 : f.put k d i t c = f := by unfold FD.put; rw [if_neg o1]
      have e2 : f.put k d' i' t' c' = f := by unfold FD.put; rw [if_neg o2]
      rw [e1, e2, e1]
  · have over : ∀ (g : FD) (a b : Nat) (u v x : Int) (w : Nat → Int) (u' v' x' : Int), b ≠ a → ((g.put a u v x w).Over b u' v' x' ↔ g.Over b u' v' x') := by
      intro g a b u v x w u' v' x' hab
      unfold FD.put
      split
      · unfold FD.Over FD.set
        dsimp only
        rw [upd_ne _ _ hab, upd_ne _ _ hab, upd_ne _ _ hab]
      · rfl
    have a1 := over f k l d i t c d' i' t' (Ne.symm e)
    have a2 := over f l k d' i' t' c' d i t e
    by_cases o1 : f.Over k d i t <;> by_cases o2 : f.Over l d' i' t'
    · have e1 : f.put k d i t c = f.set k d i t c := by unfold FD.put; rw [if_pos o1]
      have e2 : f.put l d' i' t' c' = f.set l d' i' t' c' := by unfold FD.put; rw [if_pos o2]
      have b1 := a1.2 o2
      have b2 := a2.2 o1
      rw [e1] at b1 ⊢
      rw [e2] at b2 ⊢
      unfold FD.put
      rw [if_pos b1, if_pos b2]
      unfold FD.set
      dsimp only
      rw [upd_comm _ _ _ e, upd_comm _ _ _ e, upd_comm _ _ _ e, upd_comm _ _ _ e]
    · have e2 : f.put l d' i' t' c' = f := by unfold FD.put; rw [if_neg o2]
      have b1 : ¬ _ := fun h => o2 (a1.1 h)
      rw [e2]
      rw [FD.put, if_neg b1]
    · have e1 : f.put k d i t c = f := by unfold FD.put; rw [if_neg o1]
      have b2 : ¬ _ := fun h => o1 (a2.1 h)
      rw [e1]
      symm
      rw [FD.put, if_neg b2]
    · have e1 : f.put k d i t c = f := by unfold FD.put; rw [if_neg o1]
      have e2 : f.put l d' i' t' c' = f := by unfold FD.put; rw [if_neg o2]
      rw [e1, e2, e1]
/-- The place of a pixel. -/
theorem FD.place {f : FD} (h : f.May) {x y : Int} (hi : f.In x y) : ∃ k : Nat, y * f.W + x = k ∧ k < f.nc ∧ k < f.nd ∧ k < f.ni ∧ k < f.nt := by
  obtain ⟨⟨w1, w2, h1, h2⟩, ⟨e1, e2, e3, e4⟩, _⟩ := h
  obtain ⟨a, b, c, d⟩ := hi
  have p0 : 0 ≤ y * f.W := Int.mul_nonneg c (by omega)
  have p1 : y * f.W + f.W ≤ f.H * f.W := by
    have : (y + 1) * f.W ≤ f.H * f.W := Int.mul_le_mul_of_nonneg_right (by omega) (by omega)
    rw [Int.add_mul, Int.one_mul] at this
    exact this
  rw [Int.mul_comm f.H f.W] at p1
  exact ⟨(y * f.W + x).toNat, by omega, by omega, by omega, by omega, by omega⟩
end Go.Proofs.Ytibeoeooajelgaa
