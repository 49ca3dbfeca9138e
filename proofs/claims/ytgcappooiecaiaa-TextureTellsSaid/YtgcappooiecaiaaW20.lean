/- The reference's Twin, SameAll. -/
import Derived.Test.YtgcappooiecaiaaW19
import Derived.Test.YtgcappooiecaiaaStep
import Derived.Deep.DrawnRows
namespace Go.Proofs.Ytgcappooiecaiaa
open Go.RowKit
set_option linter.unusedVariables false
attribute [local go_sem ↓] Go.wp_at_zero Go.wp_at_succ

/-- A block of n cells of type t, whatever they hold. -/
def ResN (w : World) (t : TypeId) (g n : Nat) : Prop := ∃ cs : Array Value, cs.size = n ∧ HasBlk w g t cs
theorem ResN.below {w w' : World} {t : TypeId} {g n : Nat} (h : ResN w t g n) (hb : Below w.heap.size w w') : ResN w' t g n := by
  obtain ⟨cs, h1, h2⟩ := h
  exact ⟨cs, h1, h2.below hb⟩
theorem ResN.keeps (t : TypeId) (g n : Nat) : Keeps (fun Wo => ResN Wo t g n) := fun W W' hb hs => hs.below hb
theorem ResN.set {w : World} {t : TypeId} {g n : Nat} (h : ResN w t g n) (i : Nat) (u : Value) : ResN (w.setCell ⟨g, i, none⟩ u) t g n := by
  obtain ⟨cs, h1, h2⟩ := h
  exact ⟨_, by simp [h1], h2.set i u⟩
theorem ResN.cell {w : World} {t : TypeId} {g n : Nat} (h : ResN w t g n) {i : Nat} (hi : i < n) : (∃ x, w.cell? ⟨g, i, none⟩ = some x) ∧ w.frozen? ⟨g, i, none⟩ = false := by
  obtain ⟨cs, h1, h2⟩ := h
  exact ⟨⟨_, by rw [h2.cell, Array.getElem?_eq_getElem (by omega)]⟩, h2.frozen i⟩
theorem ResN.lt {w : World} {t : TypeId} {g n : Nat} (h : ResN w t g n) : g < w.heap.size := by
  obtain ⟨cs, _, h2⟩ := h
  exact h2.lt
theorem ResN.drew {w : World} {t : TypeId} {g n : Nat} (h : ResN w t g n) : ResN w.drew t g n := h

set_option maxRecDepth 100000 in
set_option maxHeartbeats 2000000 in
theorem twin25 (W H : Int) (A : Option Addr) (n c : Nat) (F : Nat → Nat → Value) (w : World) (hA : Row w A n 4 F) (h1 : ∀ i j, (F i j).oneCell' = true) (hn : (n : Int) ≤ 1000000) :
    Calls Try.prog 25 #[.agg #[.int .i64 W, .int .i64 H, .slice A n c]] w fun e w' => TwinR W H n F w.heap.size e w' ∧ Below w.heap.size w w' := by
  obtain ⟨i0, hi0, hz0, hz1, hz2⟩ := info_parts col_info
  have hkp : Keeps (fun Wo => (Below w.heap.size w Wo ∧ w.heap.size ≤ Wo.heap.size) ∧ Wo.cell? ⟨w.heap.size, 0, none⟩ = some (.int .i64 W) ∧ Wo.cell? ⟨w.heap.size, 1, none⟩ = some (.int .i64 H) ∧ Wo.cell? ⟨w.heap.size, 2, none⟩ = some (.slice A n c) ∧ ResN Wo 30 (w.heap.size + 1) 3) := by
    repeat' (first | exact Keeps.below _ | exact ResN.keeps _ _ _ | exact Keeps.size _ | exact Keeps.cell _ _ | apply Keeps.and)
  have RN : ResN ((w.alloc (.cells #[.int .i64 W, .int .i64 H, .slice A n c] 30)).alloc (.cells #[.int .i64 0, .int .i64 0, .slice none 0 0] 30)) 30 (w.heap.size + 1) 3 := ⟨_, rfl, by simpa using hasBlk_new (w.alloc (.cells #[.int .i64 W, .int .i64 H, .slice A n c] 30)) 30 #[.int .i64 0, .int .i64 0, .slice none 0 0]⟩
  have HN2 := Lib.hid (fun W (h : Below w.heap.size w W) => (hA.below h).news (by omega))
  have H1 := Lib.hid (cellsR_one (s := 4) h1 n)
  have HL := Lib.hid (cellsR_len 4 F n)
  clear hA h1
  go_enter Try.func25, Try.ntmps25
  go_wp2_with fail
  go_region_held3 (fun Wo => (Below w.heap.size w Wo ∧ w.heap.size ≤ Wo.heap.size) ∧ Wo.cell? ⟨w.heap.size, 0, none⟩ = some (.int .i64 W) ∧ Wo.cell? ⟨w.heap.size, 1, none⟩ = some (.int .i64 H) ∧ Wo.cell? ⟨w.heap.size, 2, none⟩ = some (.slice A n c) ∧ ResN Wo 30 (w.heap.size + 1) 3)
    (first
      | exact hkp _ _ hbel (by assumption)
      | (refine ⟨⟨?_, by first | omega | (simp; done) | (simp; omega)⟩, by simp [go_sem, *], by simp [go_sem, *], by simp [go_sem, *], ResN.set (ResN.set (ResN.set hR4 0 _) 1 _) 2 _⟩; repeat' (first | exact Below.refl _ _ | assumption | apply Below.drew | refine Below.setCell ?_ (by first | omega | (simp; done) | (simp; omega)) _ | refine Below.alloc ?_ (by first | omega | (simp; done) | (simp; omega)) _))
      | (refine ⟨⟨?_, by first | omega | (simp; done) | (simp; omega)⟩, by simp [go_sem], by simp [go_sem], by simp [go_sem], RN.drew⟩; repeat' (first | exact Below.refl _ _ | assumption | apply Below.drew | refine Below.setCell ?_ (by first | omega | (simp; done) | (simp; omega)) _ | refine Below.alloc ?_ (by first | omega | (simp; done) | (simp; omega)) _))
      | fail "keep")
    ((refine step_app (by rfl) _ _ _ (by rfl) w.heap.size 23 i0 _ 4 4 Try.underlying28 hi0 hz0 hz1 hz2 rfl (by omega) none 0 0 [] (by rfl) (own_nil _ _ _ _) A n c (cellsR 4 F n) (by rfl) HL.out (HN2.out _ (by repeat' (first | exact Below.refl _ _ | assumption | apply Below.drew | refine Below.setCell ?_ (by first | omega | (simp; done) | (simp; omega)) _ | refine Below.alloc ?_ (by first | omega | (simp; done) | (simp; omega)) _))) H1.out (by unfold maxLen; omega) (by omega) (by simp; omega) ?_; intro A3 cap w3 hown3 hgrow; have hbel := below_of_grown (B := 0) hgrow; have Hown := Lib.hid hown3; clear hown3; obtain ⟨⟨bS, zS⟩, x0, x1, x2, hR4⟩ := hkp _ _ hbel (by assumption); obtain ⟨⟨r0, e0⟩, f0⟩ := hR4.cell (i := 0) (by omega); obtain ⟨⟨r1, e1⟩, f1⟩ := hR4.cell (i := 1) (by omega); obtain ⟨⟨r2, e2⟩, f2⟩ := hR4.cell (i := 2) (by omega); have rlt := hR4.lt))
  go_wp2
  refine bodyPost_ret (v := .agg #[.int .i64 W, .int .i64 H, .slice A3 n cap]) (by simp [results, Try.results25, go_sem, *]) rfl ⟨⟨A3, cap, rfl, ?_⟩, ?_⟩
  · have ho := Hown.out
    simp only [Nat.zero_add, List.nil_append] at ho
    have nr : (Value.slice A3 n cap).ownBlock ≠ some (w.heap.size + 1) := by
      obtain ⟨cs, _, hh⟩ := hR4
      exact hh.ne_own ho (by decide)
    repeat' (first | exact ho | refine ownsRow_setCell_other ?_ nr _)
  · have bel0 := (‹(Below w.heap.size w _ ∧ _) ∧ _›).1.1
    repeat' (first | exact Below.refl _ _ | assumption | apply Below.drew | refine Below.setCell ?_ (by first | omega | (simp; done) | (simp; omega)) _ | refine Below.alloc ?_ (by first | omega | (simp; done) | (simp; omega)) _)
end Go.Proofs.Ytgcappooiecaiaa
