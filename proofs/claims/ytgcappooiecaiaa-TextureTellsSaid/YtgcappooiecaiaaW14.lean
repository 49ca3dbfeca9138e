/- The walks of the reference's Painted and Paint. -/
import Derived.Test.YtgcappooiecaiaaW13
namespace Go.Proofs.Ytgcappooiecaiaa
open Go.RowKit
set_option linter.unusedVariables false

/-- A block of four cells for a colour that is answered. -/
def Res4 (w : World) (g : Nat) : Prop := ∃ cs : Array Value, cs.size = 4 ∧ HasBlk w g 23 cs
theorem Res4.below {w w' : World} {g : Nat} (h : Res4 w g) (hb : Below w.heap.size w w') : Res4 w' g := by
  obtain ⟨cs, h1, h2⟩ := h
  exact ⟨cs, h1, h2.below hb⟩
theorem Res4.keeps (g : Nat) : Keeps (fun Wo => Res4 Wo g) := fun W W' hb hs => hs.below hb
theorem Res4.set {w : World} {g : Nat} (h : Res4 w g) (i : Nat) (u : Value) : Res4 (w.setCell ⟨g, i, none⟩ u) g := by
  obtain ⟨cs, h1, h2⟩ := h
  exact ⟨_, by simp [h1], h2.set i u⟩
theorem Res4.cells {w : World} {g : Nat} (h : Res4 w g) : (∃ x, w.cell? ⟨g, 0, none⟩ = some x) ∧ (∃ x, w.cell? ⟨g, 1, none⟩ = some x) ∧ (∃ x, w.cell? ⟨g, 2, none⟩ = some x) ∧ (∃ x, w.cell? ⟨g, 3, none⟩ = some x) ∧ w.frozen? ⟨g, 0, none⟩ = false ∧ w.frozen? ⟨g, 1, none⟩ = false ∧ w.frozen? ⟨g, 2, none⟩ = false ∧ w.frozen? ⟨g, 3, none⟩ = false ∧ g < w.heap.size := by
  obtain ⟨cs, h1, h2⟩ := h
  exact ⟨⟨_, by rw [h2.cell, Array.getElem?_eq_getElem (by omega)]⟩, ⟨_, by rw [h2.cell, Array.getElem?_eq_getElem (by omega)]⟩, ⟨_, by rw [h2.cell, Array.getElem?_eq_getElem (by omega)]⟩, ⟨_, by rw [h2.cell, Array.getElem?_eq_getElem (by omega)]⟩, h2.frozen 0, h2.frozen 1, h2.frozen 2, h2.frozen 3, h2.lt⟩
theorem Res4.drew {w : World} {g : Nat} (h : Res4 w g) : Res4 w.drew g := h
theorem Res4.new (w : World) (a b c d : Value) : Res4 (w.alloc (.cells #[a, b, c, d] 23)) w.heap.size := ⟨_, rfl, hasBlk_new _ _ _⟩

set_option maxRecDepth 100000 in
set_option maxHeartbeats 1000000 in
theorem painted_plain (A : Option Addr) (m c : Nat) (c0 c1 c2 c3 tx cu bi : Int) (bl : Bool) (bn u v : Int) (w : World) (ht : tx < 0) :
    Calls Try.prog 43 #[.agg #[.int .u8 c0, .int .u8 c1, .int .u8 c2, .int .u8 c3, .int .i64 tx, .int .u8 cu, .int .i64 bi, .bool bl, .int .i64 bn], .slice A m c, .int .i64 u, .int .i64 v] w fun e w' => e = .returned (.agg #[.int .u8 c0, .int .u8 c1, .int .u8 c2, .int .u8 c3]) ∧ Below w.heap.size w w' := by
  go_enter Try.func43, Try.ntmps43
  go_wp2
  refine bodyPost_ret (v := .agg #[_, _, _, _]) (by simp [results, Try.results43, go_sem, *]) rfl ⟨rfl, ?_⟩
  repeat' (first | exact Below.refl _ _ | assumption | apply Below.drew | refine Below.setCell ?_ (by first | omega | (simp; done) | (simp; omega)) _ | refine Below.alloc ?_ (by first | omega | (simp; done) | (simp; omega)) _)

set_option maxRecDepth 100000 in
set_option maxHeartbeats 2000000 in
theorem painted_mix (A : Option Addr) (m c : Nat) (D : Nat → TexD) (c0 c1 c2 c3 cu bi : Int) (bl : Bool) (bn u v : Int) (w : World) (hl : TL w A m D) (k : Nat) (hk : (k : Int) < m) (hmay : (D k).may) (u0 : 0 ≤ u) (u1 : u ≤ 255) (v0 : 0 ≤ v) (v1 : v ≤ 255) (hb : Byte c0 ∧ Byte c1 ∧ Byte c2 ∧ Byte c3) (hB : ∀ p, p < (D k).n → ∀ j, j < 4 → Byte ((D k).f p j)) :
    Calls Try.prog 43 #[.agg #[.int .u8 c0, .int .u8 c1, .int .u8 c2, .int .u8 c3, .int .i64 k, .int .u8 cu, .int .i64 bi, .bool bl, .int .i64 bn], .slice A m c, .int .i64 u, .int .i64 v] w fun e w' => e = .returned (.agg #[.int .u8 (mixc c0 ((D k).f (tix (D k).W (D k).H u v).toNat 0)), .int .u8 (mixc c1 ((D k).f (tix (D k).W (D k).H u v).toNat 1)), .int .u8 (mixc c2 ((D k).f (tix (D k).W (D k).H u v).toNat 2)), .int .u8 (mixc c3 ((D k).f (tix (D k).W (D k).H u v).toNat 3))]) ∧ Below w.heap.size w w' := by
  obtain ⟨b, off, rfl, hbl, hc, hpx⟩ := hl (by omega)
  obtain ⟨d0, d1, d2⟩ := hc k (by omega)
  obtain ⟨⟨m0, m1⟩, ⟨m2, m3⟩, mn4⟩ := id hmay
  obtain ⟨_, _, _, t0, t1⟩ := tix_bd (n := (D k).n) m0 m1 m2 m3 mn4 u0 u1 v0 v1
  have ht : (tix (D k).W (D k).H u v).toNat < (D k).n := by omega
  have b0 := hB _ ht 0 (by omega)
  have b1 := hB _ ht 1 (by omega)
  have b2 := hB _ ht 2 (by omega)
  have b3 := hB _ ht 3 (by omega)
  have hp := hpx k (by omega)
  have htx := Lib.hid (fun W (h : Below w.heap.size w W) => texel_any (D k).W (D k).H u v (D k).a (D k).n (D k).c (D k).f W hmay (hp.below h) u0 u1 v0 v1)
  obtain ⟨q0, q1, q2, q3⟩ := hb
  have hmix := Lib.hid (fun w => refmix_any q0 q1 q2 q3 b0 b1 b2 b3 w)
  have hkp : Keeps (fun Wo => (Below w.heap.size w Wo ∧ w.heap.size ≤ Wo.heap.size) ∧ Wo.cell? ⟨w.heap.size, 0, none⟩ = some (.int .u8 c0) ∧ Wo.cell? ⟨w.heap.size, 1, none⟩ = some (.int .u8 c1) ∧ Wo.cell? ⟨w.heap.size, 2, none⟩ = some (.int .u8 c2) ∧ Wo.cell? ⟨w.heap.size, 3, none⟩ = some (.int .u8 c3) ∧ Wo.cell? ⟨w.heap.size, 4, none⟩ = some (.int .i64 k) ∧ Wo.cell? ⟨b, off + k * 3, none⟩ = some (.int .i64 (D k).W) ∧ Wo.cell? ⟨b, off + k * 3 + 1, none⟩ = some (.int .i64 (D k).H) ∧ Wo.cell? ⟨b, off + k * 3 + 2, none⟩ = some (.slice (D k).a (D k).n (D k).c) ∧ Res4 Wo (w.heap.size + 1)) := by
    repeat' (first | exact Keeps.below _ | exact Res4.keeps _ | exact Keeps.size _ | exact Keeps.cell _ _ | apply Keeps.and)
  clear hc hpx hmay hB m0 m1 m2 m3 mn4 t0 t1 ht b0 b1 b2 b3 q0 q1 q2 q3 hl hp
  have k0 : (0 : Int) ≤ (k : Int) := by omega
  have RN : Res4 ((w.alloc (.cells #[.int .u8 c0, .int .u8 c1, .int .u8 c2, .int .u8 c3, .int .i64 k, .int .u8 cu, .int .i64 bi, .bool bl, .int .i64 bn] 49)).alloc (.cells #[.int .u8 0, .int .u8 0, .int .u8 0, .int .u8 0] 23)) (w.heap.size + 1) := by
    have := Res4.new (w.alloc (.cells #[.int .u8 c0, .int .u8 c1, .int .u8 c2, .int .u8 c3, .int .i64 k, .int .u8 cu, .int .i64 bi, .bool bl, .int .i64 bn] 49)) (.int .u8 0) (.int .u8 0) (.int .u8 0) (.int .u8 0)
    simpa using this
  go_enter Try.func43, Try.ntmps43
  go_wp2_with fail
  go_region_held3 (fun Wo => (Below w.heap.size w Wo ∧ w.heap.size ≤ Wo.heap.size) ∧ Wo.cell? ⟨w.heap.size, 0, none⟩ = some (.int .u8 c0) ∧ Wo.cell? ⟨w.heap.size, 1, none⟩ = some (.int .u8 c1) ∧ Wo.cell? ⟨w.heap.size, 2, none⟩ = some (.int .u8 c2) ∧ Wo.cell? ⟨w.heap.size, 3, none⟩ = some (.int .u8 c3) ∧ Wo.cell? ⟨w.heap.size, 4, none⟩ = some (.int .i64 k) ∧ Wo.cell? ⟨b, off + k * 3, none⟩ = some (.int .i64 (D k).W) ∧ Wo.cell? ⟨b, off + k * 3 + 1, none⟩ = some (.int .i64 (D k).H) ∧ Wo.cell? ⟨b, off + k * 3 + 2, none⟩ = some (.slice (D k).a (D k).n (D k).c) ∧ Res4 Wo (w.heap.size + 1))
    (first
      | exact hkp _ _ hbel (by assumption)
      | (refine ⟨⟨?_, by first | omega | (simp; done) | (simp; omega)⟩, by simp [go_sem, *], by simp [go_sem, *], by simp [go_sem, *], by simp [go_sem, *], by simp [go_sem, *], by simp [go_sem, *], by simp [go_sem, *], by simp [go_sem, *], Res4.set (Res4.set (Res4.set (Res4.set hR4 0 _) 1 _) 2 _) 3 _⟩; repeat' (first | exact Below.refl _ _ | assumption | apply Below.drew | refine Below.setCell ?_ (by first | omega | (simp; done) | (simp; omega)) _ | refine Below.alloc ?_ (by first | omega | (simp; done) | (simp; omega)) _))
      | (refine ⟨⟨?_, by first | omega | (simp; done) | (simp; omega)⟩, by simp [go_sem], by simp [go_sem], by simp [go_sem], by simp [go_sem], by simp [go_sem], by simp [go_sem, *], by simp [go_sem, *], by simp [go_sem, *], RN.drew⟩; repeat' (first | exact Below.refl _ _ | assumption | apply Below.drew | refine Below.setCell ?_ (by first | omega | (simp; done) | (simp; omega)) _ | refine Below.alloc ?_ (by first | omega | (simp; done) | (simp; omega)) _))
      | fail "keep")
    (first | (go_at_call 39; (with_reducible refine (htx.out _ ?_).mono ?_); (first | exact (‹(Below w.heap.size w _ ∧ _) ∧ _›).1.1 | (repeat' (first | exact Below.refl _ _ | assumption | apply Below.drew | refine Below.setCell ?_ (by first | omega | (simp; done) | (simp; omega)) _ | refine Below.alloc ?_ (by first | omega | (simp; done) | (simp; omega)) _))); rintro e w' ⟨rfl, hbel⟩)
           | (go_at_call 14; (with_reducible refine (hmix.out _).mono ?_); rintro e w' ⟨rfl, hbel⟩; obtain ⟨⟨bS, zS⟩, x0, x1, x2, x3, x4, y0, y1, y2, hR4⟩ := hkp _ _ hbel (by assumption); obtain ⟨⟨r0, e0⟩, ⟨r1, e1⟩, ⟨r2, e2⟩, ⟨r3, e3⟩, rf0, rf1, rf2, rf3, rlt⟩ := hR4.cells))
  go_wp2
  refine bodyPost_ret (v := .agg #[_, _, _, _]) (by simp [results, Try.results43, go_sem, *]) rfl ⟨rfl, ?_⟩
  have bel0 := (‹(Below w.heap.size w _ ∧ _) ∧ _›).1.1
  repeat' (first | exact Below.refl _ _ | assumption | apply Below.drew | refine Below.setCell ?_ (by first | omega | (simp; done) | (simp; omega)) _ | refine Below.alloc ?_ (by first | omega | (simp; done) | (simp; omega)) _)
end Go.Proofs.Ytgcappooiecaiaa
