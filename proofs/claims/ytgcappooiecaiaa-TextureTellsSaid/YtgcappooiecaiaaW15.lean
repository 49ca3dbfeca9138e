/- The reference's Paint where it paints; both, in one form. -/
import Derived.Test.YtgcappooiecaiaaW14
namespace Go.Proofs.Ytgcappooiecaiaa
open Go.RowKit
set_option linter.unusedVariables false

set_option maxRecDepth 100000 in
set_option maxHeartbeats 2000000 in
theorem refpaint_plain (A : Option Addr) (m c : Nat) (D : Nat → TexD) (c0 c1 c2 c3 tx cu bi : Int) (bl : Bool) (bn u v : Int) (w : World) (hl : TL w A m D) (hce : checksE D m = 0) (hle0 : MayL tx cu bi bn m) (u0 : 0 ≤ u) (u1 : u ≤ 255) (v0 : 0 ≤ v) (v1 : v ≤ 255) (ht : tx < 0) :
    Calls Try.prog 33 #[.agg #[.int .u8 c0, .int .u8 c1, .int .u8 c2, .int .u8 c3, .int .i64 tx, .int .u8 cu, .int .i64 bi, .bool bl, .int .i64 bn], .slice A m c, .int .i64 u, .int .i64 v] w fun e w' => e = .returned (.tuple #[.agg #[.int .u8 c0, .int .u8 c1, .int .u8 c2, .int .u8 c3], .int .i64 0]) ∧ Below w.heap.size w w' := by
  have Hl := Lib.hid hl
  have hch := Lib.hid (refchecks_any A m c D)
  clear hl
  have he := Lib.hid hce
  clear hce
  have hle := Lib.hid (decide_eq_true hle0)
  clear hle0
  have hlk := Lib.hid (mayl_any c0 c1 c2 c3 tx cu bi bl bn m)
  have hpt := Lib.hid (fun W (_ : TL W A m D) => painted_plain A m c c0 c1 c2 c3 tx cu bi bl bn u v W ht)
  have g1 : decide (u < 0) = false := decide_eq_false (by omega)
  have g2 : decide (255 < u) = false := decide_eq_false (by omega)
  have g3 : decide (v < 0) = false := decide_eq_false (by omega)
  have g4 : decide (255 < v) = false := decide_eq_false (by omega)
  go_enter Try.func33, Try.ntmps33
  go_wp2_with fail
  refine (hch.out _ (Hl.out.below (by repeat' (first | exact Below.refl _ _ | assumption | apply Below.drew | refine Below.setCell ?_ (by first | omega | (simp; done) | (simp; omega)) _ | refine Below.alloc ?_ (by first | omega | (simp; done) | (simp; omega)) _)))).mono ?_
  rw [he.out]
  rintro e w1 ⟨rfl, bel1⟩
  have hL := ((hasBlk_new w 49 #[.int .u8 c0, .int .u8 c1, .int .u8 c2, .int .u8 c3, .int .i64 tx, .int .u8 cu, .int .i64 bi, .bool bl, .int .i64 bn]).alloc (.cells #[.int .u8 0, .int .u8 0, .int .u8 0, .int .u8 0] 23)).below bel1
  have hR := (hasBlk_new (w.alloc (.cells #[.int .u8 c0, .int .u8 c1, .int .u8 c2, .int .u8 c3, .int .i64 tx, .int .u8 cu, .int .i64 bi, .bool bl, .int .i64 bn] 49)) 23 #[.int .u8 0, .int .u8 0, .int .u8 0, .int .u8 0]).below bel1
  simp only [World.size_alloc] at hR
  have B1 : Below w.heap.size w w1 := (by repeat' (first | exact Below.refl _ _ | assumption | apply Below.drew | refine Below.setCell ?_ (by first | omega | (simp; done) | (simp; omega)) _ | refine Below.alloc ?_ (by first | omega | (simp; done) | (simp; omega)) _) : Below w.heap.size w ((w.alloc (.cells #[.int .u8 c0, .int .u8 c1, .int .u8 c2, .int .u8 c3, .int .i64 tx, .int .u8 cu, .int .i64 bi, .bool bl, .int .i64 bn] 49)).alloc (.cells #[.int .u8 0, .int .u8 0, .int .u8 0, .int .u8 0] 23))).trans (bel1.mono (by simp; omega))
  have z1 := hR.lt
  have a0 := hL.cell 0
  have a1 := hL.cell 1
  have a2 := hL.cell 2
  have a3 := hL.cell 3
  have a4 := hL.cell 4
  have a5 := hL.cell 5
  have a6 := hL.cell 6
  have a7 := hL.cell 7
  have a8 := hL.cell 8
  have r0 := hR.cell 0
  have r1 := hR.cell 1
  have r2 := hR.cell 2
  have r3 := hR.cell 3
  have rf0 := hR.frozen 0
  have rf1 := hR.frozen 1
  have rf2 := hR.frozen 2
  have rf3 := hR.frozen 3
  simp at a0 a1 a2 a3 a4 a5 a6 a7 a8 r0 r1 r2 r3
  go_wp2_with fail
  refine (hlk.out _).mono ?_
  rw [hle.out]
  rintro e w2 ⟨rfl, bel2⟩
  have L0 := Lib.hid hL
  have R0 := Lib.hid hR
  clear hL hR a0 a1 a2 a3 a4 a5 a6 a7 a8 r0 rf0 r1 rf1 r2 rf2 r3 rf3
  have hL := L0.out.below bel2
  have hR := R0.out.below bel2
  have B2 := B1.trans (bel2.mono (by omega))
  have z2 := hR.lt
  clear B1 L0 R0
  have a0 := hL.cell 0
  have a1 := hL.cell 1
  have a2 := hL.cell 2
  have a3 := hL.cell 3
  have a4 := hL.cell 4
  have a5 := hL.cell 5
  have a6 := hL.cell 6
  have a7 := hL.cell 7
  have a8 := hL.cell 8
  have r0 := hR.cell 0
  have r1 := hR.cell 1
  have r2 := hR.cell 2
  have r3 := hR.cell 3
  have rf0 := hR.frozen 0
  have rf1 := hR.frozen 1
  have rf2 := hR.frozen 2
  have rf3 := hR.frozen 3
  simp at a0 a1 a2 a3 a4 a5 a6 a7 a8 r0 r1 r2 r3
  go_wp2_with fail
  refine (hpt.out _ (Hl.out.below B2)).mono ?_
  rintro e w3 ⟨rfl, bel3⟩
  have L0 := Lib.hid hL
  have R0 := Lib.hid hR
  clear hL hR a0 a1 a2 a3 a4 a5 a6 a7 a8 r0 rf0 r1 rf1 r2 rf2 r3 rf3
  have hR := R0.out.below bel3
  have B3 := B2.trans (bel3.mono (by omega))
  have z3 := hR.lt
  clear B2 L0 R0
  have r0 := hR.cell 0
  have r1 := hR.cell 1
  have r2 := hR.cell 2
  have r3 := hR.cell 3
  have rf0 := hR.frozen 0
  have rf1 := hR.frozen 1
  have rf2 := hR.frozen 2
  have rf3 := hR.frozen 3
  simp at r0 r1 r2 r3
  go_wp2
  refine bodyPost_ret (v := .tuple #[.agg #[_, _, _, _], _]) (by simp [results, Try.results33, go_sem, *]) rfl ⟨rfl, ?_⟩
  have bel0 := B3
  repeat' (first | exact Below.refl _ _ | assumption | apply Below.drew | refine Below.setCell ?_ (by first | omega | (simp; done) | (simp; omega)) _ | refine Below.alloc ?_ (by first | omega | (simp; done) | (simp; omega)) _)

set_option maxRecDepth 100000 in
set_option maxHeartbeats 2000000 in
theorem refpaint_mix (A : Option Addr) (m c : Nat) (D : Nat → TexD) (c0 c1 c2 c3 cu bi : Int) (bl : Bool) (bn u v : Int) (w : World) (hl : TL w A m D) (hce : checksE D m = 0) (k : Nat) (hk : (k : Int) < m) (hle0 : MayL k cu bi bn m) (u0 : 0 ≤ u) (u1 : u ≤ 255) (v0 : 0 ≤ v) (v1 : v ≤ 255) (hb : Byte c0 ∧ Byte c1 ∧ Byte c2 ∧ Byte c3) (hB : ∀ p, p < (D k).n → ∀ j, j < 4 → Byte ((D k).f p j)) :
    Calls Try.prog 33 #[.agg #[.int .u8 c0, .int .u8 c1, .int .u8 c2, .int .u8 c3, .int .i64 k, .int .u8 cu, .int .i64 bi, .bool bl, .int .i64 bn], .slice A m c, .int .i64 u, .int .i64 v] w fun e w' => e = .returned (.tuple #[.agg #[.int .u8 (mixc c0 ((D k).f (tix (D k).W (D k).H u v).toNat 0)), .int .u8 (mixc c1 ((D k).f (tix (D k).W (D k).H u v).toNat 1)), .int .u8 (mixc c2 ((D k).f (tix (D k).W (D k).H u v).toNat 2)), .int .u8 (mixc c3 ((D k).f (tix (D k).W (D k).H u v).toNat 3))], .int .i64 0]) ∧ Below w.heap.size w w' := by
  have Hl := Lib.hid hl
  have hch := Lib.hid (refchecks_any A m c D)
  clear hl
  have he := Lib.hid hce
  have hmay := (checksE_zero hce).2 k (by omega)
  have hpt := Lib.hid (fun W (h : TL W A m D) => painted_mix A m c D c0 c1 c2 c3 cu bi bl bn u v W h k hk hmay u0 u1 v0 v1 hb hB)
  clear hce hmay hb hB
  have hle := Lib.hid (decide_eq_true hle0)
  clear hle0
  have hlk := Lib.hid (mayl_any c0 c1 c2 c3 k cu bi bl bn m)
  have g1 : decide (u < 0) = false := decide_eq_false (by omega)
  have g2 : decide (255 < u) = false := decide_eq_false (by omega)
  have g3 : decide (v < 0) = false := decide_eq_false (by omega)
  have g4 : decide (255 < v) = false := decide_eq_false (by omega)
  go_enter Try.func33, Try.ntmps33
  go_wp2_with fail
  refine (hch.out _ (Hl.out.below (by repeat' (first | exact Below.refl _ _ | assumption | apply Below.drew | refine Below.setCell ?_ (by first | omega | (simp; done) | (simp; omega)) _ | refine Below.alloc ?_ (by first | omega | (simp; done) | (simp; omega)) _)))).mono ?_
  rw [he.out]
  rintro e w1 ⟨rfl, bel1⟩
  have hL := ((hasBlk_new w 49 #[.int .u8 c0, .int .u8 c1, .int .u8 c2, .int .u8 c3, .int .i64 k, .int .u8 cu, .int .i64 bi, .bool bl, .int .i64 bn]).alloc (.cells #[.int .u8 0, .int .u8 0, .int .u8 0, .int .u8 0] 23)).below bel1
  have hR := (hasBlk_new (w.alloc (.cells #[.int .u8 c0, .int .u8 c1, .int .u8 c2, .int .u8 c3, .int .i64 k, .int .u8 cu, .int .i64 bi, .bool bl, .int .i64 bn] 49)) 23 #[.int .u8 0, .int .u8 0, .int .u8 0, .int .u8 0]).below bel1
  simp only [World.size_alloc] at hR
  have B1 : Below w.heap.size w w1 := (by repeat' (first | exact Below.refl _ _ | assumption | apply Below.drew | refine Below.setCell ?_ (by first | omega | (simp; done) | (simp; omega)) _ | refine Below.alloc ?_ (by first | omega | (simp; done) | (simp; omega)) _) : Below w.heap.size w ((w.alloc (.cells #[.int .u8 c0, .int .u8 c1, .int .u8 c2, .int .u8 c3, .int .i64 k, .int .u8 cu, .int .i64 bi, .bool bl, .int .i64 bn] 49)).alloc (.cells #[.int .u8 0, .int .u8 0, .int .u8 0, .int .u8 0] 23))).trans (bel1.mono (by simp; omega))
  have z1 := hR.lt
  have a0 := hL.cell 0
  have a1 := hL.cell 1
  have a2 := hL.cell 2
  have a3 := hL.cell 3
  have a4 := hL.cell 4
  have a5 := hL.cell 5
  have a6 := hL.cell 6
  have a7 := hL.cell 7
  have a8 := hL.cell 8
  have r0 := hR.cell 0
  have r1 := hR.cell 1
  have r2 := hR.cell 2
  have r3 := hR.cell 3
  have rf0 := hR.frozen 0
  have rf1 := hR.frozen 1
  have rf2 := hR.frozen 2
  have rf3 := hR.frozen 3
  simp at a0 a1 a2 a3 a4 a5 a6 a7 a8 r0 r1 r2 r3
  go_wp2_with fail
  refine (hlk.out _).mono ?_
  rw [hle.out]
  rintro e w2 ⟨rfl, bel2⟩
  have L0 := Lib.hid hL
  have R0 := Lib.hid hR
  clear hL hR a0 a1 a2 a3 a4 a5 a6 a7 a8 r0 rf0 r1 rf1 r2 rf2 r3 rf3
  have hL := L0.out.below bel2
  have hR := R0.out.below bel2
  have B2 := B1.trans (bel2.mono (by omega))
  have z2 := hR.lt
  clear B1 L0 R0
  have a0 := hL.cell 0
  have a1 := hL.cell 1
  have a2 := hL.cell 2
  have a3 := hL.cell 3
  have a4 := hL.cell 4
  have a5 := hL.cell 5
  have a6 := hL.cell 6
  have a7 := hL.cell 7
  have a8 := hL.cell 8
  have r0 := hR.cell 0
  have r1 := hR.cell 1
  have r2 := hR.cell 2
  have r3 := hR.cell 3
  have rf0 := hR.frozen 0
  have rf1 := hR.frozen 1
  have rf2 := hR.frozen 2
  have rf3 := hR.frozen 3
  simp at a0 a1 a2 a3 a4 a5 a6 a7 a8 r0 r1 r2 r3
  go_wp2_with fail
  refine (hpt.out _ (Hl.out.below B2)).mono ?_
  rintro e w3 ⟨rfl, bel3⟩
  have L0 := Lib.hid hL
  have R0 := Lib.hid hR
  clear hL hR a0 a1 a2 a3 a4 a5 a6 a7 a8 r0 rf0 r1 rf1 r2 rf2 r3 rf3
  have hR := R0.out.below bel3
  have B3 := B2.trans (bel3.mono (by omega))
  have z3 := hR.lt
  clear B2 L0 R0
  have r0 := hR.cell 0
  have r1 := hR.cell 1
  have r2 := hR.cell 2
  have r3 := hR.cell 3
  have rf0 := hR.frozen 0
  have rf1 := hR.frozen 1
  have rf2 := hR.frozen 2
  have rf3 := hR.frozen 3
  simp at r0 r1 r2 r3
  go_wp2
  refine bodyPost_ret (v := .tuple #[.agg #[_, _, _, _], _]) (by simp [results, Try.results33, go_sem, *]) rfl ⟨rfl, ?_⟩
  have bel0 := B3
  repeat' (first | exact Below.refl _ _ | assumption | apply Below.drew | refine Below.setCell ?_ (by first | omega | (simp; done) | (simp; omega)) _ | refine Below.alloc ?_ (by first | omega | (simp; done) | (simp; omega)) _)

theorem paint_any (A : Option Addr) (m c : Nat) (D : Nat → TexD) (cc : Nat → Int) (tx cu bi : Int) (bl : Bool) (bn u v : Int) (w : World) (hl : TL w A m D) (hb : ∀ j, Byte (cc j)) (hB : ∀ i, i < m → ∀ p, p < (D i).n → ∀ j, j < 4 → Byte ((D i).f p j)) :
    Calls Try.prog 32 #[.agg #[.int .u8 (cc 0), .int .u8 (cc 1), .int .u8 (cc 2), .int .u8 (cc 3), .int .i64 tx, .int .u8 cu, .int .i64 bi, .bool bl, .int .i64 bn], .slice A m c, .int .i64 u, .int .i64 v] w fun e w' =>
      e = .returned (.tuple #[.agg #[.int .u8 (if paintE D m tx cu bi bn u v = 0 then paintC D cc tx u v 0 else 0), .int .u8 (if paintE D m tx cu bi bn u v = 0 then paintC D cc tx u v 1 else 0), .int .u8 (if paintE D m tx cu bi bn u v = 0 then paintC D cc tx u v 2 else 0), .int .u8 (if paintE D m tx cu bi bn u v = 0 then paintC D cc tx u v 3 else 0)], .int .i64 (paintE D m tx cu bi bn u v)]) ∧ Below w.heap.size w w' := by
  by_cases hce : checksE D m = 0
  · have hm := (checksE_zero hce).1
    by_cases hle : lookE tx cu bi bn m = 0
    · obtain ⟨⟨ht0, ht1⟩, _⟩ := id (lookE_zero hle)
      by_cases hp : (0 ≤ u ∧ u ≤ 255) ∧ (0 ≤ v ∧ v ≤ 255)
      · have e : paintE D m tx cu bi bn u v = 0 := by unfold paintE; rw [if_neg (by simpa using hce), if_neg (by simpa using hle), if_pos hp]
        obtain ⟨⟨u0, u1⟩, ⟨v0, v1⟩⟩ := hp
        rw [e]
        by_cases ht : tx < 0
        · have := paint_plain A m c D (cc 0) (cc 1) (cc 2) (cc 3) tx cu bi bl bn u v w hl hce hle u0 u1 v0 v1 ht
          simpa only [if_true, paintC, if_pos ht] using this
        · obtain ⟨k, rfl⟩ := Int.eq_ofNat_of_zero_le (a := tx) (by omega)
          have := paint_mix A m c D (cc 0) (cc 1) (cc 2) (cc 3) cu bi bl bn u v w hl hce k ht1 hle u0 u1 v0 v1 ⟨hb 0, hb 1, hb 2, hb 3⟩ (hB k (by omega))
          simpa only [if_true, paintC, if_neg ht, Int.toNat_natCast] using this
      · have e : paintE D m tx cu bi bn u v = 2 := by unfold paintE; rw [if_neg (by simpa using hce), if_neg (by simpa using hle), if_neg hp]
        rw [e]
        exact paint_arg A m c D (cc 0) (cc 1) (cc 2) (cc 3) tx cu bi bl bn u v w hl hce hle hp
    · have e : paintE D m tx cu bi bn u v = lookE tx cu bi bn m := by unfold paintE; rw [if_neg (by simpa using hce), if_pos hle]
      rw [e, if_neg hle, if_neg hle, if_neg hle, if_neg hle]
      exact paint_look A m c D (cc 0) (cc 1) (cc 2) (cc 3) tx cu bi bl bn u v w hl hce _ rfl (by simpa using hle)
  · have e : paintE D m tx cu bi bn u v = checksE D m := by unfold paintE; rw [if_pos hce]
    rw [e, if_neg hce, if_neg hce, if_neg hce, if_neg hce]
    exact paint_tex A m c D (cc 0) (cc 1) (cc 2) (cc 3) tx cu bi bl bn u v w hl _ rfl (by simpa using hce)

theorem refpaint_any (A : Option Addr) (m c : Nat) (D : Nat → TexD) (cc : Nat → Int) (tx cu bi : Int) (bl : Bool) (bn u v : Int) (w : World) (hl : TL w A m D) (hb : ∀ j, Byte (cc j)) (hB : ∀ i, i < m → ∀ p, p < (D i).n → ∀ j, j < 4 → Byte ((D i).f p j)) :
    Calls Try.prog 33 #[.agg #[.int .u8 (cc 0), .int .u8 (cc 1), .int .u8 (cc 2), .int .u8 (cc 3), .int .i64 tx, .int .u8 cu, .int .i64 bi, .bool bl, .int .i64 bn], .slice A m c, .int .i64 u, .int .i64 v] w fun e w' =>
      e = .returned (.tuple #[.agg #[.int .u8 (if paintE D m tx cu bi bn u v = 0 then paintC D cc tx u v 0 else 0), .int .u8 (if paintE D m tx cu bi bn u v = 0 then paintC D cc tx u v 1 else 0), .int .u8 (if paintE D m tx cu bi bn u v = 0 then paintC D cc tx u v 2 else 0), .int .u8 (if paintE D m tx cu bi bn u v = 0 then paintC D cc tx u v 3 else 0)], .int .i64 (paintE D m tx cu bi bn u v)]) ∧ Below w.heap.size w w' := by
  by_cases hce : checksE D m = 0
  · have hm := (checksE_zero hce).1
    by_cases hle : lookE tx cu bi bn m = 0
    · obtain ⟨⟨ht0, ht1⟩, _⟩ := id (lookE_zero hle)
      by_cases hp : (0 ≤ u ∧ u ≤ 255) ∧ (0 ≤ v ∧ v ≤ 255)
      · have e : paintE D m tx cu bi bn u v = 0 := by unfold paintE; rw [if_neg (by simpa using hce), if_neg (by simpa using hle), if_pos hp]
        obtain ⟨⟨u0, u1⟩, ⟨v0, v1⟩⟩ := hp
        rw [e]
        by_cases ht : tx < 0
        · have := refpaint_plain A m c D (cc 0) (cc 1) (cc 2) (cc 3) tx cu bi bl bn u v w hl hce (lookE_zero hle) u0 u1 v0 v1 ht
          simpa only [if_true, paintC, if_pos ht] using this
        · obtain ⟨k, rfl⟩ := Int.eq_ofNat_of_zero_le (a := tx) (by omega)
          have := refpaint_mix A m c D (cc 0) (cc 1) (cc 2) (cc 3) cu bi bl bn u v w hl hce k ht1 (lookE_zero hle) u0 u1 v0 v1 ⟨hb 0, hb 1, hb 2, hb 3⟩ (hB k (by omega))
          simpa only [if_true, paintC, if_neg ht, Int.toNat_natCast] using this
      · have e : paintE D m tx cu bi bn u v = 2 := by unfold paintE; rw [if_neg (by simpa using hce), if_neg (by simpa using hle), if_neg hp]
        rw [e]
        exact refpaint_arg A m c D (cc 0) (cc 1) (cc 2) (cc 3) tx cu bi bl bn u v w hl hce (lookE_zero hle) hp
    · have hl8 : lookE tx cu bi bn m = 8 := lookE_bad (by omega) (fun h => hle (lookE_ok (by omega) h))
      have e : paintE D m tx cu bi bn u v = 8 := by unfold paintE; rw [if_neg (by simpa using hce), if_pos hle, hl8]
      rw [e]
      exact refpaint_look A m c D (cc 0) (cc 1) (cc 2) (cc 3) tx cu bi bl bn u v w hl hce (by omega) (fun h => hle (lookE_ok (by omega) h))
  · have e : paintE D m tx cu bi bn u v = checksE D m := by unfold paintE; rw [if_pos hce]
    rw [e, if_neg hce, if_neg hce, if_neg hce, if_neg hce]
    exact refpaint_tex A m c D (cc 0) (cc 1) (cc 2) (cc 3) tx cu bi bl bn u v w hl _ rfl (by simpa using hce)
end Go.Proofs.Ytgcappooiecaiaa
