/- The walks of shade.Paint, the reference's Painted and Paint. -/
import Derived.Test.YtgcappooiecaiaaW12
import Derived.Test.YtgcappooiecaiaaW2
namespace Go.Proofs.Ytgcappooiecaiaa
open Go.RowKit
set_option linter.unusedVariables false

/-- The error of painting. -/
noncomputable def paintE (D : Nat → TexD) (m : Nat) (tx cu bi bn u v : Int) : Int :=
  if checksE D m ≠ 0 then checksE D m else if lookE tx cu bi bn m ≠ 0 then lookE tx cu bi bn m else if (0 ≤ u ∧ u ≤ 255) ∧ (0 ≤ v ∧ v ≤ 255) then 0 else 2
/-- The colour that is painted. -/
def paintC (D : Nat → TexD) (c : Nat → Int) (tx u v : Int) (j : Nat) : Int := if tx < 0 then c j else mixc (c j) ((D tx.toNat).f (tix (D tx.toNat).W (D tx.toNat).H u v).toNat j)
theorem checksE_zero {D : Nat → TexD} {m : Nat} (h : checksE D m = 0) : m ≤ 16 ∧ ∀ i, i < m → (D i).may := by
  unfold checksE at h
  split at h
  · exact absurd h (by decide)
  · split at h
    · exact ⟨by omega, by assumption⟩
    · exact absurd h (by decide)
theorem lookE_zero {tx cu bi bn t : Int} (h : lookE tx cu bi bn t = 0) : MayL tx cu bi bn t := by
  unfold lookE at h
  split at h
  · exact absurd h (by decide)
  · split at h
    · assumption
    · exact absurd h (by decide)
theorem info23 : (Try.prog.info? 23).map (fun i => (i.zero, i.size, i.bytes)) = some (some (.agg #[.int .u8 0, .int .u8 0, .int .u8 0, .int .u8 0]), 4, 4) := by kernel_rfl

set_option maxRecDepth 100000 in
set_option maxHeartbeats 2000000 in
theorem paint_tex (A : Option Addr) (m c : Nat) (D : Nat → TexD) (c0 c1 c2 c3 tx cu bi : Int) (bl : Bool) (bn u v : Int) (w : World) (hl : TL w A m D) (ce : Int) (hce : checksE D m = ce) (h0 : (ce != 0) = true) :
    Calls Try.prog 32 #[.agg #[.int .u8 c0, .int .u8 c1, .int .u8 c2, .int .u8 c3, .int .i64 tx, .int .u8 cu, .int .i64 bi, .bool bl, .int .i64 bn], .slice A m c, .int .i64 u, .int .i64 v] w fun e w' => e = .returned (.tuple #[.agg #[.int .u8 0, .int .u8 0, .int .u8 0, .int .u8 0], .int .i64 ce]) ∧ Below w.heap.size w w' := by
  have Hl := Lib.hid hl
  have hch := Lib.hid (checks_any A m c D)
  clear hl
  have he := Lib.hid hce
  clear hce
  go_enter Try.func32, Try.ntmps32
  go_wp2_with fail
  refine (hch.out _ (Hl.out.below (by repeat' (first | exact Below.refl _ _ | assumption | apply Below.drew | refine Below.setCell ?_ (by first | omega | (simp; done) | (simp; omega)) _ | refine Below.alloc ?_ (by first | omega | (simp; done) | (simp; omega)) _)))).mono ?_
  rw [he.out]
  rintro e w1 ⟨rfl, bel1⟩
  have hL := ((hasBlk_new w 49 #[.int .u8 c0, .int .u8 c1, .int .u8 c2, .int .u8 c3, .int .i64 tx, .int .u8 cu, .int .i64 bi, .bool bl, .int .i64 bn]).alloc (.cells #[.int .u8 0, .int .u8 0, .int .u8 0, .int .u8 0] 23)).below bel1
  have hR := (hasBlk_new (w.alloc (.cells #[.int .u8 c0, .int .u8 c1, .int .u8 c2, .int .u8 c3, .int .i64 tx, .int .u8 cu, .int .i64 bi, .bool bl, .int .i64 bn] 49)) 23 #[.int .u8 0, .int .u8 0, .int .u8 0, .int .u8 0]).below bel1
  simp only [World.size_alloc] at hR
  have B1 : Below w.heap.size w w1 := (by repeat' (first | exact Below.refl _ _ | assumption | apply Below.drew | refine Below.setCell ?_ (by first | omega | (simp; done) | (simp; omega)) _ | refine Below.alloc ?_ (by first | omega | (simp; done) | (simp; omega)) _) : Below w.heap.size w ((w.alloc (.cells #[.int .u8 c0, .int .u8 c1, .int .u8 c2, .int .u8 c3, .int .i64 tx, .int .u8 cu, .int .i64 bi, .bool bl, .int .i64 bn] 49)).alloc (.cells #[.int .u8 0, .int .u8 0, .int .u8 0, .int .u8 0] 23))).trans (bel1.mono (by simp; omega))
  have z1 := hR.lt
  have a0 := hL.cell 0
  have a1 := hL.cell 1
  have a2 := hL.cell 2
  have a3 := hL.cell 3
  have a4 := hL.cell 4
  have a5 := hL.cell 5
  have a6 := hL.cell 6
  have a7 := hL.cell 7
  have a8 := hL.cell 8
  have r0 := hR.cell 0
  have r1 := hR.cell 1
  have r2 := hR.cell 2
  have r3 := hR.cell 3
  have rf0 := hR.frozen 0
  have rf1 := hR.frozen 1
  have rf2 := hR.frozen 2
  have rf3 := hR.frozen 3
  simp at a0 a1 a2 a3 a4 a5 a6 a7 a8 r0 r1 r2 r3
  go_wp2
  refine bodyPost_ret (v := .tuple #[.agg #[_, _, _, _], _]) (by simp [results, Try.results32, go_sem, *]) rfl ⟨rfl, ?_⟩
  have bel0 := B1
  repeat' (first | exact Below.refl _ _ | assumption | apply Below.drew | refine Below.setCell ?_ (by first | omega | (simp; done) | (simp; omega)) _ | refine Below.alloc ?_ (by first | omega | (simp; done) | (simp; omega)) _)

set_option maxRecDepth 100000 in
set_option maxHeartbeats 2000000 in
theorem paint_look (A : Option Addr) (m c : Nat) (D : Nat → TexD) (c0 c1 c2 c3 tx cu bi : Int) (bl : Bool) (bn u v : Int) (w : World) (hl : TL w A m D) (hce : checksE D m = 0) (le : Int) (hle0 : lookE tx cu bi bn m = le) (h1 : (le != 0) = true) :
    Calls Try.prog 32 #[.agg #[.int .u8 c0, .int .u8 c1, .int .u8 c2, .int .u8 c3, .int .i64 tx, .int .u8 cu, .int .i64 bi, .bool bl, .int .i64 bn], .slice A m c, .int .i64 u, .int .i64 v] w fun e w' => e = .returned (.tuple #[.agg #[.int .u8 0, .int .u8 0, .int .u8 0, .int .u8 0], .int .i64 le]) ∧ Below w.heap.size w w' := by
  have Hl := Lib.hid hl
  have hch := Lib.hid (checks_any A m c D)
  clear hl
  have he := Lib.hid hce
  clear hce
  have hle := Lib.hid hle0
  clear hle0
  have hlk := Lib.hid (checklook_any c0 c1 c2 c3 tx cu bi bl bn m)
  go_enter Try.func32, Try.ntmps32
  go_wp2_with fail
  refine (hch.out _ (Hl.out.below (by repeat' (first | exact Below.refl _ _ | assumption | apply Below.drew | refine Below.setCell ?_ (by first | omega | (simp; done) | (simp; omega)) _ | refine Below.alloc ?_ (by first | omega | (simp; done) | (simp; omega)) _)))).mono ?_
  rw [he.out]
  rintro e w1 ⟨rfl, bel1⟩
  have hL := ((hasBlk_new w 49 #[.int .u8 c0, .int .u8 c1, .int .u8 c2, .int .u8 c3, .int .i64 tx, .int .u8 cu, .int .i64 bi, .bool bl, .int .i64 bn]).alloc (.cells #[.int .u8 0, .int .u8 0, .int .u8 0, .int .u8 0] 23)).below bel1
  have hR := (hasBlk_new (w.alloc (.cells #[.int .u8 c0, .int .u8 c1, .int .u8 c2, .int .u8 c3, .int .i64 tx, .int .u8 cu, .int .i64 bi, .bool bl, .int .i64 bn] 49)) 23 #[.int .u8 0, .int .u8 0, .int .u8 0, .int .u8 0]).below bel1
  simp only [World.size_alloc] at hR
  have B1 : Below w.heap.size w w1 := (by repeat' (first | exact Below.refl _ _ | assumption | apply Below.drew | refine Below.setCell ?_ (by first | omega | (simp; done) | (simp; omega)) _ | refine Below.alloc ?_ (by first | omega | (simp; done) | (simp; omega)) _) : Below w.heap.size w ((w.alloc (.cells #[.int .u8 c0, .int .u8 c1, .int .u8 c2, .int .u8 c3, .int .i64 tx, .int .u8 cu, .int .i64 bi, .bool bl, .int .i64 bn] 49)).alloc (.cells #[.int .u8 0, .int .u8 0, .int .u8 0, .int .u8 0] 23))).trans (bel1.mono (by simp; omega))
  have z1 := hR.lt
  have a0 := hL.cell 0
  have a1 := hL.cell 1
  have a2 := hL.cell 2
  have a3 := hL.cell 3
  have a4 := hL.cell 4
  have a5 := hL.cell 5
  have a6 := hL.cell 6
  have a7 := hL.cell 7
  have a8 := hL.cell 8
  have r0 := hR.cell 0
  have r1 := hR.cell 1
  have r2 := hR.cell 2
  have r3 := hR.cell 3
  have rf0 := hR.frozen 0
  have rf1 := hR.frozen 1
  have rf2 := hR.frozen 2
  have rf3 := hR.frozen 3
  simp at a0 a1 a2 a3 a4 a5 a6 a7 a8 r0 r1 r2 r3
  go_wp2_with fail
  refine (hlk.out _).mono ?_
  rw [hle.out]
  rintro e w2 ⟨rfl, bel2⟩
  have L0 := Lib.hid hL
  have R0 := Lib.hid hR
  clear hL hR a0 a1 a2 a3 a4 a5 a6 a7 a8 r0 rf0 r1 rf1 r2 rf2 r3 rf3
  have hL := L0.out.below bel2
  have hR := R0.out.below bel2
  have B2 := B1.trans (bel2.mono (by omega))
  have z2 := hR.lt
  clear B1 L0 R0
  have a0 := hL.cell 0
  have a1 := hL.cell 1
  have a2 := hL.cell 2
  have a3 := hL.cell 3
  have a4 := hL.cell 4
  have a5 := hL.cell 5
  have a6 := hL.cell 6
  have a7 := hL.cell 7
  have a8 := hL.cell 8
  have r0 := hR.cell 0
  have r1 := hR.cell 1
  have r2 := hR.cell 2
  have r3 := hR.cell 3
  have rf0 := hR.frozen 0
  have rf1 := hR.frozen 1
  have rf2 := hR.frozen 2
  have rf3 := hR.frozen 3
  simp at a0 a1 a2 a3 a4 a5 a6 a7 a8 r0 r1 r2 r3
  go_wp2
  refine bodyPost_ret (v := .tuple #[.agg #[_, _, _, _], _]) (by simp [results, Try.results32, go_sem, *]) rfl ⟨rfl, ?_⟩
  have bel0 := B2
  repeat' (first | exact Below.refl _ _ | assumption | apply Below.drew | refine Below.setCell ?_ (by first | omega | (simp; done) | (simp; omega)) _ | refine Below.alloc ?_ (by first | omega | (simp; done) | (simp; omega)) _)

set_option maxRecDepth 100000 in
set_option maxHeartbeats 2000000 in
theorem paint_arg (A : Option Addr) (m c : Nat) (D : Nat → TexD) (c0 c1 c2 c3 tx cu bi : Int) (bl : Bool) (bn u v : Int) (w : World) (hl : TL w A m D) (hce : checksE D m = 0) (hle0 : lookE tx cu bi bn m = 0) (hp : ¬ ((0 ≤ u ∧ u ≤ 255) ∧ (0 ≤ v ∧ v ≤ 255))) :
    Calls Try.prog 32 #[.agg #[.int .u8 c0, .int .u8 c1, .int .u8 c2, .int .u8 c3, .int .i64 tx, .int .u8 cu, .int .i64 bi, .bool bl, .int .i64 bn], .slice A m c, .int .i64 u, .int .i64 v] w fun e w' => e = .returned (.tuple #[.agg #[.int .u8 0, .int .u8 0, .int .u8 0, .int .u8 0], .int .i64 2]) ∧ Below w.heap.size w w' := by
  have Hl := Lib.hid hl
  have hch := Lib.hid (checks_any A m c D)
  clear hl
  have he := Lib.hid hce
  clear hce
  have hle := Lib.hid hle0
  clear hle0
  have hlk := Lib.hid (checklook_any c0 c1 c2 c3 tx cu bi bl bn m)
  obtain ⟨mn, hmn⟩ : ∃ x, (if v < u then v else u) = x := ⟨_, rfl⟩
  obtain ⟨mx, hmx⟩ : ∃ x, (if u < v then v else u) = x := ⟨_, rfl⟩
  have g : decide (mn < 0) = true ∨ (decide (mn < 0) = false ∧ decide (255 < mx) = true) := by
    rw [← hmn, ← hmx]
    by_cases h1 : (if v < u then v else u) < 0
    · exact .inl (decide_eq_true h1)
    · refine .inr ⟨decide_eq_false h1, decide_eq_true ?_⟩
      split at h1 <;> split <;> omega
  clear hp
  rcases g with g1 | ⟨g1, g2⟩
  all_goals
    go_enter Try.func32, Try.ntmps32
    go_wp2_with fail
    refine (hch.out _ (Hl.out.below (by repeat' (first | exact Below.refl _ _ | assumption | apply Below.drew | refine Below.setCell ?_ (by first | omega | (simp; done) | (simp; omega)) _ | refine Below.alloc ?_ (by first | omega | (simp; done) | (simp; omega)) _)))).mono ?_
    rw [he.out]
    rintro e w1 ⟨rfl, bel1⟩
    have hL := ((hasBlk_new w 49 #[.int .u8 c0, .int .u8 c1, .int .u8 c2, .int .u8 c3, .int .i64 tx, .int .u8 cu, .int .i64 bi, .bool bl, .int .i64 bn]).alloc (.cells #[.int .u8 0, .int .u8 0, .int .u8 0, .int .u8 0] 23)).below bel1
    have hR := (hasBlk_new (w.alloc (.cells #[.int .u8 c0, .int .u8 c1, .int .u8 c2, .int .u8 c3, .int .i64 tx, .int .u8 cu, .int .i64 bi, .bool bl, .int .i64 bn] 49)) 23 #[.int .u8 0, .int .u8 0, .int .u8 0, .int .u8 0]).below bel1
    simp only [World.size_alloc] at hR
    have B1 : Below w.heap.size w w1 := (by repeat' (first | exact Below.refl _ _ | assumption | apply Below.drew | refine Below.setCell ?_ (by first | omega | (simp; done) | (simp; omega)) _ | refine Below.alloc ?_ (by first | omega | (simp; done) | (simp; omega)) _) : Below w.heap.size w ((w.alloc (.cells #[.int .u8 c0, .int .u8 c1, .int .u8 c2, .int .u8 c3, .int .i64 tx, .int .u8 cu, .int .i64 bi, .bool bl, .int .i64 bn] 49)).alloc (.cells #[.int .u8 0, .int .u8 0, .int .u8 0, .int .u8 0] 23))).trans (bel1.mono (by simp; omega))
    have z1 := hR.lt
    have a0 := hL.cell 0
    have a1 := hL.cell 1
    have a2 := hL.cell 2
    have a3 := hL.cell 3
    have a4 := hL.cell 4
    have a5 := hL.cell 5
    have a6 := hL.cell 6
    have a7 := hL.cell 7
    have a8 := hL.cell 8
    have r0 := hR.cell 0
    have r1 := hR.cell 1
    have r2 := hR.cell 2
    have r3 := hR.cell 3
    have rf0 := hR.frozen 0
    have rf1 := hR.frozen 1
    have rf2 := hR.frozen 2
    have rf3 := hR.frozen 3
    simp at a0 a1 a2 a3 a4 a5 a6 a7 a8 r0 r1 r2 r3
    go_wp2_with fail
    refine (hlk.out _).mono ?_
    rw [hle.out]
    rintro e w2 ⟨rfl, bel2⟩
    have L0 := Lib.hid hL
    have R0 := Lib.hid hR
    clear hL hR a0 a1 a2 a3 a4 a5 a6 a7 a8 r0 rf0 r1 rf1 r2 rf2 r3 rf3
    have hL := L0.out.below bel2
    have hR := R0.out.below bel2
    have B2 := B1.trans (bel2.mono (by omega))
    have z2 := hR.lt
    clear B1 L0 R0
    have a0 := hL.cell 0
    have a1 := hL.cell 1
    have a2 := hL.cell 2
    have a3 := hL.cell 3
    have a4 := hL.cell 4
    have a5 := hL.cell 5
    have a6 := hL.cell 6
    have a7 := hL.cell 7
    have a8 := hL.cell 8
    have r0 := hR.cell 0
    have r1 := hR.cell 1
    have r2 := hR.cell 2
    have r3 := hR.cell 3
    have rf0 := hR.frozen 0
    have rf1 := hR.frozen 1
    have rf2 := hR.frozen 2
    have rf3 := hR.frozen 3
    simp at a0 a1 a2 a3 a4 a5 a6 a7 a8 r0 r1 r2 r3
    go_wp2
    refine bodyPost_ret (v := .tuple #[.agg #[_, _, _, _], _]) (by simp [results, Try.results32, go_sem, *]) rfl ⟨rfl, ?_⟩
    have bel0 := B2
    repeat' (first | exact Below.refl _ _ | assumption | apply Below.drew | refine Below.setCell ?_ (by first | omega | (simp; done) | (simp; omega)) _ | refine Below.alloc ?_ (by first | omega | (simp; done) | (simp; omega)) _)

set_option maxRecDepth 100000 in
set_option maxHeartbeats 2000000 in
theorem paint_plain (A : Option Addr) (m c : Nat) (D : Nat → TexD) (c0 c1 c2 c3 tx cu bi : Int) (bl : Bool) (bn u v : Int) (w : World) (hl : TL w A m D) (hce : checksE D m = 0) (hle0 : lookE tx cu bi bn m = 0) (u0 : 0 ≤ u) (u1 : u ≤ 255) (v0 : 0 ≤ v) (v1 : v ≤ 255) (ht : tx < 0) :
    Calls Try.prog 32 #[.agg #[.int .u8 c0, .int .u8 c1, .int .u8 c2, .int .u8 c3, .int .i64 tx, .int .u8 cu, .int .i64 bi, .bool bl, .int .i64 bn], .slice A m c, .int .i64 u, .int .i64 v] w fun e w' => e = .returned (.tuple #[.agg #[.int .u8 c0, .int .u8 c1, .int .u8 c2, .int .u8 c3], .int .i64 0]) ∧ Below w.heap.size w w' := by
  have Hl := Lib.hid hl
  have hch := Lib.hid (checks_any A m c D)
  clear hl
  have he := Lib.hid hce
  clear hce
  have hle := Lib.hid hle0
  clear hle0
  have hlk := Lib.hid (checklook_any c0 c1 c2 c3 tx cu bi bl bn m)
  obtain ⟨mn, hmn⟩ : ∃ x, (if v < u then v else u) = x := ⟨_, rfl⟩
  obtain ⟨mx, hmx⟩ : ∃ x, (if u < v then v else u) = x := ⟨_, rfl⟩
  have g1 : decide (mn < 0) = false := decide_eq_false (by rw [← hmn]; split <;> omega)
  have g2 : decide (255 < mx) = false := decide_eq_false (by rw [← hmx]; split <;> omega)
  go_enter Try.func32, Try.ntmps32
  go_wp2_with fail
  refine (hch.out _ (Hl.out.below (by repeat' (first | exact Below.refl _ _ | assumption | apply Below.drew | refine Below.setCell ?_ (by first | omega | (simp; done) | (simp; omega)) _ | refine Below.alloc ?_ (by first | omega | (simp; done) | (simp; omega)) _)))).mono ?_
  rw [he.out]
  rintro e w1 ⟨rfl, bel1⟩
  have hL := ((hasBlk_new w 49 #[.int .u8 c0, .int .u8 c1, .int .u8 c2, .int .u8 c3, .int .i64 tx, .int .u8 cu, .int .i64 bi, .bool bl, .int .i64 bn]).alloc (.cells #[.int .u8 0, .int .u8 0, .int .u8 0, .int .u8 0] 23)).below bel1
  have hR := (hasBlk_new (w.alloc (.cells #[.int .u8 c0, .int .u8 c1, .int .u8 c2, .int .u8 c3, .int .i64 tx, .int .u8 cu, .int .i64 bi, .bool bl, .int .i64 bn] 49)) 23 #[.int .u8 0, .int .u8 0, .int .u8 0, .int .u8 0]).below bel1
  simp only [World.size_alloc] at hR
  have B1 : Below w.heap.size w w1 := (by repeat' (first | exact Below.refl _ _ | assumption | apply Below.drew | refine Below.setCell ?_ (by first | omega | (simp; done) | (simp; omega)) _ | refine Below.alloc ?_ (by first | omega | (simp; done) | (simp; omega)) _) : Below w.heap.size w ((w.alloc (.cells #[.int .u8 c0, .int .u8 c1, .int .u8 c2, .int .u8 c3, .int .i64 tx, .int .u8 cu, .int .i64 bi, .bool bl, .int .i64 bn] 49)).alloc (.cells #[.int .u8 0, .int .u8 0, .int .u8 0, .int .u8 0] 23))).trans (bel1.mono (by simp; omega))
  have z1 := hR.lt
  have a0 := hL.cell 0
  have a1 := hL.cell 1
  have a2 := hL.cell 2
  have a3 := hL.cell 3
  have a4 := hL.cell 4
  have a5 := hL.cell 5
  have a6 := hL.cell 6
  have a7 := hL.cell 7
  have a8 := hL.cell 8
  have r0 := hR.cell 0
  have r1 := hR.cell 1
  have r2 := hR.cell 2
  have r3 := hR.cell 3
  have rf0 := hR.frozen 0
  have rf1 := hR.frozen 1
  have rf2 := hR.frozen 2
  have rf3 := hR.frozen 3
  simp at a0 a1 a2 a3 a4 a5 a6 a7 a8 r0 r1 r2 r3
  go_wp2_with fail
  refine (hlk.out _).mono ?_
  rw [hle.out]
  rintro e w2 ⟨rfl, bel2⟩
  have L0 := Lib.hid hL
  have R0 := Lib.hid hR
  clear hL hR a0 a1 a2 a3 a4 a5 a6 a7 a8 r0 rf0 r1 rf1 r2 rf2 r3 rf3
  have hL := L0.out.below bel2
  have hR := R0.out.below bel2
  have B2 := B1.trans (bel2.mono (by omega))
  have z2 := hR.lt
  clear B1 L0 R0
  have a0 := hL.cell 0
  have a1 := hL.cell 1
  have a2 := hL.cell 2
  have a3 := hL.cell 3
  have a4 := hL.cell 4
  have a5 := hL.cell 5
  have a6 := hL.cell 6
  have a7 := hL.cell 7
  have a8 := hL.cell 8
  have r0 := hR.cell 0
  have r1 := hR.cell 1
  have r2 := hR.cell 2
  have r3 := hR.cell 3
  have rf0 := hR.frozen 0
  have rf1 := hR.frozen 1
  have rf2 := hR.frozen 2
  have rf3 := hR.frozen 3
  simp at a0 a1 a2 a3 a4 a5 a6 a7 a8 r0 r1 r2 r3
  go_wp2
  refine bodyPost_ret (v := .tuple #[.agg #[_, _, _, _], _]) (by simp [results, Try.results32, go_sem, *]) rfl ⟨rfl, ?_⟩
  have bel0 := B2
  repeat' (first | exact Below.refl _ _ | assumption | apply Below.drew | refine Below.setCell ?_ (by first | omega | (simp; done) | (simp; omega)) _ | refine Below.alloc ?_ (by first | omega | (simp; done) | (simp; omega)) _)

set_option maxRecDepth 100000 in
set_option maxHeartbeats 2000000 in
theorem paint_mix (A : Option Addr) (m c : Nat) (D : Nat → TexD) (c0 c1 c2 c3 cu bi : Int) (bl : Bool) (bn u v : Int) (w : World) (hl : TL w A m D) (hce : checksE D m = 0) (k : Nat) (hk : (k : Int) < m) (hle0 : lookE k cu bi bn m = 0) (u0 : 0 ≤ u) (u1 : u ≤ 255) (v0 : 0 ≤ v) (v1 : v ≤ 255) (hb : Byte c0 ∧ Byte c1 ∧ Byte c2 ∧ Byte c3) (hB : ∀ p, p < (D k).n → ∀ j, j < 4 → Byte ((D k).f p j)) :
    Calls Try.prog 32 #[.agg #[.int .u8 c0, .int .u8 c1, .int .u8 c2, .int .u8 c3, .int .i64 k, .int .u8 cu, .int .i64 bi, .bool bl, .int .i64 bn], .slice A m c, .int .i64 u, .int .i64 v] w fun e w' => e = .returned (.tuple #[.agg #[.int .u8 (mixc c0 ((D k).f (tix (D k).W (D k).H u v).toNat 0)), .int .u8 (mixc c1 ((D k).f (tix (D k).W (D k).H u v).toNat 1)), .int .u8 (mixc c2 ((D k).f (tix (D k).W (D k).H u v).toNat 2)), .int .u8 (mixc c3 ((D k).f (tix (D k).W (D k).H u v).toNat 3))], .int .i64 0]) ∧ Below w.heap.size w w' := by
  have Hl := Lib.hid hl
  have hch := Lib.hid (checks_any A m c D)
  clear hl
  have he := Lib.hid hce
  clear hce
  have hle := Lib.hid hle0
  clear hle0
  have hlk := Lib.hid (checklook_any c0 c1 c2 c3 k cu bi bl bn m)
  obtain ⟨mn, hmn⟩ : ∃ x, (if v < u then v else u) = x := ⟨_, rfl⟩
  obtain ⟨mx, hmx⟩ : ∃ x, (if u < v then v else u) = x := ⟨_, rfl⟩
  have g1 : decide (mn < 0) = false := decide_eq_false (by rw [← hmn]; split <;> omega)
  have g2 : decide (255 < mx) = false := decide_eq_false (by rw [← hmx]; split <;> omega)
  go_enter Try.func32, Try.ntmps32
  go_wp2_with fail
  refine (hch.out _ (Hl.out.below (by repeat' (first | exact Below.refl _ _ | assumption | apply Below.drew | refine Below.setCell ?_ (by first | omega | (simp; done) | (simp; omega)) _ | refine Below.alloc ?_ (by first | omega | (simp; done) | (simp; omega)) _)))).mono ?_
  rw [he.out]
  rintro e w1 ⟨rfl, bel1⟩
  have hL := ((hasBlk_new w 49 #[.int .u8 c0, .int .u8 c1, .int .u8 c2, .int .u8 c3, .int .i64 k, .int .u8 cu, .int .i64 bi, .bool bl, .int .i64 bn]).alloc (.cells #[.int .u8 0, .int .u8 0, .int .u8 0, .int .u8 0] 23)).below bel1
  have hR := (hasBlk_new (w.alloc (.cells #[.int .u8 c0, .int .u8 c1, .int .u8 c2, .int .u8 c3, .int .i64 k, .int .u8 cu, .int .i64 bi, .bool bl, .int .i64 bn] 49)) 23 #[.int .u8 0, .int .u8 0, .int .u8 0, .int .u8 0]).below bel1
  simp only [World.size_alloc] at hR
  have B1 : Below w.heap.size w w1 := (by repeat' (first | exact Below.refl _ _ | assumption | apply Below.drew | refine Below.setCell ?_ (by first | omega | (simp; done) | (simp; omega)) _ | refine Below.alloc ?_ (by first | omega | (simp; done) | (simp; omega)) _) : Below w.heap.size w ((w.alloc (.cells #[.int .u8 c0, .int .u8 c1, .int .u8 c2, .int .u8 c3, .int .i64 k, .int .u8 cu, .int .i64 bi, .bool bl, .int .i64 bn] 49)).alloc (.cells #[.int .u8 0, .int .u8 0, .int .u8 0, .int .u8 0] 23))).trans (bel1.mono (by simp; omega))
  have z1 := hR.lt
  have a0 := hL.cell 0
  have a1 := hL.cell 1
  have a2 := hL.cell 2
  have a3 := hL.cell 3
  have a4 := hL.cell 4
  have a5 := hL.cell 5
  have a6 := hL.cell 6
  have a7 := hL.cell 7
  have a8 := hL.cell 8
  have r0 := hR.cell 0
  have r1 := hR.cell 1
  have r2 := hR.cell 2
  have r3 := hR.cell 3
  have rf0 := hR.frozen 0
  have rf1 := hR.frozen 1
  have rf2 := hR.frozen 2
  have rf3 := hR.frozen 3
  simp at a0 a1 a2 a3 a4 a5 a6 a7 a8 r0 r1 r2 r3
  go_wp2_with fail
  refine (hlk.out _).mono ?_
  rw [hle.out]
  rintro e w2 ⟨rfl, bel2⟩
  have L0 := Lib.hid hL
  have R0 := Lib.hid hR
  clear hL hR a0 a1 a2 a3 a4 a5 a6 a7 a8 r0 rf0 r1 rf1 r2 rf2 r3 rf3
  have hL := L0.out.below bel2
  have hR := R0.out.below bel2
  have B2 := B1.trans (bel2.mono (by omega))
  have z2 := hR.lt
  clear B1 L0 R0
  have a0 := hL.cell 0
  have a1 := hL.cell 1
  have a2 := hL.cell 2
  have a3 := hL.cell 3
  have a4 := hL.cell 4
  have a5 := hL.cell 5
  have a6 := hL.cell 6
  have a7 := hL.cell 7
  have a8 := hL.cell 8
  have r0 := hR.cell 0
  have r1 := hR.cell 1
  have r2 := hR.cell 2
  have r3 := hR.cell 3
  have rf0 := hR.frozen 0
  have rf1 := hR.frozen 1
  have rf2 := hR.frozen 2
  have rf3 := hR.frozen 3
  simp at a0 a1 a2 a3 a4 a5 a6 a7 a8 r0 r1 r2 r3
  obtain ⟨b, off, rfl, hbl, hc, hpx⟩ := (Hl.out.below B2) (by omega)
  obtain ⟨d0, d1, d2⟩ := hc k (by omega)
  have hmay := (checksE_zero he.out).2 k (by omega)
  obtain ⟨⟨m0, m1⟩, ⟨m2, m3⟩, mn4⟩ := id hmay
  obtain ⟨_, _, _, t0, t1⟩ := tix_bd (n := (D k).n) m0 m1 m2 m3 mn4 u0 u1 v0 v1
  have ht : (tix (D k).W (D k).H u v).toNat < (D k).n := by omega
  have b0 := hB _ ht 0 (by omega)
  have b1 := hB _ ht 1 (by omega)
  have b2 := hB _ ht 2 (by omega)
  have b3 := hB _ ht 3 (by omega)
  have hat := Lib.hid (at_ok (D k).W (D k).H u v (D k).a (D k).n (D k).c (D k).f w2 hmay (hpx k (by omega)) u0 u1 v0 v1)
  obtain ⟨q0, q1, q2, q3⟩ := hb
  have hmix := Lib.hid (fun w => mix_any q0 q1 q2 q3 b0 b1 b2 b3 w)
  clear hc hpx hmay hB m0 m1 m2 m3 mn4 t0 t1 ht b0 b1 b2 b3 q0 q1 q2 q3
  have k0 : (0 : Int) ≤ (k : Int) := by omega
  go_wp2_with fail
  refine (hat.out).mono ?_
  rintro e w3 ⟨rfl, bel3⟩
  have L0 := Lib.hid hL
  have R0 := Lib.hid hR
  clear hL hR a0 a1 a2 a3 a4 a5 a6 a7 a8 r0 rf0 r1 rf1 r2 rf2 r3 rf3 d0 d1 d2
  have hL := L0.out.below bel3
  have hR := R0.out.below bel3
  have B3 := B2.trans (bel3.mono (by omega))
  have z3 := hR.lt
  have z3' := hL.lt
  clear B2 L0 R0
  have a0 := hL.cell 0
  have a1 := hL.cell 1
  have a2 := hL.cell 2
  have a3 := hL.cell 3
  have a4 := hL.cell 4
  have a5 := hL.cell 5
  have a6 := hL.cell 6
  have a7 := hL.cell 7
  have a8 := hL.cell 8
  have r0 := hR.cell 0
  have r1 := hR.cell 1
  have r2 := hR.cell 2
  have r3 := hR.cell 3
  have rf0 := hR.frozen 0
  have rf1 := hR.frozen 1
  have rf2 := hR.frozen 2
  have rf3 := hR.frozen 3
  simp at a0 a1 a2 a3 a4 a5 a6 a7 a8 r0 r1 r2 r3
  go_wp2_with fail
  refine (hmix.out _).mono ?_
  rintro e w4 ⟨rfl, bel4⟩
  have L0 := Lib.hid hL
  have R0 := Lib.hid hR
  clear hL hR a0 a1 a2 a3 a4 a5 a6 a7 a8 r0 rf0 r1 rf1 r2 rf2 r3 rf3
  have hR := (R0.out.alloc _).below bel4
  have B4 := (B3.alloc (by omega) _).trans (bel4.mono (by simp; omega))
  have z4 := hR.lt
  clear B3 L0 R0
  have r0 := hR.cell 0
  have r1 := hR.cell 1
  have r2 := hR.cell 2
  have r3 := hR.cell 3
  have rf0 := hR.frozen 0
  have rf1 := hR.frozen 1
  have rf2 := hR.frozen 2
  have rf3 := hR.frozen 3
  simp at r0 r1 r2 r3
  go_wp2
  refine bodyPost_ret (v := .tuple #[.agg #[_, _, _, _], _]) (by simp [results, Try.results32, go_sem, *]) rfl ⟨rfl, ?_⟩
  have bel0 := B4
  repeat' (first | exact Below.refl _ _ | assumption | apply Below.drew | refine Below.setCell ?_ (by first | omega | (simp; done) | (simp; omega)) _ | refine Below.alloc ?_ (by first | omega | (simp; done) | (simp; omega)) _)

set_option maxRecDepth 100000 in
set_option maxHeartbeats 2000000 in
theorem refpaint_tex (A : Option Addr) (m c : Nat) (D : Nat → TexD) (c0 c1 c2 c3 tx cu bi : Int) (bl : Bool) (bn u v : Int) (w : World) (hl : TL w A m D) (ce : Int) (hce : checksE D m = ce) (h0 : (ce != 0) = true) :
    Calls Try.prog 33 #[.agg #[.int .u8 c0, .int .u8 c1, .int .u8 c2, .int .u8 c3, .int .i64 tx, .int .u8 cu, .int .i64 bi, .bool bl, .int .i64 bn], .slice A m c, .int .i64 u, .int .i64 v] w fun e w' => e = .returned (.tuple #[.agg #[.int .u8 0, .int .u8 0, .int .u8 0, .int .u8 0], .int .i64 ce]) ∧ Below w.heap.size w w' := by
  have Hl := Lib.hid hl
  have hch := Lib.hid (refchecks_any A m c D)
  clear hl
  have he := Lib.hid hce
  clear hce
  go_enter Try.func33, Try.ntmps33
  go_wp2_with fail
  refine (hch.out _ (Hl.out.below (by repeat' (first | exact Below.refl _ _ | assumption | apply Below.drew | refine Below.setCell ?_ (by first | omega | (simp; done) | (simp; omega)) _ | refine Below.alloc ?_ (by first | omega | (simp; done) | (simp; omega)) _)))).mono ?_
  rw [he.out]
  rintro e w1 ⟨rfl, bel1⟩
  have hL := ((hasBlk_new w 49 #[.int .u8 c0, .int .u8 c1, .int .u8 c2, .int .u8 c3, .int .i64 tx, .int .u8 cu, .int .i64 bi, .bool bl, .int .i64 bn]).alloc (.cells #[.int .u8 0, .int .u8 0, .int .u8 0, .int .u8 0] 23)).below bel1
  have hR := (hasBlk_new (w.alloc (.cells #[.int .u8 c0, .int .u8 c1, .int .u8 c2, .int .u8 c3, .int .i64 tx, .int .u8 cu, .int .i64 bi, .bool bl, .int .i64 bn] 49)) 23 #[.int .u8 0, .int .u8 0, .int .u8 0, .int .u8 0]).below bel1
  simp only [World.size_alloc] at hR
  have B1 : Below w.heap.size w w1 := (by repeat' (first | exact Below.refl _ _ | assumption | apply Below.drew | refine Below.setCell ?_ (by first | omega | (simp; done) | (simp; omega)) _ | refine Below.alloc ?_ (by first | omega | (simp; done) | (simp; omega)) _) : Below w.heap.size w ((w.alloc (.cells #[.int .u8 c0, .int .u8 c1, .int .u8 c2, .int .u8 c3, .int .i64 tx, .int .u8 cu, .int .i64 bi, .bool bl, .int .i64 bn] 49)).alloc (.cells #[.int .u8 0, .int .u8 0, .int .u8 0, .int .u8 0] 23))).trans (bel1.mono (by simp; omega))
  have z1 := hR.lt
  have a0 := hL.cell 0
  have a1 := hL.cell 1
  have a2 := hL.cell 2
  have a3 := hL.cell 3
  have a4 := hL.cell 4
  have a5 := hL.cell 5
  have a6 := hL.cell 6
  have a7 := hL.cell 7
  have a8 := hL.cell 8
  have r0 := hR.cell 0
  have r1 := hR.cell 1
  have r2 := hR.cell 2
  have r3 := hR.cell 3
  have rf0 := hR.frozen 0
  have rf1 := hR.frozen 1
  have rf2 := hR.frozen 2
  have rf3 := hR.frozen 3
  simp at a0 a1 a2 a3 a4 a5 a6 a7 a8 r0 r1 r2 r3
  go_wp2
  refine bodyPost_ret (v := .tuple #[.agg #[_, _, _, _], _]) (by simp [results, Try.results33, go_sem, *]) rfl ⟨rfl, ?_⟩
  have bel0 := B1
  repeat' (first | exact Below.refl _ _ | assumption | apply Below.drew | refine Below.setCell ?_ (by first | omega | (simp; done) | (simp; omega)) _ | refine Below.alloc ?_ (by first | omega | (simp; done) | (simp; omega)) _)

set_option maxRecDepth 100000 in
set_option maxHeartbeats 2000000 in
theorem refpaint_look (A : Option Addr) (m c : Nat) (D : Nat → TexD) (c0 c1 c2 c3 tx cu bi : Int) (bl : Bool) (bn u v : Int) (w : World) (hl : TL w A m D) (hce : checksE D m = 0) (hm : (m : Int) ≤ 16) (hle0 : ¬ MayL tx cu bi bn m) :
    Calls Try.prog 33 #[.agg #[.int .u8 c0, .int .u8 c1, .int .u8 c2, .int .u8 c3, .int .i64 tx, .int .u8 cu, .int .i64 bi, .bool bl, .int .i64 bn], .slice A m c, .int .i64 u, .int .i64 v] w fun e w' => e = .returned (.tuple #[.agg #[.int .u8 0, .int .u8 0, .int .u8 0, .int .u8 0], .int .i64 8]) ∧ Below w.heap.size w w' := by
  have Hl := Lib.hid hl
  have hch := Lib.hid (refchecks_any A m c D)
  clear hl
  have he := Lib.hid hce
  clear hce
  have hle := Lib.hid (decide_eq_false hle0)
  clear hle0
  have hlk := Lib.hid (mayl_any c0 c1 c2 c3 tx cu bi bl bn m)
  go_enter Try.func33, Try.ntmps33
  go_wp2_with fail
  refine (hch.out _ (Hl.out.below (by repeat' (first | exact Below.refl _ _ | assumption | apply Below.drew | refine Below.setCell ?_ (by first | omega | (simp; done) | (simp; omega)) _ | refine Below.alloc ?_ (by first | omega | (simp; done) | (simp; omega)) _)))).mono ?_
  rw [he.out]
  rintro e w1 ⟨rfl, bel1⟩
  have hL := ((hasBlk_new w 49 #[.int .u8 c0, .int .u8 c1, .int .u8 c2, .int .u8 c3, .int .i64 tx, .int .u8 cu, .int .i64 bi, .bool bl, .int .i64 bn]).alloc (.cells #[.int .u8 0, .int .u8 0, .int .u8 0, .int .u8 0] 23)).below bel1
  have hR := (hasBlk_new (w.alloc (.cells #[.int .u8 c0, .int .u8 c1, .int .u8 c2, .int .u8 c3, .int .i64 tx, .int .u8 cu, .int .i64 bi, .bool bl, .int .i64 bn] 49)) 23 #[.int .u8 0, .int .u8 0, .int .u8 0, .int .u8 0]).below bel1
  simp only [World.size_alloc] at hR
  have B1 : Below w.heap.size w w1 := (by repeat' (first | exact Below.refl _ _ | assumption | apply Below.drew | refine Below.setCell ?_ (by first | omega | (simp; done) | (simp; omega)) _ | refine Below.alloc ?_ (by first | omega | (simp; done) | (simp; omega)) _) : Below w.heap.size w ((w.alloc (.cells #[.int .u8 c0, .int .u8 c1, .int .u8 c2, .int .u8 c3, .int .i64 tx, .int .u8 cu, .int .i64 bi, .bool bl, .int .i64 bn] 49)).alloc (.cells #[.int .u8 0, .int .u8 0, .int .u8 0, .int .u8 0] 23))).trans (bel1.mono (by simp; omega))
  have z1 := hR.lt
  have a0 := hL.cell 0
  have a1 := hL.cell 1
  have a2 := hL.cell 2
  have a3 := hL.cell 3
  have a4 := hL.cell 4
  have a5 := hL.cell 5
  have a6 := hL.cell 6
  have a7 := hL.cell 7
  have a8 := hL.cell 8
  have r0 := hR.cell 0
  have r1 := hR.cell 1
  have r2 := hR.cell 2
  have r3 := hR.cell 3
  have rf0 := hR.frozen 0
  have rf1 := hR.frozen 1
  have rf2 := hR.frozen 2
  have rf3 := hR.frozen 3
  simp at a0 a1 a2 a3 a4 a5 a6 a7 a8 r0 r1 r2 r3
  go_wp2_with fail
  refine (hlk.out _).mono ?_
  rw [hle.out]
  rintro e w2 ⟨rfl, bel2⟩
  have L0 := Lib.hid hL
  have R0 := Lib.hid hR
  clear hL hR a0 a1 a2 a3 a4 a5 a6 a7 a8 r0 rf0 r1 rf1 r2 rf2 r3 rf3
  have hL := L0.out.below bel2
  have hR := R0.out.below bel2
  have B2 := B1.trans (bel2.mono (by omega))
  have z2 := hR.lt
  clear B1 L0 R0
  have a0 := hL.cell 0
  have a1 := hL.cell 1
  have a2 := hL.cell 2
  have a3 := hL.cell 3
  have a4 := hL.cell 4
  have a5 := hL.cell 5
  have a6 := hL.cell 6
  have a7 := hL.cell 7
  have a8 := hL.cell 8
  have r0 := hR.cell 0
  have r1 := hR.cell 1
  have r2 := hR.cell 2
  have r3 := hR.cell 3
  have rf0 := hR.frozen 0
  have rf1 := hR.frozen 1
  have rf2 := hR.frozen 2
  have rf3 := hR.frozen 3
  simp at a0 a1 a2 a3 a4 a5 a6 a7 a8 r0 r1 r2 r3
  go_wp2
  refine bodyPost_ret (v := .tuple #[.agg #[_, _, _, _], _]) (by simp [results, Try.results33, go_sem, *]) rfl ⟨rfl, ?_⟩
  have bel0 := B2
  repeat' (first | exact Below.refl _ _ | assumption | apply Below.drew | refine Below.setCell ?_ (by first | omega | (simp; done) | (simp; omega)) _ | refine Below.alloc ?_ (by first | omega | (simp; done) | (simp; omega)) _)

set_option maxRecDepth 100000 in
set_option maxHeartbeats 2000000 in
theorem refpaint_arg (A : Option Addr) (m c : Nat) (D : Nat → TexD) (c0 c1 c2 c3 tx cu bi : Int) (bl : Bool) (bn u v : Int) (w : World) (hl : TL w A m D) (hce : checksE D m = 0) (hle0 : MayL tx cu bi bn m) (hp : ¬ ((0 ≤ u ∧ u ≤ 255) ∧ (0 ≤ v ∧ v ≤ 255))) :
    Calls Try.prog 33 #[.agg #[.int .u8 c0, .int .u8 c1, .int .u8 c2, .int .u8 c3, .int .i64 tx, .int .u8 cu, .int .i64 bi, .bool bl, .int .i64 bn], .slice A m c, .int .i64 u, .int .i64 v] w fun e w' => e = .returned (.tuple #[.agg #[.int .u8 0, .int .u8 0, .int .u8 0, .int .u8 0], .int .i64 2]) ∧ Below w.heap.size w w' := by
  have Hl := Lib.hid hl
  have hch := Lib.hid (refchecks_any A m c D)
  clear hl
  have he := Lib.hid hce
  clear hce
  have hle := Lib.hid (decide_eq_true hle0)
  clear hle0
  have hlk := Lib.hid (mayl_any c0 c1 c2 c3 tx cu bi bl bn m)
  have g : decide (u < 0) = true ∨ (decide (u < 0) = false ∧ decide (255 < u) = true) ∨ (decide (u < 0) = false ∧ decide (255 < u) = false ∧ decide (v < 0) = true) ∨ (decide (u < 0) = false ∧ decide (255 < u) = false ∧ decide (v < 0) = false ∧ decide (255 < v) = true) := by
    simp only [decide_eq_true_eq, decide_eq_false_iff_not]
    omega
  clear hp
  rcases g with g1 | ⟨g1, g2⟩ | ⟨g1, g2, g3⟩ | ⟨g1, g2, g3, g4⟩
  all_goals
    go_enter Try.func33, Try.ntmps33
    go_wp2_with fail
    refine (hch.out _ (Hl.out.below (by repeat' (first | exact Below.refl _ _ | assumption | apply Below.drew | refine Below.setCell ?_ (by first | omega | (simp; done) | (simp; omega)) _ | refine Below.alloc ?_ (by first | omega | (simp; done) | (simp; omega)) _)))).mono ?_
    rw [he.out]
    rintro e w1 ⟨rfl, bel1⟩
    have hL := ((hasBlk_new w 49 #[.int .u8 c0, .int .u8 c1, .int .u8 c2, .int .u8 c3, .int .i64 tx, .int .u8 cu, .int .i64 bi, .bool bl, .int .i64 bn]).alloc (.cells #[.int .u8 0, .int .u8 0, .int .u8 0, .int .u8 0] 23)).below bel1
    have hR := (hasBlk_new (w.alloc (.cells #[.int .u8 c0, .int .u8 c1, .int .u8 c2, .int .u8 c3, .int .i64 tx, .int .u8 cu, .int .i64 bi, .bool bl, .int .i64 bn] 49)) 23 #[.int .u8 0, .int .u8 0, .int .u8 0, .int .u8 0]).below bel1
    simp only [World.size_alloc] at hR
    have B1 : Below w.heap.size w w1 := (by repeat' (first | exact Below.refl _ _ | assumption | apply Below.drew | refine Below.setCell ?_ (by first | omega | (simp; done) | (simp; omega)) _ | refine Below.alloc ?_ (by first | omega | (simp; done) | (simp; omega)) _) : Below w.heap.size w ((w.alloc (.cells #[.int .u8 c0, .int .u8 c1, .int .u8 c2, .int .u8 c3, .int .i64 tx, .int .u8 cu, .int .i64 bi, .bool bl, .int .i64 bn] 49)).alloc (.cells #[.int .u8 0, .int .u8 0, .int .u8 0, .int .u8 0] 23))).trans (bel1.mono (by simp; omega))
    have z1 := hR.lt
    have a0 := hL.cell 0
    have a1 := hL.cell 1
    have a2 := hL.cell 2
    have a3 := hL.cell 3
    have a4 := hL.cell 4
    have a5 := hL.cell 5
    have a6 := hL.cell 6
    have a7 := hL.cell 7
    have a8 := hL.cell 8
    have r0 := hR.cell 0
    have r1 := hR.cell 1
    have r2 := hR.cell 2
    have r3 := hR.cell 3
    have rf0 := hR.frozen 0
    have rf1 := hR.frozen 1
    have rf2 := hR.frozen 2
    have rf3 := hR.frozen 3
    simp at a0 a1 a2 a3 a4 a5 a6 a7 a8 r0 r1 r2 r3
    go_wp2_with fail
    refine (hlk.out _).mono ?_
    rw [hle.out]
    rintro e w2 ⟨rfl, bel2⟩
    have L0 := Lib.hid hL
    have R0 := Lib.hid hR
    clear hL hR a0 a1 a2 a3 a4 a5 a6 a7 a8 r0 rf0 r1 rf1 r2 rf2 r3 rf3
    have hL := L0.out.below bel2
    have hR := R0.out.below bel2
    have B2 := B1.trans (bel2.mono (by omega))
    have z2 := hR.lt
    clear B1 L0 R0
    have a0 := hL.cell 0
    have a1 := hL.cell 1
    have a2 := hL.cell 2
    have a3 := hL.cell 3
    have a4 := hL.cell 4
    have a5 := hL.cell 5
    have a6 := hL.cell 6
    have a7 := hL.cell 7
    have a8 := hL.cell 8
    have r0 := hR.cell 0
    have r1 := hR.cell 1
    have r2 := hR.cell 2
    have r3 := hR.cell 3
    have rf0 := hR.frozen 0
    have rf1 := hR.frozen 1
    have rf2 := hR.frozen 2
    have rf3 := hR.frozen 3
    simp at a0 a1 a2 a3 a4 a5 a6 a7 a8 r0 r1 r2 r3
    go_wp2
    refine bodyPost_ret (v := .tuple #[.agg #[_, _, _, _], _]) (by simp [results, Try.results33, go_sem, *]) rfl ⟨rfl, ?_⟩
    have bel0 := B2
    repeat' (first | exact Below.refl _ _ | assumption | apply Below.drew | refine Below.setCell ?_ (by first | omega | (simp; done) | (simp; omega)) _ | refine Below.alloc ?_ (by first | omega | (simp; done) | (simp; omega)) _)
end Go.Proofs.Ytgcappooiecaiaa
