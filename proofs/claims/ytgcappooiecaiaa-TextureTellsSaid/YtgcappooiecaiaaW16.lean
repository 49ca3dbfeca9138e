/- ShadeTexels. -/
import Derived.Test.YtgcappooiecaiaaW15
namespace Go.Proofs.Ytgcappooiecaiaa
open Go.RowKit
set_option linter.unusedVariables false

set_option maxRecDepth 100000 in
set_option maxHeartbeats 2000000 in
theorem texels_no (A : Option Addr) (m c : Nat) (D : Nat → TexD) (cc : Nat → Int) (tx cu bi : Int) (bl : Bool) (bn u v : Int) (w : World) (hl : TL w A m D) (hm : (m : Int) ≤ 9223372036854775807) (hD : ∀ i, ((D i).n : Int) ≤ 9223372036854775807) (hb : ∀ j, Byte (cc j)) (hB : ∀ i, i < m → ∀ p, p < (D i).n → ∀ j, j < 4 → Byte ((D i).f p j)) (pe : Int) (hpe : paintE D m tx cu bi bn u v = pe) (h0 : pe ≠ 0) :
    Calls Try.prog 12 #[.agg #[.int .u8 (cc 0), .int .u8 (cc 1), .int .u8 (cc 2), .int .u8 (cc 3), .int .i64 tx, .int .u8 cu, .int .i64 bi, .bool bl, .int .i64 bn], .slice A m c, .int .i64 u, .int .i64 v] w fun e w' => e = .returned (.bool true) ∧ Below w.heap.size w w' := by
  have hpt := Lib.hid (fun W (h : Below w.heap.size w W) => paint_any A m c D cc tx cu bi bl bn u v W (hl.below h) hb hB)
  rw [hpe, if_neg h0, if_neg h0, if_neg h0, if_neg h0] at hpt
  have g0 : (pe != 0) = true := by simpa using h0
  clear hpe h0
  have Hl := Lib.hid hl
  have hgr := Lib.hid (fun W (h : Below w.heap.size w W) => great_any A m c D W (hl.below h) hm hD)
  have hq := eql_col
  clear hl hD hB hb
  go_enter Try.func12, Try.ntmps12
  go_wp2_with fail
  refine (alive_any _).mono ?_
  rintro e w1 ⟨rfl, bel1⟩
  have BB1 : Below w.heap.size w w1 := by
    skip
    refine Below.trans ?_ (bel1.mono (by first | omega | (simp; done) | (simp; omega)))
    repeat' (first | exact Below.refl _ _ | assumption | apply Below.drew | refine Below.setCell ?_ (by first | omega | (simp; done) | (simp; omega)) _ | refine Below.alloc ?_ (by first | omega | (simp; done) | (simp; omega)) _)
  have L : Hid (HasBlk w1 (w.heap.size) 49 #[.int .u8 (cc 0), .int .u8 (cc 1), .int .u8 (cc 2), .int .u8 (cc 3), .int .i64 tx, .int .u8 cu, .int .i64 bi, .bool bl, .int .i64 bn]) := Lib.hid (by have := (hasBlk_new w 49 #[.int .u8 (cc 0), .int .u8 (cc 1), .int .u8 (cc 2), .int .u8 (cc 3), .int .i64 tx, .int .u8 cu, .int .i64 bi, .bool bl, .int .i64 bn]).below bel1; simpa using this)
  have BB1s := BB1.size
  have HBB1 := Lib.hid BB1
  clear BB1
  have lt_L := L.out.lt
  have L_0 := L.out.cell 0
  have L_1 := L.out.cell 1
  have L_2 := L.out.cell 2
  have L_3 := L.out.cell 3
  have L_4 := L.out.cell 4
  have L_5 := L.out.cell 5
  have L_6 := L.out.cell 6
  have L_7 := L.out.cell 7
  have L_8 := L.out.cell 8
  simp at L_0 L_1 L_2 L_3 L_4 L_5 L_6 L_7 L_8
  go_wp2_with fail
  refine (hgr.out _ HBB1.out).mono ?_
  rintro e w1' ⟨hg, rfl⟩
  rcases hg with rfl | ⟨rfl, hm40, hD20⟩
  · go_wp2
    go_ret
    exact ⟨rfl, HBB1.out⟩
  clear hD20 hgr hm
  go_wp2_with fail
  refine (hpt.out _ HBB1.out).mono ?_
  rintro e w2 ⟨rfl, bel2⟩
  clear lt_L L_0 L_1 L_2 L_3 L_4 L_5 L_6 L_7 L_8
  have BB2 : Below w.heap.size w w2 := by
    have bel0 := HBB1.out
    refine Below.trans ?_ (bel2.mono (by first | omega | (simp; done) | (simp; omega)))
    repeat' (first | exact Below.refl _ _ | assumption | apply Below.drew | refine Below.setCell ?_ (by first | omega | (simp; done) | (simp; omega)) _ | refine Below.alloc ?_ (by first | omega | (simp; done) | (simp; omega)) _)
  have t_L : HasBlk w2 (w.heap.size) 49 #[.int .u8 (cc 0), .int .u8 (cc 1), .int .u8 (cc 2), .int .u8 (cc 3), .int .i64 tx, .int .u8 cu, .int .i64 bi, .bool bl, .int .i64 bn] := by first | exact L.out.below bel2 | exact (L.out.alloc _).below bel2 | exact ((L.out.alloc _).alloc _).below bel2 | exact (((L.out.alloc _).alloc _).alloc _).below bel2
  clear L
  have L := Lib.hid t_L
  clear t_L
  clear HBB1
  have BB2s := BB2.size
  have HBB2 := Lib.hid BB2
  clear BB2
  have lt_L := L.out.lt
  have L_0 := L.out.cell 0
  have L_1 := L.out.cell 1
  have L_2 := L.out.cell 2
  have L_3 := L.out.cell 3
  have L_4 := L.out.cell 4
  have L_5 := L.out.cell 5
  have L_6 := L.out.cell 6
  have L_7 := L.out.cell 7
  have L_8 := L.out.cell 8
  simp at L_0 L_1 L_2 L_3 L_4 L_5 L_6 L_7 L_8
  go_wp2
  go_ret
  exact ⟨rfl, by have bel0 := HBB2.out; repeat' (first | exact Below.refl _ _ | assumption | apply Below.drew | refine Below.setCell ?_ (by first | omega | (simp; done) | (simp; omega)) _ | refine Below.alloc ?_ (by first | omega | (simp; done) | (simp; omega)) _)⟩

set_option maxRecDepth 100000 in
set_option maxHeartbeats 2000000 in
theorem texels_plain (A : Option Addr) (m c : Nat) (D : Nat → TexD) (cc : Nat → Int) (cu bi : Int) (bl : Bool) (bn u v : Int) (w : World) (hl : TL w A m D) (hm : (m : Int) ≤ 9223372036854775807) (hD : ∀ i, ((D i).n : Int) ≤ 9223372036854775807) (hb : ∀ j, Byte (cc j)) (hB : ∀ i, i < m → ∀ p, p < (D i).n → ∀ j, j < 4 → Byte ((D i).f p j)) (hpe : paintE D m (-1) cu bi bn u v = 0) :
    Calls Try.prog 12 #[.agg #[.int .u8 (cc 0), .int .u8 (cc 1), .int .u8 (cc 2), .int .u8 (cc 3), .int .i64 (-1), .int .u8 cu, .int .i64 bi, .bool bl, .int .i64 bn], .slice A m c, .int .i64 u, .int .i64 v] w fun e w' => e = .returned (.bool true) ∧ Below w.heap.size w w' := by
  have hpt := Lib.hid (fun W (h : Below w.heap.size w W) => paint_any A m c D cc (-1) cu bi bl bn u v W (hl.below h) hb hB)
  rw [hpe, if_pos rfl, if_pos rfl, if_pos rfl, if_pos rfl] at hpt
  simp only [paintC, if_pos (show (-1 : Int) < 0 from by decide)] at hpt
  clear hpe
  have Hl := Lib.hid hl
  have hgr := Lib.hid (fun W (h : Below w.heap.size w W) => great_any A m c D W (hl.below h) hm hD)
  have hq := eql_col
  clear hl hD hB hb
  go_enter Try.func12, Try.ntmps12
  go_wp2_with fail
  refine (alive_any _).mono ?_
  rintro e w1 ⟨rfl, bel1⟩
  have BB1 : Below w.heap.size w w1 := by
    skip
    refine Below.trans ?_ (bel1.mono (by first | omega | (simp; done) | (simp; omega)))
    repeat' (first | exact Below.refl _ _ | assumption | apply Below.drew | refine Below.setCell ?_ (by first | omega | (simp; done) | (simp; omega)) _ | refine Below.alloc ?_ (by first | omega | (simp; done) | (simp; omega)) _)
  have L : Hid (HasBlk w1 (w.heap.size) 49 #[.int .u8 (cc 0), .int .u8 (cc 1), .int .u8 (cc 2), .int .u8 (cc 3), .int .i64 (-1), .int .u8 cu, .int .i64 bi, .bool bl, .int .i64 bn]) := Lib.hid (by have := (hasBlk_new w 49 #[.int .u8 (cc 0), .int .u8 (cc 1), .int .u8 (cc 2), .int .u8 (cc 3), .int .i64 (-1), .int .u8 cu, .int .i64 bi, .bool bl, .int .i64 bn]).below bel1; simpa using this)
  have BB1s := BB1.size
  have HBB1 := Lib.hid BB1
  clear BB1
  have lt_L := L.out.lt
  have L_0 := L.out.cell 0
  have L_1 := L.out.cell 1
  have L_2 := L.out.cell 2
  have L_3 := L.out.cell 3
  have L_4 := L.out.cell 4
  have L_5 := L.out.cell 5
  have L_6 := L.out.cell 6
  have L_7 := L.out.cell 7
  have L_8 := L.out.cell 8
  simp at L_0 L_1 L_2 L_3 L_4 L_5 L_6 L_7 L_8
  go_wp2_with fail
  refine (hgr.out _ HBB1.out).mono ?_
  rintro e w1' ⟨hg, rfl⟩
  rcases hg with rfl | ⟨rfl, hm40, hD20⟩
  · go_wp2
    go_ret
    exact ⟨rfl, HBB1.out⟩
  clear hD20 hgr hm
  go_wp2_with fail
  refine (hpt.out _ HBB1.out).mono ?_
  rintro e w2 ⟨rfl, bel2⟩
  clear lt_L L_0 L_1 L_2 L_3 L_4 L_5 L_6 L_7 L_8
  have BB2 : Below w.heap.size w w2 := by
    have bel0 := HBB1.out
    refine Below.trans ?_ (bel2.mono (by first | omega | (simp; done) | (simp; omega)))
    repeat' (first | exact Below.refl _ _ | assumption | apply Below.drew | refine Below.setCell ?_ (by first | omega | (simp; done) | (simp; omega)) _ | refine Below.alloc ?_ (by first | omega | (simp; done) | (simp; omega)) _)
  have t_L : HasBlk w2 (w.heap.size) 49 #[.int .u8 (cc 0), .int .u8 (cc 1), .int .u8 (cc 2), .int .u8 (cc 3), .int .i64 (-1), .int .u8 cu, .int .i64 bi, .bool bl, .int .i64 bn] := by first | exact L.out.below bel2 | exact (L.out.alloc _).below bel2 | exact ((L.out.alloc _).alloc _).below bel2 | exact (((L.out.alloc _).alloc _).alloc _).below bel2
  clear L
  have L := Lib.hid t_L
  clear t_L
  clear HBB1
  have BB2s := BB2.size
  have HBB2 := Lib.hid BB2
  clear BB2
  have lt_L := L.out.lt
  have L_0 := L.out.cell 0
  have L_1 := L.out.cell 1
  have L_2 := L.out.cell 2
  have L_3 := L.out.cell 3
  have L_4 := L.out.cell 4
  have L_5 := L.out.cell 5
  have L_6 := L.out.cell 6
  have L_7 := L.out.cell 7
  have L_8 := L.out.cell 8
  simp at L_0 L_1 L_2 L_3 L_4 L_5 L_6 L_7 L_8
  go_wp2
  go_ret
  exact ⟨rfl, by have bel0 := HBB2.out; repeat' (first | exact Below.refl _ _ | assumption | apply Below.drew | refine Below.setCell ?_ (by first | omega | (simp; done) | (simp; omega)) _ | refine Below.alloc ?_ (by first | omega | (simp; done) | (simp; omega)) _)⟩

set_option maxRecDepth 100000 in
set_option maxHeartbeats 2000000 in
theorem texels_mix (A : Option Addr) (m c : Nat) (D : Nat → TexD) (cc : Nat → Int) (cu bi : Int) (k : Nat) (bl : Bool) (bn u v : Int) (w : World) (hl : TL w A m D) (hm : (m : Int) ≤ 9223372036854775807) (hD : ∀ i, ((D i).n : Int) ≤ 9223372036854775807) (hb : ∀ j, Byte (cc j)) (hB : ∀ i, i < m → ∀ p, p < (D i).n → ∀ j, j < 4 → Byte ((D i).f p j)) (hpe : paintE D m (k : Int) cu bi bn u v = 0) (hk : (k : Int) < m) (hmay0 : (D k).may) (u0 : 0 ≤ u) (u1 : u ≤ 255) (v0 : 0 ≤ v) (v1 : v ≤ 255) :
    Calls Try.prog 12 #[.agg #[.int .u8 (cc 0), .int .u8 (cc 1), .int .u8 (cc 2), .int .u8 (cc 3), .int .i64 k, .int .u8 cu, .int .i64 bi, .bool bl, .int .i64 bn], .slice A m c, .int .i64 u, .int .i64 v] w fun e w' => e = .returned (.bool true) ∧ Below w.heap.size w w' := by
  have hpt := Lib.hid (fun W (h : Below w.heap.size w W) => paint_any A m c D cc k cu bi bl bn u v W (hl.below h) hb hB)
  rw [hpe, if_pos rfl, if_pos rfl, if_pos rfl, if_pos rfl] at hpt
  simp only [paintC, if_neg (show ¬ (k : Int) < 0 from by omega), Int.toNat_natCast] at hpt
  have hmay := Lib.hid hmay0
  have ht : (tix (D k).W (D k).H u v).toNat < (D k).n := by
    obtain ⟨⟨m0, m1⟩, ⟨m2, m3⟩, mn4⟩ := hmay0
    obtain ⟨_, _, _, t0, t1⟩ := tix_bd (n := (D k).n) m0 m1 m2 m3 mn4 u0 u1 v0 v1
    omega
  have hmix := Lib.hid (fun w => mix_any (hb 0) (hb 1) (hb 2) (hb 3) (hB k (by omega) _ ht 0 (by omega)) (hB k (by omega) _ ht 1 (by omega)) (hB k (by omega) _ ht 2 (by omega)) (hB k (by omega) _ ht 3 (by omega)) w)
  have k0 : (0 : Int) ≤ (k : Int) := by omega
  clear hpe hmay0 ht
  have Hl := Lib.hid hl
  have hgr := Lib.hid (fun W (h : Below w.heap.size w W) => great_any A m c D W (hl.below h) hm hD)
  have hq := eql_col
  clear hl hD hB hb
  go_enter Try.func12, Try.ntmps12
  go_wp2_with fail
  refine (alive_any _).mono ?_
  rintro e w1 ⟨rfl, bel1⟩
  have BB1 : Below w.heap.size w w1 := by
    skip
    refine Below.trans ?_ (bel1.mono (by first | omega | (simp; done) | (simp; omega)))
    repeat' (first | exact Below.refl _ _ | assumption | apply Below.drew | refine Below.setCell ?_ (by first | omega | (simp; done) | (simp; omega)) _ | refine Below.alloc ?_ (by first | omega | (simp; done) | (simp; omega)) _)
  have L : Hid (HasBlk w1 (w.heap.size) 49 #[.int .u8 (cc 0), .int .u8 (cc 1), .int .u8 (cc 2), .int .u8 (cc 3), .int .i64 k, .int .u8 cu, .int .i64 bi, .bool bl, .int .i64 bn]) := Lib.hid (by have := (hasBlk_new w 49 #[.int .u8 (cc 0), .int .u8 (cc 1), .int .u8 (cc 2), .int .u8 (cc 3), .int .i64 k, .int .u8 cu, .int .i64 bi, .bool bl, .int .i64 bn]).below bel1; simpa using this)
  have BB1s := BB1.size
  have HBB1 := Lib.hid BB1
  clear BB1
  have lt_L := L.out.lt
  have L_0 := L.out.cell 0
  have L_1 := L.out.cell 1
  have L_2 := L.out.cell 2
  have L_3 := L.out.cell 3
  have L_4 := L.out.cell 4
  have L_5 := L.out.cell 5
  have L_6 := L.out.cell 6
  have L_7 := L.out.cell 7
  have L_8 := L.out.cell 8
  simp at L_0 L_1 L_2 L_3 L_4 L_5 L_6 L_7 L_8
  go_wp2_with fail
  refine (hgr.out _ HBB1.out).mono ?_
  rintro e w1' ⟨hg, rfl⟩
  rcases hg with rfl | ⟨rfl, hm40, hD20⟩
  · go_wp2
    go_ret
    exact ⟨rfl, HBB1.out⟩
  clear hD20 hgr hm
  go_wp2_with fail
  refine (hpt.out _ HBB1.out).mono ?_
  rintro e w2 ⟨rfl, bel2⟩
  clear lt_L L_0 L_1 L_2 L_3 L_4 L_5 L_6 L_7 L_8
  have BB2 : Below w.heap.size w w2 := by
    have bel0 := HBB1.out
    refine Below.trans ?_ (bel2.mono (by first | omega | (simp; done) | (simp; omega)))
    repeat' (first | exact Below.refl _ _ | assumption | apply Below.drew | refine Below.setCell ?_ (by first | omega | (simp; done) | (simp; omega)) _ | refine Below.alloc ?_ (by first | omega | (simp; done) | (simp; omega)) _)
  have t_L : HasBlk w2 (w.heap.size) 49 #[.int .u8 (cc 0), .int .u8 (cc 1), .int .u8 (cc 2), .int .u8 (cc 3), .int .i64 k, .int .u8 cu, .int .i64 bi, .bool bl, .int .i64 bn] := by first | exact L.out.below bel2 | exact (L.out.alloc _).below bel2 | exact ((L.out.alloc _).alloc _).below bel2 | exact (((L.out.alloc _).alloc _).alloc _).below bel2
  clear L
  have L := Lib.hid t_L
  clear t_L
  clear HBB1
  have BB2s := BB2.size
  have HBB2 := Lib.hid BB2
  clear BB2
  have lt_L := L.out.lt
  have L_0 := L.out.cell 0
  have L_1 := L.out.cell 1
  have L_2 := L.out.cell 2
  have L_3 := L.out.cell 3
  have L_4 := L.out.cell 4
  have L_5 := L.out.cell 5
  have L_6 := L.out.cell 6
  have L_7 := L.out.cell 7
  have L_8 := L.out.cell 8
  simp at L_0 L_1 L_2 L_3 L_4 L_5 L_6 L_7 L_8
  obtain ⟨bb, off, rfl, hbl, hc, hpx⟩ := Hl.out.below (HBB2.out) (by omega)
  obtain ⟨d0, d1, d2⟩ := hc k (by omega)
  have hat := Lib.hid (fun W (h : Below w2.heap.size w2 W) => at_ok (D k).W (D k).H u v (D k).a (D k).n (D k).c (D k).f W hmay.out ((hpx k (by omega)).below h) u0 u1 v0 v1)
  clear hc hpx
  have gk : decide ((k : Int) < 0) = false := decide_eq_false (by omega)
  have gk1 : ((k : Int) == -1) = false := by first | (simp; done) | (simp; omega)
  have gm : decide ((m : Int) ≤ (k : Int)) = false := decide_eq_false (by omega)
  go_wp2_with fail
  refine (hat.out _ (by repeat' (first | exact Below.refl _ _ | assumption | apply Below.drew | refine Below.setCell ?_ (by first | omega | (simp; done) | (simp; omega)) _ | refine Below.alloc ?_ (by first | omega | (simp; done) | (simp; omega)) _))).mono ?_
  rintro e w3 ⟨rfl, bel3⟩
  clear d0 d1 d2
  clear lt_L L_0 L_1 L_2 L_3 L_4 L_5 L_6 L_7 L_8
  have BB3 : Below w.heap.size w w3 := by
    have bel0 := HBB2.out
    refine Below.trans ?_ (bel3.mono (by first | omega | (simp; done) | (simp; omega)))
    repeat' (first | exact Below.refl _ _ | assumption | apply Below.drew | refine Below.setCell ?_ (by first | omega | (simp; done) | (simp; omega)) _ | refine Below.alloc ?_ (by first | omega | (simp; done) | (simp; omega)) _)
  have t_L : HasBlk w3 (w.heap.size) 49 #[.int .u8 (cc 0), .int .u8 (cc 1), .int .u8 (cc 2), .int .u8 (cc 3), .int .i64 k, .int .u8 cu, .int .i64 bi, .bool bl, .int .i64 bn] := by first | exact L.out.below bel3 | exact (L.out.alloc _).below bel3 | exact ((L.out.alloc _).alloc _).below bel3 | exact (((L.out.alloc _).alloc _).alloc _).below bel3
  clear L
  have L := Lib.hid t_L
  clear t_L
  have C : Hid (HasBlk w3 (w2.heap.size) 23 #[.int .u8 (mixc (cc 0) ((D k).f (tix (D k).W (D k).H u v).toNat 0)), .int .u8 (mixc (cc 1) ((D k).f (tix (D k).W (D k).H u v).toNat 1)), .int .u8 (mixc (cc 2) ((D k).f (tix (D k).W (D k).H u v).toNat 2)), .int .u8 (mixc (cc 3) ((D k).f (tix (D k).W (D k).H u v).toNat 3))]) := Lib.hid (by have := (hasBlk_new w2 23 #[.int .u8 (mixc (cc 0) ((D k).f (tix (D k).W (D k).H u v).toNat 0)), .int .u8 (mixc (cc 1) ((D k).f (tix (D k).W (D k).H u v).toNat 1)), .int .u8 (mixc (cc 2) ((D k).f (tix (D k).W (D k).H u v).toNat 2)), .int .u8 (mixc (cc 3) ((D k).f (tix (D k).W (D k).H u v).toNat 3))]).below bel3; simpa using this)
  clear HBB2
  have BB3s := BB3.size
  have HBB3 := Lib.hid BB3
  clear BB3
  have z3 := bel3.size
  simp at z3
  clear bel1 bel2
  have lt_L := L.out.lt
  have L_0 := L.out.cell 0
  have L_1 := L.out.cell 1
  have L_2 := L.out.cell 2
  have L_3 := L.out.cell 3
  have L_4 := L.out.cell 4
  have L_5 := L.out.cell 5
  have L_6 := L.out.cell 6
  have L_7 := L.out.cell 7
  have L_8 := L.out.cell 8
  simp at L_0 L_1 L_2 L_3 L_4 L_5 L_6 L_7 L_8
  have lt_C := C.out.lt
  have C_0 := C.out.cell 0
  have C_1 := C.out.cell 1
  have C_2 := C.out.cell 2
  have C_3 := C.out.cell 3
  simp at C_0 C_1 C_2 C_3
  have hkp : Keeps (fun Wo => (Below w.heap.size w Wo ∧ w.heap.size ≤ Wo.heap.size) ∧ w3.heap.size < Wo.heap.size ∧ Wo.cell? ⟨w.heap.size, 0, none⟩ = some (.int .u8 (cc 0)) ∧ Wo.cell? ⟨w.heap.size, 1, none⟩ = some (.int .u8 (cc 1)) ∧ Wo.cell? ⟨w.heap.size, 2, none⟩ = some (.int .u8 (cc 2)) ∧ Wo.cell? ⟨w.heap.size, 3, none⟩ = some (.int .u8 (cc 3)) ∧ Wo.cell? ⟨w2.heap.size, 0, none⟩ = some (.int .u8 (mixc (cc 0) ((D k).f (tix (D k).W (D k).H u v).toNat 0))) ∧ Wo.cell? ⟨w2.heap.size, 1, none⟩ = some (.int .u8 (mixc (cc 1) ((D k).f (tix (D k).W (D k).H u v).toNat 1))) ∧ Wo.cell? ⟨w2.heap.size, 2, none⟩ = some (.int .u8 (mixc (cc 2) ((D k).f (tix (D k).W (D k).H u v).toNat 2))) ∧ Wo.cell? ⟨w2.heap.size, 3, none⟩ = some (.int .u8 (mixc (cc 3) ((D k).f (tix (D k).W (D k).H u v).toNat 3))) ∧ Wo.cell? ⟨w3.heap.size, 0, none⟩ = some (.int .u8 ((D k).f (tix (D k).W (D k).H u v).toNat 0)) ∧ Wo.cell? ⟨w3.heap.size, 1, none⟩ = some (.int .u8 ((D k).f (tix (D k).W (D k).H u v).toNat 1)) ∧ Wo.cell? ⟨w3.heap.size, 2, none⟩ = some (.int .u8 ((D k).f (tix (D k).W (D k).H u v).toNat 2)) ∧ Wo.cell? ⟨w3.heap.size, 3, none⟩ = some (.int .u8 ((D k).f (tix (D k).W (D k).H u v).toNat 3))) := by
    repeat' (first | exact Keeps.below _ | exact Keeps.size _ | exact Keeps.cell _ _ | apply Keeps.and)
  have hBB := HBB3.out
  go_wp2_with fail
  go_region_held3 (fun Wo => (Below w.heap.size w Wo ∧ w.heap.size ≤ Wo.heap.size) ∧ w3.heap.size < Wo.heap.size ∧ Wo.cell? ⟨w.heap.size, 0, none⟩ = some (.int .u8 (cc 0)) ∧ Wo.cell? ⟨w.heap.size, 1, none⟩ = some (.int .u8 (cc 1)) ∧ Wo.cell? ⟨w.heap.size, 2, none⟩ = some (.int .u8 (cc 2)) ∧ Wo.cell? ⟨w.heap.size, 3, none⟩ = some (.int .u8 (cc 3)) ∧ Wo.cell? ⟨w2.heap.size, 0, none⟩ = some (.int .u8 (mixc (cc 0) ((D k).f (tix (D k).W (D k).H u v).toNat 0))) ∧ Wo.cell? ⟨w2.heap.size, 1, none⟩ = some (.int .u8 (mixc (cc 1) ((D k).f (tix (D k).W (D k).H u v).toNat 1))) ∧ Wo.cell? ⟨w2.heap.size, 2, none⟩ = some (.int .u8 (mixc (cc 2) ((D k).f (tix (D k).W (D k).H u v).toNat 2))) ∧ Wo.cell? ⟨w2.heap.size, 3, none⟩ = some (.int .u8 (mixc (cc 3) ((D k).f (tix (D k).W (D k).H u v).toNat 3))) ∧ Wo.cell? ⟨w3.heap.size, 0, none⟩ = some (.int .u8 ((D k).f (tix (D k).W (D k).H u v).toNat 0)) ∧ Wo.cell? ⟨w3.heap.size, 1, none⟩ = some (.int .u8 ((D k).f (tix (D k).W (D k).H u v).toNat 1)) ∧ Wo.cell? ⟨w3.heap.size, 2, none⟩ = some (.int .u8 ((D k).f (tix (D k).W (D k).H u v).toNat 2)) ∧ Wo.cell? ⟨w3.heap.size, 3, none⟩ = some (.int .u8 ((D k).f (tix (D k).W (D k).H u v).toNat 3)))
    (first | exact hkp _ _ hbel (by assumption) | (refine ⟨⟨?_, by first | omega | (simp; done) | (simp; omega)⟩, by first | omega | (simp; done) | (simp; omega), by simp [go_sem, *], by simp [go_sem, *], by simp [go_sem, *], by simp [go_sem, *], by simp [go_sem, *], by simp [go_sem, *], by simp [go_sem, *], by simp [go_sem, *], by simp [go_sem, *], by simp [go_sem, *], by simp [go_sem, *], by simp [go_sem, *]⟩; repeat' (first | exact Below.refl _ _ | assumption | apply Below.drew | refine Below.setCell ?_ (by first | omega | (simp; done) | (simp; omega)) _ | refine Below.alloc ?_ (by first | omega | (simp; done) | (simp; omega)) _)) | fail "keep")
    (first | (go_at_call 13; (with_reducible refine (hmix.out _).mono ?_); rintro e w' ⟨rfl, hbel⟩))
  go_wp2
  go_ret
  exact ⟨rfl, (‹(Below w.heap.size w _ ∧ _) ∧ _›).1.1⟩

theorem texels_any (A : Option Addr) (m c : Nat) (D : Nat → TexD) (cc : Nat → Int) (tx cu bi : Int) (bl : Bool) (bn u v : Int) (w : World) (hl : TL w A m D) (hm : (m : Int) ≤ 9223372036854775807) (hD : ∀ i, ((D i).n : Int) ≤ 9223372036854775807) (hb : ∀ j, Byte (cc j)) (hB : ∀ i, i < m → ∀ p, p < (D i).n → ∀ j, j < 4 → Byte ((D i).f p j)) : Calls Try.prog 12 #[.agg #[.int .u8 (cc 0), .int .u8 (cc 1), .int .u8 (cc 2), .int .u8 (cc 3), .int .i64 tx, .int .u8 cu, .int .i64 bi, .bool bl, .int .i64 bn], .slice A m c, .int .i64 u, .int .i64 v] w fun e w' => e = .returned (.bool true) ∧ Below w.heap.size w w' := by
  by_cases h : paintE D m tx cu bi bn u v = 0
  · have hh := h
    unfold paintE at hh
    split at hh
    · rename_i h1; exact absurd hh h1
    · rename_i h1
      have h1' : checksE D m = 0 := by simpa using h1
      split at hh
      · rename_i h2; exact absurd hh h2
      · rename_i h2
        have h2' : lookE tx cu bi bn m = 0 := by simpa using h2
        obtain ⟨⟨t0, t1⟩, _⟩ := lookE_zero h2'
        split at hh
        · rename_i h3
          by_cases ht : tx = -1
          · subst ht
            exact texels_plain A m c D cc cu bi bl bn u v w hl hm hD hb hB h
          · obtain ⟨k, rfl⟩ := Int.eq_ofNat_of_zero_le (a := tx) (by omega)
            exact texels_mix A m c D cc cu bi k bl bn u v w hl hm hD hb hB h t1 ((checksE_zero h1').2 k (by omega)) h3.1.1 h3.1.2 h3.2.1 h3.2.2
        · exact absurd hh (by decide)
  · exact texels_no A m c D cc tx cu bi bl bn u v w hl hm hD hb hB _ rfl h
end Go.Proofs.Ytgcappooiecaiaa
