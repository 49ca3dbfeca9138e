/- mesh: the reference's May, Check, Tris. -/
import Derived.Test.YtkclkillphafkaaM20
namespace Go.Proofs.Ytkclkillphafkaa
open Go.RowKit
set_option linter.unusedVariables false

theorem ret_bool {a b : Bool} (h : a = b) : Ending.returned (.bool a) = .returned (.bool b) := by rw [h]
open Classical in
noncomputable def mayMB (n1 n2 : Nat) (V U : Nat → Nat → Int) (D : Nat → PrimD) (m : Nat) : Bool := decide (MayM n1 n2 V U D m)
section
variable {n1 n2 : Nat} {V U : Nat → Nat → Int} {D : Nat → PrimD} {m : Nat}
theorem mayMB_yes (h : MayM n1 n2 V U D m) : mayMB n1 n2 V U D m = true := by exact @decide_eq_true _ (Classical.propDecidable _) h
theorem mayMB_no (h : ¬ MayM n1 n2 V U D m) : mayMB n1 n2 V U D m = false := by exact @decide_eq_false _ (Classical.propDecidable _) h
end

set_option maxRecDepth 100000 in
set_option maxHeartbeats 4000000 in
theorem may35_any (A1 A2 A3 : Option Addr) (n1 n2 m c1 c2 c3 : Nat) (V U : Nat → Nat → Int) (D : Nat → PrimD) (w : World) (hV : Row w A1 n1 3 (fun i j => .int .i64 (V i j))) (hU : Row w A2 n2 2 (fun i j => .int .i64 (U i j))) (hp : PL w A3 m D) (hm : (m : Int) ≤ 16) (hn1 : (n1 : Int) ≤ 1000) (hk0 : ∀ i, 0 ≤ (D i).k) :
    Calls Try.prog 35 #[.agg #[.slice A1 n1 c1, .slice A2 n2 c2, .slice A3 m c3]] w fun e w' => e = .returned (.bool (mayMB n1 n2 V U D m)) ∧ Below w.heap.size w w' := by
  by_cases hne : n2 = n1
  rotate_left
  · have g0 : ((n2 : Int) != (n1 : Int)) = true := by simp; omega
    have Hne := Lib.hid hne
    clear hne hV hU hp hk0
    go_enter Try.func35, Try.ntmps35
    go_wp2
    go_ret
    exact ⟨ret_bool (mayMB_no fun h => Hne.out h.1).symm, (Below.refl _ _).alloc (Nat.le_refl _) _⟩
  obtain rfl : n1 = n2 := hne.symm
  have ha := Lib.hid (fun W (h : Below w.heap.size w W) => all31_any A1 A2 A3 n1 n1 m c1 c2 c3 D W (hp.below h) hm hn1 hk0)
  have HV := Lib.hid hV
  have HU := Lib.hid hU
  clear hV hU hp hk0
  go_enter Try.func35, Try.ntmps35
  go_wp2
  go_loopw [3] (fun i wr => ∃ k : Nat, k ≤ n1 ∧ i = .int .i64 k ∧ (∀ i, i < k → okV (V i 0) (V i 1) (V i 2) = true ∧ okU (U i 0) (U i 1) = true) ∧ HasBlk wr w.heap.size 42 #[.slice A1 n1 c1, .slice A2 n1 c2, .slice A3 m c3] ∧ Below w.heap.size w wr) (fun i wr => n1 - (intOf i).toNat)
  case atStart => exact ⟨0, Nat.zero_le _, rfl, fun i hi => absurd hi (by omega), hasBlk_new _ _ _, by repeat' (first | exact Below.refl _ _ | assumption | apply Below.drew | refine Below.setCell ?_ (by first | omega | (simp; done) | (simp; omega)) _ | refine Below.alloc ?_ (by first | omega | (simp; done) | (simp; omega)) _)⟩
  case round =>
    obtain ⟨k, hk, rfl, hall, hM, hbel⟩ := hrel
    have Hall := Lib.hid hall
    have HM := Lib.hid hM
    have Hbel := Lib.hid hbel
    have zb := hbel.size
    have zM := hM.lt
    have M_0 := hM.cell 0
    have M_1 := hM.cell 1
    have M_2 := hM.cell 2
    simp at M_0 M_1 M_2
    by_cases hkn : k < n1
    · obtain ⟨gv, ov, rfl, hgv, hcv⟩ := HV.out (by omega)
      obtain ⟨gu, ou, rfl, hgu, hcu⟩ := HU.out (by omega)
      have x0 := (hbel.cell (p := ⟨gv, ov + k * 3 + 0, none⟩) hgv).trans (hcv k hkn 0 (by omega))
      have x1 := (hbel.cell (p := ⟨gv, ov + k * 3 + 1, none⟩) hgv).trans (hcv k hkn 1 (by omega))
      have x2 := (hbel.cell (p := ⟨gv, ov + k * 3 + 2, none⟩) hgv).trans (hcv k hkn 2 (by omega))
      have xu0 := (hbel.cell (p := ⟨gu, ou + k * 2 + 0, none⟩) hgu).trans (hcu k hkn 0 (by omega))
      have xu1 := (hbel.cell (p := ⟨gu, ou + k * 2 + 1, none⟩) hgu).trans (hcu k hkn 1 (by omega))
      dsimp only at x0 x1 x2 xu0 xu1
      simp only [Nat.add_zero] at x0 xu0
      have hi0 : (0 : Int) ≤ (k : Int) := by omega
      have hi1 : (k : Int) < (n1 : Int) := by omega
      clear hcv hcu hall hbel
      go_upto_region 7 with fail
      have bX : Below wr.heap.size wr (wr.alloc (.cells #[.int .i64 (V k 0), .int .i64 (V k 1), .int .i64 (V k 2)] 51)) := (Below.refl _ _).alloc (Nat.le_refl _) _
      have X0 := hasBlk_new wr 51 #[.int .i64 (V k 0), .int .i64 (V k 1), .int .i64 (V k 2)]
      have ltg : gu < wr.heap.size := by omega
      have M2 := hM.below bX
      have xu0' := (bX.cell (p := ⟨gu, ou + k * 2, none⟩) ltg).trans xu0
      have xu1' := (bX.cell (p := ⟨gu, ou + k * 2 + 1, none⟩) ltg).trans xu1
      have zv := bX.size
      clear x0 x1 x2 xu0 xu1 M_0 M_1 M_2
      have HbX := Lib.hid (Hbel.out.trans (bX.mono zb))
      generalize wr.alloc (.cells #[.int .i64 (V k 0), .int .i64 (V k 1), .int .i64 (V k 2)] 51) = v1 at *
      have ltg1 : gu < v1.heap.size := by omega
      have HXM := Lib.hid (And.intro X0 M2)
      have HC := Lib.hid (And.intro (fun W (h : Below v1.heap.size v1 W) => (by simpa using (M2.below h).cell 0 : W.cell? ⟨w.heap.size, 0, none⟩ = some (.slice (some ⟨gv, ov, none⟩) n1 c1))) (And.intro (fun W (h : Below v1.heap.size v1 W) => (by simpa using (M2.below h).cell 1 : W.cell? ⟨w.heap.size, 1, none⟩ = some (.slice (some ⟨gu, ou, none⟩) n1 c2))) (And.intro (fun W (h : Below v1.heap.size v1 W) => (by simpa using (X0.below h).cell 0 : W.cell? ⟨wr.heap.size, 0, none⟩ = some (.int .i64 (V k 0)))) (And.intro (fun W (h : Below v1.heap.size v1 W) => (by simpa using (X0.below h).cell 1 : W.cell? ⟨wr.heap.size, 1, none⟩ = some (.int .i64 (V k 1)))) (And.intro (fun W (h : Below v1.heap.size v1 W) => (by simpa using (X0.below h).cell 2 : W.cell? ⟨wr.heap.size, 2, none⟩ = some (.int .i64 (V k 2)))) (And.intro (fun W (h : Below v1.heap.size v1 W) => (h.cell (p := ⟨gu, ou + k * 2, none⟩) ltg1).trans xu0') (fun W (h : Below v1.heap.size v1 W) => (h.cell (p := ⟨gu, ou + k * 2 + 1, none⟩) ltg1).trans xu1')))))))
      clear xu0' xu1' M2 X0 bX hM
      have M_0 := HC.out.1 _ (Below.refl _ _)
      have M_1 := HC.out.2.1 _ (Below.refl _ _)
      have v_0 := HC.out.2.2.1 _ (Below.refl _ _)
      have v_1 := HC.out.2.2.2.1 _ (Below.refl _ _)
      have v_2 := HC.out.2.2.2.2.1 _ (Below.refl _ _)
      have xu0 := HC.out.2.2.2.2.2.1 _ (Below.refl _ _)
      have xu1 := HC.out.2.2.2.2.2.2 _ (Below.refl _ _)
      by_cases t0 : (-1024) ≤ V k 0 ∧ V k 0 ≤ 1024
      rotate_left
      · have T0 := Lib.hid (inB_no (x := V k 0) (a := (-1024)) (b := 1024) t0)
        have Ht := Lib.hid t0
        clear t0
        go_wp2_with fail
        refine (in_at T0.out _).mono ?_
        rintro e u0 ⟨rfl, b0⟩
        have HU0 := Lib.hid (b0)
        clear M_0 M_1 v_0 v_1 v_2 xu0 xu1 b0
        have M_0 := HC.out.1 _ HU0.out
        have M_1 := HC.out.2.1 _ HU0.out
        have v_0 := HC.out.2.2.1 _ HU0.out
        have v_1 := HC.out.2.2.2.1 _ HU0.out
        have v_2 := HC.out.2.2.2.2.1 _ HU0.out
        have xu0 := HC.out.2.2.2.2.2.1 _ HU0.out
        have xu1 := HC.out.2.2.2.2.2.2 _ HU0.out
        go_wp2
        go_ret
        refine ⟨ret_bool (mayMB_no fun h => ?_).symm, HbX.out.trans (HU0.out.mono (Nat.le_trans zb zv))⟩
        have h1 := of_decide_eq_true (h.2.1 k hkn)
        have h2 := of_decide_eq_true (h.2.2.1 k (by omega))
        have h3 := Ht.out
        omega
      have T0 := Lib.hid (inB_yes (x := V k 0) (a := (-1024)) (b := 1024) t0.1 t0.2)
      have Ht0 := Lib.hid t0
      clear t0
      by_cases t1 : (-1024) ≤ V k 1 ∧ V k 1 ≤ 1024
      rotate_left
      · have T1 := Lib.hid (inB_no (x := V k 1) (a := (-1024)) (b := 1024) t1)
        have Ht := Lib.hid t1
        clear t1
        go_wp2_with fail
        refine (in_at T0.out _).mono ?_
        rintro e u0 ⟨rfl, b0⟩
        have HU0 := Lib.hid (b0)
        clear M_0 M_1 v_0 v_1 v_2 xu0 xu1 b0
        have M_0 := HC.out.1 _ HU0.out
        have M_1 := HC.out.2.1 _ HU0.out
        have v_0 := HC.out.2.2.1 _ HU0.out
        have v_1 := HC.out.2.2.2.1 _ HU0.out
        have v_2 := HC.out.2.2.2.2.1 _ HU0.out
        have xu0 := HC.out.2.2.2.2.2.1 _ HU0.out
        have xu1 := HC.out.2.2.2.2.2.2 _ HU0.out
        go_wp2_with fail
        refine (in_at T1.out _).mono ?_
        rintro e u1 ⟨rfl, b1⟩
        have HU1 := Lib.hid (HU0.out.trans (b1.mono HU0.out.size))
        clear M_0 M_1 v_0 v_1 v_2 xu0 xu1 b1
        have M_0 := HC.out.1 _ HU1.out
        have M_1 := HC.out.2.1 _ HU1.out
        have v_0 := HC.out.2.2.1 _ HU1.out
        have v_1 := HC.out.2.2.2.1 _ HU1.out
        have v_2 := HC.out.2.2.2.2.1 _ HU1.out
        have xu0 := HC.out.2.2.2.2.2.1 _ HU1.out
        have xu1 := HC.out.2.2.2.2.2.2 _ HU1.out
        go_wp2
        go_ret
        refine ⟨ret_bool (mayMB_no fun h => ?_).symm, HbX.out.trans (HU1.out.mono (Nat.le_trans zb zv))⟩
        have h1 := of_decide_eq_true (h.2.1 k hkn)
        have h2 := of_decide_eq_true (h.2.2.1 k (by omega))
        have h3 := Ht.out
        omega
      have T1 := Lib.hid (inB_yes (x := V k 1) (a := (-1024)) (b := 1024) t1.1 t1.2)
      have Ht1 := Lib.hid t1
      clear t1
      by_cases t2 : (-1024) ≤ V k 2 ∧ V k 2 ≤ 1024
      rotate_left
      · have T2 := Lib.hid (inB_no (x := V k 2) (a := (-1024)) (b := 1024) t2)
        have Ht := Lib.hid t2
        clear t2
        go_wp2_with fail
        refine (in_at T0.out _).mono ?_
        rintro e u0 ⟨rfl, b0⟩
        have HU0 := Lib.hid (b0)
        clear M_0 M_1 v_0 v_1 v_2 xu0 xu1 b0
        have M_0 := HC.out.1 _ HU0.out
        have M_1 := HC.out.2.1 _ HU0.out
        have v_0 := HC.out.2.2.1 _ HU0.out
        have v_1 := HC.out.2.2.2.1 _ HU0.out
        have v_2 := HC.out.2.2.2.2.1 _ HU0.out
        have xu0 := HC.out.2.2.2.2.2.1 _ HU0.out
        have xu1 := HC.out.2.2.2.2.2.2 _ HU0.out
        go_wp2_with fail
        refine (in_at T1.out _).mono ?_
        rintro e u1 ⟨rfl, b1⟩
        have HU1 := Lib.hid (HU0.out.trans (b1.mono HU0.out.size))
        clear M_0 M_1 v_0 v_1 v_2 xu0 xu1 b1
        have M_0 := HC.out.1 _ HU1.out
        have M_1 := HC.out.2.1 _ HU1.out
        have v_0 := HC.out.2.2.1 _ HU1.out
        have v_1 := HC.out.2.2.2.1 _ HU1.out
        have v_2 := HC.out.2.2.2.2.1 _ HU1.out
        have xu0 := HC.out.2.2.2.2.2.1 _ HU1.out
        have xu1 := HC.out.2.2.2.2.2.2 _ HU1.out
        go_wp2_with fail
        refine (in_at T2.out _).mono ?_
        rintro e u2 ⟨rfl, b2⟩
        have HU2 := Lib.hid (HU1.out.trans (b2.mono HU1.out.size))
        clear M_0 M_1 v_0 v_1 v_2 xu0 xu1 b2
        have M_0 := HC.out.1 _ HU2.out
        have M_1 := HC.out.2.1 _ HU2.out
        have v_0 := HC.out.2.2.1 _ HU2.out
        have v_1 := HC.out.2.2.2.1 _ HU2.out
        have v_2 := HC.out.2.2.2.2.1 _ HU2.out
        have xu0 := HC.out.2.2.2.2.2.1 _ HU2.out
        have xu1 := HC.out.2.2.2.2.2.2 _ HU2.out
        go_wp2
        go_ret
        refine ⟨ret_bool (mayMB_no fun h => ?_).symm, HbX.out.trans (HU2.out.mono (Nat.le_trans zb zv))⟩
        have h1 := of_decide_eq_true (h.2.1 k hkn)
        have h2 := of_decide_eq_true (h.2.2.1 k (by omega))
        have h3 := Ht.out
        omega
      have T2 := Lib.hid (inB_yes (x := V k 2) (a := (-1024)) (b := 1024) t2.1 t2.2)
      have Ht2 := Lib.hid t2
      clear t2
      by_cases t3 : 0 ≤ U k 0 ∧ U k 0 ≤ 255
      rotate_left
      · have T3 := Lib.hid (inB_no (x := U k 0) (a := 0) (b := 255) t3)
        have Ht := Lib.hid t3
        clear t3
        go_wp2_with fail
        refine (in_at T0.out _).mono ?_
        rintro e u0 ⟨rfl, b0⟩
        have HU0 := Lib.hid (b0)
        clear M_0 M_1 v_0 v_1 v_2 xu0 xu1 b0
        have M_0 := HC.out.1 _ HU0.out
        have M_1 := HC.out.2.1 _ HU0.out
        have v_0 := HC.out.2.2.1 _ HU0.out
        have v_1 := HC.out.2.2.2.1 _ HU0.out
        have v_2 := HC.out.2.2.2.2.1 _ HU0.out
        have xu0 := HC.out.2.2.2.2.2.1 _ HU0.out
        have xu1 := HC.out.2.2.2.2.2.2 _ HU0.out
        go_wp2_with fail
        refine (in_at T1.out _).mono ?_
        rintro e u1 ⟨rfl, b1⟩
        have HU1 := Lib.hid (HU0.out.trans (b1.mono HU0.out.size))
        clear M_0 M_1 v_0 v_1 v_2 xu0 xu1 b1
        have M_0 := HC.out.1 _ HU1.out
        have M_1 := HC.out.2.1 _ HU1.out
        have v_0 := HC.out.2.2.1 _ HU1.out
        have v_1 := HC.out.2.2.2.1 _ HU1.out
        have v_2 := HC.out.2.2.2.2.1 _ HU1.out
        have xu0 := HC.out.2.2.2.2.2.1 _ HU1.out
        have xu1 := HC.out.2.2.2.2.2.2 _ HU1.out
        go_wp2_with fail
        refine (in_at T2.out _).mono ?_
        rintro e u2 ⟨rfl, b2⟩
        have HU2 := Lib.hid (HU1.out.trans (b2.mono HU1.out.size))
        clear M_0 M_1 v_0 v_1 v_2 xu0 xu1 b2
        have M_0 := HC.out.1 _ HU2.out
        have M_1 := HC.out.2.1 _ HU2.out
        have v_0 := HC.out.2.2.1 _ HU2.out
        have v_1 := HC.out.2.2.2.1 _ HU2.out
        have v_2 := HC.out.2.2.2.2.1 _ HU2.out
        have xu0 := HC.out.2.2.2.2.2.1 _ HU2.out
        have xu1 := HC.out.2.2.2.2.2.2 _ HU2.out
        go_wp2_with fail
        refine (in_at T3.out _).mono ?_
        rintro e u3 ⟨rfl, b3⟩
        have HU3 := Lib.hid (HU2.out.trans (b3.mono HU2.out.size))
        clear M_0 M_1 v_0 v_1 v_2 xu0 xu1 b3
        have M_0 := HC.out.1 _ HU3.out
        have M_1 := HC.out.2.1 _ HU3.out
        have v_0 := HC.out.2.2.1 _ HU3.out
        have v_1 := HC.out.2.2.2.1 _ HU3.out
        have v_2 := HC.out.2.2.2.2.1 _ HU3.out
        have xu0 := HC.out.2.2.2.2.2.1 _ HU3.out
        have xu1 := HC.out.2.2.2.2.2.2 _ HU3.out
        go_wp2
        go_ret
        refine ⟨ret_bool (mayMB_no fun h => ?_).symm, HbX.out.trans (HU3.out.mono (Nat.le_trans zb zv))⟩
        have h1 := of_decide_eq_true (h.2.1 k hkn)
        have h2 := of_decide_eq_true (h.2.2.1 k (by omega))
        have h3 := Ht.out
        omega
      have T3 := Lib.hid (inB_yes (x := U k 0) (a := 0) (b := 255) t3.1 t3.2)
      have Ht3 := Lib.hid t3
      clear t3
      by_cases t4 : 0 ≤ U k 1 ∧ U k 1 ≤ 255
      rotate_left
      · have T4 := Lib.hid (inB_no (x := U k 1) (a := 0) (b := 255) t4)
        have Ht := Lib.hid t4
        clear t4
        go_wp2_with fail
        refine (in_at T0.out _).mono ?_
        rintro e u0 ⟨rfl, b0⟩
        have HU0 := Lib.hid (b0)
        clear M_0 M_1 v_0 v_1 v_2 xu0 xu1 b0
        have M_0 := HC.out.1 _ HU0.out
        have M_1 := HC.out.2.1 _ HU0.out
        have v_0 := HC.out.2.2.1 _ HU0.out
        have v_1 := HC.out.2.2.2.1 _ HU0.out
        have v_2 := HC.out.2.2.2.2.1 _ HU0.out
        have xu0 := HC.out.2.2.2.2.2.1 _ HU0.out
        have xu1 := HC.out.2.2.2.2.2.2 _ HU0.out
        go_wp2_with fail
        refine (in_at T1.out _).mono ?_
        rintro e u1 ⟨rfl, b1⟩
        have HU1 := Lib.hid (HU0.out.trans (b1.mono HU0.out.size))
        clear M_0 M_1 v_0 v_1 v_2 xu0 xu1 b1
        have M_0 := HC.out.1 _ HU1.out
        have M_1 := HC.out.2.1 _ HU1.out
        have v_0 := HC.out.2.2.1 _ HU1.out
        have v_1 := HC.out.2.2.2.1 _ HU1.out
        have v_2 := HC.out.2.2.2.2.1 _ HU1.out
        have xu0 := HC.out.2.2.2.2.2.1 _ HU1.out
        have xu1 := HC.out.2.2.2.2.2.2 _ HU1.out
        go_wp2_with fail
        refine (in_at T2.out _).mono ?_
        rintro e u2 ⟨rfl, b2⟩
        have HU2 := Lib.hid (HU1.out.trans (b2.mono HU1.out.size))
        clear M_0 M_1 v_0 v_1 v_2 xu0 xu1 b2
        have M_0 := HC.out.1 _ HU2.out
        have M_1 := HC.out.2.1 _ HU2.out
        have v_0 := HC.out.2.2.1 _ HU2.out
        have v_1 := HC.out.2.2.2.1 _ HU2.out
        have v_2 := HC.out.2.2.2.2.1 _ HU2.out
        have xu0 := HC.out.2.2.2.2.2.1 _ HU2.out
        have xu1 := HC.out.2.2.2.2.2.2 _ HU2.out
        go_wp2_with fail
        refine (in_at T3.out _).mono ?_
        rintro e u3 ⟨rfl, b3⟩
        have HU3 := Lib.hid (HU2.out.trans (b3.mono HU2.out.size))
        clear M_0 M_1 v_0 v_1 v_2 xu0 xu1 b3
        have M_0 := HC.out.1 _ HU3.out
        have M_1 := HC.out.2.1 _ HU3.out
        have v_0 := HC.out.2.2.1 _ HU3.out
        have v_1 := HC.out.2.2.2.1 _ HU3.out
        have v_2 := HC.out.2.2.2.2.1 _ HU3.out
        have xu0 := HC.out.2.2.2.2.2.1 _ HU3.out
        have xu1 := HC.out.2.2.2.2.2.2 _ HU3.out
        go_wp2_with fail
        refine (in_at T4.out _).mono ?_
        rintro e u4 ⟨rfl, b4⟩
        have HU4 := Lib.hid (HU3.out.trans (b4.mono HU3.out.size))
        clear M_0 M_1 v_0 v_1 v_2 xu0 xu1 b4
        have M_0 := HC.out.1 _ HU4.out
        have M_1 := HC.out.2.1 _ HU4.out
        have v_0 := HC.out.2.2.1 _ HU4.out
        have v_1 := HC.out.2.2.2.1 _ HU4.out
        have v_2 := HC.out.2.2.2.2.1 _ HU4.out
        have xu0 := HC.out.2.2.2.2.2.1 _ HU4.out
        have xu1 := HC.out.2.2.2.2.2.2 _ HU4.out
        go_wp2
        go_ret
        refine ⟨ret_bool (mayMB_no fun h => ?_).symm, HbX.out.trans (HU4.out.mono (Nat.le_trans zb zv))⟩
        have h1 := of_decide_eq_true (h.2.1 k hkn)
        have h2 := of_decide_eq_true (h.2.2.1 k (by omega))
        have h3 := Ht.out
        omega
      have T4 := Lib.hid (inB_yes (x := U k 1) (a := 0) (b := 255) t4.1 t4.2)
      have Ht4 := Lib.hid t4
      clear t4
      go_wp2_with fail
      refine (in_at T0.out _).mono ?_
      rintro e u0 ⟨rfl, b0⟩
      have HU0 := Lib.hid (b0)
      clear M_0 M_1 v_0 v_1 v_2 xu0 xu1 b0
      have M_0 := HC.out.1 _ HU0.out
      have M_1 := HC.out.2.1 _ HU0.out
      have v_0 := HC.out.2.2.1 _ HU0.out
      have v_1 := HC.out.2.2.2.1 _ HU0.out
      have v_2 := HC.out.2.2.2.2.1 _ HU0.out
      have xu0 := HC.out.2.2.2.2.2.1 _ HU0.out
      have xu1 := HC.out.2.2.2.2.2.2 _ HU0.out
      go_wp2_with fail
      refine (in_at T1.out _).mono ?_
      rintro e u1 ⟨rfl, b1⟩
      have HU1 := Lib.hid (HU0.out.trans (b1.mono HU0.out.size))
      clear M_0 M_1 v_0 v_1 v_2 xu0 xu1 b1
      have M_0 := HC.out.1 _ HU1.out
      have M_1 := HC.out.2.1 _ HU1.out
      have v_0 := HC.out.2.2.1 _ HU1.out
      have v_1 := HC.out.2.2.2.1 _ HU1.out
      have v_2 := HC.out.2.2.2.2.1 _ HU1.out
      have xu0 := HC.out.2.2.2.2.2.1 _ HU1.out
      have xu1 := HC.out.2.2.2.2.2.2 _ HU1.out
      go_wp2_with fail
      refine (in_at T2.out _).mono ?_
      rintro e u2 ⟨rfl, b2⟩
      have HU2 := Lib.hid (HU1.out.trans (b2.mono HU1.out.size))
      clear M_0 M_1 v_0 v_1 v_2 xu0 xu1 b2
      have M_0 := HC.out.1 _ HU2.out
      have M_1 := HC.out.2.1 _ HU2.out
      have v_0 := HC.out.2.2.1 _ HU2.out
      have v_1 := HC.out.2.2.2.1 _ HU2.out
      have v_2 := HC.out.2.2.2.2.1 _ HU2.out
      have xu0 := HC.out.2.2.2.2.2.1 _ HU2.out
      have xu1 := HC.out.2.2.2.2.2.2 _ HU2.out
      go_wp2_with fail
      refine (in_at T3.out _).mono ?_
      rintro e u3 ⟨rfl, b3⟩
      have HU3 := Lib.hid (HU2.out.trans (b3.mono HU2.out.size))
      clear M_0 M_1 v_0 v_1 v_2 xu0 xu1 b3
      have M_0 := HC.out.1 _ HU3.out
      have M_1 := HC.out.2.1 _ HU3.out
      have v_0 := HC.out.2.2.1 _ HU3.out
      have v_1 := HC.out.2.2.2.1 _ HU3.out
      have v_2 := HC.out.2.2.2.2.1 _ HU3.out
      have xu0 := HC.out.2.2.2.2.2.1 _ HU3.out
      have xu1 := HC.out.2.2.2.2.2.2 _ HU3.out
      go_wp2_with fail
      refine (in_at T4.out _).mono ?_
      rintro e u4 ⟨rfl, b4⟩
      have HU4 := Lib.hid (HU3.out.trans (b4.mono HU3.out.size))
      clear M_0 M_1 v_0 v_1 v_2 xu0 xu1 b4
      have M_0 := HC.out.1 _ HU4.out
      have M_1 := HC.out.2.1 _ HU4.out
      have v_0 := HC.out.2.2.1 _ HU4.out
      have v_1 := HC.out.2.2.2.1 _ HU4.out
      have v_2 := HC.out.2.2.2.2.1 _ HU4.out
      have xu0 := HC.out.2.2.2.2.2.1 _ HU4.out
      have xu1 := HC.out.2.2.2.2.2.2 _ HU4.out
      go_wp2
      go_roundw
      case rel =>
        refine ⟨k + 1, by omega, by go_num, fun i hi => ?_, HXM.out.2.below HU4.out, HbX.out.trans (HU4.out.mono (Nat.le_trans zb zv))⟩
        rcases Nat.lt_or_ge i k with h | h
        · exact Hall.out i h
        · obtain rfl : i = k := by omega
          exact ⟨decide_eq_true ⟨Ht0.out, Ht1.out, Ht2.out⟩, decide_eq_true ⟨Ht3.out, Ht4.out⟩⟩
      case measure => simp [intOf]; omega
    · obtain rfl : k = n1 := by omega
      clear hall hM hbel
      go_wp2_with fail
      refine (ha.out _ Hbel.out).mono ?_
      rintro e w1 ⟨hx, bel1⟩
      have HB1 := Lib.hid (Hbel.out.trans (bel1.mono zb))
      clear M_0 M_1 M_2 bel1
      rcases hx with ⟨hok, X, cx, rfl, _⟩ | ⟨hok, rfl⟩
      · have Hok := Lib.hid hok
        clear hok
        by_cases h64 : catN D m ≤ 64
        · have g1 : decide (((catN D m : Nat) : Int) ≤ 64) = true := decide_eq_true (by omega)
          have H64 := Lib.hid h64
          clear h64
          go_wp2
          go_ret
          exact ⟨ret_bool (mayMB_yes ⟨rfl, fun i hi => (Hall.out i hi).1, fun i hi => (Hall.out i hi).2, Hok.out, H64.out⟩).symm, HB1.out⟩
        · have g1 : decide (((catN D m : Nat) : Int) ≤ 64) = false := decide_eq_false (by omega)
          have H64 := Lib.hid h64
          clear h64
          go_wp2
          go_ret
          exact ⟨ret_bool (mayMB_no fun h => H64.out h.2.2.2.2).symm, HB1.out⟩
      · have Hok := Lib.hid hok
        clear hok
        go_wp2
        go_ret
        exact ⟨ret_bool (mayMB_no fun h => Hok.out h.2.2.2.1).symm, HB1.out⟩
end Go.Proofs.Ytkclkillphafkaa
