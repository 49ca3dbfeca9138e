/- mesh: the reference's Same. -/
import Derived.Test.YtkclkillphafkaaM22
namespace Go.Proofs.Ytkclkillphafkaa
open Go.RowKit
set_option linter.unusedVariables false

set_option maxRecDepth 100000 in
set_option maxHeartbeats 8000000 in
theorem same23_any (A1 A2 A3 : Option Addr) (n1 n2 m c1 c2 c3 : Nat) (V U : Nat → Nat → Int) (D : Nat → PrimD) (E1 E2 E3 : Option Addr) (m1 m2 l e1 e2 e3 : Nat) (V2 U2 : Nat → Nat → Int) (F : Nat → PrimD) (w : World) (hV : Row w A1 n1 3 (fun i j => .int .i64 (V i j))) (hU : Row w A2 n2 2 (fun i j => .int .i64 (U i j))) (hp : PL w A3 m D) (hV2 : Row w E1 m1 3 (fun i j => .int .i64 (V2 i j))) (hU2 : Row w E2 m2 2 (fun i j => .int .i64 (U2 i j))) (hp2 : PL w E3 l F) (hfit : n1 ≤ 1000 ∧ n2 ≤ 1000 ∧ m ≤ 100) (hn : ∀ i, i < m → (D i).n ≤ 1000) :
    Calls Try.prog 23 #[.agg #[.slice A1 n1 c1, .slice A2 n2 c2, .slice A3 m c3], .agg #[.slice E1 m1 e1, .slice E2 m2 e2, .slice E3 l e3]] w fun e w' => e = .returned (.bool (cB (SameM n1 n2 m V U D m1 m2 l V2 U2 F))) ∧ Below w.heap.size w w' := by
  obtain ⟨hf1, hf2, hf3⟩ := hfit
  by_cases h0 : n1 = m1
  rotate_left
  · have g0 : ((n1 : Int) != (m1 : Int)) = true := by simp; omega
    have Hh := Lib.hid h0
    clear h0 hV hU hp hV2 hU2 hp2 hn
    go_enter Try.func23, Try.ntmps23
    go_wp2
    go_ret
    exact ⟨ret_bool (cB_no fun h => Hh.out h.1.1).symm, by repeat' (first | exact Below.refl _ _ | assumption | apply Below.drew | refine Below.setCell ?_ (by first | omega | (simp; done) | (simp; omega)) _ | refine Below.alloc ?_ (by first | omega | (simp; done) | (simp; omega)) _)⟩
  have g0 : ((n1 : Int) != (m1 : Int)) = false := by simp; omega
  by_cases h1 : n2 = m2
  rotate_left
  · have g1 : ((n2 : Int) != (m2 : Int)) = true := by simp; omega
    have Hh := Lib.hid h1
    clear h1 hV hU hp hV2 hU2 hp2 hn
    go_enter Try.func23, Try.ntmps23
    go_wp2
    go_ret
    exact ⟨ret_bool (cB_no fun h => Hh.out h.2.1.1).symm, by repeat' (first | exact Below.refl _ _ | assumption | apply Below.drew | refine Below.setCell ?_ (by first | omega | (simp; done) | (simp; omega)) _ | refine Below.alloc ?_ (by first | omega | (simp; done) | (simp; omega)) _)⟩
  have g1 : ((n2 : Int) != (m2 : Int)) = false := by simp; omega
  by_cases h2 : m = l
  rotate_left
  · have g2 : ((m : Int) != (l : Int)) = true := by simp; omega
    have Hh := Lib.hid h2
    clear h2 hV hU hp hV2 hU2 hp2 hn
    go_enter Try.func23, Try.ntmps23
    go_wp2
    go_ret
    exact ⟨ret_bool (cB_no fun h => Hh.out h.2.2.1).symm, by repeat' (first | exact Below.refl _ _ | assumption | apply Below.drew | refine Below.setCell ?_ (by first | omega | (simp; done) | (simp; omega)) _ | refine Below.alloc ?_ (by first | omega | (simp; done) | (simp; omega)) _)⟩
  have g2 : ((m : Int) != (l : Int)) = false := by simp; omega

  obtain rfl : n1 = m1 := h0
  obtain rfl : n2 = m2 := h1
  obtain rfl : m = l := h2
  have HV := Lib.hid hV
  have HU := Lib.hid hU
  have HP := Lib.hid hp
  have HV2 := Lib.hid hV2
  have HU2 := Lib.hid hU2
  have HP2 := Lib.hid hp2
  have HN := Lib.hid hn
  have bx : Below w.heap.size w ((w.alloc (.cells #[.slice A1 n1 c1, .slice A2 n2 c2, .slice A3 m c3] 42)).alloc (.cells #[.slice E1 n1 e1, .slice E2 n2 e2, .slice E3 m e3] 42)) := by
    repeat' (first | exact Below.refl _ _ | assumption | apply Below.drew | refine Below.setCell ?_ (by first | omega | (simp; done) | (simp; omega)) _ | refine Below.alloc ?_ (by first | omega | (simp; done) | (simp; omega)) _)
  have pb := (hasBlk_new w 42 #[.slice A1 n1 c1, .slice A2 n2 c2, .slice A3 m c3]).alloc (.cells #[.slice E1 n1 e1, .slice E2 n2 e2, .slice E3 m e3] 42)
  have qb := hasBlk_new (w.alloc (.cells #[.slice A1 n1 c1, .slice A2 n2 c2, .slice A3 m c3] 42)) 42 #[.slice E1 n1 e1, .slice E2 n2 e2, .slice E3 m e3]
  simp only [World.size_alloc] at qb
  have HX := Lib.hid (And.intro pb qb)
  have zv0 : w.heap.size ≤ ((w.alloc (.cells #[.slice A1 n1 c1, .slice A2 n2 c2, .slice A3 m c3] 42)).alloc (.cells #[.slice E1 n1 e1, .slice E2 n2 e2, .slice E3 m e3] 42)).heap.size := bx.size
  have HBx0 := Lib.hid bx
  clear hV hU hp hV2 hU2 hp2 hn bx pb qb
  go_enter Try.func23, Try.ntmps23
  go_upto_region 4 with fail
  generalize ((w.alloc (.cells #[.slice A1 n1 c1, .slice A2 n2 c2, .slice A3 m c3] 42)).alloc (.cells #[.slice E1 n1 e1, .slice E2 n2 e2, .slice E3 m e3] 42)) = v at *
  have HV := Lib.hid (HV.out.below HBx0.out)
  have HU := Lib.hid (HU.out.below HBx0.out)
  have HP := Lib.hid (HP.out.below HBx0.out)
  have HV2 := Lib.hid (HV2.out.below HBx0.out)
  have HU2 := Lib.hid (HU2.out.below HBx0.out)
  have HP2 := Lib.hid (HP2.out.below HBx0.out)
  go_loopw [5] (fun i wr => ∃ k : Nat, k ≤ n1 ∧ i = .int .i64 k ∧ Below v.heap.size v wr ∧ ∀ i, i < k → ∀ j, j < 3 → V i j = V2 i j) (fun i wr => n1 - (intOf i).toNat)
  case atStart => exact ⟨0, Nat.zero_le _, rfl, Below.refl _ _, fun i hi => absurd hi (by omega)⟩
  case round =>
    obtain ⟨k, hk, rfl, hbel, hall⟩ := hrel
    have Hall := Lib.hid hall
    have Hbel := Lib.hid hbel
    have zb := hbel.size
    have P0 := HX.out.1.below hbel
    have Q0 := HX.out.2.below hbel
    have ltP := P0.lt
    have ltQ := Q0.lt
    have p0 := P0.cell 0
    have q0 := Q0.cell 0
    simp at p0 q0
    clear hall hbel P0 Q0
    by_cases hkn : k < n1
    · obtain ⟨g, o, hA, hg, hc⟩ := HV.out (by omega)
      obtain ⟨g', o', hA', hg', hc'⟩ := HV2.out (by omega)
      have c0 := (Hbel.out.cell (p := ⟨g, o + k * 3 + 0, none⟩) hg).trans (hc k hkn 0 (by omega))
      have c1 := (Hbel.out.cell (p := ⟨g, o + k * 3 + 1, none⟩) hg).trans (hc k hkn 1 (by omega))
      have c2 := (Hbel.out.cell (p := ⟨g, o + k * 3 + 2, none⟩) hg).trans (hc k hkn 2 (by omega))
      have d0 := (Hbel.out.cell (p := ⟨g', o' + k * 3 + 0, none⟩) hg').trans (hc' k hkn 0 (by omega))
      have d1 := (Hbel.out.cell (p := ⟨g', o' + k * 3 + 1, none⟩) hg').trans (hc' k hkn 1 (by omega))
      have d2 := (Hbel.out.cell (p := ⟨g', o' + k * 3 + 2, none⟩) hg').trans (hc' k hkn 2 (by omega))
      dsimp only at c0 c1 c2 d0 d1 d2
      simp only [Nat.add_zero, Nat.mul_one] at c0 c1 c2 d0 d1 d2
      have lt1 : g < wr.heap.size := by omega
      have lt2 : g' < wr.heap.size := by omega
      have hi0 : (0 : Int) ≤ (k : Int) := by omega
      have hi1 : (k : Int) < (n1 : Int) := by omega
      rw [hA] at p0
      rw [hA'] at q0
      clear hc hc' hA hA' hg hg'
      go_upto_region 6 with fail
      have r0 := fun b : BW wr => BW.cell p0 ltP b
      have r1 := fun b : BW wr => BW.cell q0 ltQ b
      have rc0 := fun b : BW wr => BW.cell c0 lt1 b
      have rc1 := fun b : BW wr => BW.cell c1 lt1 b
      have rc2 := fun b : BW wr => BW.cell c2 lt1 b
      have rd0 := fun b : BW wr => BW.cell d0 lt2 b
      have rd1 := fun b : BW wr => BW.cell d1 lt2 b
      have rd2 := fun b : BW wr => BW.cell d2 lt2 b
      clear p0 q0 c0 c1 c2 d0 d1 d2
      by_cases hcmp : V k 0 = V2 k 0 ∧ V k 1 = V2 k 1 ∧ V k 2 = V2 k 2
      · have hq := fun W => equalIn_of_eql (eql_vec (V k 0) (V k 1) (V k 2) (V2 k 0) (V2 k 1) (V2 k 2) W)
        have hv : ((V k 0 == V2 k 0) && ((V k 1 == V2 k 1) && (V k 2 == V2 k 2))) = true := by have := hcmp; simp_all
        simp only [hv] at hq
        clear hv
        have Hc := Lib.hid hcmp
        clear hcmp
        refine wp_region_quiet_bw (by kernel_rfl) (by kernel_rfl) ?_
        repeat (go_big_quiet_step (fail))
        refine wpQuiet_nil ?_
        intro _ hw'
        obtain ⟨pq, hw''⟩ := hw'
        subst hw''
        have HBQ := Lib.hid (Hbel.out.trans (pq.h.mono zb))
        generalize pq.W = w4 at *
        clear pq hq r0 r1 rc0 rc1 rc2 rd0 rd1 rd2
        go_wp2
        go_roundw
        case rel =>
          refine ⟨k + 1, by omega, by go_num, HBQ.out, fun i hi j hj => ?_⟩
          rcases Nat.lt_or_ge i k with h | h
          · exact Hall.out i h j hj
          · obtain rfl : i = k := by omega
            have hc := Hc.out
            match j, hj with
            | 0, _ => exact hc.1
            | 1, _ => exact hc.2.1
            | 2, _ => exact hc.2.2
        case measure => simp [intOf]; omega
      · have hq := fun W => equalIn_of_eql (eql_vec (V k 0) (V k 1) (V k 2) (V2 k 0) (V2 k 1) (V2 k 2) W)
        have hv : ((V k 0 == V2 k 0) && ((V k 1 == V2 k 1) && (V k 2 == V2 k 2))) = false := by rw [Bool.eq_false_iff]; intro hh; apply hcmp; simpa using hh
        simp only [hv] at hq
        clear hv
        have Hc := Lib.hid hcmp
        clear hcmp
        refine wp_region_quiet_bw (by kernel_rfl) (by kernel_rfl) ?_
        repeat (go_big_quiet_step (fail))
        refine wpQuiet_nil ?_
        intro _ hw'
        obtain ⟨pq, hw''⟩ := hw'
        subst hw''
        have HBQ := Lib.hid (Hbel.out.trans (pq.h.mono zb))
        generalize pq.W = w4 at *
        clear pq hq r0 r1 rc0 rc1 rc2 rd0 rd1 rd2
        go_wp2
        go_ret
        refine ⟨ret_bool (cB_no fun h => Hc.out ?_).symm, HBx0.out.trans (HBQ.out.mono HBx0.out.size)⟩
        have h' := (h.1).2
        exact ⟨h' k hkn 0 (by omega), h' k hkn 1 (by omega), h' k hkn 2 (by omega)⟩
    · obtain rfl : k = n1 := by omega
      have Hbel1 := Lib.hid Hbel.out
      have Hall1 := Lib.hid Hall.out
      clear Hbel Hall
      go_wp2
      clear p0 q0
      obtain ⟨wo1, rfl⟩ : ∃ wo : World, wo = wr := ⟨wr, rfl⟩
      go_loopw [6] (fun i wr => ∃ k : Nat, k ≤ n2 ∧ i = .int .i64 k ∧ Below v.heap.size v wr ∧ ∀ i, i < k → ∀ j, j < 2 → U i j = U2 i j) (fun i wr => n2 - (intOf i).toNat)
      case atStart => exact ⟨0, Nat.zero_le _, rfl, Hbel1.out, fun i hi => absurd hi (by omega)⟩
      case round =>
        obtain ⟨k, hk, rfl, hbel, hall⟩ := hrel
        have Hall := Lib.hid hall
        have Hbel := Lib.hid hbel
        have zb := hbel.size
        have P0 := HX.out.1.below hbel
        have Q0 := HX.out.2.below hbel
        have ltP := P0.lt
        have ltQ := Q0.lt
        have p0 := P0.cell 1
        have q0 := Q0.cell 1
        simp at p0 q0
        clear hall hbel P0 Q0
        by_cases hkn : k < n2
        · obtain ⟨g, o, hA, hg, hc⟩ := HU.out (by omega)
          obtain ⟨g', o', hA', hg', hc'⟩ := HU2.out (by omega)
          have c0 := (Hbel.out.cell (p := ⟨g, o + k * 2 + 0, none⟩) hg).trans (hc k hkn 0 (by omega))
          have c1 := (Hbel.out.cell (p := ⟨g, o + k * 2 + 1, none⟩) hg).trans (hc k hkn 1 (by omega))
          have d0 := (Hbel.out.cell (p := ⟨g', o' + k * 2 + 0, none⟩) hg').trans (hc' k hkn 0 (by omega))
          have d1 := (Hbel.out.cell (p := ⟨g', o' + k * 2 + 1, none⟩) hg').trans (hc' k hkn 1 (by omega))
          dsimp only at c0 c1 d0 d1
          simp only [Nat.add_zero, Nat.mul_one] at c0 c1 d0 d1
          have lt1 : g < wr.heap.size := by omega
          have lt2 : g' < wr.heap.size := by omega
          have hi0 : (0 : Int) ≤ (k : Int) := by omega
          have hi1 : (k : Int) < (n2 : Int) := by omega
          rw [hA] at p0
          rw [hA'] at q0
          clear hc hc' hA hA' hg hg'
          go_upto_region 11 with fail
          have r0 := fun b : BW wr => BW.cell p0 ltP b
          have r1 := fun b : BW wr => BW.cell q0 ltQ b
          have rc0 := fun b : BW wr => BW.cell c0 lt1 b
          have rc1 := fun b : BW wr => BW.cell c1 lt1 b
          have rd0 := fun b : BW wr => BW.cell d0 lt2 b
          have rd1 := fun b : BW wr => BW.cell d1 lt2 b
          clear p0 q0 c0 c1 d0 d1
          by_cases hcmp : U k 0 = U2 k 0 ∧ U k 1 = U2 k 1
          · have hq := fun W => equalIn_of_eql (eql_uv (U k 0) (U k 1) (U2 k 0) (U2 k 1) W)
            have hv : ((U k 0 == U2 k 0) && (U k 1 == U2 k 1)) = true := by have := hcmp; simp_all
            simp only [hv] at hq
            clear hv
            have Hc := Lib.hid hcmp
            clear hcmp
            refine wp_region_quiet_bw (by kernel_rfl) (by kernel_rfl) ?_
            repeat (go_big_quiet_step (fail))
            refine wpQuiet_nil ?_
            intro _ hw'
            obtain ⟨pq, hw''⟩ := hw'
            subst hw''
            have HBQ := Lib.hid (Hbel.out.trans (pq.h.mono zb))
            generalize pq.W = w4 at *
            clear pq hq r0 r1 rc0 rc1 rd0 rd1
            go_wp2
            go_roundw
            case rel =>
              refine ⟨k + 1, by omega, by go_num, HBQ.out, fun i hi j hj => ?_⟩
              rcases Nat.lt_or_ge i k with h | h
              · exact Hall.out i h j hj
              · obtain rfl : i = k := by omega
                have hc := Hc.out
                match j, hj with
                | 0, _ => exact hc.1
                | 1, _ => exact hc.2
            case measure => simp [intOf]; omega
          · have hq := fun W => equalIn_of_eql (eql_uv (U k 0) (U k 1) (U2 k 0) (U2 k 1) W)
            have hv : ((U k 0 == U2 k 0) && (U k 1 == U2 k 1)) = false := by rw [Bool.eq_false_iff]; intro hh; apply hcmp; simpa using hh
            simp only [hv] at hq
            clear hv
            have Hc := Lib.hid hcmp
            clear hcmp
            refine wp_region_quiet_bw (by kernel_rfl) (by kernel_rfl) ?_
            repeat (go_big_quiet_step (fail))
            refine wpQuiet_nil ?_
            intro _ hw'
            obtain ⟨pq, hw''⟩ := hw'
            subst hw''
            have HBQ := Lib.hid (Hbel.out.trans (pq.h.mono zb))
            generalize pq.W = w4 at *
            clear pq hq r0 r1 rc0 rc1 rd0 rd1
            go_wp2
            go_ret
            refine ⟨ret_bool (cB_no fun h => Hc.out ?_).symm, HBx0.out.trans (HBQ.out.mono HBx0.out.size)⟩
            have h' := (h.2.1).2
            exact ⟨h' k hkn 0 (by omega), h' k hkn 1 (by omega)⟩
        · obtain rfl : k = n2 := by omega
          have Hbel2 := Lib.hid Hbel.out
          have Hall2 := Lib.hid Hall.out
          clear Hbel Hall
          go_wp2
          clear p0 q0
          obtain ⟨wo2, rfl⟩ : ∃ wo : World, wo = wr := ⟨wr, rfl⟩
          go_loopw [7] (fun i wr => ∃ k : Nat, k ≤ m ∧ i = .int .i64 k ∧ Below v.heap.size v wr ∧ ∀ i, i < k → SameP (D i) (F i)) (fun i wr => m - (intOf i).toNat)
          case atStart => exact ⟨0, Nat.zero_le _, rfl, Hbel2.out, fun i hi => absurd hi (by omega)⟩
          case round =>
            obtain ⟨k, hk, rfl, hbel, hall⟩ := hrel
            have Hall := Lib.hid hall
            have Hbel := Lib.hid hbel
            have zb := hbel.size
            have P0 := HX.out.1.below hbel
            have Q0 := HX.out.2.below hbel
            have ltP := P0.lt
            have ltQ := Q0.lt
            have p0 := P0.cell 2
            have q0 := Q0.cell 2
            simp at p0 q0
            clear hall hbel P0 Q0
            by_cases hkn : k < m
            · obtain ⟨g, o, hA, hg, hc, hi⟩ := HP.out (by omega)
              obtain ⟨g', o', hA', hg', hc', hi'⟩ := HP2.out (by omega)
              have c0 := (Hbel.out.cell (p := ⟨g, o + k * 2, none⟩) hg).trans (hc k hkn).1
              have c1 := (Hbel.out.cell (p := ⟨g, o + k * 2 + 1, none⟩) hg).trans (hc k hkn).2
              have d0 := (Hbel.out.cell (p := ⟨g', o' + k * 2, none⟩) hg').trans (hc' k hkn).1
              have d1 := (Hbel.out.cell (p := ⟨g', o' + k * 2 + 1, none⟩) hg').trans (hc' k hkn).2
              have lt1 : g < wr.heap.size := by omega
              have lt2 : g' < wr.heap.size := by omega
              have hi0 : (0 : Int) ≤ (k : Int) := by omega
              have hi1 : (k : Int) < (m : Int) := by omega
              rw [hA] at p0
              rw [hA'] at q0
              have hnk := HN.out k hkn
              have hq := Lib.hid (fun W (h : Below wr.heap.size wr W) => numbers_cb (D k).a (F k).a (D k).n (F k).n (D k).c (F k).c (D k).l (F k).l W ((hi k hkn).below (Hbel.out.trans (h.mono zb))) ((hi' k hkn).below (Hbel.out.trans (h.mono zb))) (by omega))
              clear hc hc' hA hA' hg hg' hi hi'
              go_upto_region 16 with fail
              have r0 := fun b : BW wr => BW.cell p0 ltP b
              have r1 := fun b : BW wr => BW.cell q0 ltQ b
              have rc0 := fun b : BW wr => BW.cell c0 lt1 b
              have rc1 := fun b : BW wr => BW.cell c1 lt1 b
              have rd0 := fun b : BW wr => BW.cell d0 lt2 b
              have rd1 := fun b : BW wr => BW.cell d1 lt2 b
              clear p0 q0 c0 c1 d0 d1
              by_cases hkk : (D k).k = (F k).k
              rotate_left
              · have g3 : ((D k).k != (F k).k) = true := by simpa using hkk
                have Hkk := Lib.hid hkk
                clear hkk hq
                refine wp_region_quiet_bw (by kernel_rfl) (by kernel_rfl) ?_
                repeat (go_big_quiet_step (fail))
                refine wpQuiet_nil ?_
                intro _ hw'
                obtain ⟨pq, hw''⟩ := hw'
                subst hw''
                have HBQ := Lib.hid (Hbel.out.trans (pq.h.mono zb))
                generalize pq.W = w4 at *
                clear pq r0 r1 rc0 rc1 rd0 rd1
                go_wp2
                go_ret
                exact ⟨ret_bool (cB_no fun h => Hkk.out (h.2.2.2 k hkn).1).symm, HBx0.out.trans (HBQ.out.mono HBx0.out.size)⟩
              have g3 : ((D k).k != (F k).k) = false := by simpa using hkk
              have Hkk := Lib.hid hkk
              clear hkk
              by_cases hI : SameI (D k).n (F k).n (D k).l (F k).l
              · have Hc := Lib.hid hI
                have K := Lib.hid (fun b : BW wr => BW.call (fun W' (h : Below wr.heap.size wr W') => calls_congr (hq.out W' h) (congrArg Value.bool (cB_yes Hc.out))) b)
                clear hI hq
                refine wp_region_quiet_bw (by kernel_rfl) (by kernel_rfl) ?_
                repeat (go_big_quiet_step ((go_at_call 12; with_reducible exact K.out _)))
                refine wpQuiet_nil ?_
                intro _ hw'
                obtain ⟨pq, hw''⟩ := hw'
                subst hw''
                have HBQ := Lib.hid (Hbel.out.trans (pq.h.mono zb))
                generalize pq.W = w4 at *
                clear pq r0 r1 rc0 rc1 rd0 rd1 K
                go_wp2
                go_roundw
                case rel =>
                  refine ⟨k + 1, by omega, by go_num, HBQ.out, fun i hi => ?_⟩
                  rcases Nat.lt_or_ge i k with h | h
                  · exact Hall.out i h
                  · obtain rfl : i = k := by omega
                    exact ⟨Hkk.out, Hc.out⟩
                case measure => simp [intOf]; omega
              · have Hc := Lib.hid hI
                have K := Lib.hid (fun b : BW wr => BW.call (fun W' (h : Below wr.heap.size wr W') => calls_congr (hq.out W' h) (congrArg Value.bool (cB_no Hc.out))) b)
                clear hI hq
                refine wp_region_quiet_bw (by kernel_rfl) (by kernel_rfl) ?_
                repeat (go_big_quiet_step ((go_at_call 12; with_reducible exact K.out _)))
                refine wpQuiet_nil ?_
                intro _ hw'
                obtain ⟨pq, hw''⟩ := hw'
                subst hw''
                have HBQ := Lib.hid (Hbel.out.trans (pq.h.mono zb))
                generalize pq.W = w4 at *
                clear pq r0 r1 rc0 rc1 rd0 rd1 K
                go_wp2
                go_ret
                exact ⟨ret_bool (cB_no fun h => Hc.out (h.2.2.2 k hkn).2).symm, HBx0.out.trans (HBQ.out.mono HBx0.out.size)⟩
            · obtain rfl : k = m := by omega
              go_wp2
              go_ret
              exact ⟨ret_bool (cB_yes ⟨⟨by trivial, Hall1.out⟩, ⟨by trivial, Hall2.out⟩, by trivial, Hall.out⟩).symm, HBx0.out.trans (Hbel.out.mono HBx0.out.size)⟩
end Go.Proofs.Ytkclkillphafkaa
