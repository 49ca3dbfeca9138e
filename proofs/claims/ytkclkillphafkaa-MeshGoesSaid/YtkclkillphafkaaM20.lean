/- mesh: the reference's All, May, Check, Tris. -/
import Derived.Test.YtkclkillphafkaaM19
import Derived.Test.YtkclkillphafkaaQuiet
namespace Go.Proofs.Ytkclkillphafkaa
open Go.RowKit
set_option linter.unusedVariables false
def inB (x a b : Int) : Bool := decide (a ≤ x ∧ x ≤ b)
theorem inB_yes {x a b : Int} (h : a ≤ x) (k : x ≤ b) : inB x a b = true := decide_eq_true ⟨h, k⟩
theorem inB_no {x a b : Int} (h : ¬ (a ≤ x ∧ x ≤ b)) : inB x a b = false := decide_eq_false h
set_option maxHeartbeats 400000 in
theorem in_any (x a b : Int) (w : World) : Calls Try.prog 43 #[.int .i64 x, .int .i64 a, .int .i64 b] w fun e w' => e = .returned (.bool (inB x a b)) ∧ Below w.heap.size w w' := by
  by_cases h0 : a ≤ x
  · have g0 : decide (a ≤ x) = true := decide_eq_true h0
    by_cases h1 : x ≤ b
    · have g1 : decide (x ≤ b) = true := decide_eq_true h1
      rw [inB_yes h0 h1]
      clear h0 h1
      go_enter Try.func43, Try.ntmps43
      go_wp2
      go_ret
      exact ⟨rfl, Below.refl _ _⟩
    · have g1 : decide (x ≤ b) = false := decide_eq_false h1
      rw [inB_no (fun h => h1 h.2)]
      clear h0 h1
      go_enter Try.func43, Try.ntmps43
      go_wp2
      go_ret
      exact ⟨rfl, Below.refl _ _⟩
  · have g0 : decide (a ≤ x) = false := decide_eq_false h0
    rw [inB_no (fun h => h0 h.1)]
    clear h0
    go_enter Try.func43, Try.ntmps43
    go_wp2
    go_ret
    exact ⟨rfl, Below.refl _ _⟩
theorem in_at {x a b : Int} {r : Bool} (h : inB x a b = r) (w : World) : Calls Try.prog 43 #[.int .i64 x, .int .i64 a, .int .i64 b] w fun e w' => e = .returned (.bool r) ∧ Below w.heap.size w w' := h ▸ in_any x a b w
/-- What All answers. -/
def AllR (nv : Nat) (D : Nat → PrimD) (m B : Nat) (e : Ending) (w' : World) : Prop :=
  ((∀ i, i < m → OkP nv (D i)) ∧ ∃ X cx, e = .returned (.tuple #[.slice X (catN D m) cx, .bool true]) ∧ w'.ownsRow B 36 3 (.slice X (catN D m) cx) (catN D m) (catC D m)) ∨ (¬ (∀ i, i < m → OkP nv (D i)) ∧ e = .returned (.tuple #[.slice none 0 0, .bool false]))
theorem catN_le {nv : Nat} {D : Nat → PrimD} : ∀ {k}, (∀ i, i < k → OkP nv (D i)) → catN D k ≤ k * 200
  | 0, _ => by simp [catN]
  | k + 1, h => by
    have := catN_le (k := k) fun i hi => h i (by omega)
    have h1 := pcode_many (h k (by omega)).1
    have h2 := cnt_le (D k).k (D k).n
    rw [catN]; omega

set_option maxRecDepth 100000 in
set_option maxHeartbeats 4000000 in
theorem all31_any (A1 A2 A3 : Option Addr) (n1 n2 m c1 c2 c3 : Nat) (D : Nat → PrimD) (w : World) (hp : PL w A3 m D) (hm : (m : Int) ≤ 16) (hn1 : (n1 : Int) ≤ 1000) (hk0 : ∀ i, 0 ≤ (D i).k) :
    Calls Try.prog 31 #[.agg #[.slice A1 n1 c1, .slice A2 n2 c2, .slice A3 m c3]] w fun e w' => AllR n1 D m w.heap.size e w' ∧ Below w.heap.size w w' := by
  have HP := Lib.hid hp
  have HK := Lib.hid hk0
  obtain ⟨i0, hi0, hz0, hz1, hz2⟩ := info_parts tri_info
  clear hp hk0
  go_enter Try.func31, Try.ntmps31
  go_wp2
  go_loopw [4, 5] (fun o i wr => ∃ k : Nat, k ≤ m ∧ i = .int .i64 k ∧ (∀ i, i < k → OkP n1 (D i)) ∧ (∃ X cx, o = .slice X (catN D k) cx ∧ wr.ownsRow w.heap.size 36 3 (.slice X (catN D k) cx) (catN D k) (catC D k)) ∧ HasBlk wr w.heap.size 42 #[.slice A1 n1 c1, .slice A2 n2 c2, .slice A3 m c3] ∧ Below w.heap.size w wr) (fun o i wr => m - (intOf i).toNat)
  case atStart => exact ⟨0, Nat.zero_le _, rfl, fun i hi => absurd hi (by omega), ⟨none, 0, rfl, own_nil _ _ _ _⟩, hasBlk_new _ _ _, by repeat' (first | exact Below.refl _ _ | assumption | apply Below.drew | refine Below.setCell ?_ (by first | omega | (simp; done) | (simp; omega)) _ | refine Below.alloc ?_ (by first | omega | (simp; done) | (simp; omega)) _)⟩
  case round =>
    obtain ⟨k, hk, rfl, hall, ⟨X, cx, rfl, hown⟩, hM, hbel⟩ := hrel
    have Hall := Lib.hid hall
    have Hown := Lib.hid hown
    have HM := Lib.hid hM
    have Hbel := Lib.hid hbel
    have zb := hbel.size
    have zM := hM.lt
    have M_0 := hM.cell 0
    have M_2 := hM.cell 2
    simp at M_0 M_2
    have cle := catN_le hall
    clear hall hown hM hbel
    obtain ⟨wo, rfl⟩ : ∃ wo : World, wo = wr := ⟨wr, rfl⟩
    by_cases hkm : k < m
    · obtain ⟨b, off, rfl, hbl, hc, hi⟩ := HP.out (by omega)
      have d0 := (Hbel.out.cell (p := ⟨b, off + k * 2, none⟩) hbl).trans (hc k hkm).1
      have d1 := (Hbel.out.cell (p := ⟨b, off + k * 2 + 1, none⟩) hbl).trans (hc k hkm).2
      have hIr := ((hi k hkm).below' Hbel.out)
      have hI := Lib.hid hIr
      have hblo : b < wo.heap.size := by omega
      have Hd1 := Lib.hid (And.intro hblo d1)
      have HD1 := Lib.hid (fun W (h : Below wo.heap.size wo W) => (h.cell (p := ⟨b, off + k * 2 + 1, none⟩) hblo).trans d1)
      have hi0' : (0 : Int) ≤ (k : Int) := by omega
      have hi1' : (k : Int) < (m : Int) := by omega
      clear hc hi
      go_wp2_with fail
      refine (prim10_any (D k).k (HK.out k) (D k).n (D k).a (D k).c (D k).l _ hI.out).mono ?_
      rintro e w1 ⟨hx, bel1⟩
      obtain ⟨Y, q, cy, rfl, hq, hY⟩ := hx.res
      have HX1 := Lib.hid hq
      have HY := Lib.hid hY
      have HB1 := Lib.hid bel1
      have z1 := bel1.size
      clear hx hY hq hIr d0 d1 M_0 M_2
      by_cases hpc : pcode (D k).k (D k).n = 0
      rotate_left
      · have g0 : (pcode (D k).k (D k).n != 0) = true := by simpa using hpc
        have Hpc := Lib.hid hpc
        clear hpc bel1
        go_wp2
        go_ret2
        exact ⟨.inr ⟨fun h => Hpc.out (h k hkm).1, rfl⟩, Hbel.out.trans (HB1.out.mono zb)⟩
      have g0 : (pcode (D k).k (D k).n != 0) = false := by simpa using hpc
      have hn200 : ((D k).n : Int) ≤ 200 := by have := pcode_many hpc; omega
      have hqc : q = cnt (D k).k (D k).n := by rw [HX1.out, if_pos hpc]
      have hq200 : q ≤ 200 := by have := cnt_le (D k).k (D k).n; omega
      have Hpc := Lib.hid hpc
      have Hqc := Lib.hid hqc
      clear hpc hqc bel1
      go_wp2
      go_loopw [8] (fun i wr => ∃ j : Nat, j ≤ (D k).n ∧ i = .int .i64 j ∧ (∀ q, q < j → 0 ≤ (D k).l q ∧ (D k).l q < (n1 : Int)) ∧ Below w1.heap.size w1 wr) (fun i wr => (D k).n - (intOf i).toNat)
      case atStart => exact ⟨0, Nat.zero_le _, rfl, fun q hq => absurd hq (by omega), Below.refl _ _⟩
      case round =>
        obtain ⟨j, hj, rfl, hin, hb2⟩ := hrel
        have Hin := Lib.hid hin
        have z2 := hb2.size
        have HB2 := Lib.hid (HB1.out.trans (hb2.mono z1))
        have HB3 := Lib.hid hb2
        have hM2 := HM.out.below HB2.out
        have ltM := hM2.lt
        have M_0 := hM2.cell 0
        have M_2 := hM2.cell 2
        simp at M_0 M_2
        have d1 := HD1.out _ HB2.out
        have ltb : b < wr.heap.size := by omega
        have hj0 : (0 : Int) ≤ (j : Int) := by omega
        clear hin hb2
        by_cases hjn : j < (D k).n
        · obtain ⟨g2, o2, hA, hg2, hc2⟩ := hI.out (by omega)
          have x0 := (HB2.out.cell (p := ⟨g2, o2 + j, none⟩) hg2).trans (hc2 j hjn)
          have ltg : g2 < wr.heap.size := by omega
          have hj1 : (j : Int) < ((D k).n : Int) := by omega
          have hj2 : (j : Int) < (((D k).n : Nat) : Int) := hj1
          rw [hA] at d1
          clear hc2 hA
          go_upto_region 11 with fail
          have r0 := fun b : BW wr => BW.cell M_0 ltM b
          have r2 := fun b : BW wr => BW.cell M_2 ltM b
          have rd := fun b : BW wr => BW.cell d1 ltb b
          have rx := fun b : BW wr => BW.cell x0 ltg b
          clear M_0 M_2 d1 x0
          by_cases hok : 0 ≤ (D k).l j ∧ (D k).l j ≤ (n1 : Int) - 1
          · have Hok := Lib.hid hok
            have K := Lib.hid (fun b : BW wr => BW.call (fun W' (h : Below wr.heap.size wr W') => in_at (inB_yes Hok.out.1 Hok.out.2) W') b)
            clear hok
            have gw : IntKind.i64.wrap ((n1 : Int) - 1) = (n1 : Int) - 1 := IntWalk.i64_in _ (by omega)
            refine wp_region_quiet_bw (by kernel_rfl) (by kernel_rfl) ?_
            repeat (go_big_quiet_step ((go_at_call 43; with_reducible exact K.out _)))
            refine wpQuiet_nil ?_
            intro _ hw'
            obtain ⟨pq, hw''⟩ := hw'
            subst hw''
            have HBQ := Lib.hid pq.h
            generalize pq.W = w4 at *
            clear pq gw K r0 r2 rd rx
            go_wp2
            go_roundw
            case rel =>
              refine ⟨j + 1, by omega, by go_num, fun q hq => ?_, HB3.out.trans (HBQ.out.mono z2)⟩
              rcases Nat.lt_or_ge q j with h | h
              · exact Hin.out q h
              · obtain rfl : q = j := by omega
                have := Hok.out
                omega
            case measure => simp [intOf]; omega
          · have Hok := Lib.hid hok
            have K := Lib.hid (fun b : BW wr => BW.call (fun W' (h : Below wr.heap.size wr W') => in_at (inB_no Hok.out) W') b)
            clear hok
            have gw : IntKind.i64.wrap ((n1 : Int) - 1) = (n1 : Int) - 1 := IntWalk.i64_in _ (by omega)
            refine wp_region_quiet_bw (by kernel_rfl) (by kernel_rfl) ?_
            repeat (go_big_quiet_step ((go_at_call 43; with_reducible exact K.out _)))
            refine wpQuiet_nil ?_
            intro _ hw'
            obtain ⟨pq, hw''⟩ := hw'
            subst hw''
            have HBQ := Lib.hid pq.h
            generalize pq.W = w4 at *
            clear pq gw K r0 r2 rd rx
            go_wp2
            go_ret2
            refine ⟨.inr ⟨fun h => ?_, rfl⟩, Hbel.out.trans ((HB2.out.trans (HBQ.out.mono (by omega))).mono zb)⟩
            have h1 := (h k hkm).2 j hjn
            have h2 := Hok.out
            omega
        · have hjn' : j = (D k).n := by omega
          subst hjn'
          have own1 := own_below Hown.out HB2.out
          have Hone := Lib.hid (cellsR_one (s := 3) (fun i j => tv_one (D k).k (D k).l i j) q)
          have Hlen := Lib.hid (cellsR_len 3 (tv (D k).k (D k).l) q)
          have HYr := Lib.hid ((Row.of_cells HY.out).below HB3.out)
          obtain ⟨T, hT⟩ : ∃ T, catN D k + q = T := ⟨_, rfl⟩
          have HT := Lib.hid hT
          have hTn : catN D (k + 1) = T := by rw [catN, ← Hqc.out]; exact HT.out
          have HTn := Lib.hid hTn
          clear hTn
          have hTb : T ≤ 3400 := by omega
          go_wp2_with (at_builtin; refine wpList_app rfl (.tmp 53) (.tmp 54) 25 rfl w.heap.size 36 i0 _ 3 24 Try.underlying25 hi0 hz0 hz1 hz2 rfl (by omega) X cx (catN D k) (catC D k) rfl own1 Y q cy (cellsR 3 (tv (D k).k (D k).l) q) rfl Hlen.out (HYr.out.news (by omega)) Hone.out (by unfold maxLen; omega) (by omega) (by omega) ?_; intro X2 cx2 w2 hown2 hgr2; rw [hT] at hown2 ⊢; clear hT; have mb2 := (HM.out.below HB2.out).grown hgr2 ((HM.out.below HB2.out).ne_own own1 (by decide)); have MB2 := Lib.hid mb2; have O2 := Lib.hid hown2; have B2 := Lib.hid (below_grown (Hbel.out.trans (HB2.out.mono zb)) hgr2 own1 (Nat.le_refl _) (by omega)); clear mb2 hown2 hgr2)
          go_roundw
          case rel =>
            refine ⟨k + 1, by omega, by go_num, fun i hi => ?_, ⟨X2, cx2, by rw [HTn.out], ?_⟩, MB2.out, B2.out⟩
            · rcases Nat.lt_or_ge i k with h | h
              · exact Hall.out i h
              · obtain rfl : i = k := by omega
                exact ⟨Hpc.out, Hin.out⟩
            · rw [HTn.out]
              have ho := O2.out
              rw [catC, ← Hqc.out]
              exact ho
          case measure => simp [intOf]; omega
    · obtain rfl : k = m := by omega
      go_wp2
      go_ret2
      exact ⟨.inl ⟨Hall.out, X, cx, rfl, Hown.out⟩, Hbel.out⟩
end Go.Proofs.Ytkclkillphafkaa
