/- nodes: the reference's loose, May, asked. -/
import Derived.Test.YtgkeiaggldahnaaN5
import Derived.Test.YtgkeiaggldahnaaN4
import Derived.Test.YtgkeiaggldahnaaR9
import Derived.Test.YtgkeiaggldahnaaQuiet
namespace Go.Proofs.Ytgkeiaggldahnaa
open Go.RowKit
set_option linter.unusedVariables false

set_option maxRecDepth 100000 in
set_option maxHeartbeats 8000000 in
theorem loose_any (d : GD) (p : GP) (hk : d.Kid) (hsm : d.Sm) (w : World) (hok : GOk w p d) :
    Calls Try.prog 76 #[.agg #[.slice p.A d.n p.c, .slice p.K d.m p.kc]] w fun e w' => EqR d.E.Acyc e ∧ Below w.heap.size w w' := by
  obtain ⟨A, c, K, kc, KA, KC⟩ := p
  dsimp only
  have hm1 := hsm.m
  have OK := Lib.hid hok
  have Sm := Lib.hid hsm
  have HK := Lib.hid hk
  have b2 : Below w.heap.size w ((w.alloc (.cells #[.slice A d.n c, .slice K d.m kc] 27)).alloc (.cells (bls (fun _ => false) d.m) 4)) := by
    repeat' (first | exact Below.refl _ _ | assumption | apply Below.drew | refine Below.setCell ?_ (by first | omega | (simp; done) | (simp; omega)) _ | refine Below.alloc ?_ (by first | omega | (simp; done) | (simp; omega)) _)
  have hP : HasBlk ((w.alloc (.cells #[.slice A d.n c, .slice K d.m kc] 27)).alloc (.cells (bls (fun _ => false) d.m) 4)) w.heap.size 27 #[.slice A d.n c, .slice K d.m kc] := (hasBlk_new w 27 #[.slice A d.n c, .slice K d.m kc]).alloc _
  have hX : HasBlk ((w.alloc (.cells #[.slice A d.n c, .slice K d.m kc] 27)).alloc (.cells (bls (fun _ => false) d.m) 4)) (w.heap.size + 1) 4 (bls (fun _ => false) d.m) := by
    have h := hasBlk_new (w.alloc (.cells #[.slice A d.n c, .slice K d.m kc] 27)) 4 (bls (fun _ => false) d.m)
    simpa using h
  have HP := Lib.hid hP
  have HX := Lib.hid hX
  have B2 := Lib.hid b2
  have hmk := make_bools d.m hm1
  clear hok hsm hk b2 hP hX
  go_enter Try.func76, Try.ntmps76
  go_wp2
  clear hmk
  obtain ⟨X0, hX0⟩ : ∃ X0, X0 = w.heap.size + 1 := ⟨_, rfl⟩
  have hx0 : w.heap.size + 1 ≤ X0 := by omega
  rw [← hX0] at HX ⊢
  clear hX0
  go_loopw [4, 5] (fun cn i wr => ∃ (a : Nat) (q : Nat → Bool) (r : Nat → Nat) (cc : Nat), a ≤ d.m ∧ cn = .int .i64 cc ∧ i = .int .i64 a ∧ HasBlk wr w.heap.size 27 #[.slice A d.n c, .slice K d.m kc] ∧ HasBlk wr X0 4 (bls q d.m) ∧ d.E.Cnt q r cc ∧ (d.E.Acyc → a ≤ cc ∨ cc = d.E.n) ∧ Below w.heap.size w wr) (fun cn i wr => d.m - (intOf i).toNat)
  case atStart => exact ⟨0, _, fun _ => 0, 0, Nat.zero_le _, rfl, rfl, HP.out, HX.out, .zero _ _, fun _ => .inl (Nat.zero_le _), B2.out⟩
  case round =>
    clear HX HP B2 
    obtain ⟨a, q, r, cc, ham, rfl, rfl, hP, hX, hcq, hac, hbel⟩ := hrel
    have HB := Lib.hid hbel
    have HP := Lib.hid hP
    have HX := Lib.hid hX
    have HCQ := Lib.hid hcq
    have HAC := Lib.hid hac
    have zb := hbel.size
    have p1 := hP.cell 1
    have zp := hP.lt
    have zx := hX.lt
    simp at p1
    clear hbel hP hX hcq hac
    by_cases hal : a < d.m
    · have i1a : (a : Int) < (d.m : Int) := by omega
      obtain ⟨gk, ok, hA, hgk, hck⟩ := OK.out.ks (by omega)
      dsimp only at hA
      subst hA
      have hks : ∀ i, i < d.m → w.cell? ⟨gk, ok + i, none⟩ = some (.slice (KA i) (d.L i) (KC i)) := fun i hi => by
        have h := hck i hi 0 (by omega)
        simpa [kv] using h
      have KS := Lib.hid hks
      clear hks hck
      go_wp2
      obtain ⟨wo, rfl⟩ : ∃ wo : World, wo = wr := ⟨wr, rfl⟩
      clear p1 zp zx zb
      go_loopw [4, 6] (fun cn i wr => ∃ (k : Nat) (p2 : Nat → Bool) (r2 : Nat → Nat) (c2 : Nat), k ≤ d.m ∧ cn = .int .i64 c2 ∧ i = .int .i64 k ∧ HasBlk wr w.heap.size 27 #[.slice A d.n c, .slice (some ⟨gk, ok, none⟩) d.m kc] ∧ HasBlk wr X0 4 (bls p2 d.m) ∧ d.E.Cnt p2 r2 c2 ∧ d.E.Pass q p2 k ∧ Below w.heap.size w wr) (fun cn i wr => d.m - (intOf i).toNat)
      case atStart => exact ⟨0, q, r, cc, Nat.zero_le _, rfl, rfl, HP.out, HX.out, HCQ.out, .start _ _, HB.out⟩
      case round =>
        clear HB HP HX
        obtain ⟨k, p2, r2, c2, hkm0, rfl, rfl, hP, hX, hcn, hps, hbel⟩ := hrel
        have HB := Lib.hid hbel
        have HP := Lib.hid hP
        have HX := Lib.hid hX
        have HCN := Lib.hid hcn
        have HPS := Lib.hid hps
        have zb := hbel.size
        have p1 := hP.cell 1
        have zp := hP.lt
        have zx := hX.lt
        simp at p1
        clear hbel hP hX hcn hps
        by_cases hkm : k < d.m
        · have hkn : k < d.n := by have := HK.out.m; omega
          have i1k : (k : Int) < (d.m : Int) := by omega
          have i0k : (0 : Int) ≤ (k : Int) := by omega
          have q16 := Sm.out.L k hkm
          go_wp2
          obtain ⟨wm, rfl⟩ : ∃ wm : World, wm = wr := ⟨wr, rfl⟩
          clear p1 zp zx zb
          go_loopw [7, 8] (fun al i wr => ∃ (t : Nat) (b : Bool), t ≤ d.L k ∧ i = .int .i64 t ∧ al = .bool b ∧ HasBlk wr w.heap.size 27 #[.slice A d.n c, .slice (some ⟨gk, ok, none⟩) d.m kc] ∧ HasBlk wr X0 4 (bls p2 d.m) ∧ (b = true ↔ ∀ t', t' < t → p2 (d.E.K k t') = true) ∧ Below w.heap.size w wr) (fun al i wr => d.L k - (intOf i).toNat)
          case atStart => exact ⟨0, true, Nat.zero_le _, rfl, rfl, HP.out, HX.out, ⟨fun _ t' h => absurd h (by omega), fun _ => rfl⟩, HB.out⟩
          case round =>
            clear HB HP HX
            obtain ⟨t, al, htl, rfl, rfl, hP, hX, hal, hbel⟩ := hrel
            have HB := Lib.hid hbel
            have HP := Lib.hid hP
            have HX := Lib.hid hX
            have HAL := Lib.hid hal
            have zb := hbel.size
            have p1 := hP.cell 1
            have zp := hP.lt
            have zx := hX.lt
            simp at p1
            have k0 := (hbel.cell (p := ⟨gk, ok + k, none⟩) hgk).trans (KS.out k hkm)
            clear hbel hP hX hal
            by_cases htL : t < d.L k
            · obtain ⟨e1, e2, e3⟩ := HK.out.at hkn htL
              obtain ⟨gi, oi, hAi, hgi, hci⟩ := (OK.out.kd k hkm).below HB.out (by omega)
              dsimp only at hAi
              rw [hAi] at k0
              have c0 := hci t htL 0 (by omega)
              simp only [hv, Nat.add_zero, if_true] at c0
              rw [e1] at c0
              clear hci e1 e2
              have e3' : d.E.K k t < d.m := by rw [HK.out.m]; exact e3
              have i1 : (t : Int) < (d.L k : Int) := by omega
              have i0 : (0 : Int) ≤ (t : Int) := by omega
              have i3 : ((d.E.K k t : Nat) : Int) < (d.m : Int) := by omega
              have x1 := HX.out.cell (d.E.K k t)
              rw [bls_at e3'] at x1
              cases hpk : p2 (d.E.K k t) with
              | true =>
                rw [hpk] at x1
                have HPK := Lib.hid hpk
                clear hpk
                go_wp2
                go_roundw
                case rel =>
                  refine ⟨t + 1, al, by omega, by go_num, rfl, HP.out, HX.out, HAL.out.trans ⟨fun h t' ht' => ?_, fun h t' ht' => h t' (by omega)⟩, HB.out⟩
                  rcases Nat.lt_or_ge t' t with h1 | h1
                  · exact h t' h1
                  · obtain rfl : t' = t := by omega
                    exact HPK.out
                case measure => simp [intOf]; omega
              | false =>
                rw [hpk] at x1
                have HPK := Lib.hid hpk
                clear hpk
                go_wp2
                go_roundw
                case rel =>
                  refine ⟨t + 1, false, by omega, by go_num, rfl, HP.out, HX.out, ⟨fun h => (by cases h), fun h => ?_⟩, HB.out⟩
                  have := h t (by omega)
                  rw [HPK.out] at this
                  cases this
                case measure => simp [intOf]; omega
            · have htL2 : t = d.L k := by omega
              subst htL2
              have x0 := HX.out.cell k
              rw [bls_at hkm] at x0
              have f0 := HX.out.frozen k
              cases al with
              | false =>
                have hex : ∃ k', k' < d.L k ∧ p2 (d.E.K k k') = false := by
                  apply Classical.byContradiction
                  intro hno
                  have := HAL.out.2 fun t' ht' => by
                    cases h : p2 (d.E.K k t') with
                    | true => rfl
                    | false => exact absurd ⟨t', ht', h⟩ hno
                  cases this
                have HEX := Lib.hid hex
                clear hex
                go_wp2
                go_roundw
                case rel => exact ⟨k + 1, p2, r2, c2, by omega, rfl, by go_num, HP.out, HX.out, HCN.out, HPS.out.skip HK.out.in hkn (.inr HEX.out), HB.out⟩
                case measure => simp [intOf]; omega
              | true =>
                cases hpk : p2 k with
                | true =>
                  rw [hpk] at x0
                  have HPK := Lib.hid hpk
                  clear hpk
                  go_wp2
                  go_roundw
                  case rel => exact ⟨k + 1, p2, r2, c2, by omega, rfl, by go_num, HP.out, HX.out, HCN.out, HPS.out.skip HK.out.in hkn (.inl HPK.out), HB.out⟩
                  case measure => simp [intOf]; omega
                | false =>
                  rw [hpk] at x0
                  have HPK := Lib.hid hpk
                  have hX2 := HX.out.set k (.bool true)
                  rw [bls_set _ hkm] at hX2
                  have HX2 := Lib.hid hX2
                  have hne : X0 ≠ w.heap.size := by omega
                  have HP2 := Lib.hid (HP.out.far (p := ⟨X0, k, none⟩) hne (.bool true))
                  have HB2 := Lib.hid (Below.setCell (p := ⟨X0, k, none⟩) HB.out (Nat.le_of_succ_le hx0) (.bool true))
                  have hc2 := HCN.out.many
                  have hc3 := cnt_le p2 d.E.n
                  have hc4 : c2 ≤ 1000 := Nat.le_trans (by rw [← hc2]; exact hc3) Sm.out.n
                  clear hpk hX2 hc2 hc3
                  go_wp2
                  go_roundw
                  case rel => exact ⟨k + 1, _, _, c2 + 1, by omega, by go_num, by go_num, HP2.out, HX2.out, HCN.out.add HK.out.in hkn HPK.out (HAL.out.1 rfl), HPS.out.add, HB2.out⟩
                  case measure => simp [intOf]; omega
        · have hkm2 : k = d.m := by omega
          subst hkm2
          go_wp2
          go_roundw
          case rel =>
            refine ⟨a + 1, p2, r2, c2, by omega, rfl, by go_num, HP.out, HX.out, HCN.out, ?_, HB.out⟩
            have h := HPS.out
            rw [HK.out.m] at h
            exact h.more HK.out.in HCQ.out HCN.out HAC.out
          case measure => simp [intOf]; omega
    · have hal2 : a = d.m := by omega
      subst hal2
      have hc1 := HCQ.out.many
      have hc2 := cnt_le q d.E.n
      have hcn : cc ≤ d.n := by rw [← hc1]; exact hc2
      have hmn := HK.out.m
      clear hc1 hc2
      by_cases hcm : cc = d.m
      · have e1 : ((cc : Int) == (d.m : Int)) = true := by simp; omega
        have HCM := Lib.hid hcm
        have HMN := Lib.hid hmn
        clear hcm hmn
        go_wp2
        go_ret
        exact ⟨⟨true, by rw [HCM.out]; simp, ⟨fun _ => (by have h := HCQ.out; rw [HCM.out, HMN.out] at h; exact h.acyc), fun _ => rfl⟩⟩, HB.out⟩
      · have e1 : ((cc : Int) == (d.m : Int)) = false := by simp; omega
        have HCM := Lib.hid hcm
        have HMN := Lib.hid hmn
        clear hcm hmn
        go_wp2
        go_ret
        exact ⟨⟨false, by simp [], ⟨fun h => (by cases h), fun h => by
          have h1 := HAC.out h
          have h2 := HMN.out
          have h3 := HCM.out
          have h4 : d.E.n = d.n := rfl
          omega⟩⟩, HB.out⟩

open Classical in
/-- May a graph be? -/
noncomputable def mayB (d : GD) : Bool := if d.May then true else false
theorem mayB_no {d : GD} (h : ¬ d.May) : mayB d = false := if_neg h
theorem mayB_yes {d : GD} (h : d.May) : mayB d = true := if_pos h
theorem mayB_of {d : GD} {r : Bool} (h : r = true ↔ d.May) : mayB d = r := by
  cases r with
  | true => exact mayB_yes (h.1 rfl)
  | false => exact mayB_no fun h' => by have := h.2 h'; cases this
theorem refheld_dec (d : GD) (p : GP) (s q : Int) (w : World) (hm : MayA d.n d.g) (hok : GOk w p d) :
    Calls Try.prog 64 #[.agg #[.slice p.A d.n p.c], .agg #[.int .i64 s, .int .i64 q]] w fun e w' => e = .returned (.bool (decide (HeldA d.n d.g d.b s q))) ∧ Below w.heap.size w w' :=
  (refheld_any p.A d.n p.c d.g d.b s q w hok.ar (by have := hm.1; omega)).mono fun e w' ⟨⟨r, he, hr⟩, hb⟩ => ⟨by
    rw [he]
    have : r = decide (HeldA d.n d.g d.b s q) := by
      rw [Bool.eq_iff_iff, hr, decide_eq_true_eq]
    rw [this], hb⟩

set_option maxRecDepth 100000 in
set_option maxHeartbeats 8000000 in
theorem refmayg_any (d : GD) (p : GP) (hsm : d.Sm) (w : World) (hok : GOk w p d) :
    Calls Try.prog 59 #[.agg #[.slice p.A d.n p.c, .slice p.K d.m p.kc]] w fun e w' => e = .returned (.bool (mayB d)) ∧ Below w.heap.size w w' := by
  obtain ⟨A, c, K, kc, KA, KC⟩ := p
  dsimp only
  have b1 := (Below.refl w.heap.size w).alloc (Nat.le_refl _) (.cells #[.slice A d.n c, .slice K d.m kc] 27)
  have OK := Lib.hid hok
  have Sm := Lib.hid hsm
  have hn := hsm.n
  have hm := hsm.m
  have B1 := Lib.hid b1
  have hP := hasBlk_new w 27 #[.slice A d.n c, .slice K d.m kc]
  have hc := Lib.hid (refmay_any A d.n c d.g d.b (w.alloc (.cells #[.slice A d.n c, .slice K d.m kc] 27)) (OK.out.ar.below b1) (by omega))
  clear hok hsm b1
  by_cases hma : MayA d.n d.g
  rotate_left
  · have MA := Lib.hid hma
    clear hma hP
    go_enter Try.func59, Try.ntmps59
    go_wp2_with fail
    refine hc.out.mono ?_
    rintro e w1 ⟨⟨r, rfl, hr⟩, bel⟩
    obtain rfl : r = false := by cases r with
      | false => rfl
      | true => exact absurd (hr.1 rfl) MA.out
    have HB := Lib.hid (B1.out.trans (bel.mono B1.out.size))
    clear bel hr
    go_wp2
    go_ret
    exact ⟨by rw [mayB_no (fun h => MA.out h.1)]; rfl, HB.out⟩
  have MA := Lib.hid hma
  by_cases hmn : d.m = d.n
  rotate_left
  · have n1 : ((d.m : Int) != (d.n : Int)) = true := by simp; omega
    have n2 : ((d.m : Int) == (d.n : Int)) = false := by simp; omega
    have MN := Lib.hid hmn
    clear hma hmn
    go_enter Try.func59, Try.ntmps59
    go_wp2_with fail
    refine hc.out.mono ?_
    rintro e w1 ⟨⟨r, rfl, hr⟩, bel⟩
    obtain rfl : r = true := hr.2 MA.out
    have HB := Lib.hid (B1.out.trans (bel.mono B1.out.size))
    have hP1 := hP.below bel
    have zP := hP1.lt
    have p0 := hP1.cell 0
    have p1 := hP1.cell 1
    simp at p0 p1
    clear bel hr hP hP1
    go_wp2
    go_ret
    exact ⟨by rw [mayB_no (fun h => MN.out h.2.1)]; rfl, HB.out⟩
  have n1 : ((d.m : Int) != (d.n : Int)) = false := by simp; omega
  have HM := Lib.hid hmn
  clear hma hmn
  go_enter Try.func59, Try.ntmps59
  go_wp2_with fail
  refine hc.out.mono ?_
  rintro e w1 ⟨⟨r, rfl, hr⟩, bel⟩
  obtain rfl : r = true := hr.2 MA.out
  have HB := Lib.hid (B1.out.trans (bel.mono B1.out.size))
  have hP1 := hP.below bel
  have HP := Lib.hid hP1
  have zP := hP1.lt
  have p0 := hP1.cell 0
  have p1 := hP1.cell 1
  simp at p0 p1
  clear bel hr hP hP1
  go_wp2
  go_loopw [3] (fun i wr => ∃ k : Nat, k ≤ d.m ∧ i = .int .i64 k ∧ HasBlk wr w.heap.size 27 #[.slice A d.n c, .slice K d.m kc] ∧ (∀ i', i' < k → RowOk d i') ∧ Below w.heap.size w wr) (fun i wr => d.m - (intOf i).toNat)
  case atStart => exact ⟨0, Nat.zero_le _, rfl, HP.out, fun i' h => absurd h (by omega), HB.out⟩
  case round =>
    clear HP HB zP p0 p1
    obtain ⟨k, hkm0, rfl, hP, hro, hbel⟩ := hrel
    have HB := Lib.hid hbel
    have HP := Lib.hid hP
    have RO := Lib.hid hro
    have zb := hbel.size
    have p0 := hP.cell 0
    have p1 := hP.cell 1
    have zp := hP.lt
    simp at p0 p1
    clear hbel hP hro
    by_cases hkm : k < d.m
    · obtain ⟨gk, ok, hA, hgk, hck⟩ := OK.out.ks (by omega)
      dsimp only at hA
      subst hA
      have hkn : k < d.n := by have := HM.out; omega
      obtain ⟨ga, oa, hA2, hga, hca⟩ := OK.out.ar (by omega)
      dsimp only at hA2
      subst hA2
      have KS := Lib.hid (show w.cell? ⟨gk, ok + k, none⟩ = some (.slice (KA k) (d.L k) (KC k)) by
        have h := hck k hkm 0 (by omega)
        simpa [kv] using h)
      have k0 := (HB.out.cell (p := ⟨gk, ok + k, none⟩) hgk).trans KS.out
      have c1 := (HB.out.cell (p := ⟨ga, oa + k * 2 + 1, none⟩) hga).trans (hca k hkn 1 (by omega))
      simp only [sv] at c1
      rw [if_neg (by decide)] at c1
      clear hck hca
      have i1k : (k : Int) < (d.m : Int) := by omega
      have i2k : (k : Int) < (d.n : Int) := by omega
      have i0k : (0 : Int) ≤ (k : Int) := by omega
      have q16 := Sm.out.L k hkm
      by_cases h16 : 16 < d.L k
      · have d1 : decide ((16 : Int) < (d.L k : Int)) = true := decide_eq_true (by omega)
        have H16 := Lib.hid h16
        clear h16
        go_wp2
        go_ret
        exact ⟨by rw [mayB_no (fun h => by have := (h.2.2.1 k hkm).1; have := H16.out; omega)]; rfl, HB.out⟩
      have d1 : decide ((16 : Int) < (d.L k : Int)) = false := decide_eq_false (by omega)
      have H16 := Lib.hid (show d.L k ≤ 16 by omega)
      clear h16
      by_cases hL : 0 < d.L k
      · have e1 : decide (0 < d.L k) = true := decide_eq_true (by omega)
        have HL := Lib.hid hL
        cases hbk : d.b k with
        | false =>
          rw [hbk] at c1
          have HBK := Lib.hid hbk
          clear hbk hL
          go_wp2
          go_ret
          exact ⟨by rw [mayB_no (fun h => by have := (h.2.2.1 k hkm).2.1 HL.out; rw [HBK.out] at this; cases this)]; rfl, HB.out⟩
        | true =>
          rw [hbk] at c1
          have HBK := Lib.hid (fun _ : 0 < d.L k => hbk)
          clear hbk
          go_wp2
          obtain ⟨wo, rfl⟩ : ∃ wo : World, wo = wr := ⟨wr, rfl⟩
          clear p0 p1 zp zb c1 k0
          go_loopw [4] (fun i wr => ∃ t : Nat, t ≤ d.L k ∧ i = .int .i64 t ∧ HasBlk wr w.heap.size 27 #[.slice (some ⟨ga, oa, none⟩) d.n c, .slice (some ⟨gk, ok, none⟩) d.m kc] ∧ (∀ t', t' < t → HeldA d.n d.g d.b (d.S k t') (d.Q k t')) ∧ Below w.heap.size w wr) (fun i wr => d.L k - (intOf i).toNat)
          case atStart => exact ⟨0, Nat.zero_le _, rfl, HP.out, fun t' h => absurd h (by omega), HB.out⟩
          case round =>
            clear HB HP
            obtain ⟨t, htl, rfl, hP, hall, hbel⟩ := hrel
            have HB := Lib.hid hbel
            have HP := Lib.hid hP
            have HALL := Lib.hid hall
            have zb := hbel.size
            have p0 := hP.cell 0
            have p1 := hP.cell 1
            have zp := hP.lt
            simp at p0 p1
            have k0 := (hbel.cell (p := ⟨gk, ok + k, none⟩) hgk).trans KS.out
            have hgk2 : gk < wr.heap.size := Nat.lt_of_lt_of_le hgk zb
            clear hbel hP hall
            by_cases htL : t < d.L k
            · obtain ⟨gi, oi, hAi, hgi, hci⟩ := (OK.out.kd k hkm).below HB.out (by omega)
              dsimp only at hAi
              rw [hAi] at k0
              have c0 := hci t htL 0 (by omega)
              have c1 := hci t htL 1 (by omega)
              simp only [hv, Nat.add_zero, if_true] at c0
              simp only [hv] at c1
              rw [if_neg (by decide)] at c1
              clear hci hAi
              have i1 : (t : Int) < (d.L k : Int) := by omega
              have i0 : (0 : Int) ≤ (t : Int) := by omega
              have r0 := fun b : BW wr => BW.cell p0 zp b
              have r1 := fun b : BW wr => BW.cell p1 zp b
              have r2 := fun b : BW wr => BW.cell k0 hgk2 b
              have r3 := fun b : BW wr => BW.cell c0 hgi b
              have r4 := fun b : BW wr => BW.cell c1 hgi b
              by_cases hheld : HeldA d.n d.g d.b (d.S k t) (d.Q k t)
              · have KH := Lib.hid (fun b : BW wr => BW.call (fun W' (h : Below wr.heap.size wr W') => (refheld_dec d _ (d.S k t) (d.Q k t) W' MA.out ((OK.out.below HB.out).below h)).mono (fun e w' h' => ⟨h'.1.trans (by rw [decide_eq_true hheld]), h'.2⟩)) b)
                have HH := Lib.hid hheld
                clear hheld
                go_wp2_with fail
                clear p0 p1 k0 c0 c1
                refine wp_region_quiet_bw (by kernel_rfl) (by kernel_rfl) ?_
                repeat (go_big_quiet_step ((go_at_call 64; with_reducible exact KH.out _)))
                refine wpQuiet_nil ?_
                intro _ hw'
                obtain ⟨pq, hw''⟩ := hw'
                subst hw''
                have HB2 := Lib.hid (HB.out.trans (pq.h.mono zb))
                have HP2 := Lib.hid (HP.out.below pq.h)
                go_wp2
                go_roundw
                case rel =>
                  refine ⟨t + 1, by omega, by go_num, HP2.out, fun t' ht' => ?_, HB2.out⟩
                  rcases Nat.lt_or_ge t' t with h1 | h1
                  · exact HALL.out t' h1
                  · obtain rfl : t' = t := by omega
                    exact HH.out
                case measure => simp [intOf]; omega
              · have KH := Lib.hid (fun b : BW wr => BW.call (fun W' (h : Below wr.heap.size wr W') => (refheld_dec d _ (d.S k t) (d.Q k t) W' MA.out ((OK.out.below HB.out).below h)).mono (fun e w' h' => ⟨h'.1.trans (by rw [decide_eq_false hheld]), h'.2⟩)) b)
                have HH := Lib.hid hheld
                clear hheld
                go_wp2_with fail
                clear p0 p1 k0 c0 c1
                refine wp_region_quiet_bw (by kernel_rfl) (by kernel_rfl) ?_
                repeat (go_big_quiet_step ((go_at_call 64; with_reducible exact KH.out _)))
                refine wpQuiet_nil ?_
                intro _ hw'
                obtain ⟨pq, hw''⟩ := hw'
                subst hw''
                have HB2 := Lib.hid (HB.out.trans (pq.h.mono zb))
                go_wp2
                go_ret
                exact ⟨by rw [mayB_no (fun h => HH.out ((h.2.2.1 k hkm).2.2 t htL))]; rfl, HB2.out⟩
            · have htL2 : t = d.L k := by omega
              subst htL2
              go_wp2
              go_roundw
              case rel =>
                refine ⟨k + 1, by omega, by go_num, HP.out, fun i' hi' => ?_, HB.out⟩
                rcases Nat.lt_or_ge i' k with h1 | h1
                · exact RO.out i' h1
                · obtain rfl : i' = k := by omega
                  exact ⟨H16.out, HBK.out, HALL.out⟩
              case measure => simp [intOf]; omega
      · have e1 : decide (0 < d.L k) = false := decide_eq_false (by omega)
        have HBK := Lib.hid (fun h : 0 < d.L k => (absurd h hL : d.b k = true))
        clear hL
        go_wp2
        obtain ⟨wo, rfl⟩ : ∃ wo : World, wo = wr := ⟨wr, rfl⟩
        clear p0 p1 zp zb c1 k0
        go_loopw [4] (fun i wr => ∃ t : Nat, t ≤ d.L k ∧ i = .int .i64 t ∧ HasBlk wr w.heap.size 27 #[.slice (some ⟨ga, oa, none⟩) d.n c, .slice (some ⟨gk, ok, none⟩) d.m kc] ∧ (∀ t', t' < t → HeldA d.n d.g d.b (d.S k t') (d.Q k t')) ∧ Below w.heap.size w wr) (fun i wr => d.L k - (intOf i).toNat)
        case atStart => exact ⟨0, Nat.zero_le _, rfl, HP.out, fun t' h => absurd h (by omega), HB.out⟩
        case round =>
          clear HB HP
          obtain ⟨t, htl, rfl, hP, hall, hbel⟩ := hrel
          have HB := Lib.hid hbel
          have HP := Lib.hid hP
          have HALL := Lib.hid hall
          have zb := hbel.size
          have p0 := hP.cell 0
          have p1 := hP.cell 1
          have zp := hP.lt
          simp at p0 p1
          have k0 := (hbel.cell (p := ⟨gk, ok + k, none⟩) hgk).trans KS.out
          have hgk2 : gk < wr.heap.size := Nat.lt_of_lt_of_le hgk zb
          clear hbel hP hall
          by_cases htL : t < d.L k
          · obtain ⟨gi, oi, hAi, hgi, hci⟩ := (OK.out.kd k hkm).below HB.out (by omega)
            dsimp only at hAi
            rw [hAi] at k0
            have c0 := hci t htL 0 (by omega)
            have c1 := hci t htL 1 (by omega)
            simp only [hv, Nat.add_zero, if_true] at c0
            simp only [hv] at c1
            rw [if_neg (by decide)] at c1
            clear hci hAi
            have i1 : (t : Int) < (d.L k : Int) := by omega
            have i0 : (0 : Int) ≤ (t : Int) := by omega
            have r0 := fun b : BW wr => BW.cell p0 zp b
            have r1 := fun b : BW wr => BW.cell p1 zp b
            have r2 := fun b : BW wr => BW.cell k0 hgk2 b
            have r3 := fun b : BW wr => BW.cell c0 hgi b
            have r4 := fun b : BW wr => BW.cell c1 hgi b
            by_cases hheld : HeldA d.n d.g d.b (d.S k t) (d.Q k t)
            · have KH := Lib.hid (fun b : BW wr => BW.call (fun W' (h : Below wr.heap.size wr W') => (refheld_dec d _ (d.S k t) (d.Q k t) W' MA.out ((OK.out.below HB.out).below h)).mono (fun e w' h' => ⟨h'.1.trans (by rw [decide_eq_true hheld]), h'.2⟩)) b)
              have HH := Lib.hid hheld
              clear hheld
              go_wp2_with fail
              clear p0 p1 k0 c0 c1
              refine wp_region_quiet_bw (by kernel_rfl) (by kernel_rfl) ?_
              repeat (go_big_quiet_step ((go_at_call 64; with_reducible exact KH.out _)))
              refine wpQuiet_nil ?_
              intro _ hw'
              obtain ⟨pq, hw''⟩ := hw'
              subst hw''
              have HB2 := Lib.hid (HB.out.trans (pq.h.mono zb))
              have HP2 := Lib.hid (HP.out.below pq.h)
              go_wp2
              go_roundw
              case rel =>
                refine ⟨t + 1, by omega, by go_num, HP2.out, fun t' ht' => ?_, HB2.out⟩
                rcases Nat.lt_or_ge t' t with h1 | h1
                · exact HALL.out t' h1
                · obtain rfl : t' = t := by omega
                  exact HH.out
              case measure => simp [intOf]; omega
            · have KH := Lib.hid (fun b : BW wr => BW.call (fun W' (h : Below wr.heap.size wr W') => (refheld_dec d _ (d.S k t) (d.Q k t) W' MA.out ((OK.out.below HB.out).below h)).mono (fun e w' h' => ⟨h'.1.trans (by rw [decide_eq_false hheld]), h'.2⟩)) b)
              have HH := Lib.hid hheld
              clear hheld
              go_wp2_with fail
              clear p0 p1 k0 c0 c1
              refine wp_region_quiet_bw (by kernel_rfl) (by kernel_rfl) ?_
              repeat (go_big_quiet_step ((go_at_call 64; with_reducible exact KH.out _)))
              refine wpQuiet_nil ?_
              intro _ hw'
              obtain ⟨pq, hw''⟩ := hw'
              subst hw''
              have HB2 := Lib.hid (HB.out.trans (pq.h.mono zb))
              go_wp2
              go_ret
              exact ⟨by rw [mayB_no (fun h => HH.out ((h.2.2.1 k hkm).2.2 t htL))]; rfl, HB2.out⟩
          · have htL2 : t = d.L k := by omega
            subst htL2
            go_wp2
            go_roundw
            case rel =>
              refine ⟨k + 1, by omega, by go_num, HP.out, fun i' hi' => ?_, HB.out⟩
              rcases Nat.lt_or_ge i' k with h1 | h1
              · exact RO.out i' h1
              · obtain rfl : i' = k := by omega
                exact ⟨H16.out, HBK.out, HALL.out⟩
            case measure => simp [intOf]; omega
    · have hkm2 : k = d.m := by omega
      subst hkm2
      have hk : d.Kid := ⟨HM.out, MA.out, fun i k hi hk => (RO.out i hi).2.2 k hk⟩
      have hl := Lib.hid (loose_any d _ hk Sm.out wr (OK.out.below HB.out))
      clear hk
      go_wp2_with fail
      refine hl.out.mono ?_
      rintro e w5 ⟨⟨r, rfl, hr⟩, bel⟩
      have HB2 := Lib.hid (HB.out.trans (bel.mono zb))
      have HR := Lib.hid hr
      clear bel hr
      go_wp2
      go_ret
      exact ⟨by rw [mayB_of (show r = true ↔ d.May from HR.out.trans ⟨fun h => ⟨MA.out, HM.out, RO.out, h⟩, fun h => h.2.2.2⟩)]; rfl, HB2.out⟩
end Go.Proofs.Ytgkeiaggldahnaa
