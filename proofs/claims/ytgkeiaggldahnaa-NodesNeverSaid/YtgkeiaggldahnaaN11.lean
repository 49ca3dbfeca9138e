/- NodesTell: the walk. -/
import Derived.Test.YtgkeiaggldahnaaN10
import Derived.Test.YtgkeiaggldahnaaSpo
import Derived.Deep.CutRange
import Derived.Deep.DeepCutAuto
namespace Go.Proofs.Ytgkeiaggldahnaa
open Go.RowKit
set_option linter.unusedVariables false
theorem hdc_at (g : Nat → Int) : ∀ (l : List Nat) {i j : Nat}, i < l.length → j < 2 → (hdc g l)[i * 2 + j]? = some (hv (fun i => ((l.getD i 0 : Nat) : Int)) (fun i => g (l.getD i 0)) i j)
  | k :: l, 0, j, _, hj => by
    obtain rfl | rfl : j = 0 ∨ j = 1 := by omega
    · rfl
    · rfl
  | k :: l, i + 1, j, hi, hj => by
    have h := hdc_at g l (i := i) (j := j) (by simpa using hi) hj
    have e : (i + 1) * 2 + j = (i * 2 + j) + 2 := by omega
    rw [e]
    show (hdc g l)[i * 2 + j]? = _
    rw [h]
    rfl
theorem par_row {w : World} {B c : Nat} {A : Option Addr} {g : Nat → Int} {l : List Nat} (h : w.ownsRow B 29 2 (.slice A l.length c) l.length (hdc g l)) : Row w A l.length 2 (hv (fun i => ((l.getD i 0 : Nat) : Int)) (fun i => g (l.getD i 0))) :=
  Row.of_own h fun i hi j hj => hdc_at g l hi hj
theorem EqL.refl (n : Nat) (S Q : Nat → Int) : EqL n n S Q S Q := ⟨rfl, fun _ _ => ⟨rfl, rfl⟩⟩
theorem sh_same (A B : Option Addr) (n c e : Nat) (S Q : Nat → Int) (w : World) (hA : Row w A n 2 (hv S Q)) (hB : Row w B n 2 (hv S Q)) (hn : (n : Int) ≤ 9223372036854775807) :
    Calls Try.prog 17 #[.slice A n c, .slice B n e] w fun e w' => e = .returned (.bool true) ∧ Below w.heap.size w w' :=
  (sh_dec A B n n c e S Q S Q w hA hB hn).mono fun e w' ⟨he, hb⟩ => ⟨by rw [he, decide_eq_true (EqL.refl n S Q)], hb⟩

theorem kidN_le {d : GD} (h : d.Sm) (s q : Int) : (kidN d s q : Int) ≤ 9223372036854775807 := by
  unfold kidN
  split
  · rename_i hx
    obtain ⟨hm, hh⟩ := askv_zero hx
    have := h.L s.toNat (by have := hh.1; have := hh.2.1; rw [hm.2.1]; omega)
    omega
  · omega
theorem parV_le {d : GD} (h : d.Sm) (s q : Int) : ((parV d s q).length : Int) ≤ 9223372036854775807 := by
  have h1 := parL_len h s q d.m (Nat.le_refl _)
  have h2 := h.m
  unfold parV
  split
  · omega
  · simp

set_option maxRecDepth 100000 in
set_option maxHeartbeats 8000000 in
theorem nodesTell_walk (d : GD) (p : GP) (hrc : d.Rch) (s q s' q' : Int) (w : World) (hok : GOk w p d) :
    Calls Try.prog 3 #[.agg #[.slice p.A d.n p.c, .slice p.K d.m p.kc], hval s q, hval s' q'] w fun e w' => e = .returned (.bool true) ∧ Below w.heap.size w w' := by
  have b3 : Below w.heap.size w (((w.alloc (.cells #[.slice p.A d.n p.c, .slice p.K d.m p.kc] 27)).alloc (.cells #[.int .i64 s, .int .i64 q] 29)).alloc (.cells #[.int .i64 s', .int .i64 q'] 29)) := by
    repeat' (first | exact Below.refl _ _ | assumption | apply Below.drew | refine Below.setCell ?_ (by first | omega | (simp; done) | (simp; omega)) _ | refine Below.alloc ?_ (by first | omega | (simp; done) | (simp; omega)) _)
  have hP : HasBlk (((w.alloc (.cells #[.slice p.A d.n p.c, .slice p.K d.m p.kc] 27)).alloc (.cells #[.int .i64 s, .int .i64 q] 29)).alloc (.cells #[.int .i64 s', .int .i64 q'] 29)) w.heap.size 27 #[.slice p.A d.n p.c, .slice p.K d.m p.kc] := ((hasBlk_new w 27 #[.slice p.A d.n p.c, .slice p.K d.m p.kc]).alloc _).alloc _
  have hH : HasBlk (((w.alloc (.cells #[.slice p.A d.n p.c, .slice p.K d.m p.kc] 27)).alloc (.cells #[.int .i64 s, .int .i64 q] 29)).alloc (.cells #[.int .i64 s', .int .i64 q'] 29)) (w.heap.size + 1) 29 #[.int .i64 s, .int .i64 q] := by
    have h := (hasBlk_new (w.alloc (.cells #[.slice p.A d.n p.c, .slice p.K d.m p.kc] 27)) 29 #[.int .i64 s, .int .i64 q]).alloc (.cells #[.int .i64 s', .int .i64 q'] 29)
    simpa using h
  have hI : HasBlk (((w.alloc (.cells #[.slice p.A d.n p.c, .slice p.K d.m p.kc] 27)).alloc (.cells #[.int .i64 s, .int .i64 q] 29)).alloc (.cells #[.int .i64 s', .int .i64 q'] 29)) (w.heap.size + 1 + 1) 29 #[.int .i64 s', .int .i64 q'] := by
    have h := hasBlk_new ((w.alloc (.cells #[.slice p.A d.n p.c, .slice p.K d.m p.kc] 27)).alloc (.cells #[.int .i64 s, .int .i64 q] 29)) 29 #[.int .i64 s', .int .i64 q']
    simpa using h
  have P := Lib.hid hP
  have H := Lib.hid hH
  have I := Lib.hid hI
  have B3 := Lib.hid b3
  have OK0 := Lib.hid hok
  have hgr := Lib.hid (great_any d p hrc _ (hok.below b3))
  clear hP hH hI b3 hok
  go_enter Try.func3, Try.ntmps3
  go_wp2_with fail
  refine hgr.out.mono ?_
  rintro e w1 ⟨⟨r, rfl, hr⟩, bel⟩
  have HB1 := Lib.hid (B3.out.trans (bel.mono B3.out.size))
  have P1 := Lib.hid (P.out.below bel)
  have H1 := Lib.hid (H.out.below bel)
  have I1 := Lib.hid (I.out.below bel)
  clear bel P H I hgr
  cases r with
  | true =>
    clear hr P1 H1 I1
    go_wp2
    go_ret
    exact ⟨rfl, HB1.out⟩
  | false =>
    have Sm := Lib.hid (GD.Sm.mk2 (hr rfl))
    have KN := Lib.hid (kidN_le Sm.out s q)
    have PN := Lib.hid (parV_le Sm.out s q)
    clear hr
    have p0 := P1.out.cell 0
    have p1 := P1.out.cell 1
    have ltP := P1.out.lt
    simp at p0 p1
    have KX := Lib.hid (reftwing_any d p Sm.out w1 (OK0.out.below HB1.out))
    go_wp2_with fail
    refine KX.out.mono ?_
    rintro e w2 ⟨⟨v, rfl, po, rfl, ho⟩, bel⟩
    clear KX p0 p1 ltP
    have HB2 := Lib.hid (HB1.out.trans (bel.mono HB1.out.size))
    have HO2 := Lib.hid ho.ok
    have P2 := Lib.hid (P1.out.below bel)
    have H2 := Lib.hid (H1.out.below bel)
    have I2 := Lib.hid (I1.out.below bel)
    clear bel ho P1 H1 I1
    obtain ⟨w3, hw3⟩ : ∃ w3, w2.alloc (.cells #[.slice po.A d.n po.c, .slice po.K d.m po.kc] 27) = w3 := ⟨_, rfl⟩
    obtain ⟨T7, hT7⟩ : ∃ T7, w2.heap.size = T7 := ⟨_, rfl⟩
    have b3 : Below w2.heap.size w2 w3 := by rw [← hw3]; exact (Below.refl _ _).alloc (Nat.le_refl _) _
    have P3 := Lib.hid (P2.out.below b3)
    have H3 := Lib.hid (H2.out.below b3)
    have I3 := Lib.hid (I2.out.below b3)
    have O3 : Hid (HasBlk w3 T7 27 #[.slice po.A d.n po.c, .slice po.K d.m po.kc]) := Lib.hid (by rw [← hw3, ← hT7]; exact hasBlk_new w2 27 #[.slice po.A d.n po.c, .slice po.K d.m po.kc])
    have OKo := Lib.hid (HO2.out.below b3)
    have HW := Lib.hid (HB2.out.trans (b3.mono HB2.out.size))
    have OKg := Lib.hid (OK0.out.below HW.out)
    have HB3 := Lib.hid (Below.refl w3.heap.size w3)
    have p0 := P2.out.cell 0
    go_upto_region 4 with fail
    clear b3 hw3 hT7 p0 P2 H2 I2 HO2 HB2 HB1 B3
    have tP := P3.out.below HB3.out
    have ltP := tP.lt
    have p0 := tP.cell 0
    have p1 := tP.cell 1
    clear tP
    have tH := H3.out.below HB3.out
    have ltH := tH.lt
    have h0 := tH.cell 0
    have h1 := tH.cell 1
    clear tH
    have tI := I3.out.below HB3.out
    have ltI := tI.lt
    have i0 := tI.cell 0
    have i1 := tI.cell 1
    clear tI
    have tO := O3.out.below HB3.out
    have ltO := tO.lt
    have o0 := tO.cell 0
    have o1 := tO.cell 1
    clear tO
    simp at p0 p1 h0 h1 i0 i1 o0 o1
    have KX := Lib.hid (kids_any d po Sm.out s q w3 OKo.out)
    go_wp2_with fail
    refine KX.out.mono ?_
    rintro e w4 ⟨⟨Aa, ca, rfl, ho⟩, bel⟩
    clear KX
    clear ltP p0 p1 ltH h0 h1 ltI i0 i1 ltO o0 o1
    have HB4 := Lib.hid (HB3.out.trans (bel.mono HB3.out.size))
    have OWa := Lib.hid ho
    clear ho bel
    have tP := P3.out.below HB4.out
    have ltP := tP.lt
    have p0 := tP.cell 0
    have p1 := tP.cell 1
    clear tP
    have tH := H3.out.below HB4.out
    have ltH := tH.lt
    have h0 := tH.cell 0
    have h1 := tH.cell 1
    clear tH
    have tI := I3.out.below HB4.out
    have ltI := tI.lt
    have i0 := tI.cell 0
    have i1 := tI.cell 1
    clear tI
    have tO := O3.out.below HB4.out
    have ltO := tO.lt
    have o0 := tO.cell 0
    have o1 := tO.cell 1
    clear tO
    simp at p0 p1 h0 h1 i0 i1 o0 o1
    have KX := Lib.hid (refkids_any d p Sm.out s q w4 (OKg.out.below HB4.out))
    go_wp2_with fail
    refine KX.out.mono ?_
    rintro e w5 ⟨⟨Ab, cb, rfl, ho⟩, bel⟩
    clear KX
    clear ltP p0 p1 ltH h0 h1 ltI i0 i1 ltO o0 o1
    have HB5 := Lib.hid (HB4.out.trans (bel.mono HB4.out.size))
    have RWb := Lib.hid ho
    have OWa' := Lib.hid (own_below OWa.out bel)
    clear OWa
    have OWa := Lib.hid OWa'.out
    clear OWa'
    clear ho bel
    have tP := P3.out.below HB5.out
    have ltP := tP.lt
    have p0 := tP.cell 0
    have p1 := tP.cell 1
    clear tP
    have tH := H3.out.below HB5.out
    have ltH := tH.lt
    have h0 := tH.cell 0
    have h1 := tH.cell 1
    clear tH
    have tI := I3.out.below HB5.out
    have ltI := tI.lt
    have i0 := tI.cell 0
    have i1 := tI.cell 1
    clear tI
    have tO := O3.out.below HB5.out
    have ltO := tO.lt
    have o0 := tO.cell 0
    have o1 := tO.cell 1
    clear tO
    simp at p0 p1 h0 h1 i0 i1 o0 o1
    have KX := Lib.hid (parents_any d po Sm.out s q w5 (OKo.out.below HB5.out))
    go_wp2_with fail
    refine KX.out.mono ?_
    rintro e w6 ⟨⟨Ac, cc, rfl, ho⟩, bel⟩
    clear KX
    clear ltP p0 p1 ltH h0 h1 ltI i0 i1 ltO o0 o1
    have HB6 := Lib.hid (HB5.out.trans (bel.mono HB5.out.size))
    have RWc := Lib.hid (par_row ho)
    have OWa' := Lib.hid (own_below OWa.out bel)
    clear OWa
    have OWa := Lib.hid OWa'.out
    clear OWa'
    have RWb' := Lib.hid (RWb.out.below bel)
    clear RWb
    have RWb := Lib.hid RWb'.out
    clear RWb'
    clear ho bel
    have tP := P3.out.below HB6.out
    have ltP := tP.lt
    have p0 := tP.cell 0
    have p1 := tP.cell 1
    clear tP
    have tH := H3.out.below HB6.out
    have ltH := tH.lt
    have h0 := tH.cell 0
    have h1 := tH.cell 1
    clear tH
    have tI := I3.out.below HB6.out
    have ltI := tI.lt
    have i0 := tI.cell 0
    have i1 := tI.cell 1
    clear tI
    have tO := O3.out.below HB6.out
    have ltO := tO.lt
    have o0 := tO.cell 0
    have o1 := tO.cell 1
    clear tO
    simp at p0 p1 h0 h1 i0 i1 o0 o1
    have KX := Lib.hid (refparents_any d p Sm.out s q w6 (OKg.out.below HB6.out))
    go_wp2_with fail
    refine KX.out.mono ?_
    rintro e w7 ⟨⟨Ad, cd, rfl, ho⟩, bel⟩
    clear KX
    clear ltP p0 p1 ltH h0 h1 ltI i0 i1 ltO o0 o1
    have HB7 := Lib.hid (HB6.out.trans (bel.mono HB6.out.size))
    have RWd := Lib.hid (par_row ho)
    have OWa' := Lib.hid (own_below OWa.out bel)
    clear OWa
    have OWa := Lib.hid OWa'.out
    clear OWa'
    have RWb' := Lib.hid (RWb.out.below bel)
    clear RWb
    have RWb := Lib.hid RWb'.out
    clear RWb'
    have RWc' := Lib.hid (RWc.out.below bel)
    clear RWc
    have RWc := Lib.hid RWc'.out
    clear RWc'
    clear ho bel
    have tP := P3.out.below HB7.out
    have ltP := tP.lt
    have p0 := tP.cell 0
    have p1 := tP.cell 1
    clear tP
    have tH := H3.out.below HB7.out
    have ltH := tH.lt
    have h0 := tH.cell 0
    have h1 := tH.cell 1
    clear tH
    have tI := I3.out.below HB7.out
    have ltI := tI.lt
    have i0 := tI.cell 0
    have i1 := tI.cell 1
    clear tI
    have tO := O3.out.below HB7.out
    have ltO := tO.lt
    have o0 := tO.cell 0
    have o1 := tO.cell 1
    clear tO
    simp at p0 p1 h0 h1 i0 i1 o0 o1
    have KX := Lib.hid (rch_any d po Sm.out s q s' q' w7 (OKo.out.below HB7.out))
    go_wp2_with fail
    refine KX.out.mono ?_
    rintro e w8 ⟨rfl, bel⟩
    clear KX
    clear ltP p0 p1 ltH h0 h1 ltI i0 i1 ltO o0 o1
    have HB8 := Lib.hid (HB7.out.trans (bel.mono HB7.out.size))
    have OWa' := Lib.hid (own_below OWa.out bel)
    clear OWa
    have OWa := Lib.hid OWa'.out
    clear OWa'
    have RWb' := Lib.hid (RWb.out.below bel)
    clear RWb
    have RWb := Lib.hid RWb'.out
    clear RWb'
    have RWc' := Lib.hid (RWc.out.below bel)
    clear RWc
    have RWc := Lib.hid RWc'.out
    clear RWc'
    have RWd' := Lib.hid (RWd.out.below bel)
    clear RWd
    have RWd := Lib.hid RWd'.out
    clear RWd'
    clear bel
    have tP := P3.out.below HB8.out
    have ltP := tP.lt
    have p0 := tP.cell 0
    have p1 := tP.cell 1
    clear tP
    have tH := H3.out.below HB8.out
    have ltH := tH.lt
    have h0 := tH.cell 0
    have h1 := tH.cell 1
    clear tH
    have tI := I3.out.below HB8.out
    have ltI := tI.lt
    have i0 := tI.cell 0
    have i1 := tI.cell 1
    clear tI
    have tO := O3.out.below HB8.out
    have ltO := tO.lt
    have o0 := tO.cell 0
    have o1 := tO.cell 1
    clear tO
    simp at p0 p1 h0 h1 i0 i1 o0 o1
    have KX := Lib.hid (refrch_any d p Sm.out s q s' q' w8 (OKg.out.below HB8.out))
    go_wp2_with fail
    refine KX.out.mono ?_
    rintro e w9 ⟨rfl, bel⟩
    clear KX
    clear ltP p0 p1 ltH h0 h1 ltI i0 i1 ltO o0 o1
    have HB9 := Lib.hid (HB8.out.trans (bel.mono HB8.out.size))
    have OWa' := Lib.hid (own_below OWa.out bel)
    clear OWa
    have OWa := Lib.hid OWa'.out
    clear OWa'
    have RWb' := Lib.hid (RWb.out.below bel)
    clear RWb
    have RWb := Lib.hid RWb'.out
    clear RWb'
    have RWc' := Lib.hid (RWc.out.below bel)
    clear RWc
    have RWc := Lib.hid RWc'.out
    clear RWc'
    have RWd' := Lib.hid (RWd.out.below bel)
    clear RWd
    have RWd := Lib.hid RWd'.out
    clear RWd'
    clear bel
    have hka : (kidN d s q : Int) ≤ 9223372036854775807 := KN.out
    have hpa : ((parV d s q).length : Int) ≤ 9223372036854775807 := PN.out
    obtain ⟨kn, hkn⟩ : ∃ kn, kidN d s q = kn := ⟨_, rfl⟩
    obtain ⟨pn, hpn⟩ : ∃ pn, (parV d s q).length = pn := ⟨_, rfl⟩
    rw [hkn] at hka OWa RWb ⊢
    rw [hpn] at hpa RWc RWd ⊢
    clear hkn hpn KN PN
    generalize askv d (HeldA d.n d.g d.b s q) = x1
    generalize askv d (HeldA d.n d.g d.b s q ∧ HeldA d.n d.g d.b s' q') = x2
    generalize rchv d s q s' q' = b1
    have KX := Lib.hid (sh_same Aa Ab kn ca cb _ _ w9 (Row.of_cells OWa.out) RWb.out hka)
    go_wp2_with fail
    refine KX.out.mono ?_
    rintro e w10 ⟨rfl, bel⟩
    clear KX
    have HB10 := Lib.hid (HB9.out.trans (bel.mono HB9.out.size))
    have OWa' := Lib.hid (own_below OWa.out bel)
    clear OWa
    have OWa := Lib.hid OWa'.out
    clear OWa'
    have RWc' := Lib.hid (RWc.out.below bel)
    clear RWc
    have RWc := Lib.hid RWc'.out
    clear RWc'
    have RWd' := Lib.hid (RWd.out.below bel)
    clear RWd
    have RWd := Lib.hid RWd'.out
    clear RWd'
    clear bel
    have KX := Lib.hid (sh_same Ac Ad pn cc cd _ _ w10 RWc.out RWd.out hpa)
    go_wp2_with fail
    refine KX.out.mono ?_
    rintro e w11 ⟨rfl, bel⟩
    clear KX
    have HB11 := Lib.hid (HB10.out.trans (bel.mono HB10.out.size))
    have OWa' := Lib.hid (own_below OWa.out bel)
    clear OWa
    have OWa := Lib.hid OWa'.out
    clear OWa'
    clear bel
    go_wp2
    go_loopw [21] (fun i wr => ∃ j : Nat, j ≤ kn ∧ i = .int .i64 j ∧ (∃ xs, wr.ownsRow w3.heap.size 29 2 (.slice Aa kn ca) kn xs) ∧ Below w3.heap.size w3 wr) (fun i wr => kn - (intOf i).toNat)
    case atStart => exact ⟨0, Nat.zero_le _, rfl, ⟨_, OWa.out⟩, HB11.out⟩
    case round =>
      clear OWa
      obtain ⟨j, hj, rfl, ⟨xs, hown⟩, hbel⟩ := hrel
      have HBL := Lib.hid hbel
      have HOW := Lib.hid hown
      have zb := hbel.size
      by_cases hjk : j < kn
      · obtain ⟨g, rfl, hg1, hg2, _, hcell, hfr⟩ := own_w hown (by omega)
        obtain ⟨v, hv⟩ := hcell (j * 2 + 1) (by omega)
        have hf := hfr (j * 2 + 1)
        have i1 : (j : Int) < (kn : Int) := by omega
        have i0 : (0 : Int) ≤ (j : Int) := by omega
        have hst := own_set (j := j * 2 + 1) hown (.int .i64 (-77))
        have HST := Lib.hid hst
        have HB2 := Lib.hid (Below.setCell (p := ⟨g, j * 2 + 1, none⟩) HBL.out hg1 (.int .i64 (-77)))
        clear hcell hfr hown hbel hst
        go_wp2
        go_roundw
        case rel => exact ⟨j + 1, by omega, by go_num, ⟨_, HST.out⟩, HB2.out⟩
        case measure => simp [intOf]; omega
      · clear hown hbel
        have tP := P3.out.below HBL.out
        have ltP := tP.lt
        have p0 := tP.cell 0
        have p1 := tP.cell 1
        clear tP
        have tO := O3.out.below HBL.out
        have ltO := tO.lt
        have o0 := tO.cell 0
        have o1 := tO.cell 1
        clear tO
        simp at p0 p1 o0 o1
        have KX := Lib.hid (refsameg_any d d po p wr (OKo.out.below HBL.out) (OKg.out.below HBL.out) (by have := Sm.out.n; omega) (by have := Sm.out.m; omega) (fun i hi => by have := Sm.out.L i hi; omega))
        go_wp2_with fail
        refine KX.out.mono ?_
        rintro e w12 ⟨⟨r, rfl, hr⟩, bel⟩
        obtain rfl : r = true := hr.2 (SameG.refl d)
        have HB12 := Lib.hid (HW.out.trans ((HBL.out.trans (bel.mono HBL.out.size)).mono HW.out.size))
        clear bel hr KX
        go_wp2
        go_ret
        exact ⟨rfl, HB12.out⟩

theorem nodesTell_arg (v0 v1 v2 : Value) (w : World) (h0 : Arg Try.prog w 27 v0) (s0 : RdS Try.prog w 27 v0.cells.toList) (h1 : Arg Try.prog w 29 v1) (s1 : RdS Try.prog w 29 v1.cells.toList) (h2 : Arg Try.prog w 29 v2) (s2 : RdS Try.prog w 29 v2.cells.toList) : Calls Try.prog 3 #[v0, v1, v2] w fun e w' => e = .returned (.bool true) ∧ Below w.heap.size w w' := by
  obtain ⟨p, d, rfl, hrc, hok⟩ := arg_graph h0 s0
  obtain ⟨s, q, rfl⟩ := arg_hdl h1
  obtain ⟨s', q', rfl⟩ := arg_hdl h2
  exact nodesTell_walk d p hrc s q s' q' w hok
end Go.Proofs.Ytgkeiaggldahnaa
