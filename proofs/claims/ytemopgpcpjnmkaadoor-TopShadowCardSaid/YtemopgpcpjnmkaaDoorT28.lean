/- top: the law in the program's words; what is great. -/
import Derived.Test.YtemopgpcpjnmkaaDoorT25
import Derived.Test.YtemopgpcpjnmkaaDoorT9
import Derived.Lib.MinMax
namespace Go.Proofs.YtemopgpcpjnmkaaDoor
open Go.RowKit
set_option linter.unusedVariables false
theorem crn_has {n : Int} {a b p : P5} {B : B3} (ha : B.has a.p) (hb : B.has b.p) (hp : p ∈ crn n a b) : B.has p.p := by
  unfold crn at hp
  split at hp
  · split at hp
    · obtain rfl := List.mem_singleton.1 hp
      exact ha
    · rcases List.mem_cons.1 hp with rfl | hp
      · exact ha
      · obtain rfl := List.mem_singleton.1 hp
        have h1 : b.p.z < n := by omega
        have h2 : n ≤ a.p.z := by assumption
        exact ⟨cutn_in h1 h2 hb.1 ha.1, cutn_in h1 h2 hb.2.1 ha.2.1, by have := ha.2.2; have := hb.2.2; exact ⟨by show B.lo.z ≤ n; omega, by show n ≤ B.hi.z; omega⟩⟩
  · split at hp
    · obtain rfl := List.mem_singleton.1 hp
      have h1 : a.p.z < n := by omega
      have h2 : n ≤ b.p.z := by assumption
      exact ⟨cutn_in h1 h2 ha.1 hb.1, cutn_in h1 h2 ha.2.1 hb.2.1, by have := ha.2.2; have := hb.2.2; exact ⟨by show B.lo.z ≤ n; omega, by show n ≤ B.hi.z; omega⟩⟩
    · cases hp
theorem near_has {n : Int} {t q : Q3} {B : B3} (ha : B.has t.a.p) (hb : B.has t.b.p) (hc : B.has t.c.p) (hq : q ∈ near n t) : B.has q.a.p ∧ B.has q.b.p ∧ B.has q.c.p := by
  have key : ∀ p, p ∈ crns n t.a t.b t.c 3 → B.has p.p := fun p hp => by
    rcases crns_mem hp with h | h | h
    · exact crn_has ha hb h
    · exact crn_has hb hc h
    · exact crn_has hc ha h
  obtain ⟨h1, h2, h3⟩ := near_mem hq
  exact ⟨key _ h1, key _ h2, key _ h3⟩
theorem pt_has {c : CD} {it : It} {m n : Int} (hi : it.Ok n) (h : 0 ≤ m ∧ m < it.V.length) : (c.box it.box).has (it.pt c m.toNat).p := by
  have hv : it.V.getD m.toNat V3.zero ∈ it.V := getD_mem' (by omega)
  have := boxOf_has hv
  rw [hi.2.2.2] at this
  exact M3.turn_in (B3.less_has this)
theorem fbox_has {c : CD} {b : B3} {v : V3} (h : (c.box b).has v) (hz : c.N ≤ v.z) : (c.fbox b).has v := by
  unfold B3.has at h
  refine ⟨h.1, h.2.1, ?_, h.2.2.2⟩
  show max (c.box b).lo.z c.N ≤ v.z
  omega
theorem seen_place (c : CD) (a : P5) : Seen c.Cm a.p ⟨(c.place a).x, (c.place a).y, (c.place a).d⟩ := ⟨rfl, rfl, rfl⟩
def S5.sp (s : S5) : Sp := ⟨s.x, s.y, s.d⟩
theorem wgt_w (a b : S5) (x y : Int) : wgt a.sp b.sp (8 * x + 4) (8 * y + 4) = S5.w a b x y := rfl
/-- A covered pixel of a triangle whose corners are seen in a box. -/
theorem cov_in {c : CD} {B : B3} {pa pb pc : P5} {t : T3} {x y : Int} (hc : c.Ok) (hz : 0 < B.lo.z) (ha : B.has pa.p) (hb : B.has pb.p) (hd : B.has pc.p) (e1 : t.a = c.place pa) (e2 : t.b = c.place pb) (e3 : t.c = c.place pc)
    (ht : t.Ok) (har : 0 < t.area) (hp : Pix x y) (hcov : t.cov x y = true) :
    (first (shX0 c.Cm B) ≤ x ∧ x ≤ last (shX1 c.Cm B)) ∧ (first (shY0 c.Cm B) ≤ y ∧ y ≤ last (shY1 c.Cm B)) ∧ (t.at x y).d ≤ 16777216 / B.lo.z := by
  have w := T3.wts ht har hp hcov
  have cF := hc.1.2.1
  unfold Wi at cF
  have k0 : Seen c.Cm pa.p t.a.sp := by rw [e1]; exact seen_place c pa
  have k1 : Seen c.Cm pb.p t.b.sp := by rw [e2]; exact seen_place c pb
  have k2 : Seen c.Cm pc.p t.c.sp := by rw [e3]; exact seen_place c pc
  have h := shadow_has (c := c.Cm) (x := x) (y := y) (by show 0 ≤ c.F; omega) hz ha hb hd k0 k1 k2 (by rw [wgt_w]; exact w.1.1.1) (by rw [wgt_w]; exact w.1.2.1.1) (by rw [wgt_w]; exact w.1.2.2.1) (by rw [wgt_w, wgt_w, wgt_w]; exact w.2)
  rw [wgt_w, wgt_w, wgt_w] at h
  refine ⟨h.1, h.2.1, ?_⟩
  have h3 := h.2.2
  unfold T3.at
  exact h3
def In (X0 Y0 X1 Y1 x y : Int) : Prop := (X0 ≤ x ∧ x ≤ X1) ∧ (Y0 ≤ y ∧ y ≤ Y1)
theorem world_of {b : B3} (h : b.Wd) : b.World := by
  unfold B3.Wd V3.Ok at h
  unfold B3.World
  exact ⟨⟨h.1.1.1, h.1.2.1, h.2.1⟩, ⟨h.1.1.2.1, h.1.2.2.1, h.2.2.1⟩, ⟨h.1.1.2.2, h.1.2.2.2, h.2.2.2⟩⟩
theorem fragsTo_mem {P : List Pt} {x y : Int} {k : Nat} {f : Fr} (h : f ∈ fragsTo P x y k) : ∃ p ∈ P, p.t.cov x y = true ∧ f = p.frag x y := by
  unfold fragsTo at h
  obtain ⟨p, hp, h⟩ := List.mem_flatMap.1 h
  split at h
  · exact ⟨p, List.mem_of_mem_take hp, by assumption, List.mem_singleton.1 h⟩
  · cases h
/-- The law: a fragment lies in its item's shadow. -/
theorem frag_law {s : Sh} {c : CD} {x y : Int} {f : Fr} (hg : Good s c x y) (hf : f ∈ s.frags c x y) : ∃ (i : Nat) (it : It), s.I[i]? = some it ∧ f.i = (i : Int) ∧ it.box.World ∧ max (c.box it.box).lo.z c.N ≤ (c.box it.box).hi.z ∧
    (first (shX0 c.Cm (c.fbox it.box)) ≤ x ∧ x ≤ last (shX1 c.Cm (c.fbox it.box))) ∧ (first (shY0 c.Cm (c.fbox it.box)) ≤ y ∧ y ≤ last (shY1 c.Cm (c.fbox it.box))) ∧ f.D - it.look.bias ≤ 16777216 / (c.fbox it.box).lo.z ∧ (-1024 ≤ it.look.bias ∧ it.look.bias ≤ 1024) ∧ (-1024 ≤ f.D ∧ f.D ≤ 6755399441056768) := by
  obtain ⟨p, hp, hcov, rfl⟩ := fragsTo_mem hf
  have hpo := pts_ok hg.1.1 hg.1.2 p hp
  obtain ⟨i, it, tri, hi, ht, hpt, hD, hpi⟩ := pts_mem hp
  have hio := hg.1.1.2.2 it (List.mem_of_getElem? hi)
  have hT := hio.2.2.1 tri ht
  have hc := hg.1.2
  have hdb := at_d_bd hpo.1 hpo.2.1 hg.pix hcov
  have hN := hc.1.2.2.1
  unfold Wi at hN
  unfold It.parts at hpt
  obtain ⟨q, hq, hsh⟩ := List.mem_flatMap.1 hpt
  have h3 := near_ok3 hc.1.2.2.1 (It.pt_ok hc hio hT.1) (It.pt_ok hc hio hT.2.1) (It.pt_ok hc hio hT.2.2) hq
  have hh := near_has (B := c.box it.box) (pt_has hio hT.1) (pt_has hio hT.2.1) (pt_has hio hT.2.2) hq
  have fa := fbox_has hh.1 h3.1.2
  have fb := fbox_has hh.2.1 h3.2.1.2
  have fc := fbox_has hh.2.2 h3.2.2.2
  have hz : 0 < (c.fbox it.box).lo.z := by
    show 0 < max (c.box it.box).lo.z c.N
    omega
  have hpt2 : p.t = (c.placed q).front := by
    unfold CD.shown at hsh
    split at hsh
    · exact List.mem_singleton.1 hsh
    · cases hsh
  have key : (first (shX0 c.Cm (c.fbox it.box)) ≤ x ∧ x ≤ last (shX1 c.Cm (c.fbox it.box))) ∧ (first (shY0 c.Cm (c.fbox it.box)) ≤ y ∧ y ≤ last (shY1 c.Cm (c.fbox it.box))) ∧ (p.t.at x y).d ≤ 16777216 / (c.fbox it.box).lo.z := by
    unfold T3.front at hpt2
    split at hpt2
    · exact cov_in hc hz fa fc fb (by rw [hpt2]; rfl) (by rw [hpt2]; rfl) (by rw [hpt2]; rfl) hpo.1 hpo.2.1 hg.pix hcov
    · exact cov_in hc hz fa fb fc (by rw [hpt2]; rfl) (by rw [hpt2]; rfl) (by rw [hpt2]; rfl) hpo.1 hpo.2.1 hg.pix hcov
  have hV : it.V ≠ [] := fun e => by
    have := hT.1
    rw [e] at this
    simp at this
    omega
  have hW : it.box.World := by
    rw [← hio.2.2.2]
    exact world_of (boxOf_wd hV hio.2.1.1)
  refine ⟨i, it, hi, hpi, hW, ?_, key.1, key.2.1, ?_, hio.1.2.2.2.2.1, ?_⟩
  · exact Int.le_trans fa.2.2.1 fa.2.2.2
  · show p.D + (p.t.at x y).d - it.look.bias ≤ _
    have := key.2.2
    omega
  · show -1024 ≤ p.D + (p.t.at x y).d ∧ p.D + (p.t.at x y).d ≤ 6755399441056768
    have := hpo.2.2
    omega

set_option maxRecDepth 100000 in
set_option maxHeartbeats 16000000 in
theorem inr_any (X0 Y0 X1 Y1 x y : Int) (w : World) : Calls Tryd.prog 7 #[.agg #[.int .i64 X0, .int .i64 Y0, .int .i64 X1, .int .i64 Y1], .int .i64 x, .int .i64 y] w fun e w' => EqR (In X0 Y0 X1 Y1 x y) e ∧ Below w.heap.size w w' := by
  by_cases h0 : X0 ≤ x
  rotate_left
  · have g0 : decide (X0 ≤ x) = false := decide_eq_false h0
    have HX := Lib.hid h0
    clear h0
    obtain ⟨v0, hv0, BR, HB⟩ := lay1 w 33 #[.int .i64 X0, .int .i64 Y0, .int .i64 X1, .int .i64 Y1]
    go_enter Tryd.func7, Tryd.ntmps7
    go_upto_region 1 with fail
    rw [← hv0.out]
    clear hv0
    have br_ := BR.out.c4
    go_wp2
    go_ret
    exact ⟨⟨false, rfl, ⟨fun h => (by cases h), fun h => absurd HX.out (by have := h.1.1; omega)⟩⟩, HB.out⟩
  have g0 : decide (X0 ≤ x) = true := decide_eq_true h0
  by_cases h1 : x ≤ X1
  rotate_left
  · have g1 : decide (x ≤ X1) = false := decide_eq_false h1
    have HX := Lib.hid h1
    clear h0 h1
    obtain ⟨v0, hv0, BR, HB⟩ := lay1 w 33 #[.int .i64 X0, .int .i64 Y0, .int .i64 X1, .int .i64 Y1]
    go_enter Tryd.func7, Tryd.ntmps7
    go_upto_region 1 with fail
    rw [← hv0.out]
    clear hv0
    have br_ := BR.out.c4
    go_wp2
    go_ret
    exact ⟨⟨false, rfl, ⟨fun h => (by cases h), fun h => absurd HX.out (by have := h.1.2; omega)⟩⟩, HB.out⟩
  have g1 : decide (x ≤ X1) = true := decide_eq_true h1
  by_cases h2 : Y0 ≤ y
  rotate_left
  · have g2 : decide (Y0 ≤ y) = false := decide_eq_false h2
    have HX := Lib.hid h2
    clear h0 h1 h2
    obtain ⟨v0, hv0, BR, HB⟩ := lay1 w 33 #[.int .i64 X0, .int .i64 Y0, .int .i64 X1, .int .i64 Y1]
    go_enter Tryd.func7, Tryd.ntmps7
    go_upto_region 1 with fail
    rw [← hv0.out]
    clear hv0
    have br_ := BR.out.c4
    go_wp2
    go_ret
    exact ⟨⟨false, rfl, ⟨fun h => (by cases h), fun h => absurd HX.out (by have := h.2.1; omega)⟩⟩, HB.out⟩
  have g2 : decide (Y0 ≤ y) = true := decide_eq_true h2
  by_cases h3 : y ≤ Y1
  rotate_left
  · have g3 : decide (y ≤ Y1) = false := decide_eq_false h3
    have HX := Lib.hid h3
    clear h0 h1 h2 h3
    obtain ⟨v0, hv0, BR, HB⟩ := lay1 w 33 #[.int .i64 X0, .int .i64 Y0, .int .i64 X1, .int .i64 Y1]
    go_enter Tryd.func7, Tryd.ntmps7
    go_upto_region 1 with fail
    rw [← hv0.out]
    clear hv0
    have br_ := BR.out.c4
    go_wp2
    go_ret
    exact ⟨⟨false, rfl, ⟨fun h => (by cases h), fun h => absurd HX.out (by have := h.2.2; omega)⟩⟩, HB.out⟩
  have g3 : decide (y ≤ Y1) = true := decide_eq_true h3
  have HX := Lib.hid (show In X0 Y0 X1 Y1 x y from ⟨⟨h0, h1⟩, ⟨h2, h3⟩⟩)
  clear h0 h1 h2 h3
  obtain ⟨v0, hv0, BR, HB⟩ := lay1 w 33 #[.int .i64 X0, .int .i64 Y0, .int .i64 X1, .int .i64 Y1]
  go_enter Tryd.func7, Tryd.ntmps7
  go_upto_region 1 with fail
  rw [← hv0.out]
  clear hv0
  have br_ := BR.out.c4
  go_wp2
  go_ret
  exact ⟨⟨true, rfl, ⟨fun _ => HX.out, fun _ => rfl⟩⟩, HB.out⟩
/-- Some Boolean. -/
def BoolR (e : Ending) : Prop := ∃ b : Bool, e = .returned (.bool b)

set_option maxRecDepth 100000 in
set_option maxHeartbeats 16000000 in
theorem great_any (s : Sh) (w : World) (hR : s.Rd w) : Calls Tryd.prog 5 #[.agg #[.slice s.Ai s.I.length s.ci, .slice s.Ax s.X.length s.cx]] w fun e w' => BoolR e ∧ Below w.heap.size w w' := by
  obtain ⟨I, X, Ai, ci, Ax, cx⟩ := s
  dsimp only
  have HR := Lib.hid hR
  clear hR
  obtain ⟨nI, hnI⟩ : ∃ n, n = I.length := ⟨_, rfl⟩
  obtain ⟨nX, hnX⟩ : ∃ n, n = X.length := ⟨_, rfl⟩
  rw [← hnI, ← hnX]
  have HNI := Lib.hid hnI
  have HNX := Lib.hid hnX
  clear hnI hnX
  obtain ⟨v0, hv0, BS, HB⟩ := lay1 w 25 #[.slice Ai nI ci, .slice Ax nX cx]
  go_enter Tryd.func5, Tryd.ntmps5
  go_upto_region 1 with fail
  rw [← hv0.out]
  clear hv0
  go_wp2
  go_loopw [3, 4] (fun s3 s4 wr => ∃ (i : Nat) (n : Int), i ≤ 300 ∧ s4 = .int .i64 (i : Int) ∧ s3 = .int .i64 n ∧ HasBlk wr w.heap.size 25 #[.slice Ai nI ci, .slice Ax nX cx] ∧ Below w.heap.size w wr) (fun s3 s4 wr => 300 - (intOf s4).toNat)
  case atStart => exact ⟨0, 0, Nat.zero_le _, rfl, rfl, BS.out, HB.out⟩
  case round =>
    clear BS HB
    obtain ⟨i, n, hi, rfl, rfl, qBS, qHB⟩ := hrel
    have BS := Lib.hid qBS
    have HB := Lib.hid qHB
    clear qBS qHB
    by_cases hgo : i < nI ∧ i < 300
    · have d1 : decide ((i : Int) < (nI : Int)) = true := decide_eq_true (by omega)
      have d2 : decide ((i : Int) < 300) = true := decide_eq_true (by omega)
      have i1 : (i : Int) < (nI : Int) := by omega
      have i0 : (0 : Int) ≤ (i : Int) := by omega
      obtain ⟨it, hit⟩ : ∃ it, I[i]? = some it := ⟨_, List.getElem?_eq_getElem (by rw [← HNI.out]; exact hgo.1)⟩
      obtain ⟨g, o, hA, hg, hc⟩ := HR.out.1.below HB.out (by show 0 < I.length; rw [← HNI.out]; omega)
      dsimp only at hA
      subst hA
      have c0 := hc i it hit 0 _ rfl
      have c1 := hc i it hit 1 _ rfl
      have c2 := hc i it hit 2 _ rfl
      simp only [Nat.add_zero] at c0
      clear hc hit
      have bs_ := BS.out.c2
      go_upto_region 5 with fail
      clear bs_
      clear d1 d2
      have e7 := fun pb : BW wr => BW.cell c0 hg pb
      have e8 := fun pb : BW wr => BW.cell c1 hg pb
      have e9 := fun pb : BW wr => BW.cell c2 hg pb
      clear c0 c1 c2 hg
      have e0 := fun pb : BW wr => BW.cell (BS.out.at 0 rfl) BS.out.lt pb
      refine wp_region_quiet_bw (by kernel_rfl) (by kernel_rfl) ?_
      repeat (go_big_quiet_step (fail))
      refine wpQuiet_nil ?_
      intro _ hw'
      obtain ⟨pq, hw''⟩ := hw'
      subst hw''
      clear e0 e7 e8 e9
      replace BS := mB BS pq.h
      replace HB := mT HB pq.h
      generalize pq.W = u1 at *
      clear pq
      go_wp2
      go_roundw
      case rel => exact ⟨i + 1, _, by omega, by go_num, rfl, BS.out, HB.out⟩
      case measure => simp [intOf]; omega
    by_cases h1 : i < nI
    · have d1 : decide ((i : Int) < (nI : Int)) = true := decide_eq_true (by omega)
      have d2 : decide ((i : Int) < 300) = false := decide_eq_false (by omega)
      have n2 : ¬ i < 300 := by omega
      clear hgo
      have bs_ := BS.out.c2
      go_wp2
      clear bs_
      obtain ⟨wo, rfl⟩ : ∃ wo : World, wo = wr := ⟨_, rfl⟩
      go_loopw [3, 5] (fun s3 s5 wr => ∃ (j : Nat) (n : Int), j ≤ 100 ∧ s5 = .int .i64 (j : Int) ∧ s3 = .int .i64 n ∧ HasBlk wr w.heap.size 25 #[.slice Ai nI ci, .slice Ax nX cx] ∧ Below w.heap.size w wr) (fun s3 s5 wr => 100 - (intOf s5).toNat)
      case atStart => exact ⟨0, n, Nat.zero_le _, rfl, rfl, BS.out, HB.out⟩
      case round =>
        clear BS HB
        obtain ⟨j, n, hj, rfl, rfl, qBS, qHB⟩ := hrel
        have BS := Lib.hid qBS
        have HB := Lib.hid qHB
        clear qBS qHB
        by_cases hgo : j < nX ∧ j < 100
        · have d1 : decide ((j : Int) < (nX : Int)) = true := decide_eq_true (by omega)
          have d2 : decide ((j : Int) < 100) = true := decide_eq_true (by omega)
          have i1 : (j : Int) < (nX : Int) := by omega
          have i0 : (0 : Int) ≤ (j : Int) := by omega
          obtain ⟨tx, htx⟩ : ∃ t, X[j]? = some t := ⟨_, List.getElem?_eq_getElem (by rw [← HNX.out]; exact hgo.1)⟩
          obtain ⟨g, o, hA, hg, hc⟩ := HR.out.2.2.below HB.out (by show 0 < X.length; rw [← HNX.out]; omega)
          dsimp only at hA
          subst hA
          have c2 := hc j tx htx 2 _ rfl
          clear hc htx
          have bs_ := BS.out.c2
          go_wp2
          clear bs_
          clear d1 d2
          go_roundw
          case rel => exact ⟨j + 1, _, by omega, by go_num, rfl, BS.out, HB.out⟩
          case measure => simp [intOf]; omega
        by_cases h1 : j < nX
        · have d1 : decide ((j : Int) < (nX : Int)) = true := decide_eq_true (by omega)
          have d2 : decide ((j : Int) < 100) = false := decide_eq_false (by omega)
          have n2 : ¬ j < 100 := by omega
          clear hgo
          by_cases f1 : 100 < nI
          · have k1 : decide ((100 : Int) < (nI : Int)) = true := decide_eq_true (by omega)
            have bs_ := BS.out.c2
            go_wp2
            go_ret
            exact ⟨⟨_, rfl⟩, HB.out⟩
          exact absurd (by omega) f1
        have d1 : decide ((j : Int) < (nX : Int)) = false := decide_eq_false (by omega)
        clear hgo
        by_cases f1 : 100 < nI
        · have k1 : decide ((100 : Int) < (nI : Int)) = true := decide_eq_true (by omega)
          have bs_ := BS.out.c2
          go_wp2
          go_ret
          exact ⟨⟨_, rfl⟩, HB.out⟩
        exact absurd (by omega) f1
    have d1 : decide ((i : Int) < (nI : Int)) = false := decide_eq_false (by omega)
    clear hgo
    have bs_ := BS.out.c2
    go_wp2
    clear bs_
    obtain ⟨wo, rfl⟩ : ∃ wo : World, wo = wr := ⟨_, rfl⟩
    go_loopw [3, 5] (fun s3 s5 wr => ∃ (j : Nat) (n : Int), j ≤ 100 ∧ s5 = .int .i64 (j : Int) ∧ s3 = .int .i64 n ∧ HasBlk wr w.heap.size 25 #[.slice Ai nI ci, .slice Ax nX cx] ∧ Below w.heap.size w wr) (fun s3 s5 wr => 100 - (intOf s5).toNat)
    case atStart => exact ⟨0, n, Nat.zero_le _, rfl, rfl, BS.out, HB.out⟩
    case round =>
      clear BS HB
      obtain ⟨j, n, hj, rfl, rfl, qBS, qHB⟩ := hrel
      have BS := Lib.hid qBS
      have HB := Lib.hid qHB
      clear qBS qHB
      by_cases hgo : j < nX ∧ j < 100
      · have d1 : decide ((j : Int) < (nX : Int)) = true := decide_eq_true (by omega)
        have d2 : decide ((j : Int) < 100) = true := decide_eq_true (by omega)
        have i1 : (j : Int) < (nX : Int) := by omega
        have i0 : (0 : Int) ≤ (j : Int) := by omega
        obtain ⟨tx, htx⟩ : ∃ t, X[j]? = some t := ⟨_, List.getElem?_eq_getElem (by rw [← HNX.out]; exact hgo.1)⟩
        obtain ⟨g, o, hA, hg, hc⟩ := HR.out.2.2.below HB.out (by show 0 < X.length; rw [← HNX.out]; omega)
        dsimp only at hA
        subst hA
        have c2 := hc j tx htx 2 _ rfl
        clear hc htx
        have bs_ := BS.out.c2
        go_wp2
        clear bs_
        clear d1 d2
        go_roundw
        case rel => exact ⟨j + 1, _, by omega, by go_num, rfl, BS.out, HB.out⟩
        case measure => simp [intOf]; omega
      by_cases h1 : j < nX
      · have d1 : decide ((j : Int) < (nX : Int)) = true := decide_eq_true (by omega)
        have d2 : decide ((j : Int) < 100) = false := decide_eq_false (by omega)
        have n2 : ¬ j < 100 := by omega
        clear hgo
        by_cases f1 : 100 < nI
        · have k1 : decide ((100 : Int) < (nI : Int)) = true := decide_eq_true (by omega)
          have bs_ := BS.out.c2
          go_wp2
          go_ret
          exact ⟨⟨_, rfl⟩, HB.out⟩
        have k1 : decide ((100 : Int) < (nI : Int)) = false := decide_eq_false (by omega)
        by_cases f2 : 600 < n
        · have k2 : decide ((600 : Int) < n) = true := decide_eq_true f2
          have bs_ := BS.out.c2
          go_wp2
          go_ret
          exact ⟨⟨_, rfl⟩, HB.out⟩
        have k2 : decide ((600 : Int) < n) = false := decide_eq_false f2
        have bs_ := BS.out.c2
        go_wp2
        go_ret
        exact ⟨⟨_, rfl⟩, HB.out⟩
      have d1 : decide ((j : Int) < (nX : Int)) = false := decide_eq_false (by omega)
      clear hgo
      by_cases f1 : 100 < nI
      · have k1 : decide ((100 : Int) < (nI : Int)) = true := decide_eq_true (by omega)
        have bs_ := BS.out.c2
        go_wp2
        go_ret
        exact ⟨⟨_, rfl⟩, HB.out⟩
      have k1 : decide ((100 : Int) < (nI : Int)) = false := decide_eq_false (by omega)
      by_cases f2 : 600 < n
      · have k2 : decide ((600 : Int) < n) = true := decide_eq_true f2
        have bs_ := BS.out.c2
        go_wp2
        go_ret
        exact ⟨⟨_, rfl⟩, HB.out⟩
      have k2 : decide ((600 : Int) < n) = false := decide_eq_false f2
      have bs_ := BS.out.c2
      go_wp2
      go_ret
      exact ⟨⟨_, rfl⟩, HB.out⟩
end Go.Proofs.YtemopgpcpjnmkaaDoor
