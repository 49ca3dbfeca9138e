/- sched: Step. -/
import Derived.Test.YtdilfcpgjkkjmaaS8
import Derived.Deep.RegionWith
namespace Go.Proofs.Ytdilfcpgjkkjmaa
open Go.RowKit
set_option linter.unusedVariables false
theorem begin_at (g : Nat) (p : SP) (s : SD) (x : Int) (k B : Nat) (w : World) (hx : x = k) (hg : HasBlk w g 63 #[.slice p.a s.np p.ka, .int .i64 s.p, .int .i64 s.n, .slice p.b s.nb p.kb, .int .i64 s.d]) (ho : w.ownsRow B 3 1 (.slice p.a s.np p.ka) s.np (cellsR 1 (ivR s.ph) s.np)) (hk : k ≤ s.np) (hn : s.np ≤ 16) :
    Calls Try.prog 27 #[.pointer (some ⟨g, 0, none⟩), .int .i64 x] w fun e w' => e = .returned (.tuple #[]) ∧ BeginR g p s k w w' := by
  subst hx
  exact begin_any g p s k B w hg ho hk hn
set_option maxRecDepth 100000 in
set_option maxHeartbeats 8000000 in
theorem step_any (p : SP) (s : SD) (worker : Int) (w : World) (h : SOk w p s) :
    Calls Try.prog 10 #[.agg #[.slice p.a s.np p.ka, .int .i64 s.p, .int .i64 s.n, .slice p.b s.nb p.kb, .int .i64 s.d], .int .i64 worker] w fun e w' => StR s worker w.heap.size e w' ∧ Below w.heap.size w w' := by
  have hc := Lib.hid (fun W (hb : Below w.heap.size w W) => check_any p s W (h.below hb))
  have HBx := Lib.hid (And.intro (show Below w.heap.size w ((w.alloc (.cells #[.slice p.a s.np p.ka, .int .i64 s.p, .int .i64 s.n, .slice p.b s.nb p.kb, .int .i64 s.d] 25)).alloc (.cells #[.slice none 0 0, .int .i64 0, .int .i64 0, .slice none 0 0, .int .i64 0] 25)) by repeat' (first | exact Below.refl _ _ | assumption | apply Below.drew | refine Below.setCell ?_ (by first | omega | (simp; done) | (simp; omega)) _ | refine Below.alloc ?_ (by first | omega | (simp; done) | (simp; omega)) _)) (And.intro ((hasBlk_new w 25 #[.slice p.a s.np p.ka, .int .i64 s.p, .int .i64 s.n, .slice p.b s.nb p.kb, .int .i64 s.d]).alloc (.cells #[.slice none 0 0, .int .i64 0, .int .i64 0, .slice none 0 0, .int .i64 0] 25)) (show HasBlk ((w.alloc (.cells #[.slice p.a s.np p.ka, .int .i64 s.p, .int .i64 s.n, .slice p.b s.nb p.kb, .int .i64 s.d] 25)).alloc (.cells #[.slice none 0 0, .int .i64 0, .int .i64 0, .slice none 0 0, .int .i64 0] 25)) (w.heap.size + 1) 25 #[.slice none 0 0, .int .i64 0, .int .i64 0, .slice none 0 0, .int .i64 0] by simpa using hasBlk_new (w.alloc (.cells #[.slice p.a s.np p.ka, .int .i64 s.p, .int .i64 s.n, .slice p.b s.nb p.kb, .int .i64 s.d] 25)) 25 #[.slice none 0 0, .int .i64 0, .int .i64 0, .slice none 0 0, .int .i64 0])))
  have HS := Lib.hid h
  clear h
  go_enter Try.func10, Try.ntmps10
  go_wp2_with fail
  refine (hc.out _ HBx.out.1).mono ?_
  rintro e w1 ⟨rfl, bel1⟩
  have HB := Lib.hid (HBx.out.1.trans (bel1.mono HBx.out.1.size))
  have HP := Lib.hid (HBx.out.2.1.below bel1)
  have HR := Lib.hid (HBx.out.2.2.below bel1)
  clear bel1 hc
  have ltP := HP.out.lt
  have P_0 := HP.out.cell 0
  have P_1 := HP.out.cell 1
  have P_2 := HP.out.cell 2
  have P_3 := HP.out.cell 3
  have P_4 := HP.out.cell 4
  simp at P_0 P_1 P_2 P_3 P_4
  have ltR := HR.out.lt
  have R_0 := HR.out.cell 0
  have R_1 := HR.out.cell 1
  have R_2 := HR.out.cell 2
  have R_3 := HR.out.cell 3
  have R_4 := HR.out.cell 4
  have Rf0 := HR.out.frozen 0
  have Rf1 := HR.out.frozen 1
  have Rf2 := HR.out.frozen 2
  have Rf3 := HR.out.frozen 3
  have Rf4 := HR.out.frozen 4
  simp at R_0 R_1 R_2 R_3 R_4
  by_cases hm : s.May
  rotate_left
  · have Hm := Lib.hid hm
    rw [mayv_no hm]
    clear hm
    go_wp2
    refine bodyPost_ret (v := .tuple #[.agg #[.slice none 0 0, .int .i64 0, .int .i64 0, .slice none 0 0, .int .i64 0], .int .i64 0, .int .i64 0, .int .i64 8]) (by simp [results, Try.results10, go_sem, *]) rfl ⟨⟨⟨none, 0, none, 0⟩, SD0, 0, 0, 8, rfl, .inl ⟨Hm.out, rfl, rfl, rfl, rfl⟩, own_zero _ _⟩, ?_⟩
    exact (Below.setCell (p := ⟨w.heap.size + 1, 4, none⟩) (Below.setCell (p := ⟨w.heap.size + 1, 3, none⟩) (Below.setCell (p := ⟨w.heap.size + 1, 2, none⟩) (Below.setCell (p := ⟨w.heap.size + 1, 1, none⟩) (Below.setCell (p := ⟨w.heap.size + 1, 0, none⟩) HB.out (show w.heap.size ≤ w.heap.size + 1 by omega) (.slice none 0 0)) (show w.heap.size ≤ w.heap.size + 1 by omega) (.int .i64 0)) (show w.heap.size ≤ w.heap.size + 1 by omega) (.int .i64 0)) (show w.heap.size ≤ w.heap.size + 1 by omega) (.slice none 0 0)) (show w.heap.size ≤ w.heap.size + 1 by omega) (.int .i64 0))
  have Hm := Lib.hid hm
  rw [mayv_yes hm]
  clear hm
  -- the pool's box
  have hq0 := hasBlk_new w1 63 #[.slice p.a s.np p.ka, .int .i64 s.p, .int .i64 s.n, .slice p.b s.nb p.kb, .int .i64 s.d]
  have hp0' := HP.out.alloc (.cells #[.slice p.a s.np p.ka, .int .i64 s.p, .int .i64 s.n, .slice p.b s.nb p.kb, .int .i64 s.d] 63)
  have hr0 := HR.out.alloc (.cells #[.slice p.a s.np p.ka, .int .i64 s.p, .int .i64 s.n, .slice p.b s.nb p.kb, .int .i64 s.d] 63)
  have hb0 := HB.out.alloc HB.out.size (.cells #[.slice p.a s.np p.ka, .int .i64 s.p, .int .i64 s.n, .slice p.b s.nb p.kb, .int .i64 s.d] 63)
  have hszw := HP.out.lt
  have hszr := HR.out.lt
  have neQP : w1.heap.size ≠ w.heap.size := by omega
  have neQR : w1.heap.size ≠ w.heap.size + 1 := by omega
  have neRQ : w.heap.size + 1 ≠ w1.heap.size := by omega
  go_upto_region 5 with fail
  clear ltP P_0 P_1 P_2 P_3 P_4
  clear ltR R_0 R_1 R_2 R_3 R_4 Rf0 Rf1 Rf2 Rf3 Rf4
  clear hszw hszr
  generalize w1.alloc (.cells #[.slice p.a s.np p.ka, .int .i64 s.p, .int .i64 s.n, .slice p.b s.nb p.kb, .int .i64 s.d] 63) = v0 at *
  have HQ0 := Lib.hid hq0
  have HR0 := Lib.hid hr0
  have HB0 := Lib.hid hb0
  clear hq0 hp0' hr0 hb0 HP HR
  have ltQ := HQ0.out.lt
  have Q_0 := HQ0.out.cell 0
  have Q_1 := HQ0.out.cell 1
  have Q_2 := HQ0.out.cell 2
  have Q_3 := HQ0.out.cell 3
  have Q_4 := HQ0.out.cell 4
  simp at Q_0 Q_1 Q_2 Q_3 Q_4
  have ltR := HR0.out.lt
  have R_0 := HR0.out.cell 0
  have R_1 := HR0.out.cell 1
  have R_2 := HR0.out.cell 2
  have R_3 := HR0.out.cell 3
  have R_4 := HR0.out.cell 4
  have Rf0 := HR0.out.frozen 0
  have Rf1 := HR0.out.frozen 1
  have Rf2 := HR0.out.frozen 2
  have Rf3 := HR0.out.frozen 3
  have Rf4 := HR0.out.frozen 4
  simp at R_0 R_1 R_2 R_3 R_4
  by_cases hw0 : worker < 0
  · have g0 : decide (worker < 0) = true := decide_eq_true hw0
    have Hw := Lib.hid hw0
    clear hw0
    go_wp2
    refine bodyPost_ret (v := .tuple #[.agg #[.slice none 0 0, .int .i64 0, .int .i64 0, .slice none 0 0, .int .i64 0], .int .i64 0, .int .i64 0, .int .i64 2]) (by simp [results, Try.results10, go_sem, *]) rfl ⟨⟨⟨none, 0, none, 0⟩, SD0, 0, 0, 2, rfl, .inr (.inl ⟨Hm.out, .inl Hw.out, rfl, rfl, rfl, rfl⟩), own_zero _ _⟩, ?_⟩
    exact (Below.setCell (p := ⟨w.heap.size + 1, 4, none⟩) (Below.setCell (p := ⟨w.heap.size + 1, 3, none⟩) (Below.setCell (p := ⟨w.heap.size + 1, 2, none⟩) (Below.setCell (p := ⟨w.heap.size + 1, 1, none⟩) (Below.setCell (p := ⟨w.heap.size + 1, 0, none⟩) HB0.out (show w.heap.size ≤ w.heap.size + 1 by omega) (.slice none 0 0)) (show w.heap.size ≤ w.heap.size + 1 by omega) (.int .i64 0)) (show w.heap.size ≤ w.heap.size + 1 by omega) (.int .i64 0)) (show w.heap.size ≤ w.heap.size + 1 by omega) (.slice none 0 0)) (show w.heap.size ≤ w.heap.size + 1 by omega) (.int .i64 0))
  have g0 : decide (worker < 0) = false := decide_eq_false hw0
  by_cases hw1 : (s.nb : Int) ≤ worker
  · have g1 : decide ((s.nb : Int) ≤ worker) = true := decide_eq_true hw1
    have Hw := Lib.hid hw1
    clear hw0 hw1
    go_wp2
    refine bodyPost_ret (v := .tuple #[.agg #[.slice none 0 0, .int .i64 0, .int .i64 0, .slice none 0 0, .int .i64 0], .int .i64 0, .int .i64 0, .int .i64 2]) (by simp [results, Try.results10, go_sem, *]) rfl ⟨⟨⟨none, 0, none, 0⟩, SD0, 0, 0, 2, rfl, .inr (.inl ⟨Hm.out, .inr Hw.out, rfl, rfl, rfl, rfl⟩), own_zero _ _⟩, ?_⟩
    exact (Below.setCell (p := ⟨w.heap.size + 1, 4, none⟩) (Below.setCell (p := ⟨w.heap.size + 1, 3, none⟩) (Below.setCell (p := ⟨w.heap.size + 1, 2, none⟩) (Below.setCell (p := ⟨w.heap.size + 1, 1, none⟩) (Below.setCell (p := ⟨w.heap.size + 1, 0, none⟩) HB0.out (show w.heap.size ≤ w.heap.size + 1 by omega) (.slice none 0 0)) (show w.heap.size ≤ w.heap.size + 1 by omega) (.int .i64 0)) (show w.heap.size ≤ w.heap.size + 1 by omega) (.int .i64 0)) (show w.heap.size ≤ w.heap.size + 1 by omega) (.slice none 0 0)) (show w.heap.size ≤ w.heap.size + 1 by omega) (.int .i64 0))
  obtain ⟨k, hk⟩ : ∃ k : Nat, worker = k := ⟨worker.toNat, by omega⟩
  subst hk
  have g1 : decide ((s.nb : Int) ≤ (k : Int)) = false := decide_eq_false hw1
  have hkn : k < s.nb := by omega
  obtain ⟨hph, hn16, hb1, hb64, ⟨pn, hq, hqn⟩, hn0, hnt, hbz, hd, hx⟩ := Hm.out.parts
  have htb := Hm.out.tasks_bd
  have hwk := wk_le s.bz s.nb
  have ht1 : s.tasks ≤ 16384 := htb.2
  have hp0 : 0 ≤ s.p := by omega
  have hp1 : s.p ≤ (s.np : Int) := by omega
  have hd0 : s.d ≤ 16384 := by omega
  have hd1 : -64 ≤ s.d := by omega
  have hbk := hbz k hkn
  have hbk0 : -1 ≤ s.bz k := hbk.1
  have hbk1 : s.bz k < s.n := hbk.2
  have Hq := Lib.hid hq
  clear hw0 hw1 hph hbz hd hx htb hbk hq
  go_wp2_with fail
  refine (can_any p s k _ (HS.out.below HB0.out) hkn (by omega) hp0 hp1).mono ?_
  rintro e w2 ⟨rfl, bel2⟩
  have HB2 := Lib.hid (HB0.out.trans (bel2.mono HB0.out.size))
  have HQ2 := Lib.hid (HQ0.out.below bel2)
  have HR2 := Lib.hid (HR0.out.below bel2)
  clear ltQ Q_0 Q_1 Q_2 Q_3 Q_4
  clear ltR R_0 R_1 R_2 R_3 R_4 Rf0 Rf1 Rf2 Rf3 Rf4
  clear bel2 HQ0 HR0
  have ltQ := HQ2.out.lt
  have Q_0 := HQ2.out.cell 0
  have Q_1 := HQ2.out.cell 1
  have Q_2 := HQ2.out.cell 2
  have Q_3 := HQ2.out.cell 3
  have Q_4 := HQ2.out.cell 4
  simp at Q_0 Q_1 Q_2 Q_3 Q_4
  have ltR := HR2.out.lt
  have R_0 := HR2.out.cell 0
  have R_1 := HR2.out.cell 1
  have R_2 := HR2.out.cell 2
  have R_3 := HR2.out.cell 3
  have R_4 := HR2.out.cell 4
  have Rf0 := HR2.out.frozen 0
  have Rf1 := HR2.out.frozen 1
  have Rf2 := HR2.out.frozen 2
  have Rf3 := HR2.out.frozen 3
  have Rf4 := HR2.out.frozen 4
  simp at R_0 R_1 R_2 R_3 R_4
  cases hcan : s.can k with
  | false =>
    have Hc := Lib.hid hcan
    clear hcan
    go_wp2
    refine bodyPost_ret (v := .tuple #[.agg #[.slice none 0 0, .int .i64 0, .int .i64 0, .slice none 0 0, .int .i64 0], .int .i64 0, .int .i64 0, .int .i64 6]) (by simp [results, Try.results10, go_sem, *]) rfl ⟨⟨⟨none, 0, none, 0⟩, SD0, 0, 0, 6, rfl, .inr (.inr ⟨Hm.out, k, rfl, hkn, .inl ⟨Hc.out, rfl, rfl, rfl, rfl⟩⟩), own_zero _ _⟩, ?_⟩
    exact (Below.setCell (p := ⟨w.heap.size + 1, 4, none⟩) (Below.setCell (p := ⟨w.heap.size + 1, 3, none⟩) (Below.setCell (p := ⟨w.heap.size + 1, 2, none⟩) (Below.setCell (p := ⟨w.heap.size + 1, 1, none⟩) (Below.setCell (p := ⟨w.heap.size + 1, 0, none⟩) HB2.out (show w.heap.size ≤ w.heap.size + 1 by omega) (.slice none 0 0)) (show w.heap.size ≤ w.heap.size + 1 by omega) (.int .i64 0)) (show w.heap.size ≤ w.heap.size + 1 by omega) (.int .i64 0)) (show w.heap.size ≤ w.heap.size + 1 by omega) (.slice none 0 0)) (show w.heap.size ≤ w.heap.size + 1 by omega) (.int .i64 0))
  | true =>
    have Hc := Lib.hid hcan
    clear hcan
    clear ltR R_0 R_1 R_2 R_3 R_4 Rf0 Rf1 Rf2 Rf3 Rf4
    go_upto_region 9 with fail
    have hQw := HQ2.out.drew
    have hbw := HB2.out.drew
    have hszq := HQ2.out.lt
    have KA := Lib.hid (fun W' (h : Below w2.heap.size w2 W') => cloneInt p.a s.np p.ka (ivR s.ph) W' (is_row ((HS.out.1.below HB2.out).below h)) (fun _ _ => rfl) (by omega))
    have KB := Lib.hid (fun W' (h : Below w2.heap.size w2 W') => cloneInt p.b s.nb p.kb (ivR s.bz) W' (is_row ((HS.out.2.below HB2.out).below h)) (fun _ _ => rfl) (by omega))
    go_cut [9] from 39 to 58 (fun s9 wx => s9 = .pointer (some ⟨w1.heap.size, 0, none⟩) ∧ ∃ q : SP, (∀ g cs t, t ≠ 63 → HasBlk w2 g t cs → HasBlk wx g t cs) ∧ HasBlk wx w1.heap.size 63 #[.slice q.a s.np q.ka, .int .i64 s.p, .int .i64 s.n, .slice q.b s.nb q.kb, .int .i64 s.d] ∧ SOwn2 w2.heap.size wx q s ∧ Below w.heap.size w wx)
    case first =>
      clear HS
      go_region_with ((first | (go_at_call 25; ((with_reducible refine (KA.out _ ?_).mono ?_); (first | with_reducible exact BLb.out | exact (Below.refl w2.heap.size w2).drew); rintro e wa ⟨⟨Aa, da, rfl, ho⟩, hbel⟩; have Oa := Lib.hid ho; clear ho; (first | (have QBa := Lib.hid (QBb.out.below hbel); have BLa := Lib.hid (BLb.out.trans (hbel.mono BLb.out.size)); have Ob' := Lib.hid (own_below Ob.out hbel); have La := Lib.hid (fun g hg => (Ob.out.lt g hg).2)) | (have QBa := Lib.hid (hQw.below hbel); have BLa := Lib.hid ((Below.refl w2.heap.size w2).drew.trans hbel))); clear hbel; have ca0 := QBa.out.cell 0; have ca1 := QBa.out.cell 1; have ca2 := QBa.out.cell 2; have ca3 := QBa.out.cell 3; have ca4 := QBa.out.cell 4; have fa0 := QBa.out.frozen 0; have fa3 := QBa.out.frozen 3; simp at ca0 ca1 ca2 ca3 ca4)) | (go_at_call 25; ((with_reducible refine (KB.out _ ?_).mono ?_); (first | with_reducible exact BLa.out | exact (Below.refl w2.heap.size w2).drew); rintro e wb ⟨⟨Ab, db, rfl, ho⟩, hbel⟩; have Ob := Lib.hid ho; clear ho; (first | (have QBb := Lib.hid (QBa.out.below hbel); have BLb := Lib.hid (BLa.out.trans (hbel.mono BLa.out.size)); have Oa' := Lib.hid (own_below Oa.out hbel); have Lb := Lib.hid (fun g hg => (Oa.out.lt g hg).2)) | (have QBb := Lib.hid (hQw.below hbel); have BLb := Lib.hid ((Below.refl w2.heap.size w2).drew.trans hbel))); clear hbel; have cb0 := QBb.out.cell 0; have cb1 := QBb.out.cell 1; have cb2 := QBb.out.cell 2; have cb3 := QBb.out.cell 3; have cb4 := QBb.out.cell 4; have fb0 := QBb.out.frozen 0; have fb3 := QBb.out.frozen 3; simp at cb0 cb1 cb2 cb3 cb4))))
      all_goals (go_wp2_with fail; go_meet; first | ((have _ := Ob'; have z1 := BLb.out.size; have z2 := BLa.out.size; have z3 := QBa.out.lt; exact ⟨rfl, ⟨Aa, da, Ab, db⟩, (fun g cs t ht hg => by have hne : w1.heap.size ≠ g := fun e => (by subst e; have h1 : w2.heap[w1.heap.size]? = some (.cells _ 63 (0, 0)) := HQ2.out; have h2 : w2.heap[w1.heap.size]? = some (.cells cs t (0, 0)) := hg; rw [h1] at h2; injection h2 with h2; injection h2 with _ h2; exact ht h2.symm); exact (HasBlk.far (p := ⟨w1.heap.size, 3, none⟩) (HasBlk.far (p := ⟨w1.heap.size, 0, none⟩) (hg.below BLa.out) hne _) hne _)), (by have := (HasBlk.set (HasBlk.set QBa.out 0 (.slice Aa s.np da)) 3 (.slice Ab s.nb db)); simpa using this), ⟨⟨own_base (ownsRow_setCell_other (a := ⟨w1.heap.size, 3, none⟩) (ownsRow_setCell_other (a := ⟨w1.heap.size, 0, none⟩) Oa.out (by have := (QBa.out).ne_own Oa.out (by decide); simpa using this) (.slice Aa s.np da)) (by have := ((HasBlk.set QBa.out 0 (.slice Aa s.np da))).ne_own (ownsRow_setCell_other (a := ⟨w1.heap.size, 0, none⟩) Oa.out (by have := (QBa.out).ne_own Oa.out (by decide); simpa using this) (.slice Aa s.np da)) (by decide); simpa using this) (.slice Ab s.nb db)) (by first | exact Nat.le_refl _ | exact z1 | exact z2 | omega), own_base (ownsRow_setCell_other (a := ⟨w1.heap.size, 3, none⟩) (ownsRow_setCell_other (a := ⟨w1.heap.size, 0, none⟩) Ob'.out (by have := (QBa.out).ne_own Ob'.out (by decide); simpa using this) (.slice Aa s.np da)) (by have := ((HasBlk.set QBa.out 0 (.slice Aa s.np da))).ne_own (ownsRow_setCell_other (a := ⟨w1.heap.size, 0, none⟩) Ob'.out (by have := (QBa.out).ne_own Ob'.out (by decide); simpa using this) (.slice Aa s.np da)) (by decide); simpa using this) (.slice Ab s.nb db)) (by first | exact Nat.le_refl _ | exact z1 | exact z2 | omega)⟩, (fun g h1 h2 => by have a := La.out g h1; have b := (Oa.out.lt g h2).1; omega)⟩, (Below.setCell (p := ⟨w1.heap.size, 3, none⟩) (Below.setCell (p := ⟨w1.heap.size, 0, none⟩) (HB2.out.trans (BLa.out.mono HB2.out.size)) (show w.heap.size ≤ w1.heap.size from HB.out.size) (.slice Aa s.np da)) (show w.heap.size ≤ w1.heap.size from HB.out.size) (.slice Ab s.nb db))⟩)) | ((have _ := Oa'; have z1 := BLa.out.size; have z2 := BLb.out.size; have z3 := QBb.out.lt; exact ⟨rfl, ⟨Aa, da, Ab, db⟩, (fun g cs t ht hg => by have hne : w1.heap.size ≠ g := fun e => (by subst e; have h1 : w2.heap[w1.heap.size]? = some (.cells _ 63 (0, 0)) := HQ2.out; have h2 : w2.heap[w1.heap.size]? = some (.cells cs t (0, 0)) := hg; rw [h1] at h2; injection h2 with h2; injection h2 with _ h2; exact ht h2.symm); exact (HasBlk.far (p := ⟨w1.heap.size, 3, none⟩) (HasBlk.far (p := ⟨w1.heap.size, 0, none⟩) (hg.below BLb.out) hne _) hne _)), (by have := (HasBlk.set (HasBlk.set QBb.out 0 (.slice Aa s.np da)) 3 (.slice Ab s.nb db)); simpa using this), ⟨⟨own_base (ownsRow_setCell_other (a := ⟨w1.heap.size, 3, none⟩) (ownsRow_setCell_other (a := ⟨w1.heap.size, 0, none⟩) Oa'.out (by have := (QBb.out).ne_own Oa'.out (by decide); simpa using this) (.slice Aa s.np da)) (by have := ((HasBlk.set QBb.out 0 (.slice Aa s.np da))).ne_own (ownsRow_setCell_other (a := ⟨w1.heap.size, 0, none⟩) Oa'.out (by have := (QBb.out).ne_own Oa'.out (by decide); simpa using this) (.slice Aa s.np da)) (by decide); simpa using this) (.slice Ab s.nb db)) (by first | exact Nat.le_refl _ | exact z1 | exact z2 | omega), own_base (ownsRow_setCell_other (a := ⟨w1.heap.size, 3, none⟩) (ownsRow_setCell_other (a := ⟨w1.heap.size, 0, none⟩) Ob.out (by have := (QBb.out).ne_own Ob.out (by decide); simpa using this) (.slice Aa s.np da)) (by have := ((HasBlk.set QBb.out 0 (.slice Aa s.np da))).ne_own (ownsRow_setCell_other (a := ⟨w1.heap.size, 0, none⟩) Ob.out (by have := (QBb.out).ne_own Ob.out (by decide); simpa using this) (.slice Aa s.np da)) (by decide); simpa using this) (.slice Ab s.nb db)) (by first | exact Nat.le_refl _ | exact z1 | exact z2 | omega)⟩, (fun g h1 h2 => by have a := Lb.out g h2; have b := (Ob.out.lt g h1).1; omega)⟩, (Below.setCell (p := ⟨w1.heap.size, 3, none⟩) (Below.setCell (p := ⟨w1.heap.size, 0, none⟩) (HB2.out.trans (BLb.out.mono HB2.out.size)) (show w.heap.size ≤ w1.heap.size from HB.out.size) (.slice Aa s.np da)) (show w.heap.size ≤ w1.heap.size from HB.out.size) (.slice Ab s.nb db))⟩)))
    case rest =>
    obtain ⟨w3, rfl⟩ : ∃ w3 : World, w3 = wc := ⟨wc, rfl⟩
    obtain ⟨rfl, q, hkb, hqo, how, hbl⟩ := hcut
    have hro := hkb _ _ _ (by decide) HR2.out
    have hown := how.base HB2.out.size
    have HOw := Lib.hid hown
    have HO := Lib.hid hqo
    have HR := Lib.hid hro
    have HB9 := Lib.hid hbl
    clear ltQ Q_0 Q_1 Q_2 Q_3 Q_4
    clear hkb hQw hbw hszq KA KB how hbl HQ2 HR2
    obtain ⟨gb, hqb, hgB, hgl, hgc, hgf, hgn⟩ := hown.wit (by omega)
    have neG1 := hgn _ _ _ hqo (by decide)
    have neG3 := hgn _ _ _ hro (by decide)
    have ck := hgc k hkn
    have fk := hgf k
    have HQB := Lib.hid hqb
    have HGB := Lib.hid hgB
    have hi0 : (0 : Int) ≤ (k : Int) := by omega
    have hi1 : (k : Int) < (s.nb : Int) := by omega
    clear hgc hgf hgn hqb hgB hown hqo hro
    have ltO := HO.out.lt
    have O_0 := HO.out.cell 0
    have O_1 := HO.out.cell 1
    have O_2 := HO.out.cell 2
    have O_3 := HO.out.cell 3
    have O_4 := HO.out.cell 4
    have Of0 := HO.out.frozen 0
    have Of1 := HO.out.frozen 1
    have Of2 := HO.out.frozen 2
    have Of3 := HO.out.frozen 3
    have Of4 := HO.out.frozen 4
    simp at O_0 O_1 O_2 O_3 O_4
    rw [HQB.out] at O_3
    by_cases hb : s.bz k < 0
    · have g2 : decide (s.bz k < 0) = true := decide_eq_true hb
      have Hb := Lib.hid hb
      clear hb
      go_upto_region 12 with fail
      go_still_tail 12, (by kernel_rfl)
      change wpList _ _ _ _ _ w3.drew
      go_upto_region 13 with fail
      have ho1 := (HOw.out.busy HQB.out hkn s.n s.p (s.n + 1) s.d).below (Below.refl _ _).drew
      have hr1 := (HR.out.far (p := ⟨gb, k, none⟩) neG3 (.int .i64 s.n)).drew
      have hO1 := (HO.out.far (p := ⟨gb, k, none⟩) neG1 (.int .i64 s.n)).drew
      have hB1 := (HB9.out.setCell (p := ⟨gb, k, none⟩) HGB.out (.int .i64 s.n)).drew
      clear ltO O_0 O_1 O_2 O_3 O_4 Of0 Of1 Of2 Of3 Of4
      clear ck fk hgl
      generalize (w3.setCell ⟨gb, k, none⟩ (.int .i64 s.n)).drew = v1 at *
      have HOw1 := Lib.hid ho1
      have HR1 := Lib.hid hr1
      have HO1 := Lib.hid hO1
      have HB1 := Lib.hid hB1
      clear ho1 hr1 hO1 hB1
      have ltO := HO1.out.lt
      have O_0 := HO1.out.cell 0
      have O_1 := HO1.out.cell 1
      have O_2 := HO1.out.cell 2
      have O_3 := HO1.out.cell 3
      have O_4 := HO1.out.cell 4
      have Of0 := HO1.out.frozen 0
      have Of1 := HO1.out.frozen 1
      have Of2 := HO1.out.frozen 2
      have Of3 := HO1.out.frozen 3
      have Of4 := HO1.out.frozen 4
      simp at O_0 O_1 O_2 O_3 O_4
      go_upto_region 14 with fail
      have ho2 := HOw1.out.far HO1.out (by decide) 2 (.int .i64 (s.n + 1))
      have hO2 := HO1.out.set 2 (.int .i64 (s.n + 1))
      have hr2 := HR1.out.far (p := ⟨w1.heap.size, 2, none⟩) neQR (.int .i64 (s.n + 1))
      have hB2 := HB1.out.setCell (p := ⟨w1.heap.size, 2, none⟩) (show w.heap.size ≤ w1.heap.size from HB.out.size) (.int .i64 (s.n + 1))
      simp only [List.setIfInBounds_toArray, List.set_cons_zero, List.set_cons_succ] at hO2
      clear ltO O_0 O_1 O_2 O_3 O_4 Of0 Of1 Of2 Of3 Of4
      generalize v1.setCell ⟨w1.heap.size, 2, none⟩ (.int .i64 (s.n + 1)) = v2 at *
      have HOw2 := Lib.hid ho2
      have HR2 := Lib.hid hr2
      have HO2 := Lib.hid hO2
      have HBz := Lib.hid hB2
      clear ho2 hO2 hr2 hB2
      have ltO := HO2.out.lt
      have O_0 := HO2.out.cell 0
      have O_1 := HO2.out.cell 1
      have O_2 := HO2.out.cell 2
      have O_3 := HO2.out.cell 3
      have O_4 := HO2.out.cell 4
      have Of0 := HO2.out.frozen 0
      have Of1 := HO2.out.frozen 1
      have Of2 := HO2.out.frozen 2
      have Of3 := HO2.out.frozen 3
      have Of4 := HO2.out.frozen 4
      simp at O_0 O_1 O_2 O_3 O_4
      have ltR := HR2.out.lt
      have R_0 := HR2.out.cell 0
      have R_1 := HR2.out.cell 1
      have R_2 := HR2.out.cell 2
      have R_3 := HR2.out.cell 3
      have R_4 := HR2.out.cell 4
      have Rf0 := HR2.out.frozen 0
      have Rf1 := HR2.out.frozen 1
      have Rf2 := HR2.out.frozen 2
      have Rf3 := HR2.out.frozen 3
      have Rf4 := HR2.out.frozen 4
      simp at R_0 R_1 R_2 R_3 R_4
      go_wp2
      refine bodyPost_ret (v := .tuple #[.agg #[.slice q.a s.np q.ka, .int .i64 s.p, .int .i64 (s.n + 1), .slice q.b s.nb q.kb, .int .i64 s.d], .int .i64 (-1), .int .i64 (-1), .int .i64 0]) (by simp [results, Try.results10, go_sem, *]) rfl ⟨⟨q, s.take k, -1, -1, 0, rfl, .inr (.inr ⟨Hm.out, k, rfl, hkn, .inr (.inl ⟨Hc.out, Hb.out, rfl, rfl, rfl, rfl⟩)⟩), ?_⟩, ?_⟩
      · exact (SOwn2.far (SOwn2.far (SOwn2.far (SOwn2.far (SOwn2.far HOw2.out HR2.out (by decide) 0 (.slice q.a s.np q.ka)) (HasBlk.set HR2.out 0 (.slice q.a s.np q.ka)) (by decide) 1 (.int .i64 s.p)) (HasBlk.set (HasBlk.set HR2.out 0 (.slice q.a s.np q.ka)) 1 (.int .i64 s.p)) (by decide) 2 (.int .i64 (s.n + 1))) (HasBlk.set (HasBlk.set (HasBlk.set HR2.out 0 (.slice q.a s.np q.ka)) 1 (.int .i64 s.p)) 2 (.int .i64 (s.n + 1))) (by decide) 3 (.slice q.b s.nb q.kb)) (HasBlk.set (HasBlk.set (HasBlk.set (HasBlk.set HR2.out 0 (.slice q.a s.np q.ka)) 1 (.int .i64 s.p)) 2 (.int .i64 (s.n + 1))) 3 (.slice q.b s.nb q.kb)) (by decide) 4 (.int .i64 s.d))
      · exact (Below.setCell (p := ⟨w.heap.size + 1, 4, none⟩) (Below.setCell (p := ⟨w.heap.size + 1, 3, none⟩) (Below.setCell (p := ⟨w.heap.size + 1, 2, none⟩) (Below.setCell (p := ⟨w.heap.size + 1, 1, none⟩) (Below.setCell (p := ⟨w.heap.size + 1, 0, none⟩) HBz.out (show w.heap.size ≤ w.heap.size + 1 by omega) (.slice q.a s.np q.ka)) (show w.heap.size ≤ w.heap.size + 1 by omega) (.int .i64 s.p)) (show w.heap.size ≤ w.heap.size + 1 by omega) (.int .i64 (s.n + 1))) (show w.heap.size ≤ w.heap.size + 1 by omega) (.slice q.b s.nb q.kb)) (show w.heap.size ≤ w.heap.size + 1 by omega) (.int .i64 s.d))
    · have hb0 : 0 ≤ s.bz k := by omega
      have g2 : decide (s.bz k < 0) = false := decide_eq_false hb
      have Hb := Lib.hid hb0
      have Hno := Lib.hid (Hm.out.busy_not_over hkn hb0)
      clear hb
      go_upto_region 17 with fail
      have ho1 := HOw.out.busy HQB.out hkn (-1) s.p s.n (s.d + 1)
      have hr1 := HR.out.far (p := ⟨gb, k, none⟩) neG3 (.int .i64 (-1))
      have hO1 := HO.out.far (p := ⟨gb, k, none⟩) neG1 (.int .i64 (-1))
      have hB1 := HB9.out.setCell (p := ⟨gb, k, none⟩) HGB.out (.int .i64 (-1))
      clear ltO O_0 O_1 O_2 O_3 O_4 Of0 Of1 Of2 Of3 Of4
      clear ck fk hgl
      generalize w3.setCell ⟨gb, k, none⟩ (.int .i64 (-1)) = v1 at *
      have HOw1 := Lib.hid ho1
      have HR1 := Lib.hid hr1
      have HO1 := Lib.hid hO1
      have HB1 := Lib.hid hB1
      clear ho1 hr1 hO1 hB1
      have ltO := HO1.out.lt
      have O_0 := HO1.out.cell 0
      have O_1 := HO1.out.cell 1
      have O_2 := HO1.out.cell 2
      have O_3 := HO1.out.cell 3
      have O_4 := HO1.out.cell 4
      have Of0 := HO1.out.frozen 0
      have Of1 := HO1.out.frozen 1
      have Of2 := HO1.out.frozen 2
      have Of3 := HO1.out.frozen 3
      have Of4 := HO1.out.frozen 4
      simp at O_0 O_1 O_2 O_3 O_4
      go_upto_region 18 with fail
      have ho2 := HOw1.out.far HO1.out (by decide) 4 (.int .i64 (s.d + 1))
      have hO2 := HO1.out.set 4 (.int .i64 (s.d + 1))
      have hr2 := HR1.out.far (p := ⟨w1.heap.size, 4, none⟩) neQR (.int .i64 (s.d + 1))
      have hB2 := HB1.out.setCell (p := ⟨w1.heap.size, 4, none⟩) (show w.heap.size ≤ w1.heap.size from HB.out.size) (.int .i64 (s.d + 1))
      simp only [List.setIfInBounds_toArray, List.set_cons_zero, List.set_cons_succ] at hO2
      clear ltO O_0 O_1 O_2 O_3 O_4 Of0 Of1 Of2 Of3 Of4
      generalize v1.setCell ⟨w1.heap.size, 4, none⟩ (.int .i64 (s.d + 1)) = v2 at *
      have HOw2 := Lib.hid ho2
      have HR2 := Lib.hid hr2
      have HO2 := Lib.hid hO2
      have HBz := Lib.hid hB2
      clear ho2 hO2 hr2 hB2
      have ltO := HO2.out.lt
      have O_0 := HO2.out.cell 0
      have O_1 := HO2.out.cell 1
      have O_2 := HO2.out.cell 2
      have O_3 := HO2.out.cell 3
      have O_4 := HO2.out.cell 4
      simp at O_0 O_1 O_2 O_3 O_4
      have r0 := fun b : BW v2 => BW.cell O_0 ltO b
      have r1 := fun b : BW v2 => BW.cell O_1 ltO b
      have r2 := fun b : BW v2 => BW.cell O_2 ltO b
      have r3 := fun b : BW v2 => BW.cell O_3 ltO b
      have r4 := fun b : BW v2 => BW.cell O_4 ltO b
      have KT := Lib.hid (fun b : BW v2 => BW.call (fun W' (h : Below v2.heap.size v2 W') => tasks_any q (s.fin k) W' (HOw2.out.1.ok.1.below h) hp0 hp1) b)
      dsimp only [SD.fin, SD.tasks] at KT
      have htt : (s.fin k).tasks = s.tasks := fin_tasks s k
      clear O_0 O_1 O_2 O_3 O_4
      obtain ⟨tt, htk⟩ : ∃ tt, s.tasks = tt := ⟨_, rfl⟩
      have KT2 := Lib.hid (show ∀ b : BW v2, Calls Try.prog 30 #[.agg #[.slice q.a s.np q.ka, .int .i64 s.p, .int .i64 s.n, .slice q.b s.nb q.kb, .int .i64 (s.d + 1)]] b.W fun e w'' => e = .returned (.int .i64 tt) ∧ ∃ p' : BW v2, w'' = p'.W from fun b => by rw [← htk]; exact KT.out b)
      have Htk := Lib.hid htk
      clear KT htt htk
      by_cases he : s.d + 1 = tt
      rotate_left
      · have g3 : (s.d + 1 == tt) = false := by simpa using he
        have He := Lib.hid (show s.d + 1 ≠ s.tasks by rw [Htk.out]; exact he)
        clear he
        refine wp_region_quiet_bw (by kernel_rfl) (by kernel_rfl) ?_
        repeat (go_big_quiet_step ((go_at_call 30; with_reducible exact KT2.out _)))
        refine wpQuiet_nil ?_
        intro _ hw'
        obtain ⟨pq, hw''⟩ := hw'
        subst hw''
        have HO3 := Lib.hid (HO2.out.below pq.h)
        have HR3 := Lib.hid (HR2.out.below pq.h)
        have HOw3 := Lib.hid (HOw2.out.below pq.h)
        have HB4 := Lib.hid (HBz.out.trans (pq.h.mono HBz.out.size))
        generalize pq.W = v3 at *
        clear pq r0 r1 r2 r3 r4 g3 ltO KT2
        have ltO := HO3.out.lt
        have O_0 := HO3.out.cell 0
        have O_1 := HO3.out.cell 1
        have O_2 := HO3.out.cell 2
        have O_3 := HO3.out.cell 3
        have O_4 := HO3.out.cell 4
        simp at O_0 O_1 O_2 O_3 O_4
        have ltR := HR3.out.lt
        have R_0 := HR3.out.cell 0
        have R_1 := HR3.out.cell 1
        have R_2 := HR3.out.cell 2
        have R_3 := HR3.out.cell 3
        have R_4 := HR3.out.cell 4
        have Rf0 := HR3.out.frozen 0
        have Rf1 := HR3.out.frozen 1
        have Rf2 := HR3.out.frozen 2
        have Rf3 := HR3.out.frozen 3
        have Rf4 := HR3.out.frozen 4
        simp at R_0 R_1 R_2 R_3 R_4
        go_wp2
        refine bodyPost_ret (v := .tuple #[.agg #[.slice q.a s.np q.ka, .int .i64 s.p, .int .i64 s.n, .slice q.b s.nb q.kb, .int .i64 (s.d + 1)], .int .i64 s.p, .int .i64 (s.bz k), .int .i64 0]) (by simp [results, Try.results10, go_sem, *]) rfl ⟨⟨q, s.fin k, s.p, s.bz k, 0, rfl, .inr (.inr ⟨Hm.out, k, rfl, hkn, .inr (.inr (.inl ⟨Hc.out, Hb.out, He.out, rfl, rfl, rfl, rfl⟩))⟩), ?_⟩, ?_⟩
        · exact (SOwn2.far (SOwn2.far (SOwn2.far (SOwn2.far (SOwn2.far HOw3.out HR3.out (by decide) 0 (.slice q.a s.np q.ka)) (HasBlk.set HR3.out 0 (.slice q.a s.np q.ka)) (by decide) 1 (.int .i64 s.p)) (HasBlk.set (HasBlk.set HR3.out 0 (.slice q.a s.np q.ka)) 1 (.int .i64 s.p)) (by decide) 2 (.int .i64 s.n)) (HasBlk.set (HasBlk.set (HasBlk.set HR3.out 0 (.slice q.a s.np q.ka)) 1 (.int .i64 s.p)) 2 (.int .i64 s.n)) (by decide) 3 (.slice q.b s.nb q.kb)) (HasBlk.set (HasBlk.set (HasBlk.set (HasBlk.set HR3.out 0 (.slice q.a s.np q.ka)) 1 (.int .i64 s.p)) 2 (.int .i64 s.n)) 3 (.slice q.b s.nb q.kb)) (by decide) 4 (.int .i64 (s.d + 1)))
        · exact (Below.setCell (p := ⟨w.heap.size + 1, 4, none⟩) (Below.setCell (p := ⟨w.heap.size + 1, 3, none⟩) (Below.setCell (p := ⟨w.heap.size + 1, 2, none⟩) (Below.setCell (p := ⟨w.heap.size + 1, 1, none⟩) (Below.setCell (p := ⟨w.heap.size + 1, 0, none⟩) HB4.out (show w.heap.size ≤ w.heap.size + 1 by omega) (.slice q.a s.np q.ka)) (show w.heap.size ≤ w.heap.size + 1 by omega) (.int .i64 s.p)) (show w.heap.size ≤ w.heap.size + 1 by omega) (.int .i64 s.n)) (show w.heap.size ≤ w.heap.size + 1 by omega) (.slice q.b s.nb q.kb)) (show w.heap.size ≤ w.heap.size + 1 by omega) (.int .i64 (s.d + 1)))
      · have g3 : (s.d + 1 == tt) = true := by simpa using he
        have He := Lib.hid (show s.d + 1 = s.tasks by rw [Htk.out]; exact he)
        clear he
        refine wp_region_quiet_bw (by kernel_rfl) (by kernel_rfl) ?_
        repeat (go_big_quiet_step ((go_at_call 30; with_reducible exact KT2.out _)))
        refine wpQuiet_nil ?_
        intro _ hw'
        obtain ⟨pq, hw''⟩ := hw'
        subst hw''
        have HO3 := Lib.hid (HO2.out.below pq.h)
        have HR3 := Lib.hid (HR2.out.below pq.h)
        have HOw3 := Lib.hid (HOw2.out.below pq.h)
        have HB4 := Lib.hid (HBz.out.trans (pq.h.mono HBz.out.size))
        generalize pq.W = v3 at *
        clear pq r0 r1 r2 r3 r4 g3 ltO KT2
        have ltO := HO3.out.lt
        have O_0 := HO3.out.cell 0
        have O_1 := HO3.out.cell 1
        have O_2 := HO3.out.cell 2
        have O_3 := HO3.out.cell 3
        have O_4 := HO3.out.cell 4
        simp at O_0 O_1 O_2 O_3 O_4
        go_wp2_with fail
        clear ltO O_0 O_1 O_2 O_3 O_4
        refine (begin_at w1.heap.size q (s.fin k) (s.p + 1) (pn + 1) w.heap.size _ (by have := Hq.out; omega) HO3.out HOw3.out.1.1 (show pn + 1 ≤ s.np by have := Hq.out; have := Hno.out; omega) hn16).mono ?_
        rintro e w5 ⟨rfl, ⟨j, hj, hO5⟩, hgr⟩
        dsimp only [SD.fin] at hj hO5
        have HJ := Lib.hid hj
        have hr5 := HR3.out.grown hgr (by simp; exact neQR)
        have how5 : SOwn2 w.heap.size w5 q ((s.fin k).begin j) := ⟨⟨HOw3.out.1.1.kept hgr (.inr (HO3.out.ne_own HOw3.out.1.1 (by decide))), HOw3.out.1.2.kept hgr (.inr (HO3.out.ne_own HOw3.out.1.2 (by decide)))⟩, HOw3.out.2⟩
        have hB5 := HB4.out.trans (grown_Below hgr (show w.heap.size ≤ w1.heap.size from HB.out.size) HB4.out.size)
        have HO5 := Lib.hid hO5
        have HR5 := Lib.hid hr5
        have HOw5 := Lib.hid how5
        have HB5 := Lib.hid hB5
        have JJ : SkipTo s.ph s.np (s.p + 1).toNat j := by have := HJ.out; rw [show (s.p + 1).toNat = pn + 1 by have := Hq.out; omega]; exact this
        have HJJ := Lib.hid JJ
        clear hj hr5 how5 hB5 hO5 hgr JJ
        have ltO := HO5.out.lt
        have O_0 := HO5.out.cell 0
        have O_1 := HO5.out.cell 1
        have O_2 := HO5.out.cell 2
        have O_3 := HO5.out.cell 3
        have O_4 := HO5.out.cell 4
        simp at O_0 O_1 O_2 O_3 O_4
        have ltR := HR5.out.lt
        have R_0 := HR5.out.cell 0
        have R_1 := HR5.out.cell 1
        have R_2 := HR5.out.cell 2
        have R_3 := HR5.out.cell 3
        have R_4 := HR5.out.cell 4
        have Rf0 := HR5.out.frozen 0
        have Rf1 := HR5.out.frozen 1
        have Rf2 := HR5.out.frozen 2
        have Rf3 := HR5.out.frozen 3
        have Rf4 := HR5.out.frozen 4
        simp at R_0 R_1 R_2 R_3 R_4
        go_wp2
        refine bodyPost_ret (v := .tuple #[.agg #[.slice q.a s.np q.ka, .int .i64 (j : Int), .int .i64 0, .slice q.b s.nb q.kb, .int .i64 0], .int .i64 s.p, .int .i64 (s.bz k), .int .i64 0]) (by simp [results, Try.results10, go_sem, *]) rfl ⟨⟨q, (s.fin k).begin j, s.p, s.bz k, 0, rfl, .inr (.inr ⟨Hm.out, k, rfl, hkn, .inr (.inr (.inr ⟨Hc.out, Hb.out, He.out, ⟨j, HJJ.out, rfl⟩, rfl, rfl, rfl⟩))⟩), ?_⟩, ?_⟩
        · exact (SOwn2.far (SOwn2.far (SOwn2.far (SOwn2.far (SOwn2.far HOw5.out HR5.out (by decide) 0 (.slice q.a s.np q.ka)) (HasBlk.set HR5.out 0 (.slice q.a s.np q.ka)) (by decide) 1 (.int .i64 (j : Int))) (HasBlk.set (HasBlk.set HR5.out 0 (.slice q.a s.np q.ka)) 1 (.int .i64 (j : Int))) (by decide) 2 (.int .i64 0)) (HasBlk.set (HasBlk.set (HasBlk.set HR5.out 0 (.slice q.a s.np q.ka)) 1 (.int .i64 (j : Int))) 2 (.int .i64 0)) (by decide) 3 (.slice q.b s.nb q.kb)) (HasBlk.set (HasBlk.set (HasBlk.set (HasBlk.set HR5.out 0 (.slice q.a s.np q.ka)) 1 (.int .i64 (j : Int))) 2 (.int .i64 0)) 3 (.slice q.b s.nb q.kb)) (by decide) 4 (.int .i64 0))
        · exact (Below.setCell (p := ⟨w.heap.size + 1, 4, none⟩) (Below.setCell (p := ⟨w.heap.size + 1, 3, none⟩) (Below.setCell (p := ⟨w.heap.size + 1, 2, none⟩) (Below.setCell (p := ⟨w.heap.size + 1, 1, none⟩) (Below.setCell (p := ⟨w.heap.size + 1, 0, none⟩) HB5.out (show w.heap.size ≤ w.heap.size + 1 by omega) (.slice q.a s.np q.ka)) (show w.heap.size ≤ w.heap.size + 1 by omega) (.int .i64 (j : Int))) (show w.heap.size ≤ w.heap.size + 1 by omega) (.int .i64 0)) (show w.heap.size ≤ w.heap.size + 1 by omega) (.slice q.b s.nb q.kb)) (show w.heap.size ≤ w.heap.size + 1 by omega) (.int .i64 0))
end Go.Proofs.Ytdilfcpgjkkjmaa
