/- sched: New. -/
import Derived.Test.YtdilfcpgjkkjmaaS8
namespace Go.Proofs.Ytdilfcpgjkkjmaa
open Go.RowKit
set_option linter.unusedVariables false
/-- What New answers. -/
def NwR (wn : Int) (np : Nat) (ph : Nat → Int) (B : Nat) (e : Ending) (w' : World) : Prop :=
  ∃ (q : SP) (t : SD) (x : Int), e = .returned (.tuple #[.agg #[.slice q.a t.np q.ka, .int .i64 t.p, .int .i64 t.n, .slice q.b t.nb q.kb, .int .i64 t.d], .int .i64 x]) ∧ NewV wn np ph t x ∧ SOwn2 B w' q t
theorem own_of_blk {w : World} {X B n : Nat} {e : TypeId} {cs : List Value} (h : HasBlk w X e cs.toArray) (hl : cs.length = n * 1) (hn : n ≤ maxLen) (hB : B ≤ X) : w.ownsRow B e 1 (.slice (some ⟨X, 0, none⟩) n n) n cs :=
  ⟨hl, .inr ⟨X, n, cs.toArray, rfl, hB, h, Nat.le_refl _, hn, by simpa using hl, by simp; rw [List.take_of_length_le (by omega)]⟩⟩

set_option maxRecDepth 100000 in
set_option maxHeartbeats 8000000 in
theorem new_any (wn : Int) (A : Option Addr) (n c : Nat) (l : Nat → Int) (w : World) (h : IS w A n l) :
    Calls Try.prog 8 #[.int .i64 wn, .slice A n c] w fun e w' => NwR wn n l w.heap.size e w' ∧ Below w.heap.size w w' := by
  by_cases h0 : wn < 1
  · have g0 : decide (wn < 1) = true := decide_eq_true h0
    have Hw := Lib.hid (show wn < 1 ∨ 64 < wn from .inl h0)
    clear h0 h
    go_enter Try.func8, Try.ntmps8
    go_wp2
    refine bodyPost_ret (v := .tuple #[.agg #[.slice none 0 0, .int .i64 0, .int .i64 0, .slice none 0 0, .int .i64 0], .int .i64 2]) (by simp [results, Try.results8, go_sem]) rfl ⟨⟨⟨none, 0, none, 0⟩, SD0, 2, rfl, .inl ⟨Hw.out, rfl, rfl⟩, own_zero _ _⟩, ?_⟩
    repeat' (first | exact Below.refl _ _ | assumption | apply Below.drew | refine Below.setCell ?_ (by first | omega | (simp; done) | (simp; omega)) _ | refine Below.alloc ?_ (by first | omega | (simp; done) | (simp; omega)) _)
  have g0 : decide (wn < 1) = false := decide_eq_false h0
  by_cases h1 : 64 < wn
  · have g1 : decide (64 < wn) = true := decide_eq_true h1
    have Hw := Lib.hid (show wn < 1 ∨ 64 < wn from .inr h1)
    clear h0 h1 h
    go_enter Try.func8, Try.ntmps8
    go_wp2
    refine bodyPost_ret (v := .tuple #[.agg #[.slice none 0 0, .int .i64 0, .int .i64 0, .slice none 0 0, .int .i64 0], .int .i64 2]) (by simp [results, Try.results8, go_sem]) rfl ⟨⟨⟨none, 0, none, 0⟩, SD0, 2, rfl, .inl ⟨Hw.out, rfl, rfl⟩, own_zero _ _⟩, ?_⟩
    repeat' (first | exact Below.refl _ _ | assumption | apply Below.drew | refine Below.setCell ?_ (by first | omega | (simp; done) | (simp; omega)) _ | refine Below.alloc ?_ (by first | omega | (simp; done) | (simp; omega)) _)
  have g1 : decide (64 < wn) = false := decide_eq_false h1
  obtain ⟨k, hk⟩ : ∃ k : Nat, wn = k := ⟨wn.toNat, by omega⟩
  subst hk
  have hk1 : 1 ≤ k := by omega
  have hk64 : k ≤ 64 := by omega
  have Hw := Lib.hid (show ¬ ((k : Int) < 1 ∨ 64 < (k : Int)) by omega)
  have Hkn := Lib.hid (show ((k : Int)).toNat = k by omega)
  have HI := Lib.hid h
  have KP := Lib.hid (fun W (hb : Below w.heap.size w W) => phased_any A n c l W (h.below hb))
  have HBx := Lib.hid (And.intro (show Below w.heap.size w (w.alloc (.cells #[.slice none 0 0, .int .i64 0, .int .i64 0, .slice none 0 0, .int .i64 0] 25)) by repeat' (first | exact Below.refl _ _ | assumption | apply Below.drew | refine Below.setCell ?_ (by first | omega | (simp; done) | (simp; omega)) _ | refine Below.alloc ?_ (by first | omega | (simp; done) | (simp; omega)) _)) (hasBlk_new w 25 #[.slice none 0 0, .int .i64 0, .int .i64 0, .slice none 0 0, .int .i64 0]))
  clear h0 h1 h
  go_enter Try.func8, Try.ntmps8
  go_wp2_with fail
  refine (KP.out _ HBx.out.1).mono ?_
  rintro e w1 ⟨rfl, bel1⟩
  have HB1 := Lib.hid (HBx.out.1.trans (bel1.mono HBx.out.1.size))
  have HR1 := Lib.hid (HBx.out.2.below bel1)
  clear bel1 KP
  have ltR := HR1.out.lt
  have R_0 := HR1.out.cell 0
  have R_1 := HR1.out.cell 1
  have R_2 := HR1.out.cell 2
  have R_3 := HR1.out.cell 3
  have R_4 := HR1.out.cell 4
  have Rf0 := HR1.out.frozen 0
  have Rf1 := HR1.out.frozen 1
  have Rf2 := HR1.out.frozen 2
  have Rf3 := HR1.out.frozen 3
  have Rf4 := HR1.out.frozen 4
  simp at R_0 R_1 R_2 R_3 R_4
  by_cases hp : SPh n l
  rotate_left
  · have g2 : (phv n l != 0) = true := by simpa using (fun h => hp ((phv_spec n l).zero.1 h))
    have Hp := Lib.hid (show phv n l ≠ 0 from fun h => hp ((phv_spec n l).zero.1 h))
    obtain ⟨z, hz⟩ : ∃ z, phv n l = z := ⟨_, rfl⟩
    have Hz := Lib.hid hz
    rw [hz] at g2 ⊢
    clear hp hz
    go_wp2
    refine bodyPost_ret (v := .tuple #[.agg #[.slice none 0 0, .int .i64 0, .int .i64 0, .slice none 0 0, .int .i64 0], .int .i64 z]) (by simp [results, Try.results8, go_sem, *]) rfl ⟨⟨⟨none, 0, none, 0⟩, SD0, z, rfl, .inr ⟨Hw.out, .inl ⟨by rw [← Hz.out]; exact phv_spec n l, by rw [← Hz.out]; exact Hp.out, rfl⟩⟩, own_zero _ _⟩, ?_⟩
    exact (Below.setCell (p := ⟨w.heap.size, 4, none⟩) (Below.setCell (p := ⟨w.heap.size, 3, none⟩) (Below.setCell (p := ⟨w.heap.size, 2, none⟩) (Below.setCell (p := ⟨w.heap.size, 1, none⟩) (Below.setCell (p := ⟨w.heap.size, 0, none⟩) HB1.out (Nat.le_refl _) (.slice none 0 0)) (Nat.le_refl _) (.int .i64 0)) (Nat.le_refl _) (.int .i64 0)) (Nat.le_refl _) (.slice none 0 0)) (Nat.le_refl _) (.int .i64 0))
  have hz : phv n l = 0 := (phv_spec n l).zero.2 hp
  have hn16 : n ≤ 16 := hp.1
  have Hp := Lib.hid hp
  rw [hz]
  clear hp hz
  go_upto_region 6 with fail
  clear ltR R_0 R_1 R_2 R_3 R_4 Rf0 Rf1 Rf2 Rf3 Rf4
  go_wp2_with fail
  refine (cloneInt A n c (ivR l) _ (is_row (HI.out.below HB1.out)) (fun _ _ => rfl) (by omega)).mono ?_
  rintro e w2 ⟨⟨A1, d1, rfl, ho⟩, bel2⟩
  have HB2 := Lib.hid (HB1.out.trans (bel2.mono HB1.out.size))
  have bX : Below w2.heap.size w2 (w2.alloc (.cells #[.int .i64 (-1)] 3)) := (Below.refl _ _).alloc (Nat.le_refl _) _
  have HB3 := Lib.hid (HB2.out.trans (bX.mono HB2.out.size))
  have HR3 := Lib.hid ((HR1.out.below bel2).below bX)
  have HO3 := Lib.hid (own_below ho bX)
  have hX := hasBlk_new w2 3 #[.int .i64 (-1)]
  have z12 := bel2.size
  have z23 := bX.size
  clear bel2 ho bX
  have cX : (w2.alloc (.cells #[.int .i64 (-1)] 3)).cell? ⟨w2.heap.size, 0, none⟩ = some (.int .i64 (-1)) := by simp
  have HcX := Lib.hid cX
  clear hX cX
  go_wp2_with fail
  generalize w2.alloc (.cells #[.int .i64 (-1)] 3) = w3 at *
  refine (repInt_any w2.heap.size (fun _ => .int .i64 (-1)) k w3 (fun _ => rfl) (fun j hj => by have e : j = 0 := (by omega); subst e; exact HcX.out) hk1 (by omega)).mono ?_
  rintro e w4 ⟨⟨X, rfl, hX, hbX⟩, bel4⟩
  have HB4 := Lib.hid (HB3.out.trans (bel4.mono HB3.out.size))
  have z34 := bel4.size
  have QC : Hid (∀ q : SP, q = ⟨A1, d1, some ⟨X, 0, none⟩, k⟩ → True) := Lib.hid (fun _ _ => trivial)
  have o1 := own_below HO3.out bel4
  have o2 := own_of_blk (n := k) (B := w3.heap.size) hbX (cellsR_len 1 _ k) (by unfold maxLen; omega) hX
  have dj : ∀ g, (Value.slice (some ⟨X, 0, none⟩) k k).ownBlock = some g → (Value.slice A1 n d1).ownBlock ≠ some g := fun g h1 h2 => by
    have a := (HO3.out.lt g h2).2
    have b := (o2.lt g h1).1
    omega
  have HR4 := Lib.hid (HR3.out.below bel4)
  have o1a := o1.alloc (.cells #[.slice A1 n d1, .int .i64 0, .int .i64 0, .slice (some ⟨X, 0, none⟩) k k, .int .i64 0] 63)
  have o2a := o2.alloc (.cells #[.slice A1 n d1, .int .i64 0, .int .i64 0, .slice (some ⟨X, 0, none⟩) k k, .int .i64 0] 63)
  have HQ := Lib.hid (hasBlk_new w4 63 #[.slice A1 n d1, .int .i64 0, .int .i64 0, .slice (some ⟨X, 0, none⟩) k k, .int .i64 0])
  have HR5 := Lib.hid (HR4.out.alloc (.cells #[.slice A1 n d1, .int .i64 0, .int .i64 0, .slice (some ⟨X, 0, none⟩) k k, .int .i64 0] 63))
  have HB5 := Lib.hid (HB4.out.alloc HB4.out.size (.cells #[.slice A1 n d1, .int .i64 0, .int .i64 0, .slice (some ⟨X, 0, none⟩) k k, .int .i64 0] 63))
  have hzw := HB1.out.size
  have ltr4 := HR4.out.lt
  have HOO := Lib.hid (And.intro (own_base o1a (show w.heap.size ≤ w1.heap.size by omega)) (And.intro (own_base o2a (show w.heap.size ≤ w3.heap.size by omega)) dj))
  clear bel4 hX hbX o1 o2 dj o1a o2a QC
  go_wp2_with fail
  generalize w4.alloc (.cells #[.slice A1 n d1, .int .i64 0, .int .i64 0, .slice (some ⟨X, 0, none⟩) k k, .int .i64 0] 63) = w5 at *
  refine (begin_any w4.heap.size ⟨A1, d1, some ⟨X, 0, none⟩, k⟩ (SDnew n l k 0) 0 w.heap.size w5 HQ.out HOO.out.1 (Nat.zero_le _) hn16).mono ?_
  rintro e w6 ⟨rfl, ⟨j, hj, hQ6⟩, hgr⟩
  dsimp only [SDnew] at hj hQ6
  have HJ := Lib.hid hj
  have neQR : w4.heap.size ≠ w.heap.size := by omega
  have hr6 := HR5.out.grown hgr (by simp; exact neQR)
  have how6 : SOwn2 w.heap.size w6 ⟨A1, d1, some ⟨X, 0, none⟩, k⟩ (SDnew n l k j) := ⟨⟨HOO.out.1.kept hgr (.inr (HQ.out.ne_own HOO.out.1 (by decide))), HOO.out.2.1.kept hgr (.inr (HQ.out.ne_own HOO.out.2.1 (by decide)))⟩, HOO.out.2.2⟩
  have hb6 := HB5.out.trans (grown_Below hgr (show w.heap.size ≤ w4.heap.size by omega) HB5.out.size)
  have HR6 := Lib.hid hr6
  have HW6 := Lib.hid how6
  have HB6 := Lib.hid hb6
  have HQ6 := Lib.hid hQ6
  clear hj hQ6 hgr hr6 how6 hb6
  have ltQ := HQ6.out.lt
  have Q_0 := HQ6.out.cell 0
  have Q_1 := HQ6.out.cell 1
  have Q_2 := HQ6.out.cell 2
  have Q_3 := HQ6.out.cell 3
  have Q_4 := HQ6.out.cell 4
  simp at Q_0 Q_1 Q_2 Q_3 Q_4
  have ltR := HR6.out.lt
  have R_0 := HR6.out.cell 0
  have R_1 := HR6.out.cell 1
  have R_2 := HR6.out.cell 2
  have R_3 := HR6.out.cell 3
  have R_4 := HR6.out.cell 4
  have Rf0 := HR6.out.frozen 0
  have Rf1 := HR6.out.frozen 1
  have Rf2 := HR6.out.frozen 2
  have Rf3 := HR6.out.frozen 3
  have Rf4 := HR6.out.frozen 4
  simp at R_0 R_1 R_2 R_3 R_4
  go_wp2
  refine bodyPost_ret (v := .tuple #[.agg #[.slice A1 n d1, .int .i64 (j : Int), .int .i64 0, .slice (some ⟨X, 0, none⟩) k k, .int .i64 0], .int .i64 0]) (by simp [results, Try.results8, go_sem, *]) rfl ⟨⟨⟨A1, d1, some ⟨X, 0, none⟩, k⟩, SDnew n l k j, 0, rfl, .inr ⟨Hw.out, .inr ⟨Hp.out, rfl, j, HJ.out, by rw [Hkn.out]⟩⟩, ?_⟩, ?_⟩
  · exact (SOwn2.far (SOwn2.far (SOwn2.far (SOwn2.far (SOwn2.far HW6.out HR6.out (by decide) 0 (.slice A1 n d1)) (HasBlk.set HR6.out 0 (.slice A1 n d1)) (by decide) 1 (.int .i64 (j : Int))) (HasBlk.set (HasBlk.set HR6.out 0 (.slice A1 n d1)) 1 (.int .i64 (j : Int))) (by decide) 2 (.int .i64 0)) (HasBlk.set (HasBlk.set (HasBlk.set HR6.out 0 (.slice A1 n d1)) 1 (.int .i64 (j : Int))) 2 (.int .i64 0)) (by decide) 3 (.slice (some ⟨X, 0, none⟩) k k)) (HasBlk.set (HasBlk.set (HasBlk.set (HasBlk.set HR6.out 0 (.slice A1 n d1)) 1 (.int .i64 (j : Int))) 2 (.int .i64 0)) 3 (.slice (some ⟨X, 0, none⟩) k k)) (by decide) 4 (.int .i64 0))
  · exact (Below.setCell (p := ⟨w.heap.size, 4, none⟩) (Below.setCell (p := ⟨w.heap.size, 3, none⟩) (Below.setCell (p := ⟨w.heap.size, 2, none⟩) (Below.setCell (p := ⟨w.heap.size, 1, none⟩) (Below.setCell (p := ⟨w.heap.size, 0, none⟩) HB6.out (Nat.le_refl _) (.slice A1 n d1)) (Nat.le_refl _) (.int .i64 (j : Int))) (Nat.le_refl _) (.int .i64 0)) (Nat.le_refl _) (.slice (some ⟨X, 0, none⟩) k k)) (Nat.le_refl _) (.int .i64 0))

set_option maxRecDepth 100000 in
set_option maxHeartbeats 8000000 in
theorem refnew_any (wn : Int) (A : Option Addr) (n c : Nat) (l : Nat → Int) (w : World) (h : IS w A n l) :
    Calls Try.prog 16 #[.int .i64 wn, .slice A n c] w fun e w' => NwR wn n l w.heap.size e w' ∧ Below w.heap.size w w' := by
  by_cases h0 : wn < 1
  · have g0 : decide (wn < 1) = true := decide_eq_true h0
    have Hw := Lib.hid (show wn < 1 ∨ 64 < wn from .inl h0)
    clear h0 h
    go_enter Try.func16, Try.ntmps16
    go_wp2
    refine bodyPost_ret (v := .tuple #[.agg #[.slice none 0 0, .int .i64 0, .int .i64 0, .slice none 0 0, .int .i64 0], .int .i64 2]) (by simp [results, Try.results16, go_sem]) rfl ⟨⟨⟨none, 0, none, 0⟩, SD0, 2, rfl, .inl ⟨Hw.out, rfl, rfl⟩, own_zero _ _⟩, ?_⟩
    repeat' (first | exact Below.refl _ _ | assumption | apply Below.drew | refine Below.setCell ?_ (by first | omega | (simp; done) | (simp; omega)) _ | refine Below.alloc ?_ (by first | omega | (simp; done) | (simp; omega)) _)
  have g0 : decide (wn < 1) = false := decide_eq_false h0
  by_cases h1 : 64 < wn
  · have g1 : decide (64 < wn) = true := decide_eq_true h1
    have Hw := Lib.hid (show wn < 1 ∨ 64 < wn from .inr h1)
    clear h0 h1 h
    go_enter Try.func16, Try.ntmps16
    go_wp2
    refine bodyPost_ret (v := .tuple #[.agg #[.slice none 0 0, .int .i64 0, .int .i64 0, .slice none 0 0, .int .i64 0], .int .i64 2]) (by simp [results, Try.results16, go_sem]) rfl ⟨⟨⟨none, 0, none, 0⟩, SD0, 2, rfl, .inl ⟨Hw.out, rfl, rfl⟩, own_zero _ _⟩, ?_⟩
    repeat' (first | exact Below.refl _ _ | assumption | apply Below.drew | refine Below.setCell ?_ (by first | omega | (simp; done) | (simp; omega)) _ | refine Below.alloc ?_ (by first | omega | (simp; done) | (simp; omega)) _)
  have g1 : decide (64 < wn) = false := decide_eq_false h1
  obtain ⟨k, hk⟩ : ∃ k : Nat, wn = k := ⟨wn.toNat, by omega⟩
  subst hk
  have hk1 : 1 ≤ k := by omega
  have hk64 : k ≤ 64 := by omega
  have Hw := Lib.hid (show ¬ ((k : Int) < 1 ∨ 64 < (k : Int)) by omega)
  have Hkn := Lib.hid (show ((k : Int)).toNat = k by omega)
  have HI := Lib.hid h
  have KP := Lib.hid (fun W (hb : Below w.heap.size w W) => refphased_any A n c l W (h.below hb))
  have HBx := Lib.hid (And.intro (show Below w.heap.size w (w.alloc (.cells #[.slice none 0 0, .int .i64 0, .int .i64 0, .slice none 0 0, .int .i64 0] 25)) by repeat' (first | exact Below.refl _ _ | assumption | apply Below.drew | refine Below.setCell ?_ (by first | omega | (simp; done) | (simp; omega)) _ | refine Below.alloc ?_ (by first | omega | (simp; done) | (simp; omega)) _)) (hasBlk_new w 25 #[.slice none 0 0, .int .i64 0, .int .i64 0, .slice none 0 0, .int .i64 0]))
  clear h0 h1 h
  go_enter Try.func16, Try.ntmps16
  go_wp2_with fail
  refine (KP.out _ HBx.out.1).mono ?_
  rintro e w1 ⟨rfl, bel1⟩
  have HB1 := Lib.hid (HBx.out.1.trans (bel1.mono HBx.out.1.size))
  have HR1 := Lib.hid (HBx.out.2.below bel1)
  clear bel1 KP
  have ltR := HR1.out.lt
  have R_0 := HR1.out.cell 0
  have R_1 := HR1.out.cell 1
  have R_2 := HR1.out.cell 2
  have R_3 := HR1.out.cell 3
  have R_4 := HR1.out.cell 4
  have Rf0 := HR1.out.frozen 0
  have Rf1 := HR1.out.frozen 1
  have Rf2 := HR1.out.frozen 2
  have Rf3 := HR1.out.frozen 3
  have Rf4 := HR1.out.frozen 4
  simp at R_0 R_1 R_2 R_3 R_4
  by_cases hp : SPh n l
  rotate_left
  · have g2 : (phv n l != 0) = true := by simpa using (fun h => hp ((phv_spec n l).zero.1 h))
    have Hp := Lib.hid (show phv n l ≠ 0 from fun h => hp ((phv_spec n l).zero.1 h))
    obtain ⟨z, hz⟩ : ∃ z, phv n l = z := ⟨_, rfl⟩
    have Hz := Lib.hid hz
    rw [hz] at g2 ⊢
    clear hp hz
    go_wp2
    refine bodyPost_ret (v := .tuple #[.agg #[.slice none 0 0, .int .i64 0, .int .i64 0, .slice none 0 0, .int .i64 0], .int .i64 z]) (by simp [results, Try.results16, go_sem, *]) rfl ⟨⟨⟨none, 0, none, 0⟩, SD0, z, rfl, .inr ⟨Hw.out, .inl ⟨by rw [← Hz.out]; exact phv_spec n l, by rw [← Hz.out]; exact Hp.out, rfl⟩⟩, own_zero _ _⟩, ?_⟩
    exact (Below.setCell (p := ⟨w.heap.size, 4, none⟩) (Below.setCell (p := ⟨w.heap.size, 3, none⟩) (Below.setCell (p := ⟨w.heap.size, 2, none⟩) (Below.setCell (p := ⟨w.heap.size, 1, none⟩) (Below.setCell (p := ⟨w.heap.size, 0, none⟩) HB1.out (Nat.le_refl _) (.slice none 0 0)) (Nat.le_refl _) (.int .i64 0)) (Nat.le_refl _) (.int .i64 0)) (Nat.le_refl _) (.slice none 0 0)) (Nat.le_refl _) (.int .i64 0))
  have hz : phv n l = 0 := (phv_spec n l).zero.2 hp
  have hn16 : n ≤ 16 := hp.1
  have Hp := Lib.hid hp
  rw [hz]
  clear hp hz
  obtain ⟨i0, hi0, hz0, hz1, hz2⟩ := info_parts int_info
  have hnews := (is_row (HI.out.below HB1.out)).news (by omega)
  clear ltR R_0 R_1 R_2 R_3 R_4 Rf0 Rf1 Rf2 Rf3 Rf4
  go_upto_region 8 with (at_builtin; refine wpList_app rfl (.const (.slice none 0 0)) (.tmp 22) 23 rfl w1.heap.size 3 i0 _ 1 8 Try.underlying23 hi0 hz0 hz1 hz2 rfl (by omega) none 0 0 [] rfl (own_nil _ _ 3 1) A n c (cellsR 1 (ivR l) n) rfl (cellsR_len 1 _ _) hnews (cellsR_one (fun _ _ => rfl) _) (by unfold maxLen; omega) (by omega) (by omega) ?_; intro A1 d1 w2 hown hgr; simp only [Nat.zero_add, List.nil_append] at hown ⊢; have bel2 : Below w1.heap.size w1 w2 := below_grown (v := .slice none 0 0) (base := w1.heap.size) (Below.refl _ _) hgr (own_nil _ _ 3 1) (Nat.le_refl _) (by simp); clear hgr)
  have z12 := bel2.size
  have zw := HB1.out.size
  have HB2 := Lib.hid (HB1.out.trans (bel2.mono HB1.out.size))
  have ho2 := own_base (hown.alloc (.cells #[.slice A1 n d1, .int .i64 0, .int .i64 0, .slice none 0 0, .int .i64 0] 25)) (show w.heap.size ≤ w1.heap.size by omega)
  have hr2 := (HR1.out.below bel2).alloc (.cells #[.slice A1 n d1, .int .i64 0, .int .i64 0, .slice none 0 0, .int .i64 0] 25)
  have hO2 := hasBlk_new w2 25 #[.slice A1 n d1, .int .i64 0, .int .i64 0, .slice none 0 0, .int .i64 0]
  have hb2 := HB2.out.alloc HB2.out.size (.cells #[.slice A1 n d1, .int .i64 0, .int .i64 0, .slice none 0 0, .int .i64 0] 25)
  have ltr := (HR1.out.below bel2).lt
  have neOR : w2.heap.size ≠ w.heap.size := by omega
  clear hown bel2 hnews
  generalize w2.alloc (.cells #[.slice A1 n d1, .int .i64 0, .int .i64 0, .slice none 0 0, .int .i64 0] 25) = v2 at *
  have H2 := Lib.hid (And.intro ho2 (And.intro hr2 (And.intro hO2 hb2)))
  clear ho2 hr2 hO2 hb2 ltr
  go_loopw [8] (fun i wr => ∃ j : Nat, j ≤ k ∧ i = .int .i64 j ∧ ∃ X cx, HasBlk wr w2.heap.size 25 #[.slice A1 n d1, .int .i64 0, .int .i64 0, .slice X j cx, .int .i64 0] ∧ wr.ownsRow w.heap.size 3 1 (.slice A1 n d1) n (cellsR 1 (ivR l) n) ∧ wr.ownsRow v2.heap.size 3 1 (.slice X j cx) j (cellsR 1 (ivR (fun _ => -1)) j) ∧ HasBlk wr w.heap.size 25 #[.slice none 0 0, .int .i64 0, .int .i64 0, .slice none 0 0, .int .i64 0] ∧ Below w.heap.size w wr ∧ v2.heap.size ≤ wr.heap.size) (fun i wr => k - (intOf i).toNat)
  case atStart => exact ⟨0, Nat.zero_le _, rfl, none, 0, H2.out.2.2.1, H2.out.1, own_nil _ _ _ _, H2.out.2.1, H2.out.2.2.2, Nat.le_refl _⟩
  case round =>
    obtain ⟨j, hj, rfl, X, cx, hO, ho1, ho2, hr, hb, hzv⟩ := hrel
    have HO := Lib.hid hO
    have HW1 := Lib.hid ho1
    have HW2 := Lib.hid ho2
    have HR := Lib.hid hr
    have HB := Lib.hid hb
    have zb := hb.size
    clear hO ho1 ho2 hr hb
    have ltO := HO.out.lt
    have O_0 := HO.out.cell 0
    have O_1 := HO.out.cell 1
    have O_2 := HO.out.cell 2
    have O_3 := HO.out.cell 3
    have O_4 := HO.out.cell 4
    have Of0 := HO.out.frozen 0
    have Of1 := HO.out.frozen 1
    have Of2 := HO.out.frozen 2
    have Of3 := HO.out.frozen 3
    have Of4 := HO.out.frozen 4
    simp at O_0 O_1 O_2 O_3 O_4
    by_cases hjk : j < k
    · have hj100 : j + 1 ≤ 100 := by omega
      go_wp2_with (at_builtin; refine wpList_append_lies _ rfl (.tmp 31) (.tmp 32) _ rfl v2.heap.size 3 i0 _ 1 8 Try.underlying23 hi0 hz0 hz1 hz2 rfl (by omega) (.slice X j cx) j (cellsR 1 (ivR (fun _ => -1)) j) rfl (HW2.out.alloc _) ⟨wr.heap.size, 0, none⟩ 1 1 [.int .i64 (-1)] (by rfl) rfl (World.news_of_block (cs := #[.int .i64 (-1)]) (t := 3) (fr := (0, 0)) (heap_alloc_new wr _)) (by simp [Value.oneCell']) (by omega) (by unfold maxLen; omega) (by omega) (by simp; omega) (wr.heap.size + 1) (by simp) ?_; intro g' cap w3 hown3 hgrow hat hlt; have hO3 := (HO.out.alloc (.cells #[.int .i64 (-1)] 3)).grown hgrow ((HO.out.alloc (.cells #[.int .i64 (-1)] 3)).ne_own (HW2.out.alloc (.cells #[.int .i64 (-1)] 3)) (by decide)); have ltO3 := hO3.lt; have O3_3 := hO3.cell 3; have O3f3 := hO3.frozen 3; simp at O3_3; have HO3 := Lib.hid hO3; have HG3 := Lib.hid hgrow; have HN3 := Lib.hid hown3; clear hO3 hgrow hown3)
      go_roundw
      case rel =>
        have hw2a := HW2.out.alloc (.cells #[.int .i64 (-1)] 3)
        have hne : ∀ e s m (v : Value) xs, w3.ownsRow e 3 s v m xs → v.ownBlock ≠ some w2.heap.size := fun e s m v xs ho => HO3.out.ne_own ho (by decide)
        have hb3 : Below w.heap.size w w3 := below_grown (HB.out.alloc HB.out.size _) HG3.out hw2a (show w.heap.size ≤ v2.heap.size by have := H2.out.2.2.2.size; omega) (by simp; omega)
        have hr3 := (HR.out.alloc (.cells #[.int .i64 (-1)] 3)).grown HG3.out ((HR.out.alloc (.cells #[.int .i64 (-1)] 3)).ne_own hw2a (by decide))
        have hdj : (Value.slice A1 n d1).ownBlock = none ∨ (Value.slice A1 n d1).ownBlock ≠ (Value.slice X j cx).ownBlock := by
          cases hA : (Value.slice A1 n d1).ownBlock with
          | none => exact .inl rfl
          | some g =>
            refine .inr fun hh => ?_
            have a := (H2.out.1.lt g hA).2
            have b := (HW2.out.lt g hh.symm).1
            omega
        have ho1 := (HW1.out.alloc (.cells #[.int .i64 (-1)] 3)).kept HG3.out hdj
        have hset := HO3.out.set 3 (.slice (some ⟨g', 0, none⟩) (j + 1) cap)
        simp only [List.setIfInBounds_toArray, List.set_cons_zero, List.set_cons_succ] at hset
        refine ⟨j + 1, by omega, by go_num, some ⟨g', 0, none⟩, cap, hset, ownsRow_setCell_other (a := ⟨w2.heap.size, 3, none⟩) ho1 (by have := hne _ _ _ _ _ ho1; simpa using this) _, ?_, hr3.far (p := ⟨w2.heap.size, 3, none⟩) neOR _, hb3.setCell (p := ⟨w2.heap.size, 3, none⟩) (show w.heap.size ≤ w2.heap.size by omega) _, ?_⟩
        · have h3 := HN3.out
          exact ownsRow_setCell_other (a := ⟨w2.heap.size, 3, none⟩) h3 (by have := hne _ _ _ _ _ h3; simpa using this) _
        · have := HG3.out.size
          simp at this ⊢
          omega
      case measure => simp [intOf]; omega
    · obtain rfl : j = k := by omega
      have HI2 := Lib.hid (is_own HW1.out)
      have hw3 : SOwn2 w.heap.size wr ⟨A1, d1, X, cx⟩ (SDnew n l j 0) := ⟨⟨HW1.out, own_base HW2.out (show w.heap.size ≤ v2.heap.size by have := H2.out.2.2.2.size; omega)⟩, fun g h1 h2 => by
        have a := (H2.out.1.lt g h2).2
        have b := (HW2.out.lt g h1).1
        omega⟩
      have HW3 := Lib.hid hw3
      clear hw3
      go_wp2_with fail
      refine (skipped_any ⟨A1, d1, X, cx⟩ (SDnew n l j 0) 0 _ HI2.out (Nat.zero_le _) (show (n : Int) ≤ 100000 by omega)).mono ?_
      rintro e w5 ⟨⟨i, hi, rfl⟩, bel5⟩
      dsimp only [SDnew] at hi ⊢
      have HJ := Lib.hid hi
      have HR5 := Lib.hid (HR.out.below bel5)
      have HW5 := Lib.hid (show SOwn2 w.heap.size w5 ⟨A1, d1, X, cx⟩ (SDnew n l j i) from HW3.out.below bel5)
      have HB5 := Lib.hid (HB.out.trans (bel5.mono zb))
      clear ltO O_0 O_1 O_2 O_3 O_4 Of0 Of1 Of2 Of3 Of4
      clear hi bel5
      have ltR := HR5.out.lt
      have R_0 := HR5.out.cell 0
      have R_1 := HR5.out.cell 1
      have R_2 := HR5.out.cell 2
      have R_3 := HR5.out.cell 3
      have R_4 := HR5.out.cell 4
      have Rf0 := HR5.out.frozen 0
      have Rf1 := HR5.out.frozen 1
      have Rf2 := HR5.out.frozen 2
      have Rf3 := HR5.out.frozen 3
      have Rf4 := HR5.out.frozen 4
      simp at R_0 R_1 R_2 R_3 R_4
      go_wp2
      refine bodyPost_ret (v := .tuple #[.agg #[.slice A1 n d1, .int .i64 (i : Int), .int .i64 0, .slice X j cx, .int .i64 0], .int .i64 0]) (by simp [results, Try.results16, go_sem, *]) rfl ⟨⟨⟨A1, d1, X, cx⟩, SDnew n l j i, 0, rfl, .inr ⟨Hw.out, .inr ⟨Hp.out, rfl, i, HJ.out, by rw [Hkn.out]⟩⟩, ?_⟩, ?_⟩
      · exact (SOwn2.far (SOwn2.far (SOwn2.far (SOwn2.far (SOwn2.far HW5.out HR5.out (by decide) 0 (.slice A1 n d1)) (HasBlk.set HR5.out 0 (.slice A1 n d1)) (by decide) 1 (.int .i64 (i : Int))) (HasBlk.set (HasBlk.set HR5.out 0 (.slice A1 n d1)) 1 (.int .i64 (i : Int))) (by decide) 2 (.int .i64 0)) (HasBlk.set (HasBlk.set (HasBlk.set HR5.out 0 (.slice A1 n d1)) 1 (.int .i64 (i : Int))) 2 (.int .i64 0)) (by decide) 3 (.slice X j cx)) (HasBlk.set (HasBlk.set (HasBlk.set (HasBlk.set HR5.out 0 (.slice A1 n d1)) 1 (.int .i64 (i : Int))) 2 (.int .i64 0)) 3 (.slice X j cx)) (by decide) 4 (.int .i64 0))
      · exact (Below.setCell (p := ⟨w.heap.size, 4, none⟩) (Below.setCell (p := ⟨w.heap.size, 3, none⟩) (Below.setCell (p := ⟨w.heap.size, 2, none⟩) (Below.setCell (p := ⟨w.heap.size, 1, none⟩) (Below.setCell (p := ⟨w.heap.size, 0, none⟩) HB5.out (Nat.le_refl _) (.slice A1 n d1)) (Nat.le_refl _) (.int .i64 (i : Int))) (Nat.le_refl _) (.int .i64 0)) (Nat.le_refl _) (.slice X j cx)) (Nat.le_refl _) (.int .i64 0))
end Go.Proofs.Ytdilfcpgjkkjmaa
