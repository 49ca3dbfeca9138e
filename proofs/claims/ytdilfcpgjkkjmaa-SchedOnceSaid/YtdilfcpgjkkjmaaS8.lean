/- sched: the reference's Step. -/
import Derived.Test.YtdilfcpgjkkjmaaS7
import Derived.StillTailTactics
import Derived.Test.YtdilfcpgjkkjmaaSpo
namespace Go.Proofs.Ytdilfcpgjkkjmaa
open Go.RowKit
set_option linter.unusedVariables false
theorem skipped_at (p : SP) (s : SD) (x : Int) (k : Nat) (w : World) (hx : x = k) (h : IS w p.a s.np s.ph) (hk : k ≤ s.np) (hn : (s.np : Int) ≤ 100000) :
    Calls Try.prog 34 #[.agg #[.slice p.a s.np p.ka, .int .i64 s.p, .int .i64 s.n, .slice p.b s.nb p.kb, .int .i64 s.d], .int .i64 x] w fun e w' => SkR p s k e ∧ Below w.heap.size w w' := by
  subst hx
  exact skipped_any p s k w h hk hn
theorem cell_far5 {w : World} {g : Nat} {p : Addr} (h : g ≠ p.block) (u0 u1 u2 u3 u4 : Value) :
    (((((w.setCell ⟨g, 0, none⟩ u0).setCell ⟨g, 1, none⟩ u1).setCell ⟨g, 2, none⟩ u2).setCell ⟨g, 3, none⟩ u3).setCell ⟨g, 4, none⟩ u4).cell? p = w.cell? p := by
  rw [World.cell?_setCell_far _ _ _ _ h, World.cell?_setCell_far _ _ _ _ h, World.cell?_setCell_far _ _ _ _ h, World.cell?_setCell_far _ _ _ _ h, World.cell?_setCell_far _ _ _ _ h]
theorem cell_far5d {w : World} {g : Nat} {p : Addr} (h : g ≠ p.block) (u0 u1 u2 u3 u4 : Value) :
    (((((w.setCell ⟨g, 0, none⟩ u0).setCell ⟨g, 1, none⟩ u1).setCell ⟨g, 2, none⟩ u2).setCell ⟨g, 3, none⟩ u3).setCell ⟨g, 4, none⟩ u4).drew.cell? p = w.drew.cell? p :=
  (World.cell?_drew ..).trans ((cell_far5 (w := w) (p := p) h u0 u1 u2 u3 u4).trans (World.cell?_drew ..).symm)
theorem st5 (A : Option Addr) (n c : Nat) (x y : Int) (B : Option Addr) (m d : Nat) (z : Int) {g : Nat} {w : World} {c0 c1 c2 c3 c4 : Value} (h : HasBlk w g 25 #[c0, c1, c2, c3, c4]) :
    (Instr.storeAt 25 (.pointer (some ⟨g, 0, none⟩)) (.agg #[.slice A n c, .int .i64 x, .int .i64 y, .slice B m d, .int .i64 z])).run Try.prog w =
      .ok () (((((w.setCell ⟨g, 0, none⟩ (.slice A n c)).setCell ⟨g, 1, none⟩ (.int .i64 x)).setCell ⟨g, 2, none⟩ (.int .i64 y)).setCell ⟨g, 3, none⟩ (.slice B m d)).setCell ⟨g, 4, none⟩ (.int .i64 z)) := by
  have r0 := h.cell 0
  have r1 := h.cell 1
  have r2 := h.cell 2
  have r3 := h.cell 3
  have r4 := h.cell 4
  have f0 := h.frozen 0
  have f1 := h.frozen 1
  have f2 := h.frozen 2
  have f3 := h.frozen 3
  have f4 := h.frozen 4
  simp at r0 r1 r2 r3 r4
  go_simp
theorem upon_store {P : Program} {o : Oper} {a : Act} {K : Act → World → Prop} {Q : Exit → Act → World → Prop} {α : Type} {r : Result α} {x : α} {w' : World} (e : r = .ok x w') (h : K (a.put o.dst undef) w') : Oper.upon P o a K Q (r.andThen fun _ w => .ok .skip w) := by
  rw [e]
  simpa [Oper.upon, Result.andThen] using h
/-- What Step answers. -/
def StR (s : SD) (worker : Int) (B : Nat) (e : Ending) (w' : World) : Prop :=
  ∃ (q : SP) (t : SD) (u v x : Int), e = .returned (.tuple #[.agg #[.slice q.a t.np q.ka, .int .i64 t.p, .int .i64 t.n, .slice q.b t.nb q.kb, .int .i64 t.d], .int .i64 u, .int .i64 v, .int .i64 x]) ∧ StepV s worker t u v x ∧ SOwn2 B w' q t
theorem own_zero (B : Nat) (w : World) : SOwn2 B w ⟨none, 0, none, 0⟩ SD0 := ⟨⟨own_nil _ _ _ _, own_nil _ _ _ _⟩, fun g h => by cases h⟩
theorem cellsR_set1 {n k : Nat} {l : Nat → Int} (hk : k < n) (x : Int) : (cellsR 1 (ivR l) n).set k (.int .i64 x) = cellsR 1 (ivR (upd1 l k x)) n := by
  apply List.ext_getElem?
  intro i
  by_cases hi : i < n
  · have a := cellsR_at (s := 1) (F := ivR l) hi (show 0 < 1 by omega)
    have b := cellsR_at (s := 1) (F := ivR (upd1 l k x)) hi (show 0 < 1 by omega)
    simp only [Nat.mul_one, Nat.add_zero] at a b
    have hl := cellsR_len 1 (ivR l) n
    rw [List.getElem?_set, b]
    by_cases e : k = i
    · subst e
      rw [if_pos rfl, if_pos (by omega)]
      show some (Value.int .i64 x) = some (Value.int .i64 (upd1 l k x k))
      rw [upd1_at]
    · rw [if_neg e, a]
      show some (Value.int .i64 (l i)) = some (Value.int .i64 (upd1 l k x i))
      rw [upd1_ne _ _ (Ne.symm e)]
  · have hl := cellsR_len 1 (ivR l) n
    have hl' := cellsR_len 1 (ivR (upd1 l k x)) n
    rw [List.getElem?_eq_none (by simp; omega), List.getElem?_eq_none (by omega)]
theorem SOwn2.busy {B gb : Nat} {w : World} {q : SP} {s : SD} (h : SOwn2 B w q s) (hq : q.b = some ⟨gb, 0, none⟩) {k : Nat} (hk : k < s.nb) (x P N D : Int) :
    SOwn2 B (w.setCell ⟨gb, k, none⟩ (.int .i64 x)) q ⟨s.np, s.ph, P, N, s.nb, upd1 s.bz k x, D⟩ := by
  obtain ⟨⟨h1, h2⟩, h3⟩ := h
  have hb : (Value.slice q.b s.nb q.kb).ownBlock = some gb := by rw [hq]; rfl
  refine ⟨⟨ownsRow_setCell_other (a := ⟨gb, k, none⟩) h1 (by have := h3 gb hb; simpa using this) _, ?_⟩, h3⟩
  have h2' := h2
  rw [hq] at h2'
  have := (h2'.stored k (.int .i64 x)).1
  rw [cellsR_set1 hk] at this
  show World.ownsRow _ B 3 1 (.slice q.b s.nb q.kb) s.nb _
  rw [hq]
  exact this
theorem SOwn2.wit {B : Nat} {w : World} {q : SP} {s : SD} (h : SOwn2 B w q s) (hn : 0 < s.nb) : ∃ gb, q.b = some ⟨gb, 0, none⟩ ∧ B ≤ gb ∧ gb < w.heap.size ∧ (∀ j, j < s.nb → w.cell? ⟨gb, j, none⟩ = some (.int .i64 (s.bz j))) ∧ (∀ j, w.frozen? ⟨gb, j, none⟩ = false) ∧ ∀ g t cs, HasBlk w g t cs → 3 ≠ t → gb ≠ g := by
  obtain ⟨gb, hA, hB, hl, ho, _, hf⟩ := own_w h.1.2 hn
  refine ⟨gb, hA, hB, hl, fun j hj => ?_, hf, fun g t cs hg ht e => hg.ne_own h.1.2 ht (by rw [ho, e])⟩
  obtain ⟨g', o', hA', _, hc⟩ := is_own h.1.2 hn
  rw [hA] at hA'
  injection hA' with hA'
  injection hA' with e1 e2
  subst e1 e2
  have := hc j hj
  rwa [Nat.zero_add] at this

set_option maxRecDepth 100000 in
set_option maxHeartbeats 8000000 in
theorem refstep_any (p : SP) (s : SD) (worker : Int) (w : World) (h : SOk w p s) :
    Calls Try.prog 18 #[.agg #[.slice p.a s.np p.ka, .int .i64 s.p, .int .i64 s.n, .slice p.b s.nb p.kb, .int .i64 s.d], .int .i64 worker] w fun e w' => StR s worker w.heap.size e w' ∧ Below w.heap.size w w' := by
  have hc := Lib.hid (fun W (hb : Below w.heap.size w W) => refcheck_any p s W (h.below hb))
  have HBx := Lib.hid (And.intro (show Below w.heap.size w ((w.alloc (.cells #[.slice p.a s.np p.ka, .int .i64 s.p, .int .i64 s.n, .slice p.b s.nb p.kb, .int .i64 s.d] 25)).alloc (.cells #[.slice none 0 0, .int .i64 0, .int .i64 0, .slice none 0 0, .int .i64 0] 25)) by repeat' (first | exact Below.refl _ _ | assumption | apply Below.drew | refine Below.setCell ?_ (by first | omega | (simp; done) | (simp; omega)) _ | refine Below.alloc ?_ (by first | omega | (simp; done) | (simp; omega)) _)) (And.intro ((hasBlk_new w 25 #[.slice p.a s.np p.ka, .int .i64 s.p, .int .i64 s.n, .slice p.b s.nb p.kb, .int .i64 s.d]).alloc (.cells #[.slice none 0 0, .int .i64 0, .int .i64 0, .slice none 0 0, .int .i64 0] 25)) (show HasBlk ((w.alloc (.cells #[.slice p.a s.np p.ka, .int .i64 s.p, .int .i64 s.n, .slice p.b s.nb p.kb, .int .i64 s.d] 25)).alloc (.cells #[.slice none 0 0, .int .i64 0, .int .i64 0, .slice none 0 0, .int .i64 0] 25)) (w.heap.size + 1) 25 #[.slice none 0 0, .int .i64 0, .int .i64 0, .slice none 0 0, .int .i64 0] by simpa using hasBlk_new (w.alloc (.cells #[.slice p.a s.np p.ka, .int .i64 s.p, .int .i64 s.n, .slice p.b s.nb p.kb, .int .i64 s.d] 25)) 25 #[.slice none 0 0, .int .i64 0, .int .i64 0, .slice none 0 0, .int .i64 0])))
  have HS := Lib.hid h
  clear h
  go_enter Try.func18, Try.ntmps18
  go_wp2_with fail
  refine (hc.out _ HBx.out.1).mono ?_
  rintro e w1 ⟨rfl, bel1⟩
  have HB := Lib.hid (HBx.out.1.trans (bel1.mono HBx.out.1.size))
  have HP := Lib.hid (HBx.out.2.1.below bel1)
  have HR := Lib.hid (HBx.out.2.2.below bel1)
  clear bel1 hc
  have ltP := HP.out.lt
  have P_0 := HP.out.cell 0
  have P_1 := HP.out.cell 1
  have P_2 := HP.out.cell 2
  have P_3 := HP.out.cell 3
  have P_4 := HP.out.cell 4
  simp at P_0 P_1 P_2 P_3 P_4
  have ltR := HR.out.lt
  have R_0 := HR.out.cell 0
  have R_1 := HR.out.cell 1
  have R_2 := HR.out.cell 2
  have R_3 := HR.out.cell 3
  have R_4 := HR.out.cell 4
  have Rf0 := HR.out.frozen 0
  have Rf1 := HR.out.frozen 1
  have Rf2 := HR.out.frozen 2
  have Rf3 := HR.out.frozen 3
  have Rf4 := HR.out.frozen 4
  simp at R_0 R_1 R_2 R_3 R_4
  by_cases hm : s.May
  rotate_left
  · have Hm := Lib.hid hm
    rw [mayv_no hm]
    clear hm
    go_wp2
    refine bodyPost_ret (v := .tuple #[.agg #[.slice none 0 0, .int .i64 0, .int .i64 0, .slice none 0 0, .int .i64 0], .int .i64 0, .int .i64 0, .int .i64 8]) (by simp [results, Try.results18, go_sem, *]) rfl ⟨⟨⟨none, 0, none, 0⟩, SD0, 0, 0, 8, rfl, .inl ⟨Hm.out, rfl, rfl, rfl, rfl⟩, own_zero _ _⟩, ?_⟩
    exact (Below.setCell (p := ⟨w.heap.size + 1, 4, none⟩) (Below.setCell (p := ⟨w.heap.size + 1, 3, none⟩) (Below.setCell (p := ⟨w.heap.size + 1, 2, none⟩) (Below.setCell (p := ⟨w.heap.size + 1, 1, none⟩) (Below.setCell (p := ⟨w.heap.size + 1, 0, none⟩) HB.out (show w.heap.size ≤ w.heap.size + 1 by omega) (.slice none 0 0)) (show w.heap.size ≤ w.heap.size + 1 by omega) (.int .i64 0)) (show w.heap.size ≤ w.heap.size + 1 by omega) (.int .i64 0)) (show w.heap.size ≤ w.heap.size + 1 by omega) (.slice none 0 0)) (show w.heap.size ≤ w.heap.size + 1 by omega) (.int .i64 0))
  have Hm := Lib.hid hm
  rw [mayv_yes hm]
  clear hm
  by_cases hw0 : worker < 0
  · have g0 : decide (worker < 0) = true := decide_eq_true hw0
    have Hw := Lib.hid hw0
    clear hw0
    go_wp2
    refine bodyPost_ret (v := .tuple #[.agg #[.slice none 0 0, .int .i64 0, .int .i64 0, .slice none 0 0, .int .i64 0], .int .i64 0, .int .i64 0, .int .i64 2]) (by simp [results, Try.results18, go_sem, *]) rfl ⟨⟨⟨none, 0, none, 0⟩, SD0, 0, 0, 2, rfl, .inr (.inl ⟨Hm.out, .inl Hw.out, rfl, rfl, rfl, rfl⟩), own_zero _ _⟩, ?_⟩
    exact (Below.setCell (p := ⟨w.heap.size + 1, 4, none⟩) (Below.setCell (p := ⟨w.heap.size + 1, 3, none⟩) (Below.setCell (p := ⟨w.heap.size + 1, 2, none⟩) (Below.setCell (p := ⟨w.heap.size + 1, 1, none⟩) (Below.setCell (p := ⟨w.heap.size + 1, 0, none⟩) HB.out (show w.heap.size ≤ w.heap.size + 1 by omega) (.slice none 0 0)) (show w.heap.size ≤ w.heap.size + 1 by omega) (.int .i64 0)) (show w.heap.size ≤ w.heap.size + 1 by omega) (.int .i64 0)) (show w.heap.size ≤ w.heap.size + 1 by omega) (.slice none 0 0)) (show w.heap.size ≤ w.heap.size + 1 by omega) (.int .i64 0))
  have g0 : decide (worker < 0) = false := decide_eq_false hw0
  by_cases hw1 : (s.nb : Int) ≤ worker
  · have g1 : decide ((s.nb : Int) ≤ worker) = true := decide_eq_true hw1
    have Hw := Lib.hid hw1
    clear hw0 hw1
    go_wp2
    refine bodyPost_ret (v := .tuple #[.agg #[.slice none 0 0, .int .i64 0, .int .i64 0, .slice none 0 0, .int .i64 0], .int .i64 0, .int .i64 0, .int .i64 2]) (by simp [results, Try.results18, go_sem, *]) rfl ⟨⟨⟨none, 0, none, 0⟩, SD0, 0, 0, 2, rfl, .inr (.inl ⟨Hm.out, .inr Hw.out, rfl, rfl, rfl, rfl⟩), own_zero _ _⟩, ?_⟩
    exact (Below.setCell (p := ⟨w.heap.size + 1, 4, none⟩) (Below.setCell (p := ⟨w.heap.size + 1, 3, none⟩) (Below.setCell (p := ⟨w.heap.size + 1, 2, none⟩) (Below.setCell (p := ⟨w.heap.size + 1, 1, none⟩) (Below.setCell (p := ⟨w.heap.size + 1, 0, none⟩) HB.out (show w.heap.size ≤ w.heap.size + 1 by omega) (.slice none 0 0)) (show w.heap.size ≤ w.heap.size + 1 by omega) (.int .i64 0)) (show w.heap.size ≤ w.heap.size + 1 by omega) (.int .i64 0)) (show w.heap.size ≤ w.heap.size + 1 by omega) (.slice none 0 0)) (show w.heap.size ≤ w.heap.size + 1 by omega) (.int .i64 0))
  obtain ⟨k, hk⟩ : ∃ k : Nat, worker = k := ⟨worker.toNat, by omega⟩
  subst hk
  have g1 : decide ((s.nb : Int) ≤ (k : Int)) = false := decide_eq_false hw1
  have hkn : k < s.nb := by omega
  obtain ⟨hph, hn16, hb1, hb64, ⟨pn, hq, hqn⟩, hn0, hnt, hbz, hd, hx⟩ := Hm.out.parts
  have htb := Hm.out.tasks_bd
  have hwk := wk_le s.bz s.nb
  have ht1 : s.tasks ≤ 16384 := htb.2
  have hp0 : 0 ≤ s.p := by omega
  have hp1 : s.p ≤ (s.np : Int) := by omega
  have hd0 : s.d ≤ 16384 := by omega
  have hd1 : -64 ≤ s.d := by omega
  have hbk := hbz k hkn
  have hbk0 : -1 ≤ s.bz k := hbk.1
  have hbk1 : s.bz k < s.n := hbk.2
  have Hq := Lib.hid hq
  have Hph := Lib.hid hph
  clear hw0 hw1 hph hbz hd hx htb hbk hq
  go_wp2_with fail
  refine (refcan_any p s k _ (HS.out.below HB.out) hkn (by omega) hp0 hp1 hn0).mono ?_
  rintro e w2 ⟨rfl, bel2⟩
  have HB2 := Lib.hid (HB.out.trans (bel2.mono HB.out.size))
  have HP2 := Lib.hid (HP.out.below bel2)
  have HR2 := Lib.hid (HR.out.below bel2)
  clear ltP P_0 P_1 P_2 P_3 P_4
  clear ltR R_0 R_1 R_2 R_3 R_4 Rf0 Rf1 Rf2 Rf3 Rf4
  clear bel2 HP HR HB
  have ltP := HP2.out.lt
  have P_0 := HP2.out.cell 0
  have P_1 := HP2.out.cell 1
  have P_2 := HP2.out.cell 2
  have P_3 := HP2.out.cell 3
  have P_4 := HP2.out.cell 4
  simp at P_0 P_1 P_2 P_3 P_4
  have ltR := HR2.out.lt
  have R_0 := HR2.out.cell 0
  have R_1 := HR2.out.cell 1
  have R_2 := HR2.out.cell 2
  have R_3 := HR2.out.cell 3
  have R_4 := HR2.out.cell 4
  have Rf0 := HR2.out.frozen 0
  have Rf1 := HR2.out.frozen 1
  have Rf2 := HR2.out.frozen 2
  have Rf3 := HR2.out.frozen 3
  have Rf4 := HR2.out.frozen 4
  simp at R_0 R_1 R_2 R_3 R_4
  cases hcan : s.can k with
  | false =>
    have Hc := Lib.hid hcan
    clear hcan
    go_wp2
    refine bodyPost_ret (v := .tuple #[.agg #[.slice none 0 0, .int .i64 0, .int .i64 0, .slice none 0 0, .int .i64 0], .int .i64 0, .int .i64 0, .int .i64 6]) (by simp [results, Try.results18, go_sem, *]) rfl ⟨⟨⟨none, 0, none, 0⟩, SD0, 0, 0, 6, rfl, .inr (.inr ⟨Hm.out, k, rfl, hkn, .inl ⟨Hc.out, rfl, rfl, rfl, rfl⟩⟩), own_zero _ _⟩, ?_⟩
    exact (Below.setCell (p := ⟨w.heap.size + 1, 4, none⟩) (Below.setCell (p := ⟨w.heap.size + 1, 3, none⟩) (Below.setCell (p := ⟨w.heap.size + 1, 2, none⟩) (Below.setCell (p := ⟨w.heap.size + 1, 1, none⟩) (Below.setCell (p := ⟨w.heap.size + 1, 0, none⟩) HB2.out (show w.heap.size ≤ w.heap.size + 1 by omega) (.slice none 0 0)) (show w.heap.size ≤ w.heap.size + 1 by omega) (.int .i64 0)) (show w.heap.size ≤ w.heap.size + 1 by omega) (.int .i64 0)) (show w.heap.size ≤ w.heap.size + 1 by omega) (.slice none 0 0)) (show w.heap.size ≤ w.heap.size + 1 by omega) (.int .i64 0))
  | true =>
    have Hc := Lib.hid hcan
    clear hcan
    go_wp2_with fail
    refine (twin_any p s _ (HS.out.below HB2.out) (by omega) (by omega)).mono ?_
    rintro e w3 ⟨⟨q, rfl, ho⟩, bel3⟩
    have HB3 := Lib.hid (HB2.out.trans (bel3.mono HB2.out.size))
    have hoa := (ho.base HB2.out.size).below ((Below.refl w3.heap.size w3).alloc (Nat.le_refl _) (.cells #[.slice q.a s.np q.ka, .int .i64 s.p, .int .i64 s.n, .slice q.b s.nb q.kb, .int .i64 s.d] 25))
    have hpa := (HP2.out.below bel3).alloc (.cells #[.slice q.a s.np q.ka, .int .i64 s.p, .int .i64 s.n, .slice q.b s.nb q.kb, .int .i64 s.d] 25)
    have hra := (HR2.out.below bel3).alloc (.cells #[.slice q.a s.np q.ka, .int .i64 s.p, .int .i64 s.n, .slice q.b s.nb q.kb, .int .i64 s.d] 25)
    have hoo := hasBlk_new w3 25 #[.slice q.a s.np q.ka, .int .i64 s.p, .int .i64 s.n, .slice q.b s.nb q.kb, .int .i64 s.d]
    have hba := HB3.out.alloc HB3.out.size (.cells #[.slice q.a s.np q.ka, .int .i64 s.p, .int .i64 s.n, .slice q.b s.nb q.kb, .int .i64 s.d] 25)
    have hpl := HP2.out.lt
    have hrl := HR2.out.lt
    have hz23 := bel3.size
    have neOP : w3.heap.size ≠ w.heap.size := by omega
    have neRO : w.heap.size + 1 ≠ w3.heap.size := by omega
    have neOR : w3.heap.size ≠ w.heap.size + 1 := by omega
    clear ltP P_0 P_1 P_2 P_3 P_4
    clear ltR R_0 R_1 R_2 R_3 R_4 Rf0 Rf1 Rf2 Rf3 Rf4
    clear bel3 ho HP2 HR2 HB2 hpl hrl hz23
    go_upto_region 9 with fail
    generalize w3.alloc (.cells #[.slice q.a s.np q.ka, .int .i64 s.p, .int .i64 s.n, .slice q.b s.nb q.kb, .int .i64 s.d] 25) = v at *
    have HOw := Lib.hid hoa
    have HP := Lib.hid hpa
    have HR := Lib.hid hra
    have HO := Lib.hid hoo
    have HB := Lib.hid hba
    obtain ⟨gb, hqb, hgB, hgl, hgc, hgf, hgn⟩ := hoa.wit (by omega)
    have neG1 := hgn _ _ _ hoo (by decide)
    have neG2 := hgn _ _ _ hpa (by decide)
    have neG3 := hgn _ _ _ hra (by decide)
    obtain ⟨g, o, hA, hg, hc⟩ := HS.out.2 (by omega)
    have c0 := (hba.cell (p := ⟨g, o + k, none⟩) hg).trans (hc k hkn)
    have ck := hgc k hkn
    have fk := hgf k
    have HQB := Lib.hid hqb
    have HGB := Lib.hid hgB
    have HA := Lib.hid hA
    have hi0 : (0 : Int) ≤ (k : Int) := by omega
    have hi1 : (k : Int) < (s.nb : Int) := by omega
    clear hgc hgf hgn hA hg hc hpa hra hoa hoo hba hqb hgB
    have ltP := HP.out.lt
    have P_0 := HP.out.cell 0
    have P_1 := HP.out.cell 1
    have P_2 := HP.out.cell 2
    have P_3 := HP.out.cell 3
    have P_4 := HP.out.cell 4
    simp at P_0 P_1 P_2 P_3 P_4
    have ltO := HO.out.lt
    have O_0 := HO.out.cell 0
    have O_1 := HO.out.cell 1
    have O_2 := HO.out.cell 2
    have O_3 := HO.out.cell 3
    have O_4 := HO.out.cell 4
    have Of0 := HO.out.frozen 0
    have Of1 := HO.out.frozen 1
    have Of2 := HO.out.frozen 2
    have Of3 := HO.out.frozen 3
    have Of4 := HO.out.frozen 4
    simp at O_0 O_1 O_2 O_3 O_4
    rw [HA.out] at P_3
    rw [HQB.out] at O_3
    by_cases hb : s.bz k < 0
    · have g2 : decide (s.bz k < 0) = true := decide_eq_true hb
      have Hb := Lib.hid hb
      clear hb
      go_upto_region 12 with fail
      have ho1 := HOw.out.busy HQB.out hkn s.n s.p (s.n + 1) s.d
      have hp1' := HP.out.far (p := ⟨gb, k, none⟩) neG2 (.int .i64 s.n)
      have hr1 := HR.out.far (p := ⟨gb, k, none⟩) neG3 (.int .i64 s.n)
      have hO1 := HO.out.far (p := ⟨gb, k, none⟩) neG1 (.int .i64 s.n)
      have hB1 := HB.out.setCell (p := ⟨gb, k, none⟩) HGB.out (.int .i64 s.n)
      clear ltP P_0 P_1 P_2 P_3 P_4
      clear ltO O_0 O_1 O_2 O_3 O_4 Of0 Of1 Of2 Of3 Of4
      clear c0 ck fk hgl
      generalize v.setCell ⟨gb, k, none⟩ (.int .i64 s.n) = v1 at *
      have HOw1 := Lib.hid ho1
      have HR1 := Lib.hid hr1
      have HO1 := Lib.hid hO1
      have HB1 := Lib.hid hB1
      clear ho1 hp1' hr1 hO1 hB1
      have ltO := HO1.out.lt
      have O_0 := HO1.out.cell 0
      have O_1 := HO1.out.cell 1
      have O_2 := HO1.out.cell 2
      have O_3 := HO1.out.cell 3
      have O_4 := HO1.out.cell 4
      have Of0 := HO1.out.frozen 0
      have Of1 := HO1.out.frozen 1
      have Of2 := HO1.out.frozen 2
      have Of3 := HO1.out.frozen 3
      have Of4 := HO1.out.frozen 4
      simp at O_0 O_1 O_2 O_3 O_4
      go_upto_region 13 with fail
      have ho2 := HOw1.out.far HO1.out (by decide) 2 (.int .i64 (s.n + 1))
      have hO2 := HO1.out.set 2 (.int .i64 (s.n + 1))
      have hr2 := HR1.out.far (p := ⟨w3.heap.size, 2, none⟩) neOR (.int .i64 (s.n + 1))
      have hB2 := HB1.out.setCell (p := ⟨w3.heap.size, 2, none⟩) (show w.heap.size ≤ w3.heap.size from HB3.out.size) (.int .i64 (s.n + 1))
      simp only [List.setIfInBounds_toArray, List.set_cons_zero, List.set_cons_succ] at hO2
      clear ltO O_0 O_1 O_2 O_3 O_4 Of0 Of1 Of2 Of3 Of4
      generalize v1.setCell ⟨w3.heap.size, 2, none⟩ (.int .i64 (s.n + 1)) = v2 at *
      have HOw2 := Lib.hid ho2
      have HR2 := Lib.hid hr2
      have HO2 := Lib.hid hO2
      have HB2 := Lib.hid hB2
      clear ho2 hO2 hr2 hB2
      have ltO := HO2.out.lt
      have O_0 := HO2.out.cell 0
      have O_1 := HO2.out.cell 1
      have O_2 := HO2.out.cell 2
      have O_3 := HO2.out.cell 3
      have O_4 := HO2.out.cell 4
      have Of0 := HO2.out.frozen 0
      have Of1 := HO2.out.frozen 1
      have Of2 := HO2.out.frozen 2
      have Of3 := HO2.out.frozen 3
      have Of4 := HO2.out.frozen 4
      simp at O_0 O_1 O_2 O_3 O_4
      have ltR := HR2.out.lt
      have R_0 := HR2.out.cell 0
      have R_1 := HR2.out.cell 1
      have R_2 := HR2.out.cell 2
      have R_3 := HR2.out.cell 3
      have R_4 := HR2.out.cell 4
      have Rf0 := HR2.out.frozen 0
      have Rf1 := HR2.out.frozen 1
      have Rf2 := HR2.out.frozen 2
      have Rf3 := HR2.out.frozen 3
      have Rf4 := HR2.out.frozen 4
      simp at R_0 R_1 R_2 R_3 R_4
      go_wp2
      refine bodyPost_ret (v := .tuple #[.agg #[.slice q.a s.np q.ka, .int .i64 s.p, .int .i64 (s.n + 1), .slice q.b s.nb q.kb, .int .i64 s.d], .int .i64 (-1), .int .i64 (-1), .int .i64 0]) (by simp [results, Try.results18, go_sem, *]) rfl ⟨⟨q, s.take k, -1, -1, 0, rfl, .inr (.inr ⟨Hm.out, k, rfl, hkn, .inr (.inl ⟨Hc.out, Hb.out, rfl, rfl, rfl, rfl⟩)⟩), ?_⟩, ?_⟩
      · exact (SOwn2.far (SOwn2.far (SOwn2.far (SOwn2.far (SOwn2.far HOw2.out HR2.out (by decide) 0 (.slice q.a s.np q.ka)) (HasBlk.set HR2.out 0 (.slice q.a s.np q.ka)) (by decide) 1 (.int .i64 s.p)) (HasBlk.set (HasBlk.set HR2.out 0 (.slice q.a s.np q.ka)) 1 (.int .i64 s.p)) (by decide) 2 (.int .i64 (s.n + 1))) (HasBlk.set (HasBlk.set (HasBlk.set HR2.out 0 (.slice q.a s.np q.ka)) 1 (.int .i64 s.p)) 2 (.int .i64 (s.n + 1))) (by decide) 3 (.slice q.b s.nb q.kb)) (HasBlk.set (HasBlk.set (HasBlk.set (HasBlk.set HR2.out 0 (.slice q.a s.np q.ka)) 1 (.int .i64 s.p)) 2 (.int .i64 (s.n + 1))) 3 (.slice q.b s.nb q.kb)) (by decide) 4 (.int .i64 s.d))
      · exact (Below.setCell (p := ⟨w.heap.size + 1, 4, none⟩) (Below.setCell (p := ⟨w.heap.size + 1, 3, none⟩) (Below.setCell (p := ⟨w.heap.size + 1, 2, none⟩) (Below.setCell (p := ⟨w.heap.size + 1, 1, none⟩) (Below.setCell (p := ⟨w.heap.size + 1, 0, none⟩) HB2.out (show w.heap.size ≤ w.heap.size + 1 by omega) (.slice q.a s.np q.ka)) (show w.heap.size ≤ w.heap.size + 1 by omega) (.int .i64 s.p)) (show w.heap.size ≤ w.heap.size + 1 by omega) (.int .i64 (s.n + 1))) (show w.heap.size ≤ w.heap.size + 1 by omega) (.slice q.b s.nb q.kb)) (show w.heap.size ≤ w.heap.size + 1 by omega) (.int .i64 s.d))
    · have hb0 : 0 ≤ s.bz k := by omega
      have g2 : decide (s.bz k < 0) = false := decide_eq_false hb
      have Hb := Lib.hid hb0
      have Hno := Lib.hid (Hm.out.busy_not_over hkn hb0)
      clear hb
      go_upto_region 15 with fail
      have ho1 := HOw.out.busy HQB.out hkn (-1) s.p s.n (s.d + 1)
      have hp1' := HP.out.far (p := ⟨gb, k, none⟩) neG2 (.int .i64 (-1))
      have hr1 := HR.out.far (p := ⟨gb, k, none⟩) neG3 (.int .i64 (-1))
      have hO1 := HO.out.far (p := ⟨gb, k, none⟩) neG1 (.int .i64 (-1))
      have hB1 := HB.out.setCell (p := ⟨gb, k, none⟩) HGB.out (.int .i64 (-1))
      clear ltP P_0 P_1 P_2 P_3 P_4
      clear ltO O_0 O_1 O_2 O_3 O_4 Of0 Of1 Of2 Of3 Of4
      clear c0 ck fk hgl
      generalize v.setCell ⟨gb, k, none⟩ (.int .i64 (-1)) = v1 at *
      have HOw1 := Lib.hid ho1
      have HP1 := Lib.hid hp1'
      have HR1 := Lib.hid hr1
      have HO1 := Lib.hid hO1
      have HB1 := Lib.hid hB1
      clear ho1 hp1' hr1 hO1 hB1
      have ltO := HO1.out.lt
      have O_0 := HO1.out.cell 0
      have O_1 := HO1.out.cell 1
      have O_2 := HO1.out.cell 2
      have O_3 := HO1.out.cell 3
      have O_4 := HO1.out.cell 4
      have Of0 := HO1.out.frozen 0
      have Of1 := HO1.out.frozen 1
      have Of2 := HO1.out.frozen 2
      have Of3 := HO1.out.frozen 3
      have Of4 := HO1.out.frozen 4
      simp at O_0 O_1 O_2 O_3 O_4
      go_upto_region 16 with fail
      have ho2 := HOw1.out.far HO1.out (by decide) 4 (.int .i64 (s.d + 1))
      have hO2 := HO1.out.set 4 (.int .i64 (s.d + 1))
      have hr2 := HR1.out.far (p := ⟨w3.heap.size, 4, none⟩) neOR (.int .i64 (s.d + 1))
      have hp2 := HP1.out.far (p := ⟨w3.heap.size, 4, none⟩) neOP (.int .i64 (s.d + 1))
      have hB2 := HB1.out.setCell (p := ⟨w3.heap.size, 4, none⟩) (show w.heap.size ≤ w3.heap.size from HB3.out.size) (.int .i64 (s.d + 1))
      simp only [List.setIfInBounds_toArray, List.set_cons_zero, List.set_cons_succ] at hO2
      clear ltO O_0 O_1 O_2 O_3 O_4 Of0 Of1 Of2 Of3 Of4
      generalize v1.setCell ⟨w3.heap.size, 4, none⟩ (.int .i64 (s.d + 1)) = v2 at *
      have HOw2 := Lib.hid ho2
      have HR2 := Lib.hid hr2
      have HO2 := Lib.hid hO2
      have HP2 := Lib.hid hp2
      have HB2 := Lib.hid hB2
      clear ho2 hO2 hr2 hB2 hp2
      have ltO := HO2.out.lt
      have O_0 := HO2.out.cell 0
      have O_1 := HO2.out.cell 1
      have O_2 := HO2.out.cell 2
      have O_3 := HO2.out.cell 3
      have O_4 := HO2.out.cell 4
      simp at O_0 O_1 O_2 O_3 O_4
      have hpl : s.p < (s.np : Int) := by have := Hno.out; omega
      obtain ⟨ga, oa, hqa, hga, hca⟩ := HOw2.out.1.ok.1 (show 0 < s.np by omega)
      have ca : v2.cell? ⟨ga, oa + s.p.toNat, none⟩ = some (.int .i64 (s.ph s.p.toNat)) := hca s.p.toNat (show s.p.toNat < s.np by omega)
      have HQA := Lib.hid hqa
      have ht := SD.tasks_at Hno.out
      rw [hqa] at O_0
      clear hca hqa
      have r0 := fun b : BW v2 => BW.cell O_0 ltO b
      have r1 := fun b : BW v2 => BW.cell O_1 ltO b
      have r2 := fun b : BW v2 => BW.cell O_2 ltO b
      have r3 := fun b : BW v2 => BW.cell O_3 ltO b
      have r4 := fun b : BW v2 => BW.cell O_4 ltO b
      have ra := fun b : BW v2 => BW.cell ca hga b
      clear O_0 O_1 O_2 O_3 O_4 ca
      by_cases he : s.d + 1 = s.tasks
      rotate_left
      · have g3 : (s.d + 1 == s.ph s.p.toNat) = false := by rw [← ht]; simpa using he
        have He := Lib.hid he
        clear he ht
        refine wp_region_quiet_bw (by kernel_rfl) (by kernel_rfl) ?_
        repeat (go_big_quiet_step (fail))
        refine wpQuiet_nil ?_
        intro _ hw'
        obtain ⟨pq, hw''⟩ := hw'
        subst hw''
        have HO3 := Lib.hid (HO2.out.below pq.h)
        have HP3 := Lib.hid (HP2.out.below pq.h)
        have HR3 := Lib.hid (HR2.out.below pq.h)
        have HOw3 := Lib.hid (HOw2.out.below pq.h)
        have HB4 := Lib.hid (HB2.out.trans (pq.h.mono HB2.out.size))
        generalize pq.W = v3 at *
        clear pq r0 r1 r2 r3 r4 ra g3 ltO hga
        have ltP := HP3.out.lt
        have P_0 := HP3.out.cell 0
        have P_1 := HP3.out.cell 1
        have P_2 := HP3.out.cell 2
        have P_3 := HP3.out.cell 3
        have P_4 := HP3.out.cell 4
        simp at P_0 P_1 P_2 P_3 P_4
        have ltO := HO3.out.lt
        have O_0 := HO3.out.cell 0
        have O_1 := HO3.out.cell 1
        have O_2 := HO3.out.cell 2
        have O_3 := HO3.out.cell 3
        have O_4 := HO3.out.cell 4
        simp at O_0 O_1 O_2 O_3 O_4
        have ltR := HR3.out.lt
        have R_0 := HR3.out.cell 0
        have R_1 := HR3.out.cell 1
        have R_2 := HR3.out.cell 2
        have R_3 := HR3.out.cell 3
        have R_4 := HR3.out.cell 4
        have Rf0 := HR3.out.frozen 0
        have Rf1 := HR3.out.frozen 1
        have Rf2 := HR3.out.frozen 2
        have Rf3 := HR3.out.frozen 3
        have Rf4 := HR3.out.frozen 4
        simp at R_0 R_1 R_2 R_3 R_4
        go_upto_region 18 with fail
        have zr : HasBlk v3.drew (w.heap.size + 1) 25 #[.slice none 0 0, .int .i64 0, .int .i64 0, .slice none 0 0, .int .i64 0] := HR3.out.drew
        have q0 : (fun Wo => Wo.cell? ⟨w3.heap.size, 0, none⟩ = some (.slice q.a s.np q.ka) ∧ Wo.cell? ⟨w3.heap.size, 1, none⟩ = some (.int .i64 s.p) ∧ Wo.cell? ⟨w3.heap.size, 2, none⟩ = some (.int .i64 s.n) ∧ Wo.cell? ⟨w3.heap.size, 3, none⟩ = some (.slice q.b s.nb q.kb) ∧ Wo.cell? ⟨w3.heap.size, 4, none⟩ = some (.int .i64 (s.d + 1)) ∧ Wo.cell? ⟨w.heap.size, 1, none⟩ = some (.int .i64 s.p)) v3.drew := ⟨O_0, O_1, O_2, O_3, O_4, P_1⟩
        have neRP : w.heap.size + 1 ≠ w.heap.size := by omega
        clear ltP P_0 P_1 P_2 P_3 P_4
        clear ltO O_0 O_1 O_2 O_3 O_4
        clear ltR R_0 R_1 R_2 R_3 R_4 Rf0 Rf1 Rf2 Rf3 Rf4
        go_region_held3 (fun Wo => Wo.cell? ⟨w3.heap.size, 0, none⟩ = some (.slice q.a s.np q.ka) ∧ Wo.cell? ⟨w3.heap.size, 1, none⟩ = some (.int .i64 s.p) ∧ Wo.cell? ⟨w3.heap.size, 2, none⟩ = some (.int .i64 s.n) ∧ Wo.cell? ⟨w3.heap.size, 3, none⟩ = some (.slice q.b s.nb q.kb) ∧ Wo.cell? ⟨w3.heap.size, 4, none⟩ = some (.int .i64 (s.d + 1)) ∧ Wo.cell? ⟨w.heap.size, 1, none⟩ = some (.int .i64 s.p))
          (first | with_reducible exact qD | with_reducible exact q0 | fail "keep")
          ((have e := st5 (q.a) (s.np) (q.ka) (s.p) (s.n) (q.b) (s.nb) (q.kb) ((s.d + 1)) zr; simp [go_sem] at e; refine upon_store e ?_; clear e; have qD : (fun Wo => Wo.cell? ⟨w3.heap.size, 0, none⟩ = some (.slice q.a s.np q.ka) ∧ Wo.cell? ⟨w3.heap.size, 1, none⟩ = some (.int .i64 s.p) ∧ Wo.cell? ⟨w3.heap.size, 2, none⟩ = some (.int .i64 s.n) ∧ Wo.cell? ⟨w3.heap.size, 3, none⟩ = some (.slice q.b s.nb q.kb) ∧ Wo.cell? ⟨w3.heap.size, 4, none⟩ = some (.int .i64 (s.d + 1)) ∧ Wo.cell? ⟨w.heap.size, 1, none⟩ = some (.int .i64 s.p)) ((((((v3.setCell ⟨w.heap.size + 1, 0, none⟩ (.slice q.a s.np q.ka)).setCell ⟨w.heap.size + 1, 1, none⟩ (.int .i64 s.p)).setCell ⟨w.heap.size + 1, 2, none⟩ (.int .i64 s.n)).setCell ⟨w.heap.size + 1, 3, none⟩ (.slice q.b s.nb q.kb)).setCell ⟨w.heap.size + 1, 4, none⟩ (.int .i64 (s.d + 1)))).drew := ⟨(cell_far5d neRO _ _ _ _ _).trans q0.1, (cell_far5d neRO _ _ _ _ _).trans q0.2.1, (cell_far5d neRO _ _ _ _ _).trans q0.2.2.1, (cell_far5d neRO _ _ _ _ _).trans q0.2.2.2.1, (cell_far5d neRO _ _ _ _ _).trans q0.2.2.2.2.1, (cell_far5d neRP _ _ _ _ _).trans q0.2.2.2.2.2⟩))
        have ltR := HR3.out.lt
        have R_0 := HR3.out.cell 0
        have R_1 := HR3.out.cell 1
        have R_2 := HR3.out.cell 2
        have R_3 := HR3.out.cell 3
        have R_4 := HR3.out.cell 4
        have Rf0 := HR3.out.frozen 0
        have Rf1 := HR3.out.frozen 1
        have Rf2 := HR3.out.frozen 2
        have Rf3 := HR3.out.frozen 3
        have Rf4 := HR3.out.frozen 4
        simp at R_0 R_1 R_2 R_3 R_4
        go_wp2
        refine bodyPost_ret (v := .tuple #[.agg #[.slice q.a s.np q.ka, .int .i64 s.p, .int .i64 s.n, .slice q.b s.nb q.kb, .int .i64 (s.d + 1)], .int .i64 s.p, .int .i64 (s.bz k), .int .i64 0]) (by simp [results, Try.results18, go_sem, *]) rfl ⟨⟨q, s.fin k, s.p, s.bz k, 0, rfl, .inr (.inr ⟨Hm.out, k, rfl, hkn, .inr (.inr (.inl ⟨Hc.out, Hb.out, He.out, rfl, rfl, rfl, rfl⟩))⟩), ?_⟩, ?_⟩
        · exact SOwn2.below (SOwn2.far (SOwn2.far (SOwn2.far (SOwn2.far (SOwn2.far HOw3.out HR3.out (by decide) 0 (.slice q.a s.np q.ka)) (HasBlk.set HR3.out 0 (.slice q.a s.np q.ka)) (by decide) 1 (.int .i64 s.p)) (HasBlk.set (HasBlk.set HR3.out 0 (.slice q.a s.np q.ka)) 1 (.int .i64 s.p)) (by decide) 2 (.int .i64 s.n)) (HasBlk.set (HasBlk.set (HasBlk.set HR3.out 0 (.slice q.a s.np q.ka)) 1 (.int .i64 s.p)) 2 (.int .i64 s.n)) (by decide) 3 (.slice q.b s.nb q.kb)) (HasBlk.set (HasBlk.set (HasBlk.set (HasBlk.set HR3.out 0 (.slice q.a s.np q.ka)) 1 (.int .i64 s.p)) 2 (.int .i64 s.n)) 3 (.slice q.b s.nb q.kb)) (by decide) 4 (.int .i64 (s.d + 1))) (Below.refl _ _).drew
        · exact (Below.setCell (p := ⟨w.heap.size + 1, 4, none⟩) (Below.setCell (p := ⟨w.heap.size + 1, 3, none⟩) (Below.setCell (p := ⟨w.heap.size + 1, 2, none⟩) (Below.setCell (p := ⟨w.heap.size + 1, 1, none⟩) (Below.setCell (p := ⟨w.heap.size + 1, 0, none⟩) HB4.out (show w.heap.size ≤ w.heap.size + 1 by omega) (.slice q.a s.np q.ka)) (show w.heap.size ≤ w.heap.size + 1 by omega) (.int .i64 s.p)) (show w.heap.size ≤ w.heap.size + 1 by omega) (.int .i64 s.n)) (show w.heap.size ≤ w.heap.size + 1 by omega) (.slice q.b s.nb q.kb)) (show w.heap.size ≤ w.heap.size + 1 by omega) (.int .i64 (s.d + 1))).drew
      · have g3 : (s.d + 1 == s.ph s.p.toNat) = true := by rw [← ht]; simpa using he
        have He := Lib.hid he
        clear he ht
        refine wp_region_quiet_bw (by kernel_rfl) (by kernel_rfl) ?_
        repeat (go_big_quiet_step (fail))
        refine wpQuiet_nil ?_
        intro _ hw'
        obtain ⟨pq, hw''⟩ := hw'
        subst hw''
        have HO3 := Lib.hid (HO2.out.below pq.h)
        have HP3 := Lib.hid (HP2.out.below pq.h)
        have HR3 := Lib.hid (HR2.out.below pq.h)
        have HOw3 := Lib.hid (HOw2.out.below pq.h)
        have HB4 := Lib.hid (HB2.out.trans (pq.h.mono HB2.out.size))
        generalize pq.W = v3 at *
        clear pq r0 r1 r2 r3 r4 ra g3 ltO hga
        have ltO := HO3.out.lt
        have O_0 := HO3.out.cell 0
        have O_1 := HO3.out.cell 1
        have O_2 := HO3.out.cell 2
        have O_3 := HO3.out.cell 3
        have O_4 := HO3.out.cell 4
        simp at O_0 O_1 O_2 O_3 O_4
        go_wp2_with fail
        refine (skipped_at q (s.fin k) (s.p + 1) (pn + 1) _ (by have := Hq.out; omega) HOw3.out.1.ok.1 (show pn + 1 ≤ s.np by have := Hq.out; omega) (show (s.np : Int) ≤ 100000 by omega)).mono ?_
        rintro e w5 ⟨⟨j, hj, rfl⟩, bel5⟩
        dsimp only [SD.fin] at hj ⊢
        have HJ := Lib.hid hj
        have hO4 := HO3.out.below bel5
        have hr4 := HR3.out.below bel5
        have hp4 := HP3.out.below bel5
        have how4 := HOw3.out.below bel5
        have hB4 := HB4.out.trans (bel5.mono HB4.out.size)
        have HX4 := Lib.hid (And.intro hO4 (And.intro hr4 (And.intro hp4 (And.intro how4 hB4))))
        clear ltO O_0 O_1 O_2 O_3 O_4
        clear hj bel5 hr4 hp4 how4 hB4 hO4
        have ltO := HX4.out.1.lt
        have O_0 := HX4.out.1.cell 0
        have O_1 := HX4.out.1.cell 1
        have O_2 := HX4.out.1.cell 2
        have O_3 := HX4.out.1.cell 3
        have O_4 := HX4.out.1.cell 4
        have Of0 := HX4.out.1.frozen 0
        have Of1 := HX4.out.1.frozen 1
        have Of2 := HX4.out.1.frozen 2
        have Of3 := HX4.out.1.frozen 3
        have Of4 := HX4.out.1.frozen 4
        simp at O_0 O_1 O_2 O_3 O_4
        go_upto_region 18 with fail
        have hO5 := (HasBlk.set (HasBlk.set (HasBlk.set (HasBlk.set (HasBlk.set HX4.out.1 0 (.slice q.a s.np q.ka)) 1 (.int .i64 (j : Int))) 2 (.int .i64 0)) 3 (.slice q.b s.nb q.kb)) 4 (.int .i64 0))
        simp only [List.setIfInBounds_toArray, List.set_cons_zero, List.set_cons_succ] at hO5
        have hr5 := (HasBlk.far (p := ⟨w3.heap.size, 4, none⟩) (HasBlk.far (p := ⟨w3.heap.size, 3, none⟩) (HasBlk.far (p := ⟨w3.heap.size, 2, none⟩) (HasBlk.far (p := ⟨w3.heap.size, 1, none⟩) (HasBlk.far (p := ⟨w3.heap.size, 0, none⟩) HX4.out.2.1 neOR (.slice q.a s.np q.ka)) neOR (.int .i64 (j : Int))) neOR (.int .i64 0)) neOR (.slice q.b s.nb q.kb)) neOR (.int .i64 0))
        have hp5 := (HasBlk.far (p := ⟨w3.heap.size, 4, none⟩) (HasBlk.far (p := ⟨w3.heap.size, 3, none⟩) (HasBlk.far (p := ⟨w3.heap.size, 2, none⟩) (HasBlk.far (p := ⟨w3.heap.size, 1, none⟩) (HasBlk.far (p := ⟨w3.heap.size, 0, none⟩) HX4.out.2.2.1 neOP (.slice q.a s.np q.ka)) neOP (.int .i64 (j : Int))) neOP (.int .i64 0)) neOP (.slice q.b s.nb q.kb)) neOP (.int .i64 0))
        have how5 := (SOwn2.far (SOwn2.far (SOwn2.far (SOwn2.far (SOwn2.far HX4.out.2.2.2.1 HX4.out.1 (by decide) 0 (.slice q.a s.np q.ka)) (HasBlk.set HX4.out.1 0 (.slice q.a s.np q.ka)) (by decide) 1 (.int .i64 (j : Int))) (HasBlk.set (HasBlk.set HX4.out.1 0 (.slice q.a s.np q.ka)) 1 (.int .i64 (j : Int))) (by decide) 2 (.int .i64 0)) (HasBlk.set (HasBlk.set (HasBlk.set HX4.out.1 0 (.slice q.a s.np q.ka)) 1 (.int .i64 (j : Int))) 2 (.int .i64 0)) (by decide) 3 (.slice q.b s.nb q.kb)) (HasBlk.set (HasBlk.set (HasBlk.set (HasBlk.set HX4.out.1 0 (.slice q.a s.np q.ka)) 1 (.int .i64 (j : Int))) 2 (.int .i64 0)) 3 (.slice q.b s.nb q.kb)) (by decide) 4 (.int .i64 0))
        have hB5 := (Below.setCell (p := ⟨w3.heap.size, 4, none⟩) (Below.setCell (p := ⟨w3.heap.size, 3, none⟩) (Below.setCell (p := ⟨w3.heap.size, 2, none⟩) (Below.setCell (p := ⟨w3.heap.size, 1, none⟩) (Below.setCell (p := ⟨w3.heap.size, 0, none⟩) HX4.out.2.2.2.2 (show w.heap.size ≤ w3.heap.size from HB3.out.size) (.slice q.a s.np q.ka)) (show w.heap.size ≤ w3.heap.size from HB3.out.size) (.int .i64 (j : Int))) (show w.heap.size ≤ w3.heap.size from HB3.out.size) (.int .i64 0)) (show w.heap.size ≤ w3.heap.size from HB3.out.size) (.slice q.b s.nb q.kb)) (show w.heap.size ≤ w3.heap.size from HB3.out.size) (.int .i64 0))
        clear ltO O_0 O_1 O_2 O_3 O_4 Of0 Of1 Of2 Of3 Of4
        generalize (((((w5.setCell ⟨w3.heap.size, 0, none⟩ (.slice q.a s.np q.ka)).setCell ⟨w3.heap.size, 1, none⟩ (.int .i64 (j : Int))).setCell ⟨w3.heap.size, 2, none⟩ (.int .i64 0)).setCell ⟨w3.heap.size, 3, none⟩ (.slice q.b s.nb q.kb)).setCell ⟨w3.heap.size, 4, none⟩ (.int .i64 0)) = v4 at *
        have HO5 := Lib.hid hO5
        have HR5 := Lib.hid hr5
        have HP5 := Lib.hid hp5
        have HOw5 := Lib.hid how5
        have HB5 := Lib.hid hB5
        clear hO5 hr5 hp5 how5 hB5
        have ltP := HP5.out.lt
        have P_0 := HP5.out.cell 0
        have P_1 := HP5.out.cell 1
        have P_2 := HP5.out.cell 2
        have P_3 := HP5.out.cell 3
        have P_4 := HP5.out.cell 4
        simp at P_0 P_1 P_2 P_3 P_4
        have ltO := HO5.out.lt
        have O_0 := HO5.out.cell 0
        have O_1 := HO5.out.cell 1
        have O_2 := HO5.out.cell 2
        have O_3 := HO5.out.cell 3
        have O_4 := HO5.out.cell 4
        simp at O_0 O_1 O_2 O_3 O_4
        have ltR := HR5.out.lt
        have R_0 := HR5.out.cell 0
        have R_1 := HR5.out.cell 1
        have R_2 := HR5.out.cell 2
        have R_3 := HR5.out.cell 3
        have R_4 := HR5.out.cell 4
        have Rf0 := HR5.out.frozen 0
        have Rf1 := HR5.out.frozen 1
        have Rf2 := HR5.out.frozen 2
        have Rf3 := HR5.out.frozen 3
        have Rf4 := HR5.out.frozen 4
        simp at R_0 R_1 R_2 R_3 R_4
        have HOwB : SOwn2 w.heap.size v4 q ((s.fin k).begin j) := HOw5.out
        have JJ : SkipTo s.ph s.np (s.p + 1).toNat j := by have := HJ.out; rw [show (s.p + 1).toNat = pn + 1 by have := Hq.out; omega]; exact this
        have HOwB := Lib.hid HOwB
        have zr : HasBlk v4.drew (w.heap.size + 1) 25 #[.slice none 0 0, .int .i64 0, .int .i64 0, .slice none 0 0, .int .i64 0] := HR5.out.drew
        have q0 : (fun Wo => Wo.cell? ⟨w3.heap.size, 0, none⟩ = some (.slice q.a s.np q.ka) ∧ Wo.cell? ⟨w3.heap.size, 1, none⟩ = some (.int .i64 (j : Int)) ∧ Wo.cell? ⟨w3.heap.size, 2, none⟩ = some (.int .i64 0) ∧ Wo.cell? ⟨w3.heap.size, 3, none⟩ = some (.slice q.b s.nb q.kb) ∧ Wo.cell? ⟨w3.heap.size, 4, none⟩ = some (.int .i64 0) ∧ Wo.cell? ⟨w.heap.size, 1, none⟩ = some (.int .i64 s.p)) v4.drew := ⟨O_0, O_1, O_2, O_3, O_4, P_1⟩
        have neRP : w.heap.size + 1 ≠ w.heap.size := by omega
        clear ltP P_0 P_1 P_2 P_3 P_4
        clear ltO O_0 O_1 O_2 O_3 O_4
        clear ltR R_0 R_1 R_2 R_3 R_4 Rf0 Rf1 Rf2 Rf3 Rf4
        go_region_held3 (fun Wo => Wo.cell? ⟨w3.heap.size, 0, none⟩ = some (.slice q.a s.np q.ka) ∧ Wo.cell? ⟨w3.heap.size, 1, none⟩ = some (.int .i64 (j : Int)) ∧ Wo.cell? ⟨w3.heap.size, 2, none⟩ = some (.int .i64 0) ∧ Wo.cell? ⟨w3.heap.size, 3, none⟩ = some (.slice q.b s.nb q.kb) ∧ Wo.cell? ⟨w3.heap.size, 4, none⟩ = some (.int .i64 0) ∧ Wo.cell? ⟨w.heap.size, 1, none⟩ = some (.int .i64 s.p))
          (first | with_reducible exact qD | with_reducible exact q0 | fail "keep")
          ((have e := st5 (q.a) (s.np) (q.ka) ((j : Int)) (0) (q.b) (s.nb) (q.kb) (0) zr; simp [go_sem] at e; refine upon_store e ?_; clear e; have qD : (fun Wo => Wo.cell? ⟨w3.heap.size, 0, none⟩ = some (.slice q.a s.np q.ka) ∧ Wo.cell? ⟨w3.heap.size, 1, none⟩ = some (.int .i64 (j : Int)) ∧ Wo.cell? ⟨w3.heap.size, 2, none⟩ = some (.int .i64 0) ∧ Wo.cell? ⟨w3.heap.size, 3, none⟩ = some (.slice q.b s.nb q.kb) ∧ Wo.cell? ⟨w3.heap.size, 4, none⟩ = some (.int .i64 0) ∧ Wo.cell? ⟨w.heap.size, 1, none⟩ = some (.int .i64 s.p)) ((((((v4.setCell ⟨w.heap.size + 1, 0, none⟩ (.slice q.a s.np q.ka)).setCell ⟨w.heap.size + 1, 1, none⟩ (.int .i64 (j : Int))).setCell ⟨w.heap.size + 1, 2, none⟩ (.int .i64 0)).setCell ⟨w.heap.size + 1, 3, none⟩ (.slice q.b s.nb q.kb)).setCell ⟨w.heap.size + 1, 4, none⟩ (.int .i64 0))).drew := ⟨(cell_far5d neRO _ _ _ _ _).trans q0.1, (cell_far5d neRO _ _ _ _ _).trans q0.2.1, (cell_far5d neRO _ _ _ _ _).trans q0.2.2.1, (cell_far5d neRO _ _ _ _ _).trans q0.2.2.2.1, (cell_far5d neRO _ _ _ _ _).trans q0.2.2.2.2.1, (cell_far5d neRP _ _ _ _ _).trans q0.2.2.2.2.2⟩))
        have ltR := HR5.out.lt
        have R_0 := HR5.out.cell 0
        have R_1 := HR5.out.cell 1
        have R_2 := HR5.out.cell 2
        have R_3 := HR5.out.cell 3
        have R_4 := HR5.out.cell 4
        have Rf0 := HR5.out.frozen 0
        have Rf1 := HR5.out.frozen 1
        have Rf2 := HR5.out.frozen 2
        have Rf3 := HR5.out.frozen 3
        have Rf4 := HR5.out.frozen 4
        simp at R_0 R_1 R_2 R_3 R_4
        go_wp2
        refine bodyPost_ret (v := .tuple #[.agg #[.slice q.a s.np q.ka, .int .i64 (j : Int), .int .i64 0, .slice q.b s.nb q.kb, .int .i64 0], .int .i64 s.p, .int .i64 (s.bz k), .int .i64 0]) (by simp [results, Try.results18, go_sem, *]) rfl ⟨⟨q, (s.fin k).begin j, s.p, s.bz k, 0, rfl, .inr (.inr ⟨Hm.out, k, rfl, hkn, .inr (.inr (.inr ⟨Hc.out, Hb.out, He.out, ⟨j, JJ, rfl⟩, rfl, rfl, rfl⟩))⟩), ?_⟩, ?_⟩
        · exact SOwn2.below (SOwn2.far (SOwn2.far (SOwn2.far (SOwn2.far (SOwn2.far HOwB.out HR5.out (by decide) 0 (.slice q.a s.np q.ka)) (HasBlk.set HR5.out 0 (.slice q.a s.np q.ka)) (by decide) 1 (.int .i64 (j : Int))) (HasBlk.set (HasBlk.set HR5.out 0 (.slice q.a s.np q.ka)) 1 (.int .i64 (j : Int))) (by decide) 2 (.int .i64 0)) (HasBlk.set (HasBlk.set (HasBlk.set HR5.out 0 (.slice q.a s.np q.ka)) 1 (.int .i64 (j : Int))) 2 (.int .i64 0)) (by decide) 3 (.slice q.b s.nb q.kb)) (HasBlk.set (HasBlk.set (HasBlk.set (HasBlk.set HR5.out 0 (.slice q.a s.np q.ka)) 1 (.int .i64 (j : Int))) 2 (.int .i64 0)) 3 (.slice q.b s.nb q.kb)) (by decide) 4 (.int .i64 0)) (Below.refl _ _).drew
        · exact (Below.setCell (p := ⟨w.heap.size + 1, 4, none⟩) (Below.setCell (p := ⟨w.heap.size + 1, 3, none⟩) (Below.setCell (p := ⟨w.heap.size + 1, 2, none⟩) (Below.setCell (p := ⟨w.heap.size + 1, 1, none⟩) (Below.setCell (p := ⟨w.heap.size + 1, 0, none⟩) HB5.out (show w.heap.size ≤ w.heap.size + 1 by omega) (.slice q.a s.np q.ka)) (show w.heap.size ≤ w.heap.size + 1 by omega) (.int .i64 (j : Int))) (show w.heap.size ≤ w.heap.size + 1 by omega) (.int .i64 0)) (show w.heap.size ≤ w.heap.size + 1 by omega) (.slice q.b s.nb q.kb)) (show w.heap.size ≤ w.heap.size + 1 by omega) (.int .i64 0)).drew
end Go.Proofs.Ytdilfcpgjkkjmaa
