/- nodes: Great, SameHandles, the reference's Same; how a graph reads. -/
import Derived.Test.YtgkeiaggldahnaaN9
import Derived.Test.YtgkeiaggldahnaaR13
import Derived.Test.YtgkeiaggldahnaaArgS
namespace Go.Proofs.Ytgkeiaggldahnaa
open Go.RowKit
set_option linter.unusedVariables false
/-- Of the lengths that fit into a machine. -/
structure GD.Rch (d : GD) : Prop where
  n : d.n ≤ 140737488355328
  m : d.m ≤ 140737488355328
  L : ∀ i, i < d.m → d.L i ≤ 140737488355328
theorem GD.Sm.mk2 {d : GD} (h : d.n ≤ 200 ∧ d.m ≤ 200 ∧ ∀ i, i < d.m → d.L i ≤ 400) : d.Sm := ⟨by omega, by omega, fun i hi => by have := h.2.2 i hi; omega⟩
theorem bytes_hdl : Try.prog.bytesOf 29 = 16 := by kernel_rfl
theorem bytes_slt : Try.prog.bytesOf 58 = 16 := by kernel_rfl
theorem bytes_lst : Try.prog.bytesOf 32 = 24 := by kernel_rfl
theorem cells_slt : Try.prog.cellsOf 58 = 2 := by kernel_rfl
theorem cells_hdl2 : Try.prog.cellsOf 29 = 2 := by kernel_rfl
theorem cells_lst : Try.prog.cellsOf 32 = 1 := by kernel_rfl
theorem cells_ar9 : Try.prog.cellsOf 24 = 1 := by kernel_rfl
theorem cells_gr9 : Try.prog.cellsOf 27 = 2 := by kernel_rfl
theorem cells_kl9 : Try.prog.cellsOf 25 = 1 := by kernel_rfl
theorem cells_sl9 : Try.prog.cellsOf 22 = 1 := by kernel_rfl
theorem cells_b9 : Try.prog.cellsOf 4 = 1 := by kernel_rfl
theorem reach_val : reachBytes = 140737488351232 := rfl
set_option maxRecDepth 100000 in
theorem rd_slotsS {w : World} {cs : List Value} (h : RdS Try.prog w 22 cs) : ∃ (A : Option Addr) (n c : Nat) (g : Nat → Int) (b : Nat → Bool), cs = [.slice A n c] ∧ n ≤ 140737488355328 ∧ Row w A n 2 (sv g b) := by
  obtain ⟨A, n, c, F, rfl, hnc, hF, hr⟩ := rd_rowsS 2 (fun f => ∃ (x : Int) (y : Bool), f 0 = .int .i64 x ∧ f 1 = .bool y) Try.underlying22 cells_slt (by omega)
    (fun cs hl hr => by
      obtain ⟨hl', hf⟩ := hr.struct Try.underlying58
      match cs, hl with
      | [x, y], _ =>
        obtain ⟨a0, e0, hw⟩ := (hf 0 _ rfl).rd.int Try.underlying3
        obtain ⟨a1, e1⟩ := (hf 1 _ rfl).rd.bool Try.underlying4
        simp [cells_int, cells_b9] at e0 e1
        subst e0 e1
        exact ⟨a0, a1, rfl, rfl⟩) ⟨fun j => if j = 0 then .int .i64 0 else .bool false, 0, false, rfl, rfl⟩ h
  obtain ⟨g, hg⟩ := Classical.axiomOfChoice hF
  obtain ⟨b, hb⟩ := Classical.axiomOfChoice hg
  rw [bytes_slt, reach_val] at hnc
  refine ⟨A, n, c, g, b, rfl, by omega, hr.congr fun i hi j hj => ?_⟩
  obtain rfl | rfl : j = 0 ∨ j = 1 := by omega
  · exact (hb i).1
  · exact (hb i).2
set_option maxRecDepth 100000 in
theorem rd_hdlsS {w : World} {cs : List Value} (h : RdS Try.prog w 32 cs) : ∃ (A : Option Addr) (n c : Nat) (S Q : Nat → Int), cs = [.slice A n c] ∧ n ≤ 140737488355328 ∧ Row w A n 2 (hv S Q) := by
  obtain ⟨A, n, c, F, rfl, hnc, hF, hr⟩ := rd_rowsS 2 (fun f => ∃ (x y : Int), f 0 = .int .i64 x ∧ f 1 = .int .i64 y) Try.underlying32 cells_hdl2 (by omega)
    (fun cs hl hr => by
      obtain ⟨hl', hf⟩ := hr.struct Try.underlying29
      match cs, hl with
      | [x, y], _ =>
        obtain ⟨a0, e0, _⟩ := (hf 0 _ rfl).rd.int Try.underlying3
        obtain ⟨a1, e1, _⟩ := (hf 1 _ rfl).rd.int Try.underlying3
        simp [cells_int] at e0 e1
        subst e0 e1
        exact ⟨a0, a1, rfl, rfl⟩) ⟨fun j => .int .i64 0, 0, 0, rfl, rfl⟩ h
  obtain ⟨g, hg⟩ := Classical.axiomOfChoice hF
  obtain ⟨b, hb⟩ := Classical.axiomOfChoice hg
  rw [bytes_hdl, reach_val] at hnc
  refine ⟨A, n, c, g, b, rfl, by omega, hr.congr fun i hi j hj => ?_⟩
  obtain rfl | rfl : j = 0 ∨ j = 1 := by omega
  · exact (hb i).1
  · exact (hb i).2
theorem rd_kidsS {w : World} {cs : List Value} (h : RdS Try.prog w 25 cs) : ∃ (K : Option Addr) (m kc : Nat) (KA : Nat → Option Addr) (L KC : Nat → Nat) (S Q : Nat → Nat → Int), cs = [.slice K m kc] ∧ m ≤ 140737488355328 ∧ Row w K m 1 (fun i _ => .slice (KA i) (L i) (KC i)) ∧ ∀ i, L i ≤ 140737488355328 ∧ Row w (KA i) (L i) 2 (hv (S i) (Q i)) := by
  obtain ⟨K, m, kc, F, rfl, hnc, hF, hr⟩ := rd_rowsS 1 (fun f => ∃ (x : Option Addr × Nat × Nat × (Nat → Int) × (Nat → Int)), f 0 = .slice x.1 x.2.1 x.2.2.1 ∧ x.2.1 ≤ 140737488355328 ∧ Row w x.1 x.2.1 2 (hv x.2.2.2.1 x.2.2.2.2)) Try.underlying25 cells_lst (by omega)
    (fun cs hl hr => by
      obtain ⟨A, n, c, S, Q, rfl, hn, hrow⟩ := rd_hdlsS hr
      exact ⟨(A, n, c, S, Q), rfl, hn, hrow⟩) ⟨fun j => .slice none 0 0, (none, 0, 0, fun _ => 0, fun _ => 0), rfl, Nat.zero_le _, Row.zero _ _ _ _⟩ h
  obtain ⟨x, hx⟩ := Classical.axiomOfChoice hF
  rw [bytes_lst, reach_val] at hnc
  refine ⟨K, m, kc, fun i => (x i).1, fun i => (x i).2.1, fun i => (x i).2.2.1, fun i => (x i).2.2.2.1, fun i => (x i).2.2.2.2, rfl, by omega, hr.congr fun i hi j hj => ?_, fun i => (hx i).2⟩
  obtain rfl : j = 0 := by omega
  exact (hx i).1
set_option maxRecDepth 100000 in
/-- How a graph reads. -/
theorem arg_graph {w : World} {v : Value} (h : Arg Try.prog w 27 v) (h' : RdS Try.prog w 27 v.cells.toList) : ∃ (p : GP) (d : GD), v = .agg #[.slice p.A d.n p.c, .slice p.K d.m p.kc] ∧ d.Rch ∧ GOk w p d := by
  obtain ⟨cs, rfl, hl, _⟩ := h.struct Try.underlying27
  have h2 : RdS Try.prog w 27 cs := by simpa [Value.cells] using h'
  obtain ⟨_, hf⟩ := h2.struct Try.underlying27
  rw [cells_gr9] at hl
  match cs, hl with
  | [x, y], _ =>
    obtain ⟨_, ha⟩ := (hf 0 _ rfl).struct Try.underlying24
    obtain ⟨A, n, c, g, b, e0, hn, hA⟩ := rd_slotsS (ha 0 _ rfl)
    obtain ⟨K, m, kc, KA, L, KC, S, Q, e1, hm, hK, hk⟩ := rd_kidsS (hf 1 _ rfl)
    simp [cells_ar9, cells_sl9, cells_kl9] at e0 e1
    subst e0 e1
    exact ⟨⟨A, c, K, kc, KA, KC⟩, ⟨n, g, b, m, L, S, Q⟩, rfl, ⟨hn, hm, fun i _ => (hk i).1⟩, ⟨hA, hK, fun i _ => (hk i).2⟩⟩
set_option maxRecDepth 100000 in
theorem arg_hdl {w : World} {v : Value} (h : Arg Try.prog w 29 v) : ∃ (s q : Int), v = hval s q := by
  obtain ⟨cs, rfl, _, hr⟩ := h.struct Try.underlying29
  obtain ⟨hl, hf⟩ := hr.struct Try.underlying29
  rw [cells_hdl2] at hl
  match cs, hl with
  | [x, y], _ =>
    obtain ⟨a0, e0, hw⟩ := Rd.int Try.underlying3 (hf 0 _ rfl)
    obtain ⟨a1, e1, _⟩ := Rd.int Try.underlying3 (hf 1 _ rfl)
    simp [cells_int] at e0 e1
    subst e0 e1
    exact ⟨_, _, rfl⟩

set_option maxRecDepth 100000 in
set_option maxHeartbeats 4000000 in
theorem great_any (d : GD) (p : GP) (hrc : d.Rch) (w : World) (hok : GOk w p d) :
    Calls Try.prog 9 #[.agg #[.slice p.A d.n p.c, .slice p.K d.m p.kc]] w fun e w' => (∃ r : Bool, e = .returned (.bool r) ∧ (r = false → d.n ≤ 200 ∧ d.m ≤ 200 ∧ ∀ i, i < d.m → d.L i ≤ 400)) ∧ Below w.heap.size w w' := by
  obtain ⟨A, c, K, kc, KA, KC⟩ := p
  dsimp only
  have b1 := (Below.refl w.heap.size w).alloc (Nat.le_refl _) (.cells #[.slice A d.n c, .slice K d.m kc] 27)
  have HB := Lib.hid b1
  have HP := Lib.hid (hasBlk_new w 27 #[.slice A d.n c, .slice K d.m kc])
  have RC := Lib.hid hrc
  have OK := Lib.hid hok
  have hn := hrc.n
  have hm := hrc.m
  clear hrc hok b1
  by_cases h1 : 200 < d.n
  · have g1 : decide ((200 : Int) < (d.n : Int)) = true := decide_eq_true (by omega)
    clear h1 HP
    go_enter Try.func9, Try.ntmps9
    go_wp2
    go_ret
    exact ⟨⟨true, rfl, fun h => by cases h⟩, HB.out⟩
  have g1 : decide ((200 : Int) < (d.n : Int)) = false := decide_eq_false (by omega)
  have HN := Lib.hid (show d.n ≤ 200 by omega)
  clear h1
  by_cases h2 : 200 < d.m
  · have g2 : decide ((200 : Int) < (d.m : Int)) = true := decide_eq_true (by omega)
    clear h2 HP
    go_enter Try.func9, Try.ntmps9
    go_wp2
    go_ret
    exact ⟨⟨true, rfl, fun h => by cases h⟩, HB.out⟩
  have g2 : decide ((200 : Int) < (d.m : Int)) = false := decide_eq_false (by omega)
  have HM := Lib.hid (show d.m ≤ 200 by omega)
  clear h2
  go_enter Try.func9, Try.ntmps9
  go_wp2
  go_loopw [3, 4] (fun s i wr => ∃ k t : Nat, k ≤ d.m ∧ s = .int .i64 t ∧ i = .int .i64 k ∧ t ≤ 400 ∧ HasBlk wr w.heap.size 27 #[.slice A d.n c, .slice K d.m kc] ∧ (∀ i', i' < k → d.L i' ≤ 400) ∧ Below w.heap.size w wr) (fun s i wr => d.m - (intOf i).toNat)
  case atStart => exact ⟨0, 0, Nat.zero_le _, rfl, rfl, by omega, HP.out, fun i' h => absurd h (by omega), HB.out⟩
  case round =>
    clear HB HP
    obtain ⟨k, t, hkm0, rfl, rfl, ht, hP, hall, hbel⟩ := hrel
    have HB := Lib.hid hbel
    have HP := Lib.hid hP
    have HALL := Lib.hid hall
    have p1 := hP.cell 1
    have zp := hP.lt
    simp at p1
    by_cases hkm : k < d.m
    · obtain ⟨gk, ok, hA, hgk, hck⟩ := (OK.out.below hbel).ks (by omega)
      dsimp only at hA
      subst hA
      have k0 := hck k hkm 0 (by omega)
      simp only [kv, Nat.add_zero, Nat.mul_one] at k0
      have q16 := RC.out.L k hkm
      have i1 : (k : Int) < (d.m : Int) := by omega
      have i0 : (0 : Int) ≤ (k : Int) := by omega
      clear hck hbel hP hall
      by_cases h4 : (400 : Int) < (t : Int) + (d.L k : Int)
      · have g4 : decide ((400 : Int) < (t : Int) + (d.L k : Int)) = true := decide_eq_true h4
        clear h4
        go_wp2
        go_ret
        exact ⟨⟨true, rfl, fun h => by cases h⟩, HB.out⟩
      · have g4 : decide ((400 : Int) < (t : Int) + (d.L k : Int)) = false := decide_eq_false h4
        have H4 := Lib.hid h4
        clear h4
        go_wp2
        go_roundw
        case rel =>
          refine ⟨k + 1, t + d.L k, by omega, by go_num, by go_num, by have := H4.out; omega, HP.out, fun i' hi' => ?_, HB.out⟩
          rcases Nat.lt_or_ge i' k with h1 | h1
          · exact HALL.out i' h1
          · obtain rfl : i' = k := by omega
            have := H4.out
            omega
        case measure => simp [intOf]; omega
    · have hkm2 : k = d.m := by omega
      subst hkm2
      clear hbel hP hall
      go_wp2
      go_ret
      exact ⟨⟨false, rfl, fun _ => ⟨HN.out, HM.out, HALL.out⟩⟩, HB.out⟩

/-- Two lists of handles are the same. -/
def EqL (n m : Nat) (S Q S' Q' : Nat → Int) : Prop := n = m ∧ ∀ k, k < n → S k = S' k ∧ Q k = Q' k
noncomputable instance (n m : Nat) (S Q S' Q' : Nat → Int) : Decidable (EqL n m S Q S' Q') := Classical.propDecidable _
theorem sh_dec (A B : Option Addr) (n m c e : Nat) (S Q S' Q' : Nat → Int) (w : World) (hA : Row w A n 2 (hv S Q)) (hB : Row w B m 2 (hv S' Q')) (hn : (n : Int) ≤ 9223372036854775807) :
    Calls Try.prog 17 #[.slice A n c, .slice B m e] w fun e w' => e = .returned (.bool (decide (EqL n m S Q S' Q'))) ∧ Below w.heap.size w w' :=
  (samehd A B n m c e (fun i j => if j = 0 then S i else Q i) (fun i j => if j = 0 then S' i else Q' i) w (hA.congr fun i hi j hj => by
    unfold hv
    split <;> rfl) (hB.congr fun i hi j hj => by
    unfold hv
    split <;> rfl) hn).mono fun e w' ⟨⟨r, he, hr⟩, hb⟩ => ⟨by
    rw [he]
    have : r = decide (EqL n m S Q S' Q') := by
      rw [Bool.eq_iff_iff, hr, decide_eq_true_eq]
      unfold EqL
      simp
    rw [this], hb⟩
/-- Two graphs are the same. -/
def SameG (d e : GD) : Prop := SameA d.n e.n d.g e.g d.b e.b ∧ d.m = e.m ∧ ∀ i, i < d.m → EqL (d.L i) (e.L i) (d.S i) (d.Q i) (e.S i) (e.Q i)
theorem SameG.refl (d : GD) : SameG d d := ⟨⟨rfl, fun _ _ => ⟨rfl, rfl⟩⟩, rfl, fun _ _ => ⟨rfl, fun _ _ => ⟨rfl, rfl⟩⟩⟩

set_option maxRecDepth 100000 in
set_option maxHeartbeats 8000000 in
theorem refsameg_any (d d2 : GD) (p p2 : GP) (w : World) (hok : GOk w p d) (hok2 : GOk w p2 d2) (hn : (d.n : Int) ≤ 9223372036854775807) (hm : (d.m : Int) ≤ 9223372036854775807) (hL : ∀ i, i < d.m → (d.L i : Int) ≤ 9223372036854775807) :
    Calls Try.prog 18 #[.agg #[.slice p.A d.n p.c, .slice p.K d.m p.kc], .agg #[.slice p2.A d2.n p2.c, .slice p2.K d2.m p2.kc]] w fun e w' => EqR (SameG d d2) e ∧ Below w.heap.size w w' := by
  obtain ⟨A, c, K, kc, KA, KC⟩ := p
  obtain ⟨A2, c2, K2, kc2, KA2, KC2⟩ := p2
  dsimp only
  have b2 : Below w.heap.size w ((w.alloc (.cells #[.slice A d.n c, .slice K d.m kc] 27)).alloc (.cells #[.slice A2 d2.n c2, .slice K2 d2.m kc2] 27)) := by
    repeat' (first | exact Below.refl _ _ | assumption | apply Below.drew | refine Below.setCell ?_ (by first | omega | (simp; done) | (simp; omega)) _ | refine Below.alloc ?_ (by first | omega | (simp; done) | (simp; omega)) _)
  have hP : HasBlk ((w.alloc (.cells #[.slice A d.n c, .slice K d.m kc] 27)).alloc (.cells #[.slice A2 d2.n c2, .slice K2 d2.m kc2] 27)) w.heap.size 27 #[.slice A d.n c, .slice K d.m kc] := (hasBlk_new w 27 #[.slice A d.n c, .slice K d.m kc]).alloc _
  have hQ : HasBlk ((w.alloc (.cells #[.slice A d.n c, .slice K d.m kc] 27)).alloc (.cells #[.slice A2 d2.n c2, .slice K2 d2.m kc2] 27)) (w.heap.size + 1) 27 #[.slice A2 d2.n c2, .slice K2 d2.m kc2] := by
    have h := hasBlk_new (w.alloc (.cells #[.slice A d.n c, .slice K d.m kc] 27)) 27 #[.slice A2 d2.n c2, .slice K2 d2.m kc2]
    simpa using h
  have hc := Lib.hid (refsame_any A A2 d.n d2.n c c2 d.g d2.g d.b d2.b _ (hok.ar.below b2) (hok2.ar.below b2) hn)
  have OK := Lib.hid hok
  have OK2 := Lib.hid hok2
  have RC := Lib.hid hL
  have B2 := Lib.hid b2
  have HP0 := Lib.hid hP
  have HQ0 := Lib.hid hQ
  clear hok hok2 hL b2 hP hQ
  by_cases hsa : SameA d.n d2.n d.g d2.g d.b d2.b
  rotate_left
  · have HSA := Lib.hid hsa
    clear hsa HP0 HQ0
    go_enter Try.func18, Try.ntmps18
    go_wp2_with fail
    refine hc.out.mono ?_
    rintro e w1 ⟨⟨r, rfl, hr⟩, bel⟩
    obtain rfl : r = false := by cases r with
      | false => rfl
      | true => exact absurd (hr.1 rfl) HSA.out
    have HB := Lib.hid (B2.out.trans (bel.mono B2.out.size))
    clear bel hr
    go_wp2
    go_ret
    exact ⟨⟨false, rfl, ⟨fun h => (by cases h), fun h => absurd h.1 HSA.out⟩⟩, HB.out⟩
  have HAR := Lib.hid hsa
  by_cases hmm : d.m = d2.m
  rotate_left
  · have n1 : ((d.m : Int) != (d2.m : Int)) = true := by simp; omega
    have n2 : ((d.m : Int) == (d2.m : Int)) = false := by simp; omega
    have MN := Lib.hid hmm
    clear hsa hmm
    go_enter Try.func18, Try.ntmps18
    go_wp2_with fail
    refine hc.out.mono ?_
    rintro e w1 ⟨⟨r, rfl, hr⟩, bel⟩
    obtain rfl : r = true := hr.2 HAR.out
    have HB := Lib.hid (B2.out.trans (bel.mono B2.out.size))
    have hP1 := HP0.out.below bel
    have hQ1 := HQ0.out.below bel
    have zP := hP1.lt
    have zQ := hQ1.lt
    have p1 := hP1.cell 1
    have q1 := hQ1.cell 1
    simp at p1 q1
    clear bel hr hP1 hQ1
    go_wp2
    go_ret
    exact ⟨⟨false, rfl, ⟨fun h => (by cases h), fun h => absurd h.2.1 MN.out⟩⟩, HB.out⟩
  have n1 : ((d.m : Int) != (d2.m : Int)) = false := by simp; omega
  have HMM := Lib.hid hmm
  clear hsa hmm
  go_enter Try.func18, Try.ntmps18
  go_wp2_with fail
  refine hc.out.mono ?_
  rintro e w1 ⟨⟨r, rfl, hr⟩, bel⟩
  obtain rfl : r = true := hr.2 HAR.out
  have HB := Lib.hid (B2.out.trans (bel.mono B2.out.size))
  have HP := Lib.hid (HP0.out.below bel)
  have HQ := Lib.hid (HQ0.out.below bel)
  have zP := HP.out.lt
  have zQ := HQ.out.lt
  have p1 := HP.out.cell 1
  have q1 := HQ.out.cell 1
  simp at p1 q1
  clear bel hr HP0 HQ0
  go_wp2
  go_loopw [5] (fun i wr => ∃ k : Nat, k ≤ d.m ∧ i = .int .i64 k ∧ HasBlk wr w.heap.size 27 #[.slice A d.n c, .slice K d.m kc] ∧ HasBlk wr (w.heap.size + 1) 27 #[.slice A2 d2.n c2, .slice K2 d2.m kc2] ∧ (∀ i', i' < k → EqL (d.L i') (d2.L i') (d.S i') (d.Q i') (d2.S i') (d2.Q i')) ∧ Below w.heap.size w wr) (fun i wr => d.m - (intOf i).toNat)
  case atStart => exact ⟨0, Nat.zero_le _, rfl, HP.out, HQ.out, fun i' h => absurd h (by omega), HB.out⟩
  case round =>
    clear HP HQ HB zP zQ p1 q1
    obtain ⟨k, hkm0, rfl, hP, hQ, hall, hbel⟩ := hrel
    have HB := Lib.hid hbel
    have HP := Lib.hid hP
    have HQ := Lib.hid hQ
    have HALL := Lib.hid hall
    have p1 := hP.cell 1
    have zp := hP.lt
    have q1 := hQ.cell 1
    have zq := hQ.lt
    simp at p1 q1
    have zb := hbel.size
    by_cases hkm : k < d.m
    · have hkm' : k < d2.m := by have := HMM.out; omega
      obtain ⟨gk, ok, hA, hgk, hck⟩ := OK.out.ks (by omega)
      dsimp only at hA
      subst hA
      obtain ⟨gk2, ok2, hA2, hgk2, hck2⟩ := OK2.out.ks (by omega)
      dsimp only at hA2
      subst hA2
      have k0 := (hbel.cell (p := ⟨gk, ok + k * 1 + 0, none⟩) hgk).trans (hck k hkm 0 (by omega))
      have k2 := (hbel.cell (p := ⟨gk2, ok2 + k * 1 + 0, none⟩) hgk2).trans (hck2 k hkm' 0 (by omega))
      simp only [kv, Nat.add_zero, Nat.mul_one] at k0 k2
      have HR1 := Lib.hid (OK.out.kd k hkm)
      have HR2 := Lib.hid (OK2.out.kd k hkm')
      have q16 := RC.out k hkm
      have i1 : (k : Int) < (d.m : Int) := by omega
      have i2 : (k : Int) < (d2.m : Int) := by omega
      have i0 : (0 : Int) ≤ (k : Int) := by omega
      have r1 := fun b : BW wr => BW.cell p1 zp b
      have r2 := fun b : BW wr => BW.cell q1 zq b
      have r3 := fun b : BW wr => BW.cell k0 (Nat.lt_of_lt_of_le hgk zb) b
      have r4 := fun b : BW wr => BW.cell k2 (Nat.lt_of_lt_of_le hgk2 zb) b
      clear hck hck2 hbel hP hQ hall
      by_cases hh : EqL (d.L k) (d2.L k) (d.S k) (d.Q k) (d2.S k) (d2.Q k)
      · have KH := Lib.hid (fun b : BW wr => BW.call (fun W' (h : Below wr.heap.size wr W') => (sh_dec (KA k) (KA2 k) (d.L k) (d2.L k) (KC k) (KC2 k) (d.S k) (d.Q k) (d2.S k) (d2.Q k) W' (HR1.out.below (HB.out.trans (h.mono zb))) (HR2.out.below (HB.out.trans (h.mono zb))) (by omega)).mono (fun e w' h' => ⟨h'.1.trans (by rw [decide_eq_true hh]), h'.2⟩)) b)
        have HH := Lib.hid hh
        clear hh
        go_wp2_with fail
        clear p1 q1 k0 k2
        refine wp_region_quiet_bw (by kernel_rfl) (by kernel_rfl) ?_
        repeat (go_big_quiet_step ((go_at_call 17; with_reducible exact KH.out _)))
        refine wpQuiet_nil ?_
        intro _ hw'
        obtain ⟨pq, hw''⟩ := hw'
        subst hw''
        have HB2 := Lib.hid (HB.out.trans (pq.h.mono zb))
        have HP2 := Lib.hid (HP.out.below pq.h)
        have HQ2 := Lib.hid (HQ.out.below pq.h)
        go_wp2
        go_roundw
        case rel => exact ⟨k + 1, by omega, by go_num, HP2.out, HQ2.out, fun i' hi' => (Nat.lt_or_ge i' k).elim (fun h1 => HALL.out i' h1) (fun h1 => (show k = i' by omega) ▸ HH.out), HB2.out⟩
        case measure => simp [intOf]; omega
      · have KH := Lib.hid (fun b : BW wr => BW.call (fun W' (h : Below wr.heap.size wr W') => (sh_dec (KA k) (KA2 k) (d.L k) (d2.L k) (KC k) (KC2 k) (d.S k) (d.Q k) (d2.S k) (d2.Q k) W' (HR1.out.below (HB.out.trans (h.mono zb))) (HR2.out.below (HB.out.trans (h.mono zb))) (by omega)).mono (fun e w' h' => ⟨h'.1.trans (by rw [decide_eq_false hh]), h'.2⟩)) b)
        have HH := Lib.hid hh
        clear hh
        go_wp2_with fail
        clear p1 q1 k0 k2
        refine wp_region_quiet_bw (by kernel_rfl) (by kernel_rfl) ?_
        repeat (go_big_quiet_step ((go_at_call 17; with_reducible exact KH.out _)))
        refine wpQuiet_nil ?_
        intro _ hw'
        obtain ⟨pq, hw''⟩ := hw'
        subst hw''
        have HB2 := Lib.hid (HB.out.trans (pq.h.mono zb))
        have HP2 := Lib.hid (HP.out.below pq.h)
        have HQ2 := Lib.hid (HQ.out.below pq.h)
        go_wp2
        go_ret
        exact ⟨⟨false, rfl, ⟨fun h => (by cases h), fun h => absurd (h.2.2 k hkm) HH.out⟩⟩, HB2.out⟩
    · have hkm2 : k = d.m := by omega
      subst hkm2
      clear hbel hP hQ hall
      go_wp2
      go_ret
      exact ⟨⟨true, rfl, ⟨fun _ => ⟨HAR.out, HMM.out, HALL.out⟩, fun _ => rfl⟩⟩, HB.out⟩
end Go.Proofs.Ytgkeiaggldahnaa
