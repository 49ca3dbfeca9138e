/- sched: alive, SchedOn. -/
import Derived.Test.YtdilfcpgjkkjmaaS10
import Derived.Test.YtdilfcpgjkkjmaaS11
namespace Go.Proofs.Ytdilfcpgjkkjmaa
open Go.RowKit
set_option linter.unusedVariables false
theorem cells_int : Try.prog.cellsOf 3 = 1 := by kernel_rfl
theorem cells_ints : Try.prog.cellsOf 23 = 1 := by kernel_rfl
theorem cells_pool : Try.prog.cellsOf 25 = 5 := by kernel_rfl
theorem arg_int {w : World} {v : Value} (h : Arg Try.prog w 3 v) : ∃ x, v = .int .i64 x := by
  obtain ⟨x, rfl, _⟩ := h.int Try.underlying3
  exact ⟨x, rfl⟩
theorem arg_pool {w : World} {v : Value} (h : Arg Try.prog w 25 v) : ∃ (p : SP) (s : SD), v = .agg #[.slice p.a s.np p.ka, .int .i64 s.p, .int .i64 s.n, .slice p.b s.nb p.kb, .int .i64 s.d] ∧ SOk w p s ∧ s.Bd ∧ s.np ≤ p.ka := by
  obtain ⟨cs, rfl, _, hr⟩ := h.struct Try.underlying25
  obtain ⟨hl, hf⟩ := hr.struct Try.underlying25
  rw [cells_pool] at hl
  match cs, hl with
  | [a, b, c, d, e], _ =>
    obtain ⟨A1, n1, c1, l1, e0, h0, _, hI⟩ := rd_ints Try.underlying23 Try.underlying3 cells_int (hf 0 _ rfl)
    obtain ⟨x1, e1, _⟩ := (hf 1 _ rfl).int Try.underlying3
    obtain ⟨x2, e2, _⟩ := (hf 2 _ rfl).int Try.underlying3
    obtain ⟨A2, n2, c2, l2, e3, h3, _, hJ⟩ := rd_ints Try.underlying23 Try.underlying3 cells_int (hf 3 _ rfl)
    obtain ⟨x4, e4, _⟩ := (hf 4 _ rfl).int Try.underlying3
    simp [cells_int, cells_ints] at e0 e1 e2 e3 e4
    subst e0 e1 e2 e3 e4
    unfold maxLen at h0 h3
    exact ⟨⟨A1, c1, A2, c2⟩, ⟨n1, l1, x1, x2, n2, l2, x4⟩, rfl, ⟨hI, hJ⟩, ⟨by show (n1 : Int) ≤ _; omega, by show (n2 : Int) ≤ _; omega⟩, h0.1⟩
theorem SOwn2.cap {B : Nat} {w : World} {p : SP} {s : SD} (h : SOwn2 B w p s) : s.np ≤ p.ka := by
  obtain ⟨A, c, e, hn, _⟩ := own_at h.1.1
  injection e with _ _ e
  omega
def l3 : Nat → Int := fun i => i
theorem l3_ph : SPh 3 l3 := ⟨by decide, fun i hi => by unfold l3; omega⟩
theorem l3_skip : SkipTo l3 3 0 1 := ⟨by decide, by decide, (fun i h1 h2 => by have e : i = 0 := (by omega); subst e; rfl), fun _ => by decide⟩
theorem new_012 {t : SD} {x : Int} (h : NewV 2 3 l3 t x) : x = 0 ∧ t = SDnew 3 l3 2 1 := by
  obtain ⟨a, b⟩ := NewV.fn (show NewV 2 3 l3 (SDnew 3 l3 2 1) 0 from .inr ⟨by decide, .inr ⟨l3_ph, rfl, 1, l3_skip, rfl⟩⟩) h
  exact ⟨b, a⟩
theorem may_012 : (SDnew 3 l3 2 1).May ∧ (SDnew 3 l3 2 1).left = 6 := SDnew_may (wn := 2) l3_ph (by decide) (by decide) l3_skip
/-- The literal 0 1 2. -/
theorem is_012 {w : World} {g : Nat} (h : HasBlk w g 3 #[.int .i64 0, .int .i64 1, .int .i64 2]) : IS w (some ⟨g, 0, none⟩) 3 l3 := fun _ => by
  refine ⟨g, 0, rfl, h.lt, fun i hi => ?_⟩
  have c0 := h.cell 0
  have c1 := h.cell 1
  have c2 := h.cell 2
  simp at c0 c1 c2
  obtain rfl | rfl | rfl : i = 0 ∨ i = 1 ∨ i = 2 := by omega
  · exact c0
  · exact c1
  · exact c2

set_option maxRecDepth 100000 in
set_option maxHeartbeats 4000000 in
theorem alive_any (w : World) : Calls Try.prog 7 #[] w fun e w' => e = .returned (.bool true) ∧ Below w.heap.size w w' := by
  have HL := Lib.hid (hasBlk_new w 3 #[.int .i64 0, .int .i64 1, .int .i64 2])
  have HB := Lib.hid (show Below w.heap.size w (w.alloc (.cells #[.int .i64 0, .int .i64 1, .int .i64 2] 3)) by repeat' (first | exact Below.refl _ _ | assumption | apply Below.drew | refine Below.setCell ?_ (by first | omega | (simp; done) | (simp; omega)) _ | refine Below.alloc ?_ (by first | omega | (simp; done) | (simp; omega)) _))
  go_enter Try.func7, Try.ntmps7
  go_wp2_with fail
  generalize w.alloc (.cells #[.int .i64 0, .int .i64 1, .int .i64 2] 3) = v at *
  refine (new_any 2 (some ⟨w.heap.size, 0, none⟩) 3 3 l3 _ (is_012 HL.out)).mono ?_
  rintro e w1 ⟨⟨q, t, x, rfl, hv, ho⟩, bel1⟩
  obtain ⟨rfl, rfl⟩ := new_012 hv
  dsimp only [SDnew]
  have HO := Lib.hid ho
  have HB1 := Lib.hid (HB.out.trans (bel1.mono HB.out.size))
  clear hv ho bel1
  have HO2 := Lib.hid (HO.out.below ((Below.refl w1.heap.size w1).alloc (Nat.le_refl _) (.cells #[.slice q.a 3 q.ka, .int .i64 1, .int .i64 0, .slice q.b 2 q.kb, .int .i64 0] 25)))
  have HQ := Lib.hid (hasBlk_new w1 25 #[.slice q.a 3 q.ka, .int .i64 1, .int .i64 0, .slice q.b 2 q.kb, .int .i64 0])
  have HB2 := Lib.hid (HB1.out.alloc HB1.out.size (.cells #[.slice q.a 3 q.ka, .int .i64 1, .int .i64 0, .slice q.b 2 q.kb, .int .i64 0] 25))
  go_wp2_with fail
  generalize w1.alloc (.cells #[.slice q.a 3 q.ka, .int .i64 1, .int .i64 0, .slice q.b 2 q.kb, .int .i64 0] 25) = v1 at *
  refine (left_any q (SDnew 3 l3 2 1) _ HO2.out.1.ok HO2.out.cap).mono ?_
  rintro e w2 ⟨rfl, bel2⟩
  rw [leftv_yes may_012.1, may_012.2, mayv_yes may_012.1]
  have HQ2 := Lib.hid (HQ.out.below bel2)
  have HB3 := Lib.hid (HB2.out.trans (bel2.mono HB2.out.size))
  clear bel2
  have ltQ := HQ2.out.lt
  have Q_0 := HQ2.out.cell 0
  have Q_1 := HQ2.out.cell 1
  have Q_2 := HQ2.out.cell 2
  have Q_3 := HQ2.out.cell 3
  have Q_4 := HQ2.out.cell 4
  simp at Q_0 Q_1 Q_2 Q_3 Q_4
  go_wp2
  go_ret
  exact ⟨rfl, HB3.out⟩

theorem is_list {w : World} {B c : Nat} {X : Option Addr} {L : List Int} (h : w.ownsRow B 3 1 (.slice X L.length c) L.length (L.map (Value.int .i64))) : IS w X L.length (fun i => L.getD i 0) :=
  IS.of_own h _ fun i hi => by
    rw [List.getElem?_map, List.getElem?_eq_getElem hi]
    simp [iv, List.getD, List.getElem?_eq_getElem hi]
/-- Is a number among the first k? -/
def amongB (L : List Int) (x : Int) (k : Nat) : Bool := (L.take k).contains x
theorem amongB_yes {L : List Int} {x : Int} {k : Nat} (h : amongB L x k = true) : amongB L x (k + 1) = true := by
  unfold amongB at *
  rw [List.contains_iff_mem] at *
  exact List.take_subset_take_left L (Nat.le_succ k) h
theorem amongB_hit {L : List Int} {x : Int} {k : Nat} (hk : k < L.length) (h : L.getD k 0 = x) : amongB L x (k + 1) = true := by
  unfold amongB
  rw [List.contains_iff_mem, List.take_succ_eq_append_getElem hk]
  simp only [List.getD, List.getElem?_eq_getElem hk, Option.getD_some] at h
  simp [h]
theorem amongB_miss {L : List Int} {x : Int} {k : Nat} (hk : k < L.length) (h0 : amongB L x k = false) (h : ¬ L.getD k 0 = x) : amongB L x (k + 1) = false := by
  unfold amongB at *
  rw [← Bool.not_eq_true, List.contains_iff_mem] at *
  rw [List.take_succ_eq_append_getElem hk]
  simp only [List.getD, List.getElem?_eq_getElem hk, Option.getD_some] at h
  simp only [List.mem_append, List.mem_singleton, not_or]
  exact ⟨h0, fun e => h e.symm⟩
theorem amongB_all {L : List Int} {x : Int} {b : Bool} (h : amongB L x L.length = b) : b = true ↔ x ∈ L := by
  rw [← h]
  unfold amongB
  rw [List.take_length, List.contains_iff_mem]
theorem sorted_at {L : List Int} (h : L.Pairwise (· < ·)) {k : Nat} (hk : k + 1 < L.length) : L.getD k 0 < L.getD (k + 1) 0 := by
  simp only [List.getD, List.getElem?_eq_getElem hk, List.getElem?_eq_getElem (show k < L.length by omega), Option.getD_some]
  exact List.pairwise_iff_getElem.1 h k (k + 1) (by omega) hk (by omega)
theorem rdyv_sorted (s : SD) : (rdyv s).Pairwise (· < ·) := by
  by_cases h : s.May
  · rw [rdyv_yes h]; exact rdyL_sorted s s.nb
  · rw [rdyv_no h]; exact List.Pairwise.nil

set_option maxRecDepth 100000 in
set_option maxHeartbeats 8000000 in
theorem schedOn_walk (p : SP) (s : SD) (worker : Int) (w : World) (h : SOk w p s) (hcap : s.np ≤ p.ka) :
    Calls Try.prog 5 #[.agg #[.slice p.a s.np p.ka, .int .i64 s.p, .int .i64 s.n, .slice p.b s.nb p.kb, .int .i64 s.d], .int .i64 worker] w fun e w' => e = .returned (.bool true) ∧ Below w.heap.size w w' := by
  have HS := Lib.hid h
  clear h
  go_enter Try.func5, Try.ntmps5
  go_wp2_with fail
  have s_Pb : HasBlk (w.alloc (.cells #[.slice p.a s.np p.ka, .int .i64 s.p, .int .i64 s.n, .slice p.b s.nb p.kb, .int .i64 s.d] 25)) (w.heap.size) 25 #[.slice p.a s.np p.ka, .int .i64 s.p, .int .i64 s.n, .slice p.b s.nb p.kb, .int .i64 s.d] := by simpa using hasBlk_new w 25 #[.slice p.a s.np p.ka, .int .i64 s.p, .int .i64 s.n, .slice p.b s.nb p.kb, .int .i64 s.d]
  have t_Pb : HasBlk (w.alloc (.cells #[.slice p.a s.np p.ka, .int .i64 s.p, .int .i64 s.n, .slice p.b s.nb p.kb, .int .i64 s.d] 25)) (w.heap.size) 25 #[.slice p.a s.np p.ka, .int .i64 s.p, .int .i64 s.n, .slice p.b s.nb p.kb, .int .i64 s.d] := by simpa using s_Pb
  clear s_Pb
  have SB1 : Below w.heap.size w (w.alloc (.cells #[.slice p.a s.np p.ka, .int .i64 s.p, .int .i64 s.n, .slice p.b s.nb p.kb, .int .i64 s.d] 25)) := by
    repeat' (first | exact Below.refl _ _ | assumption | apply Below.drew | refine Below.setCell ?_ (by first | omega | (simp; done) | (simp; omega)) _ | refine Below.alloc ?_ (by first | omega | (simp; done) | (simp; omega)) _)
  generalize gW_v0 : (w.alloc (.cells #[.slice p.a s.np p.ka, .int .i64 s.p, .int .i64 s.n, .slice p.b s.nb p.kb, .int .i64 s.d] 25)) = v0 at *
  clear gW_v0
  have Pb := Lib.hid t_Pb
  clear t_Pb
  have SB1h := Lib.hid SB1
  clear SB1
  have lt_Pb := Pb.out.lt
  have Pb_0 := Pb.out.cell 0
  have Pb_1 := Pb.out.cell 1
  have Pb_2 := Pb.out.cell 2
  have Pb_3 := Pb.out.cell 3
  have Pb_4 := Pb.out.cell 4
  simp at Pb_0 Pb_1 Pb_2 Pb_3 Pb_4
  have szB_v0 := SB1h.out.size
  refine (alive_any _).mono ?_
  rintro e w1 ⟨rfl, bel1⟩
  clear lt_Pb Pb_0 Pb_1 Pb_2 Pb_3 Pb_4
  have t_Pb := Pb.out.below bel1
  clear Pb
  have Pb := Lib.hid t_Pb
  clear t_Pb
  have SB2 : Below w.heap.size w w1 := SB1h.out.trans (bel1.mono SB1h.out.size)
  clear SB1h
  have SB2h := Lib.hid SB2
  clear SB2 bel1
  have lt_Pb := Pb.out.lt
  have Pb_0 := Pb.out.cell 0
  have Pb_1 := Pb.out.cell 1
  have Pb_2 := Pb.out.cell 2
  have Pb_3 := Pb.out.cell 3
  have Pb_4 := Pb.out.cell 4
  simp at Pb_0 Pb_1 Pb_2 Pb_3 Pb_4
  have szB_w1 := SB2h.out.size
  go_wp2_with fail
  refine (great_any p s _).mono ?_
  rintro e w2 ⟨rfl, bel2⟩
  clear lt_Pb Pb_0 Pb_1 Pb_2 Pb_3 Pb_4
  have t_Pb := Pb.out.below bel2
  clear Pb
  have Pb := Lib.hid t_Pb
  clear t_Pb
  have SB3 : Below w.heap.size w w2 := SB2h.out.trans (bel2.mono SB2h.out.size)
  clear SB2h
  have SB3h := Lib.hid SB3
  clear SB3 bel2
  have lt_Pb := Pb.out.lt
  have Pb_0 := Pb.out.cell 0
  have Pb_1 := Pb.out.cell 1
  have Pb_2 := Pb.out.cell 2
  have Pb_3 := Pb.out.cell 3
  have Pb_4 := Pb.out.cell 4
  simp at Pb_0 Pb_1 Pb_2 Pb_3 Pb_4
  have szB_w2 := SB3h.out.size
  by_cases hg : s.Great
  · have gg := cB_yes hg
    clear hg
    go_wp2
    go_ret
    exact ⟨rfl, SB3h.out⟩
  have gg := cB_no hg
  clear hg
  go_wp2_with fail
  refine (ready_any p s _ (HS.out.below SB3h.out)).mono ?_
  rintro e w3 ⟨⟨X, cx, rfl, ho⟩, bel3⟩
  clear lt_Pb Pb_0 Pb_1 Pb_2 Pb_3 Pb_4
  have HX := Lib.hid (is_list ho)
  clear ho
  have t_Pb := Pb.out.below bel3
  clear Pb
  have Pb := Lib.hid t_Pb
  clear t_Pb
  have SB4 : Below w.heap.size w w3 := SB3h.out.trans (bel3.mono SB3h.out.size)
  clear SB3h
  have SB4h := Lib.hid SB4
  clear SB4 bel3
  have lt_Pb := Pb.out.lt
  have Pb_0 := Pb.out.cell 0
  have Pb_1 := Pb.out.cell 1
  have Pb_2 := Pb.out.cell 2
  have Pb_3 := Pb.out.cell 3
  have Pb_4 := Pb.out.cell 4
  simp at Pb_0 Pb_1 Pb_2 Pb_3 Pb_4
  have szB_w3 := SB4h.out.size
  go_wp2_with fail
  refine (ended_any p s _ (HS.out.below SB4h.out)).mono ?_
  rintro e w4 ⟨rfl, bel4⟩
  clear lt_Pb Pb_0 Pb_1 Pb_2 Pb_3 Pb_4
  have HX4 := Lib.hid (HX.out.below bel4)
  clear HX
  have t_Pb := Pb.out.below bel4
  clear Pb
  have Pb := Lib.hid t_Pb
  clear t_Pb
  have SB5 : Below w.heap.size w w4 := SB4h.out.trans (bel4.mono SB4h.out.size)
  clear SB4h
  have SB5h := Lib.hid SB5
  clear SB5 bel4
  have lt_Pb := Pb.out.lt
  have Pb_0 := Pb.out.cell 0
  have Pb_1 := Pb.out.cell 1
  have Pb_2 := Pb.out.cell 2
  have Pb_3 := Pb.out.cell 3
  have Pb_4 := Pb.out.cell 4
  simp at Pb_0 Pb_1 Pb_2 Pb_3 Pb_4
  have szB_w4 := SB5h.out.size
  go_wp2_with fail
  refine (left_any p s _ (HS.out.below SB5h.out) hcap).mono ?_
  rintro e w5 ⟨rfl, bel5⟩
  clear lt_Pb Pb_0 Pb_1 Pb_2 Pb_3 Pb_4
  have HX := Lib.hid (HX4.out.below bel5)
  clear HX4
  have t_Pb := Pb.out.below bel5
  clear Pb
  have Pb := Lib.hid t_Pb
  clear t_Pb
  have SB6 : Below w.heap.size w w5 := SB5h.out.trans (bel5.mono SB5h.out.size)
  clear SB5h
  have SB6h := Lib.hid SB6
  clear SB6 bel5
  have lt_Pb := Pb.out.lt
  have Pb_0 := Pb.out.cell 0
  have Pb_1 := Pb.out.cell 1
  have Pb_2 := Pb.out.cell 2
  have Pb_3 := Pb.out.cell 3
  have Pb_4 := Pb.out.cell 4
  simp at Pb_0 Pb_1 Pb_2 Pb_3 Pb_4
  have szB_w5 := SB6h.out.size
  by_cases hm : s.May
  rotate_left
  · have e1 := mayv_no hm
    have e2 := leftv_no hm
    have e3 := rdyv_no hm
    have e4 : endB s = false := cB_no fun h => hm h.1
    have e5 : (rdyv s).length = 0 := by rw [e3]; rfl
    rw [e1, e2, e4, e5]
    clear hm e1 e2 e3 e4 e5 HX
    go_wp2
    go_ret
    exact ⟨rfl, SB6h.out⟩
  have Hm := Lib.hid hm
  have HSo := Lib.hid (rdyv_sorted s)
  have Hmem := Lib.hid (show rdyv s = rdyL s s.nb from rdyv_yes hm)
  have hl64 := rdyv_le s
  have hrd := hm.ready
  have hlp := hm.left_pos
  have hl0 := hm.left_bd
  rw [← rdyv_yes hm] at hrd
  rw [mayv_yes hm, leftv_yes hm]
  have hleft : s.left ≤ 1000000 := by
    obtain ⟨hph, hn16, hb1, hb64, ⟨pn, hq, hqn⟩, hn0, hnt, hbz, hd, hx⟩ := hm.parts
    have hw := wk_le s.bz s.nb
    have ht := hm.tasks_bd
    have h1 := sumTo_bd hph (Nat.le_refl s.np)
    have h2 := sumTo_bd hph (k := s.np) (Nat.le_refl s.np)
    unfold SD.left
    split
    · omega
    · by_cases hc : s.p.toNat + 1 ≤ s.np
      · have := sumTo_bd hph hc
        omega
      · have hpn : pn = s.np := by omega
        have h4 : s.p.toNat + 1 = s.np + 1 := by omega
        rename_i hne
        exact absurd (by rw [hq, hpn]) hne
  obtain ⟨Lr, hLr⟩ : ∃ Lr, rdyv s = Lr := ⟨_, rfl⟩
  obtain ⟨ov, hov⟩ : ∃ ov, endB s = ov := ⟨_, rfl⟩
  obtain ⟨lf, hlf⟩ : ∃ lf, s.left = lf := ⟨_, rfl⟩
  rw [hLr] at HX HSo Hmem hl64 hrd
  rw [hlf] at hlp hl0 hleft
  have hovi : ov = true ↔ s.p = s.np := by rw [← hov]; exact cB_iff.trans ⟨fun h => h.2, fun h => ⟨hm, h⟩⟩
  have HLF := Lib.hid hlf
  rw [hLr, hov, hlf]
  obtain ⟨m, hmm⟩ : ∃ m, Lr.length = m := ⟨_, rfl⟩
  rw [hmm] at HX hl64 hrd ⊢
  have HM := Lib.hid hmm
  clear hmm
  have hrt : s.p = s.np → m = 0 ∧ lf ≤ 0 := fun h => by
    refine ⟨?_, ?_⟩
    · rcases Nat.eq_zero_or_pos m with h1 | h1
      · exact h1
      · exact absurd h (hrd.1 h1)
    · exact Int.not_lt.1 fun h1 => hlp.1 h1 h
  have hrf : s.p ≠ s.np → 0 < m ∧ 0 < lf := fun h => ⟨hrd.2 h, hlp.2 h⟩
  have Hrt := Lib.hid hrt
  have Hrf := Lib.hid hrf
  have HT := Lib.hid hovi
  clear hm hrd hlp hLr hov hlf hovi hrt hrf
  cases ov with
  | true =>
    have h1 := Hrt.out (HT.out.1 rfl)
    have t1 : decide ((0 : Int) < ((m : Nat) : Int)) = false := decide_eq_false (by omega)
    have t2 : decide ((0 : Int) < lf) = false := decide_eq_false (by omega)
    obtain rfl : m = 0 := by omega
    clear h1
    go_wp2_with fail
    clear t1 t2
    go_loopw [12, 13] (fun c i wr => ∃ k : Nat, k ≤ 0 ∧ i = .int .i64 k ∧ c = .bool (amongB Lr worker k) ∧ Below w5.heap.size w5 wr) (fun c i wr => 0 - (intOf i).toNat)
    case atStart => exact ⟨0, Nat.zero_le _, rfl, rfl, Below.refl _ _⟩
    case round =>
      obtain ⟨k, hk, rfl, rfl, hb⟩ := hrel
      have HBk := Lib.hid hb
      have zb := hb.size
      clear hb
      by_cases hkn : k < 0
      · exact absurd hkn (Nat.not_lt_zero _)
      · have hkk : k = 0 := by omega
        have Hkk := Lib.hid hkk
        clear hkk
        obtain ⟨cb, hcb⟩ : ∃ cb, amongB Lr worker k = cb := ⟨_, rfl⟩
        have Hcb := Lib.hid (show cb = true ↔ worker ∈ rdyL s s.nb from by rw [← Hmem.out]; exact amongB_all (by rw [HM.out, ← Hkk.out]; exact hcb))
        rw [hcb]
        clear hcb
        have HPk := Lib.hid (Pb.out.below HBk.out)
        have HBw := Lib.hid (SB6h.out.trans (HBk.out.mono SB6h.out.size))
        clear lt_Pb Pb_0 Pb_1 Pb_2 Pb_3 Pb_4
        have ltP := HPk.out.lt
        have P_0 := HPk.out.cell 0
        have P_1 := HPk.out.cell 1
        have P_2 := HPk.out.cell 2
        have P_3 := HPk.out.cell 3
        have P_4 := HPk.out.cell 4
        simp at P_0 P_1 P_2 P_3 P_4
        go_wp2_with fail
        refine (step_any p s worker _ (HS.out.below HBw.out)).mono ?_
        rintro e w6 ⟨⟨q, t, u, v, x, rfl, hv, ho⟩, bel6⟩
        have HV := Lib.hid hv
        have HB6 := Lib.hid (HBw.out.trans (bel6.mono HBw.out.size))
        have HO := Lib.hid ho
        clear hv ho bel6
        clear ltP P_0 P_1 P_2 P_3 P_4
        by_cases hx : x = 0
        · subst hx
          have hok := HV.out.ok Hm.out
          have hcb : cb = true := Hcb.out.2 hok.2.2
          have Hok := Lib.hid hok
          subst hcb
          clear hok
          have HO7 := Lib.hid (HO.out.below ((Below.refl w6.heap.size w6).alloc (Nat.le_refl _) (.cells #[.slice q.a t.np q.ka, .int .i64 t.p, .int .i64 t.n, .slice q.b t.nb q.kb, .int .i64 t.d] 25)))
          have HQ7 := Lib.hid (hasBlk_new w6 25 #[.slice q.a t.np q.ka, .int .i64 t.p, .int .i64 t.n, .slice q.b t.nb q.kb, .int .i64 t.d])
          have HB7 := Lib.hid (HB6.out.alloc HB6.out.size (.cells #[.slice q.a t.np q.ka, .int .i64 t.p, .int .i64 t.n, .slice q.b t.nb q.kb, .int .i64 t.d] 25))
          go_wp2_with fail
          generalize w6.alloc (.cells #[.slice q.a t.np q.ka, .int .i64 t.p, .int .i64 t.n, .slice q.b t.nb q.kb, .int .i64 t.d] 25) = v7 at *
          refine (left_any q t _ HO7.out.1.ok HO7.out.cap).mono ?_
          rintro e w8 ⟨rfl, bel8⟩
          have HB8 := Lib.hid (HB7.out.trans (bel8.mono HB7.out.size))
          have HQ8 := Lib.hid (HQ7.out.below bel8)
          have HO8 := Lib.hid (HO7.out.below bel8)
          rw [leftv_yes Hok.out.1, mayv_yes Hok.out.1, Hok.out.2.1, HLF.out]
          clear bel8
          have ltQ := HQ8.out.lt
          have Q_0 := HQ8.out.cell 0
          have Q_1 := HQ8.out.cell 1
          have Q_2 := HQ8.out.cell 2
          have Q_3 := HQ8.out.cell 3
          have Q_4 := HQ8.out.cell 4
          simp at Q_0 Q_1 Q_2 Q_3 Q_4
          go_wp2_with fail
          refine (calls_congr (check_any q t _ HO8.out.1.ok) (congrArg (Value.int .i64) (mayv_yes Hok.out.1))).mono ?_
          rintro e w9 ⟨rfl, bel9⟩
          have HB9 := Lib.hid (HB8.out.trans (bel9.mono HB8.out.size))
          clear ltQ Q_0 Q_1 Q_2 Q_3 Q_4
          clear bel9
          go_wp2
          go_ret
          exact ⟨rfl, HB9.out⟩
        · have g5 : (x != 0) = true := by simpa using hx
          have hcb : cb = false := by
            cases cb with
            | false => rfl
            | true => exact absurd (Hcb.out.1 rfl) (HV.out.bad Hm.out hx)
          subst hcb
          clear hx
          go_wp2
          go_ret
          exact ⟨rfl, HB6.out.alloc HB6.out.size _⟩
  | false =>
    have h1 := Hrf.out (fun h => by have := HT.out.2 h; cases this)
    have t1 : decide ((0 : Int) < ((m : Nat) : Int)) = true := decide_eq_true (by omega)
    have t2 : decide ((0 : Int) < lf) = true := decide_eq_true (by omega)
    have t3 : ¬ m = 0 := by omega
    have t4 : decide (m = 0) = false := decide_eq_false t3
    clear h1
    go_wp2_with fail
    clear t1 t2 t3 t4
    go_loopw [12, 13] (fun c i wr => ∃ k : Nat, k ≤ m ∧ i = .int .i64 k ∧ c = .bool (amongB Lr worker k) ∧ Below w5.heap.size w5 wr) (fun c i wr => m - (intOf i).toNat)
    case atStart => exact ⟨0, Nat.zero_le _, rfl, rfl, Below.refl _ _⟩
    case round =>
      obtain ⟨k, hk, rfl, rfl, hb⟩ := hrel
      have HBk := Lib.hid hb
      have zb := hb.size
      clear hb
      by_cases hkn : k < m
      · obtain ⟨g, o, rfl, hg, hc⟩ := HX.out (by omega)
        have c0 := (HBk.out.cell (p := ⟨g, o + k, none⟩) hg).trans (hc k hkn)
        dsimp only at c0
        have ltg : g < wr.heap.size := by omega
        have hi0 : (0 : Int) ≤ (k : Int) := by omega
        have hi1 : (k : Int) < (m : Int) := by omega
        have HC := Lib.hid hc
        have Hso := HSo.out
        clear hc
        obtain ⟨x, hx⟩ : ∃ x, Lr.getD k 0 = x := ⟨_, rfl⟩
        rw [hx] at c0
        have Hx := Lib.hid hx
        clear hx
        cases hcan : amongB Lr worker k with
        | true =>
          have Hc := Lib.hid (amongB_yes hcan)
          clear hcan
          by_cases hk0 : k = 0
          · subst hk0
            rw [Nat.add_zero] at c0
            go_upto_region 18 with fail
            have r0 := fun b : BW wr => BW.cell c0 ltg b
            clear c0
            refine wp_region_quiet_bw (by kernel_rfl) (by kernel_rfl) ?_
            repeat (go_big_quiet_step (fail))
            refine wpQuiet_nil ?_
            intro _ hw'
            obtain ⟨pq, hw''⟩ := hw'
            subst hw''
            have HQ := Lib.hid (HBk.out.trans (pq.h.mono zb))
            generalize pq.W = w6 at *
            clear pq r0
            go_wp2
            go_roundw
            case rel => exact ⟨0 + 1, by omega, by go_num, by rw [Hc.out], HQ.out⟩
            case measure => simp [intOf]; omega
          · have g7 : decide ((0 : Int) < (k : Int)) = true := decide_eq_true (by omega)
            have g7n : decide (0 < k) = true := decide_eq_true (by omega)
            have g7p : 0 < k := by omega
            obtain ⟨j, hj⟩ : ∃ j, k = j + 1 := ⟨k - 1, by omega⟩
            have c1 := (HBk.out.cell (p := ⟨g, o + j, none⟩) hg).trans (HC.out j (by omega))
            dsimp only at c1
            have hlt := sorted_at Hso (show j + 1 < Lr.length by rw [HM.out]; omega)
            obtain ⟨y, hy⟩ : ∃ y, Lr.getD j 0 = y := ⟨_, rfl⟩
            rw [hy, ← hj, Hx.out] at hlt
            rw [hy] at c1
            have g8 : decide (x ≤ y) = false := decide_eq_false (by omega)
            have hj1 : IntKind.i64.wrap ((k : Int) - 1) = (k : Int) - 1 := IntWalk.i64_in _ (by omega)
            have hj2 : ((k : Int) - 1).toNat = j := by omega
            have hj3 : (0 : Int) ≤ (k : Int) - 1 := by omega
            have hj4 : (k : Int) - 1 < (m : Int) := by omega
            clear hy hlt hj hk0 Hso
            go_upto_region 18 with fail
            have r0 := fun b : BW wr => BW.cell c0 ltg b
            have r1 := fun b : BW wr => BW.cell c1 ltg b
            clear c0 c1
            refine wp_region_quiet_bw (by kernel_rfl) (by kernel_rfl) ?_
            repeat (go_big_quiet_step (fail))
            refine wpQuiet_nil ?_
            intro _ hw'
            obtain ⟨pq, hw''⟩ := hw'
            subst hw''
            have HQ := Lib.hid (HBk.out.trans (pq.h.mono zb))
            generalize pq.W = w6 at *
            clear pq r0 r1 hj1 hj2 hj3 hj4
            go_wp2
            go_roundw
            case rel => exact ⟨k + 1, by omega, by go_num, by rw [Hc.out], HQ.out⟩
            case measure => simp [intOf]; omega
        | false =>
          by_cases he : x = worker
          · have g6 : (x == worker) = true := by simpa using he
            have Hc := Lib.hid (amongB_hit (HM.out.symm ▸ hkn) (Hx.out.trans he))
            clear hcan he
            by_cases hk0 : k = 0
            · subst hk0
              rw [Nat.add_zero] at c0
              go_upto_region 18 with fail
              have r0 := fun b : BW wr => BW.cell c0 ltg b
              clear c0
              refine wp_region_quiet_bw (by kernel_rfl) (by kernel_rfl) ?_
              repeat (go_big_quiet_step (fail))
              refine wpQuiet_nil ?_
              intro _ hw'
              obtain ⟨pq, hw''⟩ := hw'
              subst hw''
              have HQ := Lib.hid (HBk.out.trans (pq.h.mono zb))
              generalize pq.W = w6 at *
              clear pq r0
              go_wp2
              go_roundw
              case rel => exact ⟨0 + 1, by omega, by go_num, by rw [Hc.out], HQ.out⟩
              case measure => simp [intOf]; omega
            · have g7 : decide ((0 : Int) < (k : Int)) = true := decide_eq_true (by omega)
              have g7n : decide (0 < k) = true := decide_eq_true (by omega)
              have g7p : 0 < k := by omega
              obtain ⟨j, hj⟩ : ∃ j, k = j + 1 := ⟨k - 1, by omega⟩
              have c1 := (HBk.out.cell (p := ⟨g, o + j, none⟩) hg).trans (HC.out j (by omega))
              dsimp only at c1
              have hlt := sorted_at Hso (show j + 1 < Lr.length by rw [HM.out]; omega)
              obtain ⟨y, hy⟩ : ∃ y, Lr.getD j 0 = y := ⟨_, rfl⟩
              rw [hy, ← hj, Hx.out] at hlt
              rw [hy] at c1
              have g8 : decide (x ≤ y) = false := decide_eq_false (by omega)
              have hj1 : IntKind.i64.wrap ((k : Int) - 1) = (k : Int) - 1 := IntWalk.i64_in _ (by omega)
              have hj2 : ((k : Int) - 1).toNat = j := by omega
              have hj3 : (0 : Int) ≤ (k : Int) - 1 := by omega
              have hj4 : (k : Int) - 1 < (m : Int) := by omega
              clear hy hlt hj hk0 Hso
              go_upto_region 18 with fail
              have r0 := fun b : BW wr => BW.cell c0 ltg b
              have r1 := fun b : BW wr => BW.cell c1 ltg b
              clear c0 c1
              refine wp_region_quiet_bw (by kernel_rfl) (by kernel_rfl) ?_
              repeat (go_big_quiet_step (fail))
              refine wpQuiet_nil ?_
              intro _ hw'
              obtain ⟨pq, hw''⟩ := hw'
              subst hw''
              have HQ := Lib.hid (HBk.out.trans (pq.h.mono zb))
              generalize pq.W = w6 at *
              clear pq r0 r1 hj1 hj2 hj3 hj4
              go_wp2
              go_roundw
              case rel => exact ⟨k + 1, by omega, by go_num, by rw [Hc.out], HQ.out⟩
              case measure => simp [intOf]; omega
          · have g6 : (x == worker) = false := by simpa using he
            have Hc := Lib.hid (amongB_miss (HM.out.symm ▸ hkn) hcan (fun h => he (Hx.out.symm.trans h)))
            clear hcan he
            by_cases hk0 : k = 0
            · subst hk0
              rw [Nat.add_zero] at c0
              go_upto_region 18 with fail
              have r0 := fun b : BW wr => BW.cell c0 ltg b
              clear c0
              refine wp_region_quiet_bw (by kernel_rfl) (by kernel_rfl) ?_
              repeat (go_big_quiet_step (fail))
              refine wpQuiet_nil ?_
              intro _ hw'
              obtain ⟨pq, hw''⟩ := hw'
              subst hw''
              have HQ := Lib.hid (HBk.out.trans (pq.h.mono zb))
              generalize pq.W = w6 at *
              clear pq r0
              go_wp2
              go_roundw
              case rel => exact ⟨0 + 1, by omega, by go_num, by rw [Hc.out], HQ.out⟩
              case measure => simp [intOf]; omega
            · have g7 : decide ((0 : Int) < (k : Int)) = true := decide_eq_true (by omega)
              have g7n : decide (0 < k) = true := decide_eq_true (by omega)
              have g7p : 0 < k := by omega
              obtain ⟨j, hj⟩ : ∃ j, k = j + 1 := ⟨k - 1, by omega⟩
              have c1 := (HBk.out.cell (p := ⟨g, o + j, none⟩) hg).trans (HC.out j (by omega))
              dsimp only at c1
              have hlt := sorted_at Hso (show j + 1 < Lr.length by rw [HM.out]; omega)
              obtain ⟨y, hy⟩ : ∃ y, Lr.getD j 0 = y := ⟨_, rfl⟩
              rw [hy, ← hj, Hx.out] at hlt
              rw [hy] at c1
              have g8 : decide (x ≤ y) = false := decide_eq_false (by omega)
              have hj1 : IntKind.i64.wrap ((k : Int) - 1) = (k : Int) - 1 := IntWalk.i64_in _ (by omega)
              have hj2 : ((k : Int) - 1).toNat = j := by omega
              have hj3 : (0 : Int) ≤ (k : Int) - 1 := by omega
              have hj4 : (k : Int) - 1 < (m : Int) := by omega
              clear hy hlt hj hk0 Hso
              go_upto_region 18 with fail
              have r0 := fun b : BW wr => BW.cell c0 ltg b
              have r1 := fun b : BW wr => BW.cell c1 ltg b
              clear c0 c1
              refine wp_region_quiet_bw (by kernel_rfl) (by kernel_rfl) ?_
              repeat (go_big_quiet_step (fail))
              refine wpQuiet_nil ?_
              intro _ hw'
              obtain ⟨pq, hw''⟩ := hw'
              subst hw''
              have HQ := Lib.hid (HBk.out.trans (pq.h.mono zb))
              generalize pq.W = w6 at *
              clear pq r0 r1 hj1 hj2 hj3 hj4
              go_wp2
              go_roundw
              case rel => exact ⟨k + 1, by omega, by go_num, by rw [Hc.out], HQ.out⟩
              case measure => simp [intOf]; omega
      · have hkk : k = m := by omega
        have Hkk := Lib.hid hkk
        clear hkk
        obtain ⟨cb, hcb⟩ : ∃ cb, amongB Lr worker k = cb := ⟨_, rfl⟩
        have Hcb := Lib.hid (show cb = true ↔ worker ∈ rdyL s s.nb from by rw [← Hmem.out]; exact amongB_all (by rw [HM.out, ← Hkk.out]; exact hcb))
        rw [hcb]
        clear hcb
        have HPk := Lib.hid (Pb.out.below HBk.out)
        have HBw := Lib.hid (SB6h.out.trans (HBk.out.mono SB6h.out.size))
        clear lt_Pb Pb_0 Pb_1 Pb_2 Pb_3 Pb_4
        have ltP := HPk.out.lt
        have P_0 := HPk.out.cell 0
        have P_1 := HPk.out.cell 1
        have P_2 := HPk.out.cell 2
        have P_3 := HPk.out.cell 3
        have P_4 := HPk.out.cell 4
        simp at P_0 P_1 P_2 P_3 P_4
        go_wp2_with fail
        refine (step_any p s worker _ (HS.out.below HBw.out)).mono ?_
        rintro e w6 ⟨⟨q, t, u, v, x, rfl, hv, ho⟩, bel6⟩
        have HV := Lib.hid hv
        have HB6 := Lib.hid (HBw.out.trans (bel6.mono HBw.out.size))
        have HO := Lib.hid ho
        clear hv ho bel6
        clear ltP P_0 P_1 P_2 P_3 P_4
        by_cases hx : x = 0
        · subst hx
          have hok := HV.out.ok Hm.out
          have hcb : cb = true := Hcb.out.2 hok.2.2
          have Hok := Lib.hid hok
          subst hcb
          clear hok
          have HO7 := Lib.hid (HO.out.below ((Below.refl w6.heap.size w6).alloc (Nat.le_refl _) (.cells #[.slice q.a t.np q.ka, .int .i64 t.p, .int .i64 t.n, .slice q.b t.nb q.kb, .int .i64 t.d] 25)))
          have HQ7 := Lib.hid (hasBlk_new w6 25 #[.slice q.a t.np q.ka, .int .i64 t.p, .int .i64 t.n, .slice q.b t.nb q.kb, .int .i64 t.d])
          have HB7 := Lib.hid (HB6.out.alloc HB6.out.size (.cells #[.slice q.a t.np q.ka, .int .i64 t.p, .int .i64 t.n, .slice q.b t.nb q.kb, .int .i64 t.d] 25))
          go_wp2_with fail
          generalize w6.alloc (.cells #[.slice q.a t.np q.ka, .int .i64 t.p, .int .i64 t.n, .slice q.b t.nb q.kb, .int .i64 t.d] 25) = v7 at *
          refine (left_any q t _ HO7.out.1.ok HO7.out.cap).mono ?_
          rintro e w8 ⟨rfl, bel8⟩
          have HB8 := Lib.hid (HB7.out.trans (bel8.mono HB7.out.size))
          have HQ8 := Lib.hid (HQ7.out.below bel8)
          have HO8 := Lib.hid (HO7.out.below bel8)
          rw [leftv_yes Hok.out.1, mayv_yes Hok.out.1, Hok.out.2.1, HLF.out]
          clear bel8
          have ltQ := HQ8.out.lt
          have Q_0 := HQ8.out.cell 0
          have Q_1 := HQ8.out.cell 1
          have Q_2 := HQ8.out.cell 2
          have Q_3 := HQ8.out.cell 3
          have Q_4 := HQ8.out.cell 4
          simp at Q_0 Q_1 Q_2 Q_3 Q_4
          go_wp2_with fail
          refine (calls_congr (check_any q t _ HO8.out.1.ok) (congrArg (Value.int .i64) (mayv_yes Hok.out.1))).mono ?_
          rintro e w9 ⟨rfl, bel9⟩
          have HB9 := Lib.hid (HB8.out.trans (bel9.mono HB8.out.size))
          clear ltQ Q_0 Q_1 Q_2 Q_3 Q_4
          clear bel9
          go_wp2
          go_ret
          exact ⟨rfl, HB9.out⟩
        · have g5 : (x != 0) = true := by simpa using hx
          have hcb : cb = false := by
            cases cb with
            | false => rfl
            | true => exact absurd (Hcb.out.1 rfl) (HV.out.bad Hm.out hx)
          subst hcb
          clear hx
          go_wp2
          go_ret
          exact ⟨rfl, HB6.out.alloc HB6.out.size _⟩
theorem schedOn_arg (v0 v1 : Value) (w : World) (h0 : Arg Try.prog w 25 v0) (h1 : Arg Try.prog w 3 v1) : Calls Try.prog 5 #[v0, v1] w fun e w' => e = .returned (.bool true) ∧ Below w.heap.size w w' := by
  obtain ⟨p, s, rfl, hok, _, hcap⟩ := arg_pool h0
  obtain ⟨x, rfl⟩ := arg_int h1
  exact schedOn_walk p s x w hok hcap
end Go.Proofs.Ytdilfcpgjkkjmaa
