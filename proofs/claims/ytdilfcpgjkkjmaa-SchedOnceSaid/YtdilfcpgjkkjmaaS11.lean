/- sched: Ready. -/
import Derived.Test.YtdilfcpgjkkjmaaS9
import Derived.RangeFuncNested
import Derived.RangeFuncBound
import Derived.RangeFuncCalls
import Derived.RangeFuncLeaves
import Derived.RangeFuncBox
import Derived.Shelf.Abstract
import Derived.Shelf.RegionOpen
import Derived.WalkKit
import Derived.OwnWalkIn
import Derived.TacticsInMore
import Derived.LoopNIn
import Derived.LoopIn
import Derived.Maps.AppendAt
namespace Go.Proofs.Ytdilfcpgjkkjmaa
open Go.RowKit Go.Shelf
set_option linter.unusedVariables false
attribute [local go_sem] Oper.semAt_some
open Classical in
noncomputable def rdyv (s : SD) : List Int := if s.May then rdyL s s.nb else []
theorem rdyv_yes {s : SD} (h : s.May) : rdyv s = rdyL s s.nb := if_pos h
theorem rdyv_no {s : SD} (h : ¬ s.May) : rdyv s = [] := if_neg h
theorem rdyv_le (s : SD) : (rdyv s).length ≤ 64 := by
  by_cases h : s.May
  · rw [rdyv_yes h]
    have := rdyL_le s s.nb
    have := h.2.1.2
    omega
  · rw [rdyv_no h]; simp
/-- What Ready answers. -/
def RdyR (s : SD) (B : Nat) (e : Ending) (w' : World) : Prop :=
  ∃ X c, e = .returned (.tuple #[.slice X (rdyv s).length c, .int .i64 (mayv s)]) ∧ w'.ownsRow B 3 1 (.slice X (rdyv s).length c) (rdyv s).length ((rdyv s).map (Value.int .i64))
/-- What has come when k rounds are over. -/
def uptoF {α : Type} (f : Nat → α) (k : Nat) : List α := (List.range k).map f
theorem uptoF_succ {α : Type} (f : Nat → α) (k : Nat) : uptoF f (k + 1) = uptoF f k ++ [f k] := by simp [uptoF, List.range_succ]
theorem uptoF_length {α : Type} (f : Nat → α) (k : Nat) : (uptoF f k).length = k := by simp [uptoF]
def fx {n : Nat} (h : 0 < n) (j : Nat) : {i : Nat // i < n} := if hj : j < n then ⟨j, hj⟩ else ⟨0, h⟩
theorem fx_at {n : Nat} (h : 0 < n) {j : Nat} (hj : j < n) : fx h j = ⟨j, hj⟩ := dif_pos hj
set_option maxRecDepth 100000 in
set_option maxHeartbeats 2000000 in
theorem all1_in (Fe : Fence) (n : Nat) (h8 : Fe.fn 40) (hro : Fe.round = none) (hn : 1 ≤ n) (l Bs n₀ b off len cap : Nat) (z : Nat → Int) (h0l : 0 < len) (hreach : (len : Int) ≤ 100000) (hb : b < n₀) (J Jx : List {i : Nat // i < len} → World → Prop)
    (hY : ∀ pre (x : {i : Nat // i < len}) W, J pre W → pre.length < len → YieldAt Fe (n - 1) Try.prog l #[.int .i64 (x.1 : Int), .int .i64 (z x.1)] W fun e W' =>
      (e = .returned (.bool true) ∧ J (pre ++ [x]) W' ∧ Below n₀ W W') ∨ (e = .returned (.bool false) ∧ Jx (pre ++ [x]) W'))
    (W : World) (hBs : W.cell? ⟨Bs, 0, none⟩ = some (.slice (some ⟨b, off, none⟩) len cap)) (hc : ∀ j, j < len → W.cell? ⟨b, off + j, none⟩ = some (.int .i64 (z j))) (h0 : J [] W) :
    CallsIn Fe n Try.prog 40 #[.func (.yield l) #[] #[], .pointer (some ⟨Bs, 0, none⟩)] W fun e W' => (∃ v, e = .returned v) ∧
      ((∃ ys, ys = uptoF (fx h0l) len ∧ J ys W') ∨ (∃ pre, (∃ k, k ≤ len ∧ pre = uptoF (fx h0l) k) ∧ Jx pre W')) := by
  refine callsIn_of_wp Try.func40 rfl h8 ?_ hro
  simp only [Try.ntmps40, List.size_toArray, List.length_cons, List.length_nil, Nat.reduceAdd, Nat.reduceSub, Array.replicate_succ, Array.replicate_zero, List.push_toArray, List.append_toArray, List.nil_append, List.cons_append]
  gi_wp2
  gi_loopw [7] (fun i wr => ∃ k : Nat, k ≤ len ∧ i = .int .i64 k ∧ J (uptoF (fx h0l) k) wr ∧ Below n₀ W wr)
    (fun i _ => len - (intOf i).toNat)
  case atStart => exact ⟨0, Nat.zero_le _, rfl, h0, Below.refl _ _⟩
  case round =>
    obtain ⟨k, hk, rfl, hJs, hnx⟩ := hrel
    by_cases hlt : k < len
    · obtain ⟨fn, tmps, assign, body, hy, hR⟩ := hY _ ⟨k, hlt⟩ wr hJs (by rw [uptoF_length]; exact hlt)
      dsimp only at hy
      have hcx' := (hnx.cell (p := ⟨b, off + k, none⟩) hb).trans (hc k hlt)
      gi_wp2
      refine hR.mono ?_
      rintro e W3 (⟨rfl, hJ3, hk3⟩ | ⟨rfl, hJx3⟩)
      · gi_wp2
        go_roundw
        case rel => exact ⟨k + 1, by omega, by simp, by rw [uptoF_succ, fx_at h0l hlt]; exact hJ3, hnx.trans hk3⟩
        case measure => simp [intOf]; omega
      · gi_wp2
        refine bodyPost_ret (results_none rfl _ _ _) rfl ?_
        exact ⟨⟨_, rfl⟩, .inr ⟨_, ⟨k + 1, by omega, by rw [uptoF_succ, fx_at h0l hlt]⟩, hJx3⟩⟩
    · obtain rfl : k = len := by omega
      gi_wp2
      go_end0
      exact ⟨⟨_, rfl⟩, .inl ⟨_, rfl, hJs⟩⟩
set_option maxHeartbeats 1000000 in
theorem all_in (Fe : Fence) (n : Nat) (h6 : Fe.fn 28) (hro : Fe.round = none) (a : Option Addr) (len cap : Nat) (w : World) :
    CallsIn Fe n Try.prog 28 #[.slice a len cap] w fun e w' => e = .returned (.func (.func 40) #[] #[.pointer (some ⟨w.heap.size, 0, none⟩)]) ∧ w' = w.alloc (.cells #[.slice a len cap] 23) := by
  refine callsIn_of_wp Try.func28 rfl h6 ?_ hro
  simp only [Try.ntmps28, List.size_toArray, List.length_cons, List.length_nil, Nat.reduceAdd, Nat.reduceSub, Array.replicate_succ, Array.replicate_zero, List.push_toArray, List.append_toArray, List.nil_append, List.cons_append]
  gi_wp2
  go_ret
  exact ⟨rfl, rfl⟩
theorem all_stops (Fe : Fence) (n : Nat) (h8 : Fe.fn 40) (hro : Fe.round = none) (hn : 1 ≤ n) (Bs n₀ b off len cap : Nat) (z : Nat → Int) (h0l : 0 < len) (hreach : (len : Int) ≤ 100000) (hb : b < n₀) (w : World) (hBs : Bs < w.heap.size) (hn₀ : n₀ ≤ w.heap.size)
    (hcs : w.cell? ⟨Bs, 0, none⟩ = some (.slice (some ⟨b, off, none⟩) len cap)) (hc : ∀ j, j < len → w.cell? ⟨b, off + j, none⟩ = some (.int .i64 (z j))) :
    SeqStopsK Fe n Try.prog 40 #[.pointer (some ⟨Bs, 0, none⟩)] (fun x : {i : Nat // i < len} => #[Value.int .i64 (x.1 : Int), Value.int .i64 (z x.1)]) (Below n₀) (fun ys => ys = uptoF (fx h0l) len)
      (fun pre => ∃ k, k ≤ len ∧ pre = uptoF (fx h0l) k) len w := fun l J Jx W hW _ _ hY h0 =>
  all1_in Fe n h8 hro hn l Bs n₀ b off len cap z h0l hreach hb J Jx hY W ((hW.cell (p := ⟨Bs, 0, none⟩) hBs).trans hcs) (fun j hj => (hW.cell (p := ⟨b, off + j, none⟩) (Nat.lt_of_lt_of_le hb hn₀)).trans (hc j hj)) h0
/-- Those of the indices that can go on. -/
def rdP (s : SD) (pre : List {i : Nat // i < s.nb}) : List Int := (pre.filter (fun x => s.can x.1)).map (fun x => (x.1 : Int))
theorem rdP_hit {s : SD} (pre : List {i : Nat // i < s.nb}) {x : {i : Nat // i < s.nb}} (h : s.can x.1 = true) : rdP s (pre ++ [x]) = rdP s pre ++ [(x.1 : Int)] := by simp [rdP, h]
theorem rdP_miss {s : SD} (pre : List {i : Nat // i < s.nb}) {x : {i : Nat // i < s.nb}} (h : s.can x.1 = false) : rdP s (pre ++ [x]) = rdP s pre := by simp [rdP, h]
theorem rdP_le (s : SD) (pre : List {i : Nat // i < s.nb}) : (rdP s pre).length ≤ pre.length := by
  unfold rdP
  rw [List.length_map]
  exact List.length_filter_le _ _
theorem rdP_upto {s : SD} (h : 0 < s.nb) : ∀ k, k ≤ s.nb → rdP s (uptoF (fx h) k) = rdyL s k
  | 0, _ => rfl
  | k + 1, hk => by
    rw [uptoF_succ, fx_at h (by omega)]
    have ih := rdP_upto h k (by omega)
    unfold rdyL
    by_cases c : s.can k = true
    · rw [rdP_hit _ c, ih, if_pos c]
    · rw [rdP_miss _ (by simpa using c), ih, if_neg c]

set_option maxRecDepth 100000 in
set_option maxHeartbeats 8000000 in
theorem ready_any (p : SP) (s : SD) (w : World) (h : SOk w p s) :
    Calls Try.prog 9 #[.agg #[.slice p.a s.np p.ka, .int .i64 s.p, .int .i64 s.n, .slice p.b s.nb p.kb, .int .i64 s.d]] w fun e w' => RdyR s w.heap.size e w' ∧ Below w.heap.size w w' := by
  have HS := Lib.hid h
  have HBx := Lib.hid (And.intro (show Below w.heap.size w ((w.alloc (.cells #[.slice p.a s.np p.ka, .int .i64 s.p, .int .i64 s.n, .slice p.b s.nb p.kb, .int .i64 s.d] 25)).alloc (.cells #[.slice none 0 0] 23)) by repeat' (first | exact Below.refl _ _ | assumption | apply Below.drew | refine Below.setCell ?_ (by first | omega | (simp; done) | (simp; omega)) _ | refine Below.alloc ?_ (by first | omega | (simp; done) | (simp; omega)) _)) (And.intro ((hasBlk_new w 25 #[.slice p.a s.np p.ka, .int .i64 s.p, .int .i64 s.n, .slice p.b s.nb p.kb, .int .i64 s.d]).alloc (.cells #[.slice none 0 0] 23)) (show HasBlk ((w.alloc (.cells #[.slice p.a s.np p.ka, .int .i64 s.p, .int .i64 s.n, .slice p.b s.nb p.kb, .int .i64 s.d] 25)).alloc (.cells #[.slice none 0 0] 23)) (w.heap.size + 1) 23 #[.slice none 0 0] by simpa using hasBlk_new (w.alloc (.cells #[.slice p.a s.np p.ka, .int .i64 s.p, .int .i64 s.n, .slice p.b s.nb p.kb, .int .i64 s.d] 25)) 23 #[.slice none 0 0])))
  clear h
  by_cases hm : s.May
  rotate_left
  · have Hm := Lib.hid hm
    clear hm
    refine (callsIn_wide (n := 6)).1 ?_
    refine callsIn_of_wp_marks Try.func9 rfl trivial ?_ rfl
    simp only [Try.ntmps9, List.size_toArray, List.length_cons, List.length_nil, Nat.reduceAdd, Nat.reduceSub, Array.replicate_succ, Array.replicate_zero, List.push_toArray, List.append_toArray, List.nil_append, List.cons_append]
    gi_wp2_with (refine ⟨trivial, ?_⟩; gi_at_call 13; refine (callsIn_wide.2 (calls_congr (check_any p s _ (HS.out.below HBx.out.1)) (congrArg (Value.int .i64) (mayv_no Hm.out)))).mono ?_; rintro e w1 ⟨rfl, bel1⟩; have hR := HBx.out.2.2.below bel1; have R_0 := hR.cell 0; have Rf0 := hR.frozen 0; have ltR := hR.lt; simp at R_0; have HB := Lib.hid (HBx.out.1.trans (bel1.mono HBx.out.1.size)); clear bel1 hR)
    refine ⟨.tuple #[.slice none 0 0, .int .i64 8], by simp [results, Try.f9, go_sem, *], ⟨none, 0, ?_, ?_⟩, ?_⟩
    · rw [rdyv_no Hm.out, mayv_no Hm.out]; rfl
    · rw [rdyv_no Hm.out]; exact own_nil _ _ _ _
    · exact HB.out.setCell (p := ⟨w.heap.size + 1, 0, none⟩) (show w.heap.size ≤ w.heap.size + 1 by omega) _
  have Hm := Lib.hid hm
  obtain ⟨hph, hn16, hb1, hb64, ⟨pn, hq, hqn⟩, hn0, hnt, hbz, hd, hx⟩ := hm.parts
  have hp0 : 0 ≤ s.p := by omega
  have hp1 : s.p ≤ (s.np : Int) := by omega
  obtain ⟨g, o, hA, hg, hc⟩ := HS.out.2 (by omega)
  have HA := Lib.hid hA
  have HC := Lib.hid (And.intro hg hc)
  have h0l : 0 < s.nb := by omega
  obtain ⟨i0, hi, hz0, hz1, hz2⟩ := info_parts int_info
  clear hm hph hbz hd hx hA hg hc hq
  refine (callsIn_wide (n := 6)).1 ?_
  refine callsIn_of_wp_marks Try.func9 rfl trivial ?_ rfl
  simp only [Try.ntmps9, List.size_toArray, List.length_cons, List.length_nil, Nat.reduceAdd, Nat.reduceSub, Array.replicate_succ, Array.replicate_zero, List.push_toArray, List.append_toArray, List.nil_append, List.cons_append]
  gi_wp2_with (first | (refine ⟨trivial, ?_⟩; gi_at_call 13; refine (callsIn_wide.2 (calls_congr (check_any p s _ (HS.out.below HBx.out.1)) (congrArg (Value.int .i64) (mayv_yes Hm.out)))).mono ?_; rintro e w1 ⟨rfl, bel1⟩; have hP := HBx.out.2.1.below bel1; have hR := HBx.out.2.2.below bel1; have P_0 := hP.cell 0; have P_1 := hP.cell 1; have P_2 := hP.cell 2; have P_3 := hP.cell 3; have P_4 := hP.cell 4; have ltP := hP.lt; simp at P_0 P_1 P_2 P_3 P_4; have HP := Lib.hid hP; have HR := Lib.hid hR; have HB := Lib.hid (HBx.out.1.trans (bel1.mono HBx.out.1.size)); clear bel1 hP hR) | (refine ⟨trivial, ?_⟩; gi_at_call 28; refine (all_in Fence.wide _ trivial rfl _ _ _ _).mono ?_; rintro e w' ⟨rfl, rfl⟩))
  clear P_0 P_1 P_2 P_3 P_4
  have bN := Boxed.new w1 23 (.slice p.b s.nb p.kb)
  have hzw := HB.out.size
  have hB0 := HB.out.alloc HB.out.size (.cells #[.slice p.b s.nb p.kb] 23)
  have hP0 := HP.out.alloc (.cells #[.slice p.b s.nb p.kb] 23)
  have hR0 := HR.out.alloc (.cells #[.slice p.b s.nb p.kb] 23)
  have hcs : (w1.alloc (.cells #[.slice p.b s.nb p.kb] 23)).cell? ⟨w1.heap.size, 0, none⟩ = some (.slice (some ⟨g, o, none⟩) s.nb p.kb) := bN.cell.trans (by rw [HA.out])
  have hbl := bN.lt
  have ltR1 := HR.out.lt
  clear bN ltP
  have hsz0 : (w1.alloc (.cells #[.slice p.b s.nb p.kb] 23)).heap.size = w1.heap.size + 1 := by simp
  refine wpIn_rangeFunc_ownG rfl (by decide) (gf := 40) (lb := #[.pointer (some ⟨w1.heap.size, 0, none⟩)]) rfl trivial (enters_of Try.func40 (by kernel_rfl) rfl)
    (all_stops Fence.wide _ trivial rfl (by decide) w1.heap.size w.heap.size g o s.nb p.kb s.bz h0l (by omega) HC.out.1 _ hbl (by omega) hcs (fun j hj => (hB0.cell (p := ⟨g, o + j, none⟩) HC.out.1).trans (HC.out.2 j hj))) belowK_t (belowK_b (by omega)) (Below.refl _ _) (fun _ => rfl)
    (fun pre W => ((∃ v, Boxed W (w.heap.size + 1) 23 v ∧ W.ownsRow w.heap.size 3 1 v (rdP s pre).length ((rdP s pre).map (Value.int .i64)) ∧ True) ∧ HasBlk W w.heap.size 25 #[.slice p.a s.np p.ka, .int .i64 s.p, .int .i64 s.n, .slice p.b s.nb p.kb, .int .i64 s.d]) ∧ Below w.heap.size w W)
    (fun _ _ _ => False)
    (OwnFrom.and (Own.from (fun s' A B row hs hg hr => ⟨(holdsRow_own w.heap.size (w.heap.size + 1) 23 3 1 (fun pre => (rdP s pre).length) (fun pre => (rdP s pre).map (Value.int .i64)) (fun pre v => True)) s' A B row hs.1 hg hr, (hg.block _ hs.2.lt (fun e => by obtain ⟨o, ho, hc⟩ := hr _ e.symm; have hs' : A.heap[w.heap.size]? = some (.cells _ 25 (0, 0)) := hs.2; rw [hs'] at ho; cases ho; cases hc)).trans hs.2⟩) _) (ownFrom_below (Nat.le_refl _) (by omega)))
    (fun _ _ _ _ _ hs _ _ => hs)
    ⟨⟨⟨_, hR0, own_nil _ _ _ _, trivial⟩, hP0⟩, hB0⟩
    (fun x => { tmps := #[.agg #[.slice p.a s.np p.ka, .int .i64 s.p, .int .i64 s.n, .slice p.b s.nb p.kb, .int .i64 s.d], .pointer (some ⟨w.heap.size, 0, none⟩), .pointer (some ⟨w.heap.size + 1, 0, none⟩), .int .i64 0, .int .i64 0, .int .i64 (x.1 : Int), .agg #[.slice p.a s.np p.ka, .int .i64 s.p, .int .i64 s.n, .slice p.b s.nb p.kb, .int .i64 s.d], .int .i64 0, .int .i64 0, .bool false, undef, .pointer (some ⟨w.heap.size, 3, none⟩), .slice p.b s.nb p.kb, .func (.func 40) #[] #[.pointer (some ⟨w1.heap.size, 0, none⟩)], .int .i64 (x.1 : Int), .int .i64 (s.bz x.1), undef, undef, undef, undef, undef, undef, undef, undef, undef], defers := [] }) ?assign ?body ?done ?stop
  case assign =>
    intro l x W K hK
    gi_wp2
    exact hK
  case body =>
    rintro l pre x W ⟨⟨⟨v, hv, hrow, _⟩, hP⟩, hB⟩ hlt
    have hpl := rdP_le s pre
    have P_0 := hP.cell 0
    have P_1 := hP.cell 1
    have P_2 := hP.cell 2
    have P_3 := hP.cell 3
    have P_4 := hP.cell 4
    have ltP := hP.lt
    simp at P_0 P_1 P_2 P_3 P_4
    have HPW := Lib.hid hP
    have HBW := Lib.hid hB
    have HV := Lib.hid hv
    have HRow := Lib.hid hrow
    have zB := hB.size
    have ltV := hv.lt
    clear hP hB hv hrow
    cases hcan : s.can x.1 with
    | false =>
      have Hc := Lib.hid hcan
      clear hcan
      gi_wp2_with (refine ⟨trivial, ?_⟩; gi_at_call 29; refine (CallsIn.inRound l (callsIn_wide.2 (calls_congr (can_any p s x.1 W (HS.out.below HBW.out) x.2 (by omega) hp0 hp1) (congrArg Value.bool Hc.out)))).mono ?_; rintro e W1 ⟨rfl, belW⟩; have HBB := Lib.hid belW; clear belW)
      have hgr := grown_of_below HBB.out
      exact ⟨KeepsFrom.of_grownBy hgr (fun j e => by cases e), HBB.out.mono zB, ⟨⟨v, HV.out.kept hgr (by simp), by rw [rdP_miss pre Hc.out]; exact own_below HRow.out HBB.out, trivial⟩, HPW.out.below HBB.out⟩, HBW.out.trans (HBB.out.mono zB)⟩
    | true =>
      have Hc := Lib.hid hcan
      clear hcan
      gi_wp2_with (first | (refine ⟨trivial, ?_⟩; gi_at_call 29; refine (CallsIn.inRound l (callsIn_wide.2 (calls_congr (can_any p s x.1 W (HS.out.below HBW.out) x.2 (by omega) hp0 hp1) (congrArg Value.bool Hc.out)))).mono ?_; rintro e W1 ⟨rfl, belW⟩; have HBB := Lib.hid belW; have hvW := HV.out.kept (grown_of_below belW) (by simp); have hcW := hvW.cell; have HVW := Lib.hid hvW; have HRW := Lib.hid (own_below HRow.out belW); have zW := belW.size; have z2 : w.heap.size ≤ W1.heap.size := Nat.le_trans zB zW; clear belW hvW) | (gi_at_builtin; refine wpListIn_append_own _ rfl _ _ 23 rfl w.heap.size 3 i0 (.int .i64 0) 1 8 Try.underlying23 hi hz0 hz1 hz2 rfl (by decide) _ _ _ rfl (HRW.out.alloc _) ⟨W1.heap.size, 0, none⟩ 1 1 [.int .i64 (x.1 : Int)] rfl rfl (cell_one_new _ _ _) (by simp [Value.oneCell']) (by unfold maxLen; omega) (by omega) (by simp; omega) ?_; intro v' w1' hown' hgrow _; obtain ⟨g', cap', rfl⟩ := ownsRow_succ hown'; obtain ⟨hv1, hv2, hr2, hk2, hb2⟩ := HVW.out.appended (by decide) HRW.out z2 (show w.heap.size ≤ w.heap.size + 1 by omega) hown' hgrow; have hP2 := ((HPW.out.below HBB.out).alloc (.cells #[.int .i64 (x.1 : Int)] 3)).grown hgrow (((HPW.out.below HBB.out).alloc (.cells #[.int .i64 (x.1 : Int)] 3)).ne_own (HRW.out.alloc (.cells #[.int .i64 (x.1 : Int)] 3)) (by decide)); have hc1 := hv1.cell; have hf1 := hv1.frozen))
      exact ⟨(KeepsFrom.of_grownBy (grown_of_below HBB.out) (fun j e => by cases e)).trans (hk2.from _), (HBB.out.mono zB).trans hb2, ⟨⟨_, hv2, by rw [rdP_hit pre Hc.out]; simpa using hr2, trivial⟩, hP2.far (p := ⟨w.heap.size + 1, 0, none⟩) (show w.heap.size + 1 ≠ w.heap.size by omega) _⟩, HBW.out.trans ((HBB.out.mono zB).trans hb2)⟩
  case done =>
    rintro D ys W hD rfl ⟨⟨⟨v, hv, hrow, _⟩, hP⟩, hB⟩ hK
    have hlt : D ≠ w.heap.size + 1 := by omega
    have hvc := hv.cell
    have hvf := hv.frozen
    have hne : v.ownBlock ≠ some (w.heap.size + 1) := HasBlk.ne_own (show HasBlk W (w.heap.size + 1) 23 #[v] from hv) hrow (by decide)
    rw [rdP_upto h0l s.nb (Nat.le_refl _)] at hrow
    obtain ⟨X, cx, hvX⟩ : ∃ X cx, v = .slice X (rdyL s s.nb).length cx := by
      obtain ⟨A', c', e, _⟩ := own_at hrow
      exact ⟨A', c', e⟩
    subst hvX
    have HRow := Lib.hid hrow
    have HBW := Lib.hid hB
    clear hrow hB hP
    gi_wp2
    have hK' := (KeepsOthers.setCell W ⟨w.heap.size + 1, 0, none⟩ (.slice X (rdyL s s.nb).length cx)).same D _ hK rfl
    refine ⟨by simp, .inl ⟨_, _, rfl, run_takeDeferred hK', ?_⟩⟩
    have hc5 := cell_kept (World.cell?_setCell_same' W ⟨w.heap.size + 1, 0, none⟩ (.slice X (rdyL s s.nb).length cx) (by rw [hvc]; rfl)) (grownBy_putObj' _ D (.deferred none)) (fun r e => by cases e; exact ⟨_, hK', rfl⟩)
    refine ⟨.tuple #[.slice X (rdyL s s.nb).length cx, .int .i64 0], ?_, ⟨X, cx, ?_, ?_⟩, ?_⟩
    · simp [results, Try.f9, go_sem, hc5]
    · rw [rdyv_yes Hm.out, mayv_yes Hm.out]
    · rw [rdyv_yes Hm.out]
      exact ownsRow_putObj (ownsRow_setCell_other (a := ⟨w.heap.size + 1, 0, none⟩) HRow.out (by simpa using hne) _) _ hK' rfl
    · exact (HBW.out.setCell (p := ⟨w.heap.size + 1, 0, none⟩) (show w.heap.size ≤ w.heap.size + 1 by omega) _).trans (belowK_b (w := w) (Nat.le_refl _) _ D _ _ (by omega) hK' rfl rfl)
  case stop =>
    rintro D c pre W _ _ h _
    exact h.elim

set_option maxRecDepth 100000 in
set_option maxHeartbeats 8000000 in
theorem refready_any (p : SP) (s : SD) (w : World) (h : SOk w p s) :
    Calls Try.prog 17 #[.agg #[.slice p.a s.np p.ka, .int .i64 s.p, .int .i64 s.n, .slice p.b s.nb p.kb, .int .i64 s.d]] w fun e w' => RdyR s w.heap.size e w' ∧ Below w.heap.size w w' := by
  have HS := Lib.hid h
  have hc := Lib.hid (fun W (hb : Below w.heap.size w W) => refcheck_any p s W (h.below hb))
  have HBx := Lib.hid (And.intro (show Below w.heap.size w (w.alloc (.cells #[.slice p.a s.np p.ka, .int .i64 s.p, .int .i64 s.n, .slice p.b s.nb p.kb, .int .i64 s.d] 25)) by repeat' (first | exact Below.refl _ _ | assumption | apply Below.drew | refine Below.setCell ?_ (by first | omega | (simp; done) | (simp; omega)) _ | refine Below.alloc ?_ (by first | omega | (simp; done) | (simp; omega)) _)) (hasBlk_new w 25 #[.slice p.a s.np p.ka, .int .i64 s.p, .int .i64 s.n, .slice p.b s.nb p.kb, .int .i64 s.d]))
  clear h
  go_enter Try.func17, Try.ntmps17
  go_wp2_with fail
  refine (hc.out _ HBx.out.1).mono ?_
  rintro e w1 ⟨rfl, bel1⟩
  have HB := Lib.hid (HBx.out.1.trans (bel1.mono HBx.out.1.size))
  have HP := Lib.hid (HBx.out.2.below bel1)
  clear bel1 hc
  have ltP := HP.out.lt
  have P_0 := HP.out.cell 0
  have P_1 := HP.out.cell 1
  have P_2 := HP.out.cell 2
  have P_3 := HP.out.cell 3
  have P_4 := HP.out.cell 4
  simp at P_0 P_1 P_2 P_3 P_4
  by_cases hm : s.May
  rotate_left
  · have Hm := Lib.hid hm
    rw [mayv_no hm]
    clear hm
    go_wp2
    go_ret2
    refine ⟨⟨none, 0, ?_, ?_⟩, HB.out⟩
    · rw [rdyv_no Hm.out, mayv_no Hm.out]; rfl
    · rw [rdyv_no Hm.out]; exact own_nil _ _ _ _
  have Hm := Lib.hid hm
  rw [mayv_yes hm]
  obtain ⟨hph, hn16, hb1, hb64, ⟨pn, hq, hqn⟩, hn0, hnt, hbz, hd, hx⟩ := hm.parts
  have hp0 : 0 ≤ s.p := by omega
  have hp1 : s.p ≤ (s.np : Int) := by omega
  obtain ⟨i0, hi0, hz0, hz1, hz2⟩ := info_parts int_info
  clear hm hph hbz hd hx hq
  go_wp2
  clear ltP P_0 P_1 P_2 P_3 P_4
  go_loopw [5, 6] (fun v i wr => ∃ k : Nat, k ≤ s.nb ∧ i = .int .i64 k ∧ (∃ X cx, v = .slice X (rdyL s k).length cx ∧ wr.ownsRow w.heap.size 3 1 (.slice X (rdyL s k).length cx) (rdyL s k).length ((rdyL s k).map (Value.int .i64))) ∧ HasBlk wr w.heap.size 25 #[.slice p.a s.np p.ka, .int .i64 s.p, .int .i64 s.n, .slice p.b s.nb p.kb, .int .i64 s.d] ∧ Below w.heap.size w wr) (fun v i wr => s.nb - (intOf i).toNat)
  case atStart => exact ⟨0, Nat.zero_le _, rfl, ⟨none, 0, rfl, own_nil _ _ _ _⟩, HP.out, HB.out⟩
  case round =>
    obtain ⟨k, hk, rfl, ⟨X, cx, rfl, hown⟩, hP, hB⟩ := hrel
    have Hown := Lib.hid hown
    have HPW := Lib.hid hP
    have HBW := Lib.hid hB
    have zb := hB.size
    have hle := rdyL_le s k
    clear hown hP hB
    have ltP := HPW.out.lt
    have P_0 := HPW.out.cell 0
    have P_1 := HPW.out.cell 1
    have P_2 := HPW.out.cell 2
    have P_3 := HPW.out.cell 3
    have P_4 := HPW.out.cell 4
    simp at P_0 P_1 P_2 P_3 P_4
    by_cases hkn : k < s.nb
    · have hi1 : (k : Int) < (s.nb : Int) := by omega
      go_wp2_with fail
      refine (refcan_any p s k _ (HS.out.below HBW.out) hkn (by omega) hp0 hp1 hn0).mono ?_
      rintro e w2 ⟨rfl, bel2⟩
      have HP2 := Lib.hid (HPW.out.below bel2)
      have HB2 := Lib.hid (HBW.out.trans (bel2.mono zb))
      have HO2 := Lib.hid (own_below Hown.out bel2)
      have z2 : w.heap.size ≤ w2.heap.size := HB2.out.size
      clear ltP P_0 P_1 P_2 P_3 P_4
      clear bel2
      cases hcan : s.can k with
      | false =>
        have Hs := Lib.hid (show rdyL s (k + 1) = rdyL s k by rw [rdyL, if_neg (by rw [hcan]; decide)])
        clear hcan
        go_wp2
        go_roundw
        case rel =>
          refine ⟨k + 1, by omega, by go_num, ⟨X, cx, by rw [Hs.out], by rw [Hs.out]; exact HO2.out⟩, HP2.out, HB2.out⟩
        case measure => simp [intOf]; omega
      | true =>
        have Hs := Lib.hid (show rdyL s (k + 1) = rdyL s k ++ [(k : Int)] by rw [rdyL, if_pos hcan])
        clear hcan
        have hl64 : (rdyL s k).length + 1 ≤ 100 := by omega
        have htm : True := trivial
        go_wp2_with (at_builtin; refine wpList_append_lies _ rfl (.tmp 22) (.tmp 24) _ rfl w.heap.size 3 i0 _ 1 8 Try.underlying23 hi0 hz0 hz1 hz2 rfl (by omega) (.slice X (rdyL s k).length cx) (rdyL s k).length ((rdyL s k).map (Value.int .i64)) rfl (HO2.out.alloc _) ⟨w2.heap.size, 0, none⟩ 1 1 [.int .i64 (k : Int)] (by rfl) rfl (World.news_of_block (cs := #[.int .i64 (k : Int)]) (t := 3) (fr := (0, 0)) (heap_alloc_new w2 _)) (by simp [Value.oneCell']) (by omega) (by unfold maxLen; omega) (by omega) (by simp; omega) (w2.heap.size + 1) (by simp) ?_; intro g' cap w3 hown3 hgrow hat hlt; have HG3 := Lib.hid hgrow; have HN3 := Lib.hid hown3; clear hgrow hown3)
        go_roundw
        case rel =>
          have hoa := HO2.out.alloc (.cells #[.int .i64 (k : Int)] 3)
          have hlen : (rdyL s (k + 1)).length = (rdyL s k).length + 1 := by rw [Hs.out]; simp
          refine ⟨k + 1, by omega, by go_num, ⟨some ⟨g', 0, none⟩, cap, by rw [hlen], ?_⟩, (HP2.out.alloc _).grown HG3.out ((HP2.out.alloc _).ne_own hoa (by decide)), below_grown (HB2.out.alloc HB2.out.size _) HG3.out hoa (Nat.le_refl _) (by simp; omega)⟩
          rw [hlen, Hs.out, List.map_append]
          exact HN3.out
        case measure => simp [intOf]; omega
    · obtain rfl : k = s.nb := by omega
      go_wp2
      go_ret2
      refine ⟨⟨X, cx, ?_, ?_⟩, HBW.out⟩
      · rw [rdyv_yes Hm.out, mayv_yes Hm.out]; rfl
      · rw [rdyv_yes Hm.out]; exact Hown.out
end Go.Proofs.Ytdilfcpgjkkjmaa
