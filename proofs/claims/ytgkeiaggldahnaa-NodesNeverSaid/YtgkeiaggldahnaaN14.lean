/- nodes: slices.Insert. -/
import Derived.Test.YtgkeiaggldahnaaN13
import Derived.Test.YtgkeiaggldahnaaIns
import Derived.Lib.Overlaps
import Derived.Lib.AppendZerosOnto
import Derived.Lib.AppendZeros
import Derived.Laws.Externs
import Derived.StillTailTactics
namespace Go.Proofs.Ytgkeiaggldahnaa
open Go.RowKit
set_option linter.unusedVariables false
/-- What Insert answers: a list of the call's own, in the old block or in a new one. -/
def InsR (B n : Nat) (S Q : Nat → Int) (v : Value) (w : World) (e : Ending) (w' : World) : Prop := ∃ A' c', e = .returned (.slice A' n c') ∧ w'.ownsRow B 29 2 (.slice A' n c') n (cellsR 2 (hv S Q) n) ∧ w.grownBy w' v.ownBlock ∧ ((Value.slice A' n c').ownBlock = v.ownBlock ∨ ∃ k, (Value.slice A' n c').ownBlock = some k ∧ w.heap.size ≤ k)
theorem ins_fin {B n c cap g' : Nat} {A : Option Addr} {S Q : Nat → Int} {x y : Int} {w w3 : World} (hown3 : w3.ownsRow B 29 2 (.slice (some ⟨g', 0, none⟩) (n + 1) cap) (n + 1) ((cellsR 2 (hv S Q) n) ++ [.int .i64 x, .int .i64 y])) (hgr3 : w.grownBy w3 (Value.slice A n c).ownBlock) (hat3 : (Value.slice A n c).ownBlock = some g' ∨ g' = w.heap.size) :
    InsR B (n + 1) (insF S n x) (insF Q n y) (.slice A n c) w (.returned (.slice (some ⟨g', 0, none⟩) (n + 1) cap)) w3 :=
  ⟨_, _, rfl, by rw [← ins_end]; exact hown3, hgr3, hat3.elim (fun h => .inl h.symm) (fun h => .inr ⟨g', rfl, by omega⟩)⟩

set_option maxRecDepth 100000 in
set_option maxHeartbeats 4000000 in
theorem ins_at_end (B n c gv vc : Nat) (A : Option Addr) (S Q : Nat → Int) (x y : Int) (w : World) (h : w.ownsRow B 29 2 (.slice A n c) n (cellsR 2 (hv S Q) n)) (hv0 : HasBlk w gv 29 #[.int .i64 x, .int .i64 y]) (hn : n ≤ 1000) (hB : B ≤ w.heap.size) :
    Calls Try.prog 43 #[.slice A n c, .int .i64 n, .slice (some ⟨gv, 0, none⟩) 1 vc] w (InsR B (n + 1) (insF S n x) (insF Q n y) (.slice A n c) w) := by
  obtain ⟨i0', hi0, hz0, hz1, hz2⟩ := info_parts hdl_info
  obtain ⟨i0, hi00⟩ : ∃ i0, i0 = i0' := ⟨_, rfl⟩
  rw [← hi00] at hi0 hz0 hz1 hz2
  clear hi00
  obtain ⟨A', c', e1, hnc, hcm, _⟩ := own_at h
  cases e1
  have H := Lib.hid h
  have HV := Lib.hid hv0
  have HN := Lib.hid (show ∀ j u, [.int .i64 x, .int .i64 y][j]? = some u → w.cell? ((⟨gv, 0, none⟩ : Addr).add j) = some u from fun j u hj => by
    have h1 := hv0.cell j
    rw [List.getElem?_toArray, hj] at h1
    have e : ((⟨gv, 0, none⟩ : Addr).add j) = ⟨gv, j, none⟩ := by unfold Addr.add; split <;> simp_all
    rw [e]
    simpa using h1)
  have v0 := hv0.cell 0
  have zv := hv0.lt
  unfold maxLen at hcm
  clear h hv0
  by_cases hcn : c = n
  · obtain rfl : n = c := hcn.symm
    clear hcn
    go_enter Try.func43, Try.ntmps43
    go_wp2_with (at_builtin; refine wpList_append_lies _ rfl (.tmp 23) (.tmp 24) 32 rfl B 29 i0 _ 2 16 Try.underlying32 hi0 hz0 hz1 hz2 rfl (by omega) (.slice A n n) n (cellsR 2 (hv S Q) n) rfl H.out ⟨gv, 0, none⟩ 1 vc [.int .i64 x, .int .i64 y] rfl rfl HN.out (by simp [Value.oneCell']) (by omega) (by unfold maxLen; omega) (by omega) hB w.heap.size rfl ?_; intro g' cap w3 hown3 hgr3 hat3 hlt3)
    all_goals
      go_ret
      exact ins_fin hown3 hgr3 hat3
  · have HC := Lib.hid hcn
    have hlt : n < c := by omega
    clear hcn
    go_enter Try.func43, Try.ntmps43
    go_wp2_with (at_builtin; refine wpList_append_lies _ rfl (.tmp 23) (.tmp 24) 32 rfl B 29 i0 _ 2 16 Try.underlying32 hi0 hz0 hz1 hz2 rfl (by omega) (.slice A n c) n (cellsR 2 (hv S Q) n) rfl H.out ⟨gv, 0, none⟩ 1 vc [.int .i64 x, .int .i64 y] rfl rfl HN.out (by simp [Value.oneCell']) (by omega) (by unfold maxLen; omega) (by omega) hB w.heap.size rfl ?_; intro g' cap w3 hown3 hgr3 hat3 hlt3)
    all_goals
      go_ret
      exact ins_fin hown3 hgr3 hat3

set_option maxRecDepth 100000 in
set_option maxHeartbeats 4000000 in
theorem ins_at_room (B n c gv vc i : Nat) (A : Option Addr) (S Q : Nat → Int) (x y : Int) (w : World) (h : w.ownsRow B 29 2 (.slice A n c) n (cellsR 2 (hv S Q) n)) (hv0 : HasBlk w gv 29 #[.int .i64 x, .int .i64 y]) (hne : (Value.slice A n c).ownBlock ≠ some gv) (hn : n ≤ 1000) (hi : i < n) (hroom : n < c) (hB : B ≤ w.heap.size) :
    Calls Try.prog 43 #[.slice A n c, .int .i64 i, .slice (some ⟨gv, 0, none⟩) 1 vc] w (InsR B (n + 1) (insF S i x) (insF Q i y) (.slice A n c) w) := by
  obtain ⟨i0', hi0, hz0, hz1, hz2⟩ := info_parts hdl_info
  obtain ⟨i0, hi00⟩ : ∃ i0, i0 = i0' := ⟨_, rfl⟩
  rw [← hi00] at hi0 hz0 hz1 hz2
  clear hi00
  have hsz : ∀ w, (Go.sizeOf 29).run Try.prog w = .ok 2 w := fun w => by simp [Go.sizeOf, typeInfo, hi0, hz1]
  have Hsz := Lib.hid hsz
  obtain ⟨hxl, h0 | ⟨g, cap, cur, e1, hBg, hg, hnc, hcm, hcs, htk⟩⟩ := h
  · obtain ⟨_, h0⟩ := h0
    omega
  cases e1
  obtain ⟨cur, rfl⟩ : ∃ l : List Value, cur = l.toArray := ⟨cur.toList, by simp⟩
  have hcur : cur.length = c * 2 := by simpa using hcs
  have htk : cur.take (n * 2) = (cellsR 2 (hv S Q) n) := by simpa using htk
  clear hcs
  have hG : HasBlk w g 29 cur.toArray := hg
  clear hg
  obtain ⟨cs, hcsd⟩ : ∃ cs, cs = (cur.drop (i * 2)).take ((n - i) * 2) := ⟨_, rfl⟩
  have hcsl : cs.length = (n - i) * 2 := by rw [hcsd, List.length_take, List.length_drop]; omega
  have hcs1 : ∀ u ∈ cs, u.oneCell' = true := fun u hu => by
    have e : cs = ((cellsR 2 (hv S Q) n)).drop (i * 2) := by rw [← htk, hcsd, List.drop_take]; congr 1; omega
    rw [e] at hu
    exact cellsR_one (hv_one S Q) _ u (List.mem_of_mem_drop hu)
  have hcsr : ∀ (w : World), HasBlk w g 29 cur.toArray → ∀ j u, cs[j]? = some u → w.cell? ((⟨g, i * 2, none⟩ : Addr).add j) = some u := fun w hb j u hj => by
    have e : ((⟨g, i * 2, none⟩ : Addr).add j) = ⟨g, i * 2 + j, none⟩ := by unfold Addr.add; split <;> simp_all
    rw [e, hb.cell, List.getElem?_toArray]
    rw [hcsd, List.getElem?_take] at hj
    split at hj
    · rwa [List.getElem?_drop] at hj
    · cases hj
  have hvr : ∀ (w : World), HasBlk w gv 29 #[.int .i64 x, .int .i64 y] → ∀ j u, ([.int .i64 x, .int .i64 y] : List Value)[j]? = some u → w.cell? ((⟨gv, 0, none⟩ : Addr).add j) = some u := fun w hb j u hj => by
    have h1 := hb.cell j
    rw [List.getElem?_toArray, hj] at h1
    have e : ((⟨gv, 0, none⟩ : Addr).add j) = ⟨gv, j, none⟩ := by unfold Addr.add; split <;> simp_all
    rw [e]
    simpa using h1
  have hv1 : ∀ u ∈ ([.int .i64 x, .int .i64 y] : List Value), u.oneCell' = true := by simp [Value.oneCell']
  have hgv : gv ≠ g := fun e => hne (by rw [e]; rfl)
  have hov : ∀ lb cb, (callFunc 65 #[.slice (some ⟨gv, 0, none⟩) 1 vc, .slice (some ⟨g, (i + 1) * 2, none⟩) lb cb]).run Try.prog w = .ok (.value (.bool false)) w := fun lb cb => by
    rw [run_callFunc_extern Try.func65 (by kernel_rfl) (by kernel_rfl) (by kernel_rfl) (e := Extern.SlicesOverlaps.overlaps #[32, 32] #[4]) (by kernel_rfl),
      Lib.run_overlaps_apart w 32 4 29 Try.underlying32 2 hsz ⟨gv, 0, none⟩ ⟨g, (i + 1) * 2, none⟩ 1 vc lb cb hgv 29 29 2 (cur.length) (by unfold World.shape?; rw [hv0]; rfl) (by unfold World.shape?; rw [hG]; simp) (by omega) (hv0.frozen 0) (hv0.frozen 2)]
    rfl
  have HG := Lib.hid hG
  have HV := Lib.hid hv0
  have HCR := Lib.hid hcsr
  have HVR := Lib.hid hvr
  have HV1 := Lib.hid hv1
  have HC1 := Lib.hid hcs1
  have HCL := Lib.hid hcsl
  have HCU := Lib.hid hcur
  have HTK := Lib.hid htk
  have HCD := Lib.hid hcsd
  have HBG := Lib.hid hBg
  unfold maxLen at hcm
  have HCM := Lib.hid hcm
  have HGV := Lib.hid hgv
  have hz2' : ¬ ((i : Int) = (n : Int)) := by omega
  have hw1 : IntKind.i64.wrap ((i : Int) + 1) = (i : Int) + 1 := by rw [IntKind.wrap_i64]; omega
  have hw2 : IntKind.i64.wrap ((n : Int) + 1) = (n : Int) + 1 := by rw [IntKind.wrap_i64]; omega
  have hb1 : (0 : Int) ≤ (i : Int) + 1 := by omega
  have hb0 : (0 : Int) ≤ (n : Int) + 1 := by omega
  have hin : i ≤ n := by omega
  have hin1 : i ≤ n + 1 := by omega
  have htn : ((i : Int) + 1).toNat = i + 1 := by omega
  have htn2 : ((n : Int) + 1).toNat = n + 1 := by omega
  have hb2 : ¬ (c = i + 1) := by omega
  have hb3 : (i : Int) ≤ (n : Int) + 1 := by omega
  have hb4 : ¬ (c = i) := by omega
  have hb5 : ¬ ((c : Int) < (n : Int) + 1) := by omega
  have hb6 : (n : Int) + 1 ≤ (c : Int) := by omega
  have hb7 : (i : Int) ≤ (n : Int) := by omega
  have hb8 : n + 1 ≤ c := by omega
  have HFT := Lib.hid (show i * 2 + 1 * 2 ≤ (cur.take ((i + 1) * 2) ++ (cs ++ cur.drop ((i + 1) * 2 + (n - i) * 2))).length by simp; omega)
  clear hG hv0 hcsr hvr hv1 hcs1 hcsl hcur htk hcsd hBg hcm hgv hne hxl
  go_enter Try.func43, Try.ntmps43
  go_wp2_with (simp only [hov])
  go_region_held3 (fun _ => True) (trivial)
    ((refine step_copy_at rfl (.tmp 73) (.tmp 76) 32 32 rfl 29 i0 2 Try.underlying32 hi0 hz1 g ((i + 1) * 2) (n - i) (c - (i + 1)) (by simp [go_sem]) cur 29 HG.out.drew ⟨g, i * 2, none⟩ (n + 1 - i) (c - i) (by simp [go_sem]) (n - i) (by show min _ _ = _; omega) cs HCL.out (HCR.out _ HG.out.drew) (by have := HCU.out; omega) HC1.out ?_; intro w2 hb2 hg2))
  have HV2 := Lib.hid (HV.out.drew.grown hg2 (fun e => HGV.out (by cases e; rfl)))
  have HG2 := Lib.hid hb2
  go_wp2_with (refine wpList_copy_at rfl (.tmp 80) (.tmp 81) 32 32 rfl 29 i0 2 Try.underlying32 hi0 hz1 g (i * 2) (n + 1 - i) (c - i) rfl _ 29 HG2.out ⟨gv, 0, none⟩ 1 vc rfl 1 (by show min _ _ = _; omega) [.int .i64 x, .int .i64 y] rfl (HVR.out _ HV2.out) HFT.out HV1.out ?_; intro w3 hb3 hg3)
  go_ret
  obtain ⟨l3, t3⟩ := ins_room (x := x) (y := y) (S := S) (Q := Q) hi (by have := HCU.out; omega) HTK.out HCD.out rfl rfl
  have hgr : w.grownBy w3 (some g) := World.grownBy.trans (show w.grownBy w2 (some g) from ⟨hg2.os, hg2.tape, hg2.output, hg2.size, hg2.block⟩) hg3
  refine ⟨_, _, rfl, ?_, hgr, .inl rfl⟩
  refine ⟨cellsR_len 2 _ _, .inr ⟨g, c, _, rfl, HBG.out, hb3, by omega, by have := HCM.out; unfold maxLen; omega, ?_, ?_⟩⟩
  · have := HCU.out
    have l4 := l3
    simp only [List.size_toArray] at *
    omega
  · exact t3

theorem zero_len (k : Nat) : (Builtin.zeroCells (Value.agg #[Value.int .i64 0, Value.int .i64 0]).cells k).size = k * 2 := by
  simp [Builtin.zeroCells, Value.cells]
set_option maxRecDepth 100000 in
set_option maxHeartbeats 4000000 in
theorem ins_at_grow (B n c gv vc i : Nat) (A : Option Addr) (S Q : Nat → Int) (x y : Int) (w : World) (h : w.ownsRow B 29 2 (.slice A n c) n (cellsR 2 (hv S Q) n)) (hv0 : HasBlk w gv 29 #[.int .i64 x, .int .i64 y]) (hne : (Value.slice A n c).ownBlock ≠ some gv) (hn : n ≤ 1000) (hi : i < n) (hroom : ¬ n < c) (hB : B ≤ w.heap.size) :
    Calls Try.prog 43 #[.slice A n c, .int .i64 i, .slice (some ⟨gv, 0, none⟩) 1 vc] w (InsR B (n + 1) (insF S i x) (insF Q i y) (.slice A n c) w) := by
  obtain ⟨i0', hi0, hz0, hz1, hz2⟩ := info_parts hdl_info
  obtain ⟨i0, hi00⟩ : ∃ i0, i0 = i0' := ⟨_, rfl⟩
  rw [← hi00] at hi0 hz0 hz1 hz2
  clear hi00
  have hsz : ∀ w, (Go.sizeOf 29).run Try.prog w = .ok 2 w := fun w => by simp [Go.sizeOf, typeInfo, hi0, hz1]
  have Hsz := Lib.hid hsz
  obtain ⟨hxl, h0 | ⟨g, cap, cur, e1, hBg, hg, hnc, hcm, hcs, htk⟩⟩ := h
  · obtain ⟨_, h0⟩ := h0
    omega
  cases e1
  obtain ⟨cur, rfl⟩ : ∃ l : List Value, cur = l.toArray := ⟨cur.toList, by simp⟩
  have hcur : cur.length = c * 2 := by simpa using hcs
  have htk : cur.take (n * 2) = (cellsR 2 (hv S Q) n) := by simpa using htk
  clear hcs
  have hG : HasBlk w g 29 cur.toArray := hg
  clear hg
  obtain ⟨cs, hcsd⟩ : ∃ cs, cs = (cur.drop (i * 2)).take ((n - i) * 2) := ⟨_, rfl⟩
  have hcsl : cs.length = (n - i) * 2 := by rw [hcsd, List.length_take, List.length_drop]; omega
  have hcs1 : ∀ u ∈ cs, u.oneCell' = true := fun u hu => by
    have e : cs = ((cellsR 2 (hv S Q) n)).drop (i * 2) := by rw [← htk, hcsd, List.drop_take]; congr 1; omega
    rw [e] at hu
    exact cellsR_one (hv_one S Q) _ u (List.mem_of_mem_drop hu)
  have hcsr : ∀ (w : World), HasBlk w g 29 cur.toArray → ∀ j u, cs[j]? = some u → w.cell? ((⟨g, i * 2, none⟩ : Addr).add j) = some u := fun w hb j u hj => by
    have e : ((⟨g, i * 2, none⟩ : Addr).add j) = ⟨g, i * 2 + j, none⟩ := by unfold Addr.add; split <;> simp_all
    rw [e, hb.cell, List.getElem?_toArray]
    rw [hcsd, List.getElem?_take] at hj
    split at hj
    · rwa [List.getElem?_drop] at hj
    · cases hj
  have hvr : ∀ (w : World), HasBlk w gv 29 #[.int .i64 x, .int .i64 y] → ∀ j u, ([.int .i64 x, .int .i64 y] : List Value)[j]? = some u → w.cell? ((⟨gv, 0, none⟩ : Addr).add j) = some u := fun w hb j u hj => by
    have h1 := hb.cell j
    rw [List.getElem?_toArray, hj] at h1
    have e : ((⟨gv, 0, none⟩ : Addr).add j) = ⟨gv, j, none⟩ := by unfold Addr.add; split <;> simp_all
    rw [e]
    simpa using h1
  have hv1 : ∀ u ∈ ([.int .i64 x, .int .i64 y] : List Value), u.oneCell' = true := by simp [Value.oneCell']
  obtain rfl : n = c := by omega
  have hkk : (n : Int) + 1 - (i : Int) = ((n + 1 - i : Nat) : Int) := by omega
  have hik : i + (n + 1 - i) = n + 1 := by omega
  have hold : (Builtin.firstCells i0.size i (.slice (some ⟨g, 0, none⟩) i n)).run Try.prog w.drew = .ok (cur.take (i * 2)).toArray w.drew := by
    rw [hz1]
    exact run_firstCells_some w.drew 2 i ⟨g, 0, none⟩ i n (cur.take (i * 2)) (by rw [List.length_take]; omega) (fun j v hj => by
      have e : ((⟨g, 0, none⟩ : Addr).add j) = ⟨g, j, none⟩ := by unfold Addr.add; split <;> simp_all
      rw [e, hG.drew.cell, List.getElem?_toArray]
      rw [List.getElem?_take] at hj
      split at hj
      · exact hj
      · cases hj)
  have hrz : ∀ ty, (Builtin.append_ #[32, 3] ty #[.slice (some ⟨g, 0, none⟩) i n, .int .i64 ((n : Int) + 1 - (i : Int))]).run Try.prog w =
      .ok (.slice (some ⟨w.heap.size, 0, none⟩) (n + 1) (grownCap w (n + 1) n 29)) (w.drew.alloc (.cells ((cur.take (i * 2)).toArray ++ Builtin.zeroCells (Value.agg #[Value.int .i64 0, Value.int .i64 0]).cells (n + 1 - i) ++ Builtin.zeroCells (Value.agg #[Value.int .i64 0, Value.int .i64 0]).cells (grownCap w (n + 1) n 29 - (n + 1))) 29)) := fun ty => by
    have h := Lib.run_append_grow_zeros w 32 3 ty 29 i0 _ .i64 .i64 Try.underlying32 Try.underlying3 hi0 hz0 (some ⟨g, 0, none⟩) i n (cur.take (i * 2)) hold (n + 1 - i) (by omega) (by omega) (by omega) (by omega) (by rw [hz2]; omega) (by rw [hz2, hik]; exact growslice_fits (by omega) (by omega))
    rw [hik] at h
    rw [hkk]
    exact h
  obtain ⟨G, hGd⟩ : ∃ G, G = grownCap w (n + 1) n 29 := ⟨_, rfl⟩
  have hGn : n + 1 ≤ G := by rw [hGd]; exact grownCap_ge w _ _ _
  have hG63 : G ≤ maxLen := by rw [hGd]; exact grownCap_le_maxLen w (n + 1) n 29 (by unfold maxLen; omega)
  rw [← hGd] at hrz
  obtain ⟨ROW, hROW⟩ : ∃ ROW : List Value, ROW.toArray = (cur.take (i * 2)).toArray ++ Builtin.zeroCells (Value.agg #[Value.int .i64 0, Value.int .i64 0]).cells (n + 1 - i) ++ Builtin.zeroCells (Value.agg #[Value.int .i64 0, Value.int .i64 0]).cells (G - (n + 1)) := ⟨_, Array.toArray_toList ..⟩
  rw [← hROW] at hrz
  have hRl : ROW.length = G * 2 := by
    have := congrArg Array.size hROW
    simp only [Array.size_append, zero_len, List.size_toArray, List.length_take] at this
    omega
  have hRt : ROW.take (i * 2) = cur.take (i * 2) := by
    have := congrArg Array.toList hROW
    simp only [Array.toList_append] at this
    rw [this, List.append_assoc, List.take_append_of_le_length (by simp; omega), List.take_of_length_le (by simp; omega)]
  have hgv : gv < w.heap.size := hv0.lt
  have hgw : g < w.heap.size := hG.lt
  have HG := Lib.hid hG
  have HV := Lib.hid hv0
  have HCR := Lib.hid hcsr
  have HVR := Lib.hid hvr
  have HV1 := Lib.hid hv1
  have HC1 := Lib.hid hcs1
  have HCL := Lib.hid hcsl
  have HCU := Lib.hid hcur
  have HTK := Lib.hid htk
  have HCD := Lib.hid hcsd
  have HBG := Lib.hid hBg
  have HRL := Lib.hid hRl
  have HRT := Lib.hid hRt
  have HRZ := Lib.hid hrz
  have HG63 := Lib.hid hG63
  have HN := Lib.hid (hasBlk_new w.drew 29 ROW.toArray)
  unfold maxLen at hG63
  have hz2' : ¬ ((i : Int) = (n : Int)) := by omega
  have hw1 : IntKind.i64.wrap ((i : Int) + 1) = (i : Int) + 1 := by rw [IntKind.wrap_i64]; omega
  have hw2 : IntKind.i64.wrap ((n : Int) + 1) = (n : Int) + 1 := by rw [IntKind.wrap_i64]; omega
  have hw3 : IntKind.i64.wrap ((n : Int) + 1 - (i : Int)) = (n : Int) + 1 - (i : Int) := by rw [IntKind.wrap_i64]; omega
  have hb1 : (0 : Int) ≤ (i : Int) + 1 := by omega
  have hin : i ≤ n := by omega
  have hin1 : i ≤ n + 1 := by omega
  have htn : ((i : Int) + 1).toNat = i + 1 := by omega
  have hb2 : ¬ (G = i + 1) := by omega
  have hb3 : (i : Int) ≤ (n : Int) + 1 := by omega
  have hb4 : ¬ (G = i) := by omega
  have hb4n : ¬ (n = i) := by omega
  have hb5 : (n : Int) < (n : Int) + 1 := by omega
  have hb7 : (i : Int) ≤ (n : Int) := by omega
  have HFT := Lib.hid (show i * 2 + 1 * 2 ≤ ROW.length by omega)
  have HFT2 := Lib.hid (show (i + 1) * 2 + (n - i) * 2 ≤ (ROW.take (i * 2) ++ (([.int .i64 x, .int .i64 y] : List Value) ++ ROW.drop (i * 2 + 1 * 2))).length by simp; omega)
  clear hG hv0 hcsr hvr hv1 hcs1 hcsl hcur htk hcsd hBg hne hxl hRl hRt hrz hold hROW hGd hkk hik hcm
  go_enter Try.func43, Try.ntmps43
  go_wp2_with (first
    | (at_builtin; refine Lib.wpList_append_run _ rfl _ _ _ _ rfl _ _ rfl rfl _ _ (HRZ.out _) ?_)
    | (refine wpList_copy_at rfl (.tmp 43) (.tmp 44) 32 32 rfl 29 i0 2 Try.underlying32 hi0 hz1 w.heap.size (i * 2) (n + 1 - i) (G - i) rfl _ 29 HN.out ⟨gv, 0, none⟩ 1 vc rfl 1 (by show min _ _ = _; omega) [.int .i64 x, .int .i64 y] rfl (HVR.out _ (HV.out.drew.alloc _)) HFT.out HV1.out ?_; intro w3 hb3 hg3))
  have hgw0 : g ≠ w.heap.size := by have := HG.out.lt; omega
  have HG3 := Lib.hid ((HG.out.drew.alloc (.cells ROW.toArray 29)).grown hg3 (fun e => hgw0 (by cases e; rfl)))
  have HB3 := Lib.hid hb3
  have HGW := Lib.hid hgw0
  clear hgw0
  go_region_held3 (fun _ => True) (trivial)
    ((refine step_copy_at rfl (.tmp 50) (.tmp 53) 32 32 rfl 29 i0 2 Try.underlying32 hi0 hz1 w.heap.size ((i + 1) * 2) (n - i) (G - (i + 1)) (by simp [go_sem]) (ROW.take (i * 2) ++ ([.int .i64 x, .int .i64 y] ++ ROW.drop (i * 2 + 1 * 2))) 29 HB3.out.drew ⟨g, i * 2, none⟩ (n - i) (n - i) (by simp [go_sem]) (n - i) (by show min _ _ = _; omega) cs HCL.out (HCR.out _ HG3.out.drew) HFT2.out HC1.out ?_; intro w4 hb4 hg4))
  go_wp2
  go_ret
  obtain ⟨l3, t3⟩ := ins_grow (x := x) (y := y) (S := S) (Q := Q) hi (by have := HRL.out; omega) HTK.out (by have := HCU.out; omega) HRT.out HCD.out rfl rfl
  have hgr : w.grownBy w4 (some g) := World.grownBy.andThen (World.grownBy.andThen (show w.grownBy _ (some g) from World.grownBy_alloc w (.cells ROW.toArray 29) (some g)) (show (w.alloc (.cells ROW.toArray 29)).grownBy w3 (some w.heap.size) from ⟨hg3.os, hg3.tape, hg3.output, hg3.size, hg3.block⟩) (fun j hj => by cases hj; exact .inl (Nat.le_refl _))) (show w3.grownBy w4 (some w.heap.size) from ⟨hg4.os, hg4.tape, hg4.output, hg4.size, hg4.block⟩) (fun j hj => by cases hj; exact .inl (Nat.le_refl _))
  refine ⟨_, _, rfl, ?_, hgr, .inr ⟨w.heap.size, rfl, Nat.le_refl _⟩⟩
  refine ⟨cellsR_len 2 _ _, .inr ⟨w.heap.size, G, _, rfl, hB, hb4, hGn, HG63.out, ?_, ?_⟩⟩
  · have := HRL.out
    have l4 := l3
    simp only [List.size_toArray] at *
    omega
  · exact t3
theorem ins_any (B n c gv vc i : Nat) (A : Option Addr) (S Q : Nat → Int) (x y : Int) (w : World) (h : w.ownsRow B 29 2 (.slice A n c) n (cellsR 2 (hv S Q) n)) (hv0 : HasBlk w gv 29 #[.int .i64 x, .int .i64 y]) (hne : (Value.slice A n c).ownBlock ≠ some gv) (hn : n ≤ 1000) (hi : i ≤ n) (hB : B ≤ w.heap.size) :
    Calls Try.prog 43 #[.slice A n c, .int .i64 i, .slice (some ⟨gv, 0, none⟩) 1 vc] w (InsR B (n + 1) (insF S i x) (insF Q i y) (.slice A n c) w) := by
  by_cases hin : i = n
  · subst hin
    exact ins_at_end B i c gv vc A S Q x y w h hv0 hn hB
  · by_cases hr : n < c
    · exact ins_at_room B n c gv vc i A S Q x y w h hv0 hne hn (by omega) hr hB
    · exact ins_at_grow B n c gv vc i A S Q x y w h hv0 hne hn (by omega) hr hB
end Go.Proofs.Ytgkeiaggldahnaa
