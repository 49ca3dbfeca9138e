/- nodes: slices.Delete of one. -/
import Derived.Test.YtgkeiaggldahnaaN15
import Derived.Test.YtgkeiaggldahnaaDelAt
namespace Go.Proofs.Ytgkeiaggldahnaa
open Go.RowKit
set_option linter.unusedVariables false
set_option maxRecDepth 100000 in
set_option maxHeartbeats 4000000 in
theorem del_any (B n c i : Nat) (A : Option Addr) (S Q : Nat → Int) (w : World) (h : w.ownsRow B 29 2 (.slice A n c) n (cellsR 2 (hv S Q) n)) (hn : n ≤ 1000) (hi : i < n) :
    Calls Try.prog 48 #[.slice A n c, .int .i64 i, .int .i64 ((i : Int) + 1)] w (InsR B (n - 1) (delF S i) (delF Q i) (.slice A n c) w) := by
  obtain ⟨i0', hi0, hz0, hz1, hz2⟩ := info_parts hdl_info
  obtain ⟨i0, hi00⟩ : ∃ i0, i0 = i0' := ⟨_, rfl⟩
  rw [← hi00] at hi0 hz0 hz1 hz2
  clear hi00
  obtain ⟨hxl, h0 | ⟨g, cap, cur, e1, hBg, hg, hnc, hcm, hcs, htk⟩⟩ := h
  · obtain ⟨_, h0⟩ := h0
    omega
  cases e1
  obtain ⟨cur, rfl⟩ : ∃ l : List Value, cur = l.toArray := ⟨cur.toList, by simp⟩
  have hcur : cur.length = c * 2 := by simpa using hcs
  have htk : cur.take (n * 2) = (cellsR 2 (hv S Q) n) := by simpa using htk
  clear hcs
  have hG : HasBlk w g 29 cur.toArray := hg
  clear hg
  obtain ⟨cs, hcsd⟩ : ∃ cs, cs = (cur.drop ((i + 1) * 2)).take ((n - 1 - i) * 2) := ⟨_, rfl⟩
  have hcsl : cs.length = (n - (i + 1)) * 2 := by rw [hcsd, List.length_take, List.length_drop]; omega
  have hcs1 : ∀ u ∈ cs, u.oneCell' = true := fun u hu => by
    have e : cs = ((cellsR 2 (hv S Q) n)).drop ((i + 1) * 2) := by rw [← htk, hcsd, List.drop_take]; congr 1; omega
    rw [e] at hu
    exact cellsR_one (hv_one S Q) _ u (List.mem_of_mem_drop hu)
  have hcsr : ∀ (w : World), HasBlk w g 29 cur.toArray → ∀ j u, cs[j]? = some u → w.cell? ((⟨g, (i + 1) * 2, none⟩ : Addr).add j) = some u := fun w hb j u hj => by
    have e : ((⟨g, (i + 1) * 2, none⟩ : Addr).add j) = ⟨g, (i + 1) * 2 + j, none⟩ := by unfold Addr.add; split <;> simp_all
    rw [e, hb.cell, List.getElem?_toArray]
    rw [hcsd, List.getElem?_take] at hj
    split at hj
    · rwa [List.getElem?_drop] at hj
    · cases hj
  unfold maxLen at hcm
  have HG := Lib.hid hG
  have HC1 := Lib.hid hcs1
  have HCL := Lib.hid hcsl
  have HCU := Lib.hid hcur
  have HTK := Lib.hid htk
  have HCD := Lib.hid hcsd
  have HBG := Lib.hid hBg
  have HCM := Lib.hid hcm
  have HFT := Lib.hid (show i * 2 + (n - (i + 1)) * 2 ≤ cur.length by omega)
  have HFZ := Lib.hid (show (n - 1) * 2 + ([.int .i64 0, .int .i64 0] : List Value).length ≤ (cur.take (i * 2) ++ (cs ++ cur.drop (i * 2 + (n - (i + 1)) * 2))).length by simp; omega)
  have HZC := Lib.hid (show ([.int .i64 0, .int .i64 0] : List Value) = (Builtin.zeroCells (Value.agg #[Value.int .i64 0, Value.int .i64 0]).cells 1).toList by simp [Builtin.zeroCells, Value.cells, List.range, List.range.loop])
  have hw1 : IntKind.i64.wrap ((i : Int) + 1) = (i : Int) + 1 := by rw [IntKind.wrap_i64]; omega
  have hz2' : ¬ ((i : Int) = (i : Int) + 1) := by omega
  have hb1 : (0 : Int) ≤ (i : Int) + 1 := by omega
  have hb2 : (i : Int) ≤ (i : Int) + 1 := by omega
  have hb3 : (i : Int) + 1 ≤ (n : Int) := by omega
  have hb4 : (n : Int) ≤ (c : Int) := by omega
  have hb5 : (i : Int) ≤ (c : Int) := by omega
  have hb6 : (i : Int) ≤ (n : Int) := by omega
  have hin : i ≤ n := by omega
  have hin1 : i + 1 ≤ n := by omega
  have htn : ((i : Int) + 1).toNat = i + 1 := by omega
  have hni : ¬ (n = i) := by omega
  have hci : ¬ (c = i) := by omega
  clear hG hcs1 hcsl hcur htk hcsd hBg hxl hcm
  by_cases hlast : c = i + 1
  · subst hlast
    obtain rfl : n = i + 1 := by omega
    have hnil : cs = [] := List.length_eq_zero_iff.1 (by rw [HCL.out]; omega)
    subst hnil
    have HCR := Lib.hid (show ∀ (w : World), HasBlk w g 29 cur.toArray → ∀ j u, ([] : List Value)[j]? = some u → w.cell? ((⟨g, 0, none⟩ : Addr).add j) = some u from fun w hb j u hj => by cases hj)
    have HFT2 := Lib.hid (show i * 2 + 0 * 2 ≤ cur.length by have := HCU.out; omega)
    have HFZ2 := Lib.hid (show i * 2 + ([.int .i64 0, .int .i64 0] : List Value).length ≤ (cur.take (i * 2) ++ (([] : List Value) ++ cur.drop (i * 2 + 0 * 2))).length by have := HCU.out; simp; omega)
    clear hcsr hni hci HFT HFZ
    have hni : ¬ (i + 1 = i) := by omega
    go_enter Try.func48, Try.ntmps48
    go_wp2_with fail
    go_region_held3 (fun _ => True) (trivial)
      ((refine step_append_at rfl (.tmp 22) (.tmp 25) 32 rfl 29 i0 2 Try.underlying32 hi0 hz1 g i (i + 1) (by simp [go_sem]) cur 29 HG.out.drew ⟨g, 0, none⟩ 0 0 (by simp [go_sem]) (by omega) [] rfl (HCR.out _ HG.out.drew) HFT2.out (by simp) ?_; intro w2 hb2 hg2))
    have HG2 := Lib.hid hb2
    have GR2 := Lib.hid hg2
    clear hb2 hg2
    simp only [Nat.add_zero]
    go_wp2_with (refine wpList_clear_at rfl (.tmp 31) 32 rfl 29 _ i0 Try.underlying32 hi0 hz0 g (i * 2) 1 1 (by first | rfl | (simp [go_sem]; done)) (by omega) _ 29 HG2.out [.int .i64 0, .int .i64 0] HZC.out HFZ2.out (by simp [Value.oneCell']) ?_; intro w3 hb3 hg3)
    go_ret
    obtain ⟨l1, t1⟩ := del_room hi (by have := HCU.out; omega) HTK.out HCD.out (cur1 := cur.take (i * 2) ++ (([] : List Value) ++ cur.drop (i * 2 + 0 * 2))) (by rw [show i + 1 - 1 - i = 0 by omega])
    have hgr : w.grownBy w3 (some g) := World.grownBy.trans (show w.grownBy w2 (some g) from ⟨GR2.out.os, GR2.out.tape, GR2.out.output, GR2.out.size, GR2.out.block⟩) hg3
    refine ⟨_, _, rfl, ?_, hgr, .inl rfl⟩
    refine ⟨cellsR_len 2 _ _, .inr ⟨g, i + 1, _, rfl, HBG.out, hb3, by omega, by have := HCM.out; unfold maxLen; omega, ?_, ?_⟩⟩
    · have := HCU.out
      simp only [List.size_toArray, List.length_append, List.length_take, List.length_drop, List.length_cons, List.length_nil] at l1 ⊢
      omega
    · show List.take ((i + 1 - 1) * 2) _ = _
      rw [← t1, show i + 1 - 1 = i by omega, List.take_append_of_le_length (by rw [List.length_take, l1]; have := HCU.out; omega), List.take_take, Nat.min_self]
  have HCR := Lib.hid hcsr
  clear hcsr
  have hb7 : ¬ (c = i + 1) := hlast
  clear hlast
  go_enter Try.func48, Try.ntmps48
  go_wp2_with fail
  go_region_held3 (fun _ => True) (trivial)
    ((refine step_append_at rfl (.tmp 22) (.tmp 25) 32 rfl 29 i0 2 Try.underlying32 hi0 hz1 g i c (by simp [go_sem]) cur 29 HG.out.drew ⟨g, (i + 1) * 2, none⟩ (n - (i + 1)) (c - (i + 1)) (by simp [go_sem]) (by omega) cs HCL.out (HCR.out _ HG.out.drew) HFT.out HC1.out ?_; intro w2 hb2 hg2))
  have HG2 := Lib.hid hb2
  have e1 : i + (n - (i + 1)) = n - 1 := by omega
  have GR2 := Lib.hid hg2
  clear hb2 hg2
  rw [e1]
  have x1 : ((n - 1 : Nat) : Int) ≤ (n : Int) := by omega
  have x2 : ¬ (c = n - 1) := by omega
  have x3 : n - 1 ≤ n := by omega
  have x4 : n - (n - 1) = 1 := by omega
  clear e1
  go_wp2_with (refine wpList_clear_at rfl (.tmp 31) 32 rfl 29 _ i0 Try.underlying32 hi0 hz0 g ((n - 1) * 2) 1 (c - (n - 1)) (by first | rfl | (simp [go_sem]; done)) (by omega) _ 29 HG2.out [.int .i64 0, .int .i64 0] HZC.out HFZ.out (by simp [Value.oneCell']) ?_; intro w3 hb3 hg3)
  go_ret
  obtain ⟨l1, t1⟩ := del_room hi (by have := HCU.out; omega) HTK.out HCD.out (cur1 := cur.take (i * 2) ++ (cs ++ cur.drop (i * 2 + (n - (i + 1)) * 2))) (by rw [show n - (i + 1) = n - 1 - i by omega])
  have hgr : w.grownBy w3 (some g) := World.grownBy.trans (show w.grownBy w2 (some g) from ⟨GR2.out.os, GR2.out.tape, GR2.out.output, GR2.out.size, GR2.out.block⟩) hg3
  refine ⟨_, _, rfl, ?_, hgr, .inl rfl⟩
  refine ⟨cellsR_len 2 _ _, .inr ⟨g, c, _, rfl, HBG.out, hb3, by omega, by have := HCM.out; unfold maxLen; omega, ?_, ?_⟩⟩
  · have := HCU.out
    simp only [List.size_toArray, List.length_append, List.length_take, List.length_drop, List.length_cons, List.length_nil] at l1 ⊢
    omega
  · show List.take ((n - 1) * 2) _ = _
    rw [← t1, List.take_append_of_le_length (by rw [List.length_take, l1]; have := HCU.out; omega), List.take_take, Nat.min_self]
end Go.Proofs.Ytgkeiaggldahnaa
