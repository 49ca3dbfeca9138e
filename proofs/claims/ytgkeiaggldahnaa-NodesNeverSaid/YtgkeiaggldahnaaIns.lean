/- nodes: what an insertion and a deletion leave in a list of pairs; plain law on lists of cells. -/
import Derived.Test.YtgkeiaggldahnaaN12
import Derived.Test.YtgkeiaggldahnaaCopyAt
namespace Go.Proofs.Ytgkeiaggldahnaa
open Go.RowKit
set_option linter.unusedVariables false
def insF (f : Nat → Int) (i : Nat) (x : Int) (k : Nat) : Int := if k < i then f k else if k = i then x else f (k - 1)
def delF (f : Nat → Int) (i : Nat) (k : Nat) : Int := if k < i then f k else f (k + 1)
theorem del_ins (f : Nat → Int) (i : Nat) (x : Int) (k : Nat) : delF (insF f i x) i k = f k := by
  unfold delF insF
  by_cases h : k < i
  · rw [if_pos h, if_pos h]
  · rw [if_neg h, if_neg (by omega), if_neg (by omega)]
    rfl
/-- A list of cells is that of n pairs. -/
theorem cells_ext {cur : List Value} {n : Nat} {F : Nat → Nat → Value} (hl : n * 2 ≤ cur.length) (h : ∀ i, i < n → ∀ j, j < 2 → cur[i * 2 + j]? = some (F i j)) : cur.take (n * 2) = cellsR 2 F n := by
  apply List.ext_getElem?
  intro k
  by_cases hk : k < n * 2
  · have hd : k / 2 < n := by omega
    have e : k = k / 2 * 2 + k % 2 := by omega
    rw [List.getElem?_take, if_pos hk]
    have h1 := h (k / 2) hd (k % 2) (Nat.mod_lt _ (by omega))
    rw [← e] at h1
    have h2 := cellsR_at (F := F) hd (Nat.mod_lt k (show 0 < 2 by omega))
    rw [← e] at h2
    rw [h1, h2]
  · rw [List.getElem?_eq_none (by simp; omega), List.getElem?_eq_none (by rw [cellsR_len]; omega)]
theorem cells_get {cur : List Value} {n : Nat} {F : Nat → Nat → Value} (h : cur.take (n * 2) = cellsR 2 F n) {i j : Nat} (hi : i < n) (hj : j < 2) : cur[i * 2 + j]? = some (F i j) := by
  have h2 := cellsR_at (F := F) hi hj
  rw [← h, List.getElem?_take, if_pos (by omega)] at h2
  exact h2
theorem insF_lo {f : Nat → Int} {i k : Nat} {x : Int} (h : k < i) : insF f i x k = f k := if_pos h
theorem insF_at (f : Nat → Int) (i : Nat) (x : Int) : insF f i x i = x := by unfold insF; rw [if_neg (by omega), if_pos rfl]
theorem insF_hi {f : Nat → Int} {i k : Nat} {x : Int} (h : i < k) : insF f i x k = f (k - 1) := by unfold insF; rw [if_neg (by omega), if_neg (by omega)]
theorem delF_lo {f : Nat → Int} {i k : Nat} (h : k < i) : delF f i k = f k := if_pos h
theorem delF_hi {f : Nat → Int} {i k : Nat} (h : i ≤ k) : delF f i k = f (k + 1) := if_neg (by omega)
theorem hv_ins_lo {S Q : Nat → Int} {i k j : Nat} {x y : Int} (h : k < i) : hv (insF S i x) (insF Q i y) k j = hv S Q k j := by
  unfold hv
  rw [insF_lo h, insF_lo h]
theorem hv_ins_hi {S Q : Nat → Int} {i k j : Nat} {x y : Int} (h : i < k) : hv (insF S i x) (insF Q i y) k j = hv S Q (k - 1) j := by
  unfold hv
  rw [insF_hi h, insF_hi h]
theorem hv_ins_at {S Q : Nat → Int} {i j : Nat} {x y : Int} (hj : j < 2) : [Value.int .i64 x, Value.int .i64 y][j]? = some (hv (insF S i x) (insF Q i y) i j) := by
  unfold hv
  rw [insF_at, insF_at]
  obtain rfl | rfl : j = 0 ∨ j = 1 := by omega
  · rfl
  · rfl
/-- At the end. -/
theorem ins_end (n : Nat) (S Q : Nat → Int) (x y : Int) : cellsR 2 (hv S Q) n ++ [.int .i64 x, .int .i64 y] = cellsR 2 (hv (insF S n x) (insF Q n y)) (n + 1) := by
  rw [cellsR_succ, cellsR_congr (F := hv (insF S n x) (insF Q n y)) (G := hv S Q) (fun i hi j _ => hv_ins_lo hi)]
  congr 1
  have h0 := hv_ins_at (S := S) (Q := Q) (i := n) (x := x) (y := y) (show 0 < 2 by omega)
  have h1 := hv_ins_at (S := S) (Q := Q) (i := n) (x := x) (y := y) (show 1 < 2 by omega)
  simp at h0 h1
  show _ = [hv (insF S n x) (insF Q n y) n 0, hv (insF S n x) (insF Q n y) n 1]
  rw [← h0, ← h1]
/-- In place: those behind i one farther, then the new one at i. -/
theorem ins_room {cur cs : List Value} {n i : Nat} {S Q : Nat → Int} {x y : Int} (hi : i < n) (hl : (n + 1) * 2 ≤ cur.length) (h : cur.take (n * 2) = cellsR 2 (hv S Q) n) (hcs : cs = (cur.drop (i * 2)).take ((n - i) * 2)) {cur1 : List Value} (h1 : cur1 = cur.take ((i + 1) * 2) ++ (cs ++ cur.drop ((i + 1) * 2 + (n - i) * 2))) {cur2 : List Value} (h2 : cur2 = cur1.take (i * 2) ++ ([.int .i64 x, .int .i64 y] ++ cur1.drop (i * 2 + 1 * 2))) :
    cur2.length = cur.length ∧ cur2.take ((n + 1) * 2) = cellsR 2 (hv (insF S i x) (insF Q i y)) (n + 1) := by
  have lc : cs.length = (n - i) * 2 := by rw [hcs, List.length_take, List.length_drop]; omega
  have l1 : cur1.length = cur.length := by rw [h1, List.length_append, List.length_append, List.length_take, List.length_drop]; omega
  have l2 : cur2.length = cur.length := by rw [h2, List.length_append, List.length_append, List.length_take, List.length_drop]; simp; omega
  refine ⟨l2, cells_ext (by omega) fun k hk j hj => ?_⟩
  have e2 : cur2[k * 2 + j]? = if k * 2 + j < i * 2 then cur1[k * 2 + j]? else if k * 2 + j < i * 2 + 2 then [Value.int .i64 x, Value.int .i64 y][k * 2 + j - i * 2]? else cur1[k * 2 + j]? := by
    rw [h2]
    exact splice_at (cs := [.int .i64 x, .int .i64 y]) (by simp; omega)
  have e1 : cur1[k * 2 + j]? = if k * 2 + j < (i + 1) * 2 then cur[k * 2 + j]? else if k * 2 + j < (i + 1) * 2 + cs.length then cs[k * 2 + j - (i + 1) * 2]? else cur[k * 2 + j]? := by
    rw [h1, ← lc]
    exact splice_at (by omega)
  rw [e2]
  by_cases h3 : k < i
  · rw [if_pos (by omega), e1, if_pos (by omega), hv_ins_lo h3]
    exact cells_get h (by omega) hj
  · rw [if_neg (by omega)]
    by_cases h4 : k = i
    · subst h4
      rw [if_pos (by omega), show k * 2 + j - k * 2 = j by omega]
      exact hv_ins_at hj
    · rw [if_neg (by omega), e1, if_neg (by omega), if_pos (by omega), hv_ins_hi (by omega), hcs, List.getElem?_take, if_pos (by omega), List.getElem?_drop, show i * 2 + (k * 2 + j - (i + 1) * 2) = (k - 1) * 2 + j by omega]
      exact cells_get h (by omega) hj
/-- Into a new row. -/
theorem ins_grow {old new0 cs : List Value} {n i : Nat} {S Q : Nat → Int} {x y : Int} (hi : i < n) (hl : (n + 1) * 2 ≤ new0.length) (h : old.take (n * 2) = cellsR 2 (hv S Q) n) (ho : n * 2 ≤ old.length) (hn : new0.take (i * 2) = old.take (i * 2)) (hcs : cs = (old.drop (i * 2)).take ((n - i) * 2)) {cur1 : List Value} (h1 : cur1 = new0.take (i * 2) ++ ([.int .i64 x, .int .i64 y] ++ new0.drop (i * 2 + 1 * 2))) {cur2 : List Value} (h2 : cur2 = cur1.take ((i + 1) * 2) ++ (cs ++ cur1.drop ((i + 1) * 2 + (n - i) * 2))) :
    cur2.length = new0.length ∧ cur2.take ((n + 1) * 2) = cellsR 2 (hv (insF S i x) (insF Q i y)) (n + 1) := by
  have lc : cs.length = (n - i) * 2 := by rw [hcs, List.length_take, List.length_drop]; omega
  have l1 : cur1.length = new0.length := by rw [h1, List.length_append, List.length_append, List.length_take, List.length_drop]; simp; omega
  have l2 : cur2.length = new0.length := by rw [h2, List.length_append, List.length_append, List.length_take, List.length_drop]; omega
  refine ⟨l2, cells_ext (by omega) fun k hk j hj => ?_⟩
  have e1 : cur1[k * 2 + j]? = if k * 2 + j < i * 2 then new0[k * 2 + j]? else if k * 2 + j < i * 2 + 2 then [Value.int .i64 x, Value.int .i64 y][k * 2 + j - i * 2]? else new0[k * 2 + j]? := by
    rw [h1]
    exact splice_at (cs := [.int .i64 x, .int .i64 y]) (by simp; omega)
  have e2 : cur2[k * 2 + j]? = if k * 2 + j < (i + 1) * 2 then cur1[k * 2 + j]? else if k * 2 + j < (i + 1) * 2 + cs.length then cs[k * 2 + j - (i + 1) * 2]? else cur1[k * 2 + j]? := by
    rw [h2, ← lc]
    exact splice_at (by omega)
  rw [e2]
  by_cases h3 : k < i
  · rw [if_pos (by omega), e1, if_pos (by omega), hv_ins_lo h3]
    have e : new0[k * 2 + j]? = old[k * 2 + j]? := by
      have := congrArg (·[k * 2 + j]?) hn
      simpa [List.getElem?_take, show k * 2 + j < i * 2 by omega] using this
    rw [e]
    exact cells_get h (by omega) hj
  · by_cases h4 : k = i
    · subst h4
      rw [if_pos (by omega), e1, if_neg (by omega), if_pos (by omega), show k * 2 + j - k * 2 = j by omega]
      exact hv_ins_at hj
    · rw [if_neg (by omega), if_pos (by omega), hv_ins_hi (by omega), hcs, List.getElem?_take, if_pos (by omega), List.getElem?_drop, show i * 2 + (k * 2 + j - (i + 1) * 2) = (k - 1) * 2 + j by omega]
      exact cells_get h (by omega) hj
/-- One is taken out: those behind it one nearer. -/
theorem del_room {cur cs : List Value} {n i : Nat} {S Q : Nat → Int} (hi : i < n) (hl : n * 2 ≤ cur.length) (h : cur.take (n * 2) = cellsR 2 (hv S Q) n) (hcs : cs = (cur.drop ((i + 1) * 2)).take ((n - 1 - i) * 2)) {cur1 : List Value} (h1 : cur1 = cur.take (i * 2) ++ (cs ++ cur.drop (i * 2 + (n - 1 - i) * 2))) :
    cur1.length = cur.length ∧ cur1.take ((n - 1) * 2) = cellsR 2 (hv (delF S i) (delF Q i)) (n - 1) := by
  have lc : cs.length = (n - 1 - i) * 2 := by rw [hcs, List.length_take, List.length_drop]; omega
  have l1 : cur1.length = cur.length := by rw [h1, List.length_append, List.length_append, List.length_take, List.length_drop]; omega
  refine ⟨l1, cells_ext (by omega) fun k hk j hj => ?_⟩
  have e1 : cur1[k * 2 + j]? = if k * 2 + j < i * 2 then cur[k * 2 + j]? else if k * 2 + j < i * 2 + cs.length then cs[k * 2 + j - i * 2]? else cur[k * 2 + j]? := by
    rw [h1, ← lc]
    exact splice_at (by omega)
  rw [e1]
  by_cases h3 : k < i
  · rw [if_pos (by omega)]
    have e : hv (delF S i) (delF Q i) k j = hv S Q k j := by unfold hv; rw [delF_lo h3, delF_lo h3]
    rw [e]
    exact cells_get h (by omega) hj
  · rw [if_neg (by omega), if_pos (by omega), hcs, List.getElem?_take, if_pos (by omega), List.getElem?_drop, show (i + 1) * 2 + (k * 2 + j - i * 2) = (k + 1) * 2 + j by omega]
    have e : hv (delF S i) (delF Q i) k j = hv S Q (k + 1) j := by unfold hv; rw [delF_hi (by omega), delF_hi (by omega)]
    rw [e]
    exact cells_get h (by omega) hj
end Go.Proofs.Ytgkeiaggldahnaa
