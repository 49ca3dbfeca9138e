/- copy into a block of the call's own, at any place, elements of any size. Over any program. -/
import Derived.Test.YtibeoeooajelgaaCopy
namespace Go.Proofs.Ytibeoeooajelgaa
open Go.RowKit
set_option linter.unusedVariables false
theorem run_copy_at {P : Program} {w : World} (dT sT ty elem : TypeId) (i : TypeInfo) (size : Nat) (hu : P.underlying dT = some (.slice elem)) (hi : P.info? elem = some i) (hsz : i.size = size)
    (g off dLen dc : Nat) (cur : Array Value) (t : TypeId) (hg : w.heap[g]? = some (.cells cur t (0, 0)))
    (ad : Addr) (sLen c m : Nat) (hm : Nat.min sLen dLen = m) (cs : List Value) (hcs : cs.length = m * size) (hsrc : ∀ j v, cs[j]? = some v → w.cell? (ad.add j) = some v) (hfit : off + cs.length ≤ cur.size) (h1 : ∀ v ∈ cs, v.oneCell' = true) :
    (Builtin.copy_ #[dT, sT] ty #[.slice (some ⟨g, off, none⟩) dLen dc, .slice (some ad) sLen c]).run P w = .ok (goInt m) (w.setRow g (cur.toList.take off ++ cs ++ cur.toList.drop (off + cs.length)).toArray) := by
  have hl := run_loadCells_list (P := P) w ad cs hsrc
  have hst := run_storeCells_at P g off t cs 0 cur w hg (by simpa using hfit) h1
  rw [hcs] at hl
  simp [Builtin.copy_, run_underlying hu, Builtin.lenOf, Builtin.firstCells, sizeOf, typeInfo, hi, hsz, hm, hl, hst]
theorem wpList_copy_at {P : Program} {w : World} {ops : Array Oper} {rest : List Oper} {o : Oper} {a : Act} {Q : Exit → Act → World → Prop} (hgd : o.guard = none) (d s : Operand) (dT sT : TypeId)
    (ho : o.op = .call { callee := .builtin .copy, args := #[d, s], argTypes := #[dT, sT] }) (elem : TypeId) (i : TypeInfo) (size : Nat) (hu : P.underlying dT = some (.slice elem)) (hi : P.info? elem = some i) (hsz : i.size = size)
    (g off dLen dc : Nat) (hd : a.eval d = .slice (some ⟨g, off, none⟩) dLen dc) (cur : List Value) (t : TypeId) (hg : HasBlk w g t cur.toArray)
    (ad : Addr) (sLen c : Nat) (hs : a.eval s = .slice (some ad) sLen c) (m : Nat) (hm : Nat.min sLen dLen = m) (cs : List Value) (hcs : cs.length = m * size) (hsrc : ∀ j v, cs[j]? = some v → w.cell? (ad.add j) = some v) (hfit : off + m * size ≤ cur.length) (h1 : ∀ v ∈ cs, v.oneCell' = true)
    (h : ∀ w', HasBlk w' g t (cur.take off ++ (cs ++ cur.drop (off + m * size))).toArray → w.grownBy w' (some g) → wpList P ops Q rest (a.put o.dst (goInt m)) w') : wpList P ops Q (o :: rest) a w := by
  refine wpList_plain hgd fun K hK => ?_
  have hrun := run_copy_at (P := P) (w := w) dT sT o.type elem i size hu hi hsz g off dLen dc cur.toArray t hg ad sLen c m hm cs hcs hsrc (by rw [hcs]; simpa using hfit) h1
  unfold Oper.wp
  simp [execOp, ho, resolve, invoke, builtin, hd, hs, hrun, Result.andThen]
  refine hK _ _ (h _ ?_ ?_)
  · have := setRow_heap w g cur.toArray (cur.take off ++ cs ++ cur.drop (off + cs.length)).toArray t (0, 0) hg
    rw [hcs] at this
    simpa [HasBlk, hcs] using this
  · exact ⟨rfl, rfl, rfl, by simp [World.setRow], fun k hk hne => setRow_other w g k _ (fun e => hne (by rw [e]))⟩
theorem step_copy_at {P : Program} {w : World} {ops : Array Oper} {o : Oper} {a : Act} {K : Act → World → Prop} {Q : Exit → Act → World → Prop} {E : Prop} (hgd : o.guard = none) (d s : Operand) (dT sT : TypeId)
    (ho : o.op = .call { callee := .builtin .copy, args := #[d, s], argTypes := #[dT, sT] }) (elem : TypeId) (i : TypeInfo) (size : Nat) (hu : P.underlying dT = some (.slice elem)) (hi : P.info? elem = some i) (hsz : i.size = size)
    (g off dLen dc : Nat) (hd : a.eval d = .slice (some ⟨g, off, none⟩) dLen dc) (cur : List Value) (t : TypeId) (hg : HasBlk w g t cur.toArray)
    (ad : Addr) (sLen c : Nat) (hs : a.eval s = .slice (some ad) sLen c) (m : Nat) (hm : Nat.min sLen dLen = m) (cs : List Value) (hcs : cs.length = m * size) (hsrc : ∀ j v, cs[j]? = some v → w.cell? (ad.add j) = some v) (hfit : off + m * size ≤ cur.length) (h1 : ∀ v ∈ cs, v.oneCell' = true)
    (h : ∀ w', HasBlk w' g t (cur.take off ++ (cs ++ cur.drop (off + m * size))).toArray → w.grownBy w' (some g) → K (a.put o.dst (goInt m)) w') : if Region.wanted o (yielded ops a.tmps) = true then Oper.wp P o a w K Q else E := by
  have hw : Region.wanted o (yielded ops a.tmps) = true := by simp [Region.wanted, hgd]
  rw [if_pos hw]
  have hrun := run_copy_at (P := P) (w := w) dT sT o.type elem i size hu hi hsz g off dLen dc cur.toArray t hg ad sLen c m hm cs hcs hsrc (by rw [hcs]; simpa using hfit) h1
  unfold Oper.wp
  simp [execOp, ho, resolve, invoke, builtin, hd, hs, hrun, Result.andThen]
  refine h _ ?_ ?_
  · have := setRow_heap w g cur.toArray (cur.take off ++ cs ++ cur.drop (off + cs.length)).toArray t (0, 0) hg
    rw [hcs] at this
    simpa [HasBlk, hcs] using this
  · exact ⟨rfl, rfl, rfl, by simp [World.setRow], fun k hk hne => setRow_other w g k _ (fun e => hne (by rw [e]))⟩
/-- What stands in a row behind such a copy. -/
theorem splice_at {cur cs : List Value} {off k : Nat} (hfit : off + cs.length ≤ cur.length) : (cur.take off ++ (cs ++ cur.drop (off + cs.length)))[k]? = if k < off then cur[k]? else if k < off + cs.length then cs[k - off]? else cur[k]? := by
  have hl : (cur.take off).length = off := by simp; omega
  by_cases h : k < off
  · rw [if_pos h, List.getElem?_append_left (by omega), List.getElem?_take, if_pos h]
  · rw [if_neg h, List.getElem?_append_right (by omega), hl]
    by_cases h2 : k < off + cs.length
    · rw [if_pos h2, List.getElem?_append_left (by omega)]
    · rw [if_neg h2, List.getElem?_append_right (by omega), List.getElem?_drop]
      congr 1
      omega
/-- The first n elements of s cells each are all F. -/
def AllF (cur : List Value) (s n : Nat) (F : Nat → Value) : Prop := ∀ i, i < n → ∀ j, j < s → cur[i * s + j]? = some (F j)
theorem AllF.copy {cur cs : List Value} {s n m : Nat} {F : Nat → Value} (h : AllF cur s n F) (hcs : cs.length = m * s) (hs : ∀ k, k < m * s → cs[k]? = cur[k]?) (hmn : m ≤ n) (hfit : n * s + m * s ≤ cur.length) :
    AllF (cur.take (n * s) ++ (cs ++ cur.drop (n * s + m * s))) s (n + m) F := by
  intro i hi j hj
  rw [← hcs, splice_at (by omega)]
  by_cases hin : i < n
  · have h1 : (i + 1) * s ≤ n * s := Nat.mul_le_mul_right s hin
    rw [Nat.succ_mul] at h1
    rw [if_pos (by omega)]
    exact h i hin j hj
  · have h1 : n * s ≤ i * s := Nat.mul_le_mul_right s (by omega)
    have h2 : (i - n) * s + n * s = i * s := by rw [← Nat.add_mul]; congr 1; omega
    have h3 : (i - n + 1) * s ≤ m * s := Nat.mul_le_mul_right s (by omega)
    rw [Nat.succ_mul] at h3
    rw [if_neg (by omega), if_pos (by omega), show i * s + j - n * s = (i - n) * s + j by omega, hs _ (by omega)]
    exact h (i - n) (by omega) j hj
theorem AllF.cells {cur : List Value} {s n : Nat} {F : Nat → Value} (h : AllF cur s n F) (hl : cur.length = n * s) (hs : 0 < s) : cur = cellsR s (fun _ j => F j) n := by
  apply List.ext_getElem?
  intro k
  by_cases hk : k < n * s
  · have hd : k / s < n := Nat.div_lt_of_lt_mul (by rw [Nat.mul_comm]; exact hk)
    have hm : k % s < s := Nat.mod_lt _ hs
    have he : k / s * s + k % s = k := by rw [Nat.mul_comm]; exact Nat.div_add_mod k s
    have h1 := h (k / s) hd (k % s) hm
    have h2 := cellsR_at (F := fun _ j => F j) hd hm
    rw [he] at h1 h2
    rw [h1, h2]
  · rw [List.getElem?_eq_none (by omega), List.getElem?_eq_none (by rw [cellsR_len]; omega)]
end Go.Proofs.Ytibeoeooajelgaa
