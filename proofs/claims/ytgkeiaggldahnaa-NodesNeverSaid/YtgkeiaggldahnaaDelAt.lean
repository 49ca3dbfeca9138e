/- append in place into a block of the call's own, and clear, at elements of any size. Over any program. -/
import Derived.Test.YtgkeiaggldahnaaCopyAt
namespace Go.Proofs.Ytgkeiaggldahnaa
open Go.RowKit
set_option linter.unusedVariables false
theorem run_append_at {P : Program} {w : World} (dT ty elem : TypeId) (i : TypeInfo) (size : Nat) (hu : P.underlying dT = some (.slice elem)) (hi : P.info? elem = some i) (hsz : i.size = size)
    (g sLen sc : Nat) (cur : Array Value) (t : TypeId) (hg : w.heap[g]? = some (.cells cur t (0, 0)))
    (ad : Addr) (m mc : Nat) (hroom : sLen + m ≤ sc) (cs : List Value) (hcs : cs.length = m * size) (hsrc : ∀ j v, cs[j]? = some v → w.cell? (ad.add j) = some v) (hfit : sLen * size + cs.length ≤ cur.size) (h1 : ∀ v ∈ cs, v.oneCell' = true) :
    (Builtin.append_ #[dT, dT] ty #[.slice (some ⟨g, 0, none⟩) sLen sc, .slice (some ad) m mc]).run P w = .ok (.slice (some ⟨g, 0, none⟩) (sLen + m) sc) (w.setRow g (cur.toList.take (sLen * size) ++ cs ++ cur.toList.drop (sLen * size + cs.length)).toArray) := by
  have hl := run_loadCells_list (P := P) w ad cs hsrc
  have hst := run_storeCells_at P g (sLen * size) t cs 0 cur w hg (by simpa using hfit) h1
  have e : ((⟨g, 0, none⟩ : Addr).add (sLen * size)) = ⟨g, sLen * size, none⟩ := by unfold Addr.add; split <;> simp_all
  rw [hcs] at hl
  simp [Builtin.append_, run_underlying hu, Builtin.lenOf, Builtin.firstCells, sizeOf, typeInfo, hi, hsz, hroom, hl, e, hst]
theorem step_append_at {P : Program} {w : World} {ops : Array Oper} {o : Oper} {a : Act} {K : Act → World → Prop} {Q : Exit → Act → World → Prop} {E : Prop} (hgd : o.guard = none) (d s : Operand) (dT : TypeId)
    (ho : o.op = .call { callee := .builtin .append, args := #[d, s], argTypes := #[dT, dT] }) (elem : TypeId) (i : TypeInfo) (size : Nat) (hu : P.underlying dT = some (.slice elem)) (hi : P.info? elem = some i) (hsz : i.size = size)
    (g sLen sc : Nat) (hd : a.eval d = .slice (some ⟨g, 0, none⟩) sLen sc) (cur : List Value) (t : TypeId) (hg : HasBlk w g t cur.toArray)
    (ad : Addr) (m mc : Nat) (hs : a.eval s = .slice (some ad) m mc) (hroom : sLen + m ≤ sc) (cs : List Value) (hcs : cs.length = m * size) (hsrc : ∀ j v, cs[j]? = some v → w.cell? (ad.add j) = some v) (hfit : sLen * size + m * size ≤ cur.length) (h1 : ∀ v ∈ cs, v.oneCell' = true)
    (h : ∀ w', HasBlk w' g t (cur.take (sLen * size) ++ (cs ++ cur.drop (sLen * size + m * size))).toArray → w.grownBy w' (some g) → K (a.put o.dst (.slice (some ⟨g, 0, none⟩) (sLen + m) sc)) w') : if Region.wanted o (yielded ops a.tmps) = true then Oper.wp P o a w K Q else E := by
  have hw : Region.wanted o (yielded ops a.tmps) = true := by simp [Region.wanted, hgd]
  rw [if_pos hw]
  have hrun := run_append_at (P := P) (w := w) dT o.type elem i size hu hi hsz g sLen sc cur.toArray t hg ad m mc hroom cs hcs hsrc (by rw [hcs]; simpa using hfit) h1
  unfold Oper.wp
  simp [execOp, ho, resolve, invoke, builtin, hd, hs, hrun, Result.andThen]
  refine h _ ?_ ?_
  · have := setRow_heap w g cur.toArray (cur.take (sLen * size) ++ cs ++ cur.drop (sLen * size + cs.length)).toArray t (0, 0) hg
    rw [hcs] at this
    simpa [HasBlk, hcs] using this
  · exact ⟨rfl, rfl, rfl, by simp [World.setRow], fun k hk hne => setRow_other w g k _ (fun e => hne (by rw [e]))⟩
theorem run_clear_at {P : Program} {w : World} (dT ty elem : TypeId) (z : Value) (i : TypeInfo) (hu : P.underlying dT = some (.slice elem)) (hi : P.info? elem = some i) (hz : i.zero = some z)
    (g off n c : Nat) (hn : 0 < n) (cur : Array Value) (t : TypeId) (hg : w.heap[g]? = some (.cells cur t (0, 0))) (cs : List Value) (hcs : cs = (Builtin.zeroCells z.cells n).toList) (hfit : off + cs.length ≤ cur.size) (h1 : ∀ v ∈ cs, v.oneCell' = true) :
    (Builtin.clear_ #[dT] ty #[.slice (some ⟨g, off, none⟩) n c]).run P w = .ok (.tuple #[]) (w.setRow g (cur.toList.take off ++ cs ++ cur.toList.drop (off + cs.length)).toArray) := by
  have hst := run_storeCells_at P g off t cs 0 cur w hg (by simpa using hfit) h1
  rw [hcs] at hst
  obtain ⟨m, rfl⟩ : ∃ m, n = m + 1 := ⟨n - 1, by omega⟩
  rw [hcs]
  simp [Builtin.clear_, run_underlying hu, zeroValue, typeInfo, hi, hz, hst]
theorem wpList_clear_at {P : Program} {w : World} {ops : Array Oper} {rest : List Oper} {o : Oper} {a : Act} {Q : Exit → Act → World → Prop} (hgd : o.guard = none) (d : Operand) (dT : TypeId)
    (ho : o.op = .call { callee := .builtin .clear, args := #[d], argTypes := #[dT] }) (elem : TypeId) (z : Value) (i : TypeInfo) (hu : P.underlying dT = some (.slice elem)) (hi : P.info? elem = some i) (hz : i.zero = some z)
    (g off n c : Nat) (hd : a.eval d = .slice (some ⟨g, off, none⟩) n c) (hn : 0 < n) (cur : List Value) (t : TypeId) (hg : HasBlk w g t cur.toArray) (cs : List Value) (hcs : cs = (Builtin.zeroCells z.cells n).toList) (hfit : off + cs.length ≤ cur.length) (h1 : ∀ v ∈ cs, v.oneCell' = true)
    (h : ∀ w', HasBlk w' g t (cur.take off ++ (cs ++ cur.drop (off + cs.length))).toArray → w.grownBy w' (some g) → wpList P ops Q rest (a.put o.dst (.tuple #[])) w') : wpList P ops Q (o :: rest) a w := by
  refine wpList_plain hgd fun K hK => ?_
  have hrun := run_clear_at (P := P) (w := w) dT o.type elem z i hu hi hz g off n c hn cur.toArray t hg cs hcs (by simpa using hfit) h1
  unfold Oper.wp
  simp [execOp, ho, resolve, invoke, builtin, hd, hrun, Result.andThen]
  refine hK _ _ (h _ ?_ ?_)
  · have := setRow_heap w g cur.toArray (cur.take off ++ cs ++ cur.drop (off + cs.length)).toArray t (0, 0) hg
    simpa [HasBlk] using this
  · exact ⟨rfl, rfl, rfl, by simp [World.setRow], fun k hk hne => setRow_other w g k _ (fun e => hne (by rw [e]))⟩
end Go.Proofs.Ytgkeiaggldahnaa
