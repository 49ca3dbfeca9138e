/- copy into a whole block of the call's own, elements of any size. Over any program. -/
import Derived.Test.YtibeoeooajelgaaRow
import Derived.Laws.CopyOwn
namespace Go.Proofs.Ytibeoeooajelgaa
open Go.RowKit
set_option linter.unusedVariables false
theorem run_copy_full {P : Program} {w : World} (dT sT ty elem : TypeId) (i : TypeInfo) (size : Nat) (hu : P.underlying dT = some (.slice elem)) (hi : P.info? elem = some i) (hsz : i.size = size)
    (g n dc : Nat) (cur : Array Value) (t : TypeId) (hg : w.heap[g]? = some (.cells cur t (0, 0))) (hcur : cur.size = n * size)
    (B : Option Addr) (c : Nat) (cs : List Value) (hcs : cs.length = n * size) (hsrc : 0 < n → ∃ ad, B = some ad ∧ ∀ j v, cs[j]? = some v → w.cell? (ad.add j) = some v) (h1 : ∀ v ∈ cs, v.oneCell' = true) :
    ∃ w', (Builtin.copy_ #[dT, sT] ty #[.slice (some ⟨g, 0, none⟩) n dc, .slice B n c]).run P w = .ok (goInt n) w' ∧ w'.heap[g]? = some (.cells cs.toArray t (0, 0)) ∧ w.grownBy w' (some g) := by
  rcases Nat.eq_zero_or_pos n with rfl | hn
  · have hc0 : cs = [] := List.eq_nil_of_length_eq_zero (by rw [hcs, Nat.zero_mul])
    have hr0 : cur = #[] := Array.eq_empty_of_size_eq_zero (by rw [hcur, Nat.zero_mul])
    subst hc0 hr0
    refine ⟨w, ?_, hg, World.grownBy.refl _ _⟩
    have hl : ∀ (x : Addr), (loadCells x 0).run P w = .ok #[] w := fun x => by simpa using run_loadCells_list (P := P) w x [] (by simp)
    cases B <;> simp [Builtin.copy_, run_underlying hu, Builtin.lenOf, Builtin.firstCells, sizeOf, typeInfo, hi, storeCells, hl]
  · obtain ⟨ad, rfl, hc⟩ := hsrc hn
    have hl := run_loadCells_list (P := P) w ad cs hc
    have hst := run_storeCells_at P g 0 t cs 0 cur w hg (by simp; omega) h1
    rw [hcs] at hl
    refine ⟨_, by simp [Builtin.copy_, run_underlying hu, Builtin.lenOf, Builtin.firstCells, sizeOf, typeInfo, hi, hsz, hl, hst]; rfl, ?_, ?_⟩
    · have := setRow_heap w g cur (cs ++ cur.toList.drop (0 + cs.length)).toArray t (0, 0) hg
      have hd : cur.toList.drop cs.length = [] := List.drop_eq_nil_of_le (by simp; omega)
      simpa [hd] using this
    · exact ⟨rfl, rfl, rfl, by simp [World.setRow], fun k hk hne => setRow_other w g k _ (fun e => hne (by rw [e]))⟩
theorem wpList_copy_full {P : Program} {w : World} {ops : Array Oper} {rest : List Oper} {o : Oper} {a : Act} {Q : Exit → Act → World → Prop} (hgd : o.guard = none) (d s : Operand) (dT sT : TypeId)
    (ho : o.op = .call { callee := .builtin .copy, args := #[d, s], argTypes := #[dT, sT] }) (elem : TypeId) (i : TypeInfo) (size : Nat) (hu : P.underlying dT = some (.slice elem)) (hi : P.info? elem = some i) (hsz : i.size = size)
    (g n dc : Nat) (hd : a.eval d = .slice (some ⟨g, 0, none⟩) n dc) (cur : Array Value) (t : TypeId) (hg : HasBlk w g t cur) (hcur : cur.size = n * size)
    (B : Option Addr) (c : Nat) (hs : a.eval s = .slice B n c) (cs : List Value) (hcs : cs.length = n * size) (hsrc : 0 < n → ∃ ad, B = some ad ∧ ∀ j v, cs[j]? = some v → w.cell? (ad.add j) = some v) (h1 : ∀ v ∈ cs, v.oneCell' = true)
    (h : ∀ w', HasBlk w' g t cs.toArray → w.grownBy w' (some g) → wpList P ops Q rest (a.put o.dst (goInt n)) w') : wpList P ops Q (o :: rest) a w := by
  refine wpList_plain hgd fun K hK => ?_
  obtain ⟨w', hrun, h2, h3⟩ := run_copy_full (P := P) (w := w) dT sT o.type elem i size hu hi hsz g n dc cur t hg hcur B c cs hcs hsrc h1
  unfold Oper.wp
  simp [execOp, ho, resolve, invoke, builtin, hd, hs, hrun, Result.andThen]
  exact hK _ _ (h w' h2 h3)
end Go.Proofs.Ytibeoeooajelgaa
