/- nodes: a set of handles, kept in a map of the call's own. -/
import Derived.Test.YtgkeiaggldahnaaProg
import Derived.Maps.OwnSet
import Derived.Maps.Views
import Derived.DeepKeys4
import Derived.KernelRfl
namespace Go.Proofs.Ytgkeiaggldahnaa
open Go.RowKit Go.Maps Go.MapKept Go.ChangeMaps
set_option linter.unusedVariables false
/-- A number of int64. -/
def okI (x : Int) : Prop := (Lit.int .i64 x).wf = true
/-- What a handle reads as, as a key. -/
def hkey (s q : Int) : Lit := .string (keyBytes [.int .i64 s, .int .i64 q])
/-- A handle. -/
abbrev hval (s q : Int) : Value := .agg #[.int .i64 s, .int .i64 q]
theorem laid_outM : laidOutB Try.prog = true := by kernel_rfl
theorem row_handle : (29 : TypeId) < Try.prog.types.size := of_decide_eq_true (by kernel_rfl)
theorem deep_handle : Try.prog.keyTypeAt 2 29 = true := by kernel_rfl
theorem key_handle : Keyed Try.prog 29 := by
  have h1 := deep_handle
  have h2 := row_handle
  have h3 := Try.underlying29
  have h4 := laid_outM
  generalize Try.prog = P at *
  exact Keyed.of_law (deep_law_laid h4 (m := 2) (by decide) h2 h1 (by rw [h3]))
theorem cells_handle : Try.prog.cellsOf 29 = 2 := by kernel_rfl
theorem cells_intM : Try.prog.cellsOf 3 = 1 := by kernel_rfl
theorem keyt_handle : Try.prog.keyType 29 = true := by kernel_rfl
theorem size_types : ∃ m, Try.prog.types.size = m + 1 := ⟨_, rfl⟩
theorem keyOf_handle {s q : Int} (hs : okI s) (hq : okI q) : keyOf Try.prog 29 (hval s q) = some (hkey s q) := by
  unfold keyOf
  simp only [Try.underlying29]
  rw [if_pos (by simp [keyt_handle, Value.formed, Try.underlying29, cells_handle])]
  obtain ⟨m, hm⟩ := size_types
  rw [hm]
  unfold Program.keyLits
  simp only [Try.underlying29, Value.cells]
  rw [if_pos (by rw [cells_handle]; simp)]
  unfold okI at hs hq
  simp [Program.keyLits, Try.underlying3, cells_intM, hs, hq, hkey]
theorem hkey_inj {s q s' q' : Int} (hs : okI s) (hq : okI q) (hs' : okI s') (hq' : okI q') (h : hkey s q = hkey s' q') : s = s' ∧ q = q' := by
  have h1 := keyOf_handle hs hq
  have h2 := keyOf_handle hs' hq'
  rw [← h] at h2
  have h3 := key_handle.inj h1 h2
  simp only [Value.agg.injEq, Array.mk.injEq, List.cons.injEq, Value.int.injEq, true_and, and_true] at h3
  exact h3
theorem zero_bool (w : World) : (zeroValue 4).run Try.prog w = .ok (.bool false) w := by kernel_rfl
/-- Block b is a map of at most n entries; what it answers to handles is S. -/
def SetS (w : World) (b n : Nat) (S : Int → Int → Bool) : Prop :=
  ∃ D : DataW Unit, w.ownsMap Try.prog 29 (plainElem Try.prog 4) b n D ∧ ∀ s q, okI s → okI q → D.atKey (hkey s q) (.lit (.bool false)) = .lit (.bool (S s q))
theorem SetS.made (w : World) : SetS (w.alloc (.map #[] 0)) w.heap.size 0 (fun _ _ => false) :=
  ⟨.map [], World.ownsMap_made w _ _ _, fun _ _ _ _ => rfl⟩
theorem SetS.lt {w : World} {b n : Nat} {S : Int → Int → Bool} (h : SetS w b n S) : b < w.heap.size := by
  obtain ⟨D, h, _⟩ := h
  exact h.lt
theorem SetS.isMap {w : World} {b n : Nat} {S : Int → Int → Bool} (h : SetS w b n S) : ∃ es clock, w.heap[b]? = some (.map es clock) := by
  obtain ⟨D, ⟨es, clock, h, _⟩, _⟩ := h
  exact ⟨es, clock, h⟩
theorem SetS.mono {w : World} {b n n' : Nat} {S : Int → Int → Bool} (h : SetS w b n S) (hn : n ≤ n') : SetS w b n' S := by
  obtain ⟨D, h, h'⟩ := h
  exact ⟨D, h.mono hn, h'⟩
theorem SetS.kept {w w' : World} {b n : Nat} {S : Int → Int → Bool} (h : SetS w b n S) {row : Option Nat} (hg : w.grownBy w' row) (hne : some b ≠ row) : SetS w' b n S := by
  obtain ⟨D, h, h'⟩ := h
  exact ⟨D, h.kept hg hne, h'⟩
set_option maxRecDepth 100000 in
theorem SetS.look {w : World} {b n : Nat} {S : Int → Int → Bool} (h : SetS w b n S) {s q : Int} (hs : okI s) (hq : okI q) :
    (Instr.lookup 90 (.map (some b)) (hval s q) false).run Try.prog w = .ok (.bool (S s q)) w := by
  obtain ⟨D, h, hS⟩ := h
  obtain ⟨v, ps, hrun, hv⟩ := h.lookup key_handle Try.underlying90 (zero_bool w) (plainElem_bool Try.underlying4 false) (keyOf_handle hs hq)
  rw [hS s q hs hq] at hv
  rw [hrun]
  unfold plainElem at hv
  rw [Try.underlying4] at hv
  cases v <;> simp at hv
  obtain ⟨hv, _⟩ := hv
  subst hv
  rfl
theorem SetS.mark {w : World} {b n : Nat} {S : Int → Int → Bool} (h : SetS w b n S) (hn : n < maxLen) {s q : Int} (hs : okI s) (hq : okI q) :
    ∃ w', (Instr.mapUpdate 90 (.map (some b)) (hval s q) (.bool true)).run Try.prog w = .ok () w' ∧ SetS w' b (n + 1) (fun s' q' => if s' = s ∧ q' = q then true else S s' q') ∧ w.grownBy w' (some b) := by
  obtain ⟨D, h, hS⟩ := h
  obtain ⟨w', hrun, hown, hg⟩ := h.update (val := .bool true) key_handle Try.underlying90 hn (keyOf_handle hs hq) (plainElem_bool Try.underlying4 true)
  refine ⟨w', hrun, ⟨_, hown, fun s' q' hs' hq' => ?_⟩, hg⟩
  by_cases e : s' = s ∧ q' = q
  · obtain ⟨rfl, rfl⟩ := e
    dsimp only
    rw [if_pos ⟨rfl, rfl⟩, Maps.atKey_put_same (h.isMap) (by trivial)]
  · dsimp only
    rw [if_neg e, Maps.atKey_put_other (fun e' => e (hkey_inj hs' hq' hs hq e')), hS s' q' hs' hq']
theorem SetS.wipe {w : World} {b n : Nat} {S : Int → Int → Bool} (h : SetS w b n S) :
    ∃ w', (∀ ty : TypeId, (Builtin.clear_ #[90] ty #[.map (some b)]).run Try.prog w = .ok (.tuple #[]) w') ∧ SetS w' b 0 (fun _ _ => false) ∧ w.grownBy w' (some b) := by
  obtain ⟨es, clock, hb⟩ := h.isMap
  refine ⟨setBlock w b (.map #[] clock), fun ty => ?_, ⟨.map [], ⟨#[], clock, heap_setBlock_same hb _, ⟨by simp, stamped_empty clock, by simp⟩, Nat.le_refl _, rfl⟩, fun _ _ _ _ => rfl⟩, ⟨rfl, rfl, rfl, by simp [setBlock], fun i _ hi => heap_setBlock_other hb _ (fun e => hi (by rw [e]))⟩⟩
  simp [Builtin.clear_, run_underlying Try.underlying90, MapKept.run_getObj_map hb, MapKept.run_setObj_map _ hb, Result.andThen, setBlock]
end Go.Proofs.Ytgkeiaggldahnaa
