/- Blocks that are known whole, and rows of the call's own: what becomes of them. Over any program. -/
import Derived.Test.YtemopgpcpjnmkaaDoorLib
import Derived.Maps.AppendAt
import Derived.Laws.OwnMore
import Derived.OneCell
namespace Go.Proofs.YtemopgpcpjnmkaaDoor
open Go.RowKit
set_option linter.unusedVariables false

/-- Block g is just these cells of type t; none is frozen. -/
def HasBlk (w : World) (g : Nat) (t : TypeId) (cs : Array Value) : Prop := w.heap[g]? = some (.cells cs t (0, 0))
section
variable {w w' : World} {g : Nat} {t : TypeId} {cs : Array Value}
theorem HasBlk.lt (h : HasBlk w g t cs) : g < w.heap.size := (Array.getElem?_eq_some_iff.1 h).1
theorem HasBlk.cell (h : HasBlk w g t cs) (i : Nat) : w.cell? ⟨g, i, none⟩ = cs[i]? := cell_of_row w g i cs t (0, 0) h
theorem HasBlk.frozen (h : HasBlk w g t cs) (i : Nat) : w.frozen? ⟨g, i, none⟩ = false := by
  have h' : w.heap[g]? = some (.cells cs t (0, 0)) := h
  simp [World.frozen?, h']
theorem hasBlk_new (w : World) (t : TypeId) (cs : Array Value) : HasBlk (w.alloc (.cells cs t)) w.heap.size t cs := heap_alloc_new w _
theorem HasBlk.drew (h : HasBlk w g t cs) : HasBlk w.drew g t cs := h
theorem HasBlk.alloc (h : HasBlk w g t cs) (o : Obj) : HasBlk (w.alloc o) g t cs := (Below.heap_alloc w o g h.lt).trans h
theorem HasBlk.below (h : HasBlk w g t cs) (hb : Below w.heap.size w w') : HasBlk w' g t cs := (hb.block g h.lt).trans h
theorem HasBlk.set (h : HasBlk w g t cs) (i : Nat) (u : Value) : HasBlk (w.setCell ⟨g, i, none⟩ u) g t (cs.setIfInBounds i u) := by
  have h' : w.heap[g]? = some (.cells cs t (0, 0)) := h
  simp [HasBlk, World.setCell, Array.getElem?_modify, h']
theorem HasBlk.far (h : HasBlk w g t cs) {p : Addr} (hp : p.block ≠ g) (u : Value) : HasBlk (w.setCell p u) g t cs := (Below.heap_setCell w p u g (Ne.symm hp)).trans h
theorem HasBlk.grown {row : Option Nat} (h : HasBlk w g t cs) (hb : w.grownBy w' row) (hg : row ≠ some g) : HasBlk w' g t cs := (hb.block g h.lt (fun e => hg e.symm)).trans h
theorem HasBlk.ne_own {base e size n : Nat} {v : Value} {xs : List Value} (h : HasBlk w g t cs) (ho : w.ownsRow base e size v n xs) (hne : e ≠ t) : v.ownBlock ≠ some g := by
  rcases ho.2 with ⟨rfl, _⟩ | ⟨k, cap, cur, rfl, _, hk, _⟩
  · simp [Value.ownBlock]
  · intro he
    have hkg : k = g := by simpa [Value.ownBlock] using he
    subst hkg
    have h' : w.heap[k]? = some (.cells cs t (0, 0)) := h
    rw [h'] at hk
    injection hk with hk
    injection hk with _ ht
    exact hne ht.symm
end
theorem grown_of_below {w w' : World} (h : Below w.heap.size w w') : w.grownBy w' none := ⟨h.os, h.tape, h.output, h.size, fun k hk _ => h.block k hk⟩
section
variable {w w' : World} {base e size n : Nat} {v : Value} {xs : List Value}
theorem own_below (h : w.ownsRow base e size v n xs) (hb : Below w.heap.size w w') : w'.ownsRow base e size v n xs := by
  refine h.kept (grown_of_below hb) ?_
  cases hv : v.ownBlock with
  | none => exact .inl rfl
  | some k => exact .inr (by simp)
theorem own_drew (h : w.ownsRow base e size v n xs) : w.drew.ownsRow base e size v n xs := h
/-- Where the call's own row lies: nowhere yet, or in a block from base on, whose first cells are xs. -/
theorem own_at (h : w.ownsRow base e size v n xs) : ∃ A c, v = .slice A n c ∧ n ≤ c ∧ c ≤ maxLen ∧ (0 < n → ∃ g, A = some ⟨g, 0, none⟩ ∧ base ≤ g ∧ g < w.heap.size ∧ ∀ j, j < n * size → w.cell? ⟨g, j, none⟩ = xs[j]?) := by
  rcases h.2 with ⟨rfl, rfl⟩ | ⟨g, cap, cur, rfl, hb, hg, hn, hc, _, _⟩
  · exact ⟨none, 0, rfl, Nat.le_refl _, Nat.zero_le _, fun h0 => absurd h0 (by omega)⟩
  · exact ⟨_, cap, rfl, hn, hc, fun _ => ⟨g, rfl, hb, (Array.getElem?_eq_some_iff.1 hg).1, fun j hj => h.cellAt j hj⟩⟩
/-- Below the base nothing has turned, behind a step that may have written the row. -/
theorem below_grown {a : World} {B : Nat} (h : Below B a w) (hg : w.grownBy w' v.ownBlock) (ho : w.ownsRow base e size v n xs) (hB : B ≤ base) (hs : B ≤ w.heap.size) : Below B a w' :=
  h.grown hg hs (fun k hk => Nat.le_trans hB (ho.lt k hk).1)
end
end Go.Proofs.YtemopgpcpjnmkaaDoor
