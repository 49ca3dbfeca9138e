/- What loops that write over blocks of a set S leave as it was. Over any program. -/
import Derived.Test.YtgkeiaggldahnaaOwn
namespace Go.Proofs.Ytgkeiaggldahnaa
open Go.RowKit
set_option linter.unusedVariables false
/-- Behind w only blocks of S have been written (their cells are cells still), and blocks made. -/
structure Spo (S : Nat → Prop) (w w' : World) : Prop where
  os : w'.os = w.os
  tape : w'.tape = w.tape
  output : w'.output = w.output
  size : w.heap.size ≤ w'.heap.size
  block : ∀ k, k < w.heap.size → ¬ S k → w'.heap[k]? = w.heap[k]?
  cell : ∀ (a : Addr) (v : Value), w.cell? a = some v → ∃ v', w'.cell? a = some v'
  frozen : ∀ a : Addr, a.block < w.heap.size → w'.frozen? a = w.frozen? a
section
variable {S : Nat → Prop} {w w' w'' : World}
theorem Spo.refl (S : Nat → Prop) (w : World) : Spo S w w := ⟨rfl, rfl, rfl, Nat.le_refl _, fun _ _ _ => rfl, fun a v h => ⟨v, h⟩, fun _ _ => rfl⟩
theorem Spo.drew (h : Spo S w w') : Spo S w w'.drew := ⟨h.os, h.tape, h.output, h.size, h.block, h.cell, h.frozen⟩
theorem Spo.drewN (h : Spo S w w') (n : Nat) : Spo S w (w'.drewN n) := ⟨h.os, h.tape, h.output, h.size, h.block, h.cell, h.frozen⟩
theorem Spo.set (h : Spo S w w') {p : Addr} (hp : S p.block) (u : Value) : Spo S w (w'.setCell p u) where
  os := h.os
  tape := h.tape
  output := h.output
  size := by simpa using h.size
  block k hk hs := (Below.heap_setCell w' p u k (fun e => hs (e ▸ hp))).trans (h.block k hk hs)
  cell a v ha := by
    obtain ⟨v', h'⟩ := h.cell a v ha
    exact cell?_setCell_some (w := w') (p := p) (x := u) (q := a) h'
  frozen a ha := by rw [World.frozen?_setCell]; exact h.frozen a ha
theorem Spo.below (h : Spo S w w') {B : Nat} (hS : ∀ g, S g → B ≤ g) (hB : B ≤ w.heap.size) : Below B w w' :=
  ⟨h.os, h.tape, h.output, h.size, fun k hk => h.block k (by omega) (fun hs => by have := hS k hs; omega)⟩
theorem Spo.blk (h : Spo S w w') {g : Nat} {t : TypeId} {cs : Array Value} (hg : HasBlk w g t cs) (hs : ¬ S g) : HasBlk w' g t cs := (h.block g hg.lt hs).trans hg
theorem Spo.at (h : Spo S w w') {a : Addr} (hl : a.block < w.heap.size) (hs : ¬ S a.block) : w'.cell? a = w.cell? a := by
  have hb := h.block a.block hl hs
  simp only [World.cell?, hb]
theorem Spo.step (h : Spo S w w') (hb : Below w'.heap.size w' w'') : Spo S w w'' where
  os := hb.os.trans h.os
  tape := hb.tape.trans h.tape
  output := hb.output.trans h.output
  size := Nat.le_trans h.size hb.size
  block k hk hs := (hb.block k (Nat.lt_of_lt_of_le hk h.size)).trans (h.block k hk hs)
  cell a v ha := by
    obtain ⟨v', h'⟩ := h.cell a v ha
    exact ⟨v', (hb.cell (World.block_lt_of_cell? w' a h')).trans h'⟩
  frozen a ha := (hb.frozen (Nat.lt_of_lt_of_le ha h.size)).trans (h.frozen a ha)
/-- A row of the call's own: its cells may be written. -/
theorem own_w {w : World} {B e s n c : Nat} {A : Option Addr} {xs : List Value} (h : w.ownsRow B e s (.slice A n c) n xs) (hn : 0 < n) :
    ∃ g, A = some ⟨g, 0, none⟩ ∧ B ≤ g ∧ g < w.heap.size ∧ (Value.slice A n c).ownBlock = some g ∧ (∀ j, j < n * s → ∃ v, w.cell? ⟨g, j, none⟩ = some v) ∧ ∀ j, w.frozen? ⟨g, j, none⟩ = false := by
  obtain ⟨A', c', e', _, _, hat⟩ := own_at h
  injection e' with e1 _ e3
  subst e1 e3
  obtain ⟨g, rfl, hb, hg, hc⟩ := hat hn
  refine ⟨g, rfl, hb, hg, rfl, fun j hj => ?_, fun j => h.frozenAt j⟩
  have hl : xs.length = n * s := h.1
  exact ⟨xs[j]'(by omega), (hc j hj).trans (List.getElem?_eq_getElem (by omega))⟩
end
end Go.Proofs.Ytgkeiaggldahnaa
