/- TextureTells: pieces. -/
import Derived.Test.YtgcappooiecaiaaW22
namespace Go.Proofs.Ytgcappooiecaiaa
open Go.RowKit
set_option linter.unusedVariables false

open Classical in
/-- The error of At. -/
noncomputable def AtE (W H : Int) (n : Nat) (u v : Int) : Int := if ¬ May W H n then 8 else if (0 ≤ u ∧ u ≤ 255) ∧ (0 ≤ v ∧ v ≤ 255) then 0 else 2
/-- The texel of At. -/
noncomputable def AtC (W H : Int) (n : Nat) (f : Nat → Nat → Int) (u v : Int) (j : Nat) : Int := if AtE W H n u v = 0 then f (tix W H u v).toNat j else 0
theorem at21_any (W H u v : Int) (A : Option Addr) (n c : Nat) (f : Nat → Nat → Int) (w : World) (hp : Px w A n f) :
    Calls Try.prog 21 #[.agg #[.int .i64 W, .int .i64 H, .slice A n c], .int .i64 u, .int .i64 v] w fun e w' => e = .returned (.tuple #[.agg #[.int .u8 (AtC W H n f u v 0), .int .u8 (AtC W H n f u v 1), .int .u8 (AtC W H n f u v 2), .int .u8 (AtC W H n f u v 3)], .int .i64 (AtE W H n u v)]) ∧ Below w.heap.size w w' := by
  unfold AtC
  by_cases hm : May W H n
  · by_cases h : (0 ≤ u ∧ u ≤ 255) ∧ (0 ≤ v ∧ v ≤ 255)
    · have e : AtE W H n u v = 0 := by unfold AtE; rw [if_neg (by simpa using hm), if_pos h]
      rw [e]
      exact at_ok W H u v A n c f w hm hp h.1.1 h.1.2 h.2.1 h.2.2
    · have e : AtE W H n u v = 2 := by unfold AtE; rw [if_neg (by simpa using hm), if_neg h]
      rw [e]
      exact at_arg W H u v A n c w hm h
  · have e : AtE W H n u v = 8 := by unfold AtE; rw [if_pos hm]
    rw [e]
    exact at_bad W H u v A n c w hm
theorem at26_any (W H u v : Int) (A : Option Addr) (n c : Nat) (f : Nat → Nat → Int) (w : World) (hp : Px w A n f) :
    Calls Try.prog 26 #[.agg #[.int .i64 W, .int .i64 H, .slice A n c], .int .i64 u, .int .i64 v] w fun e w' => e = .returned (.tuple #[.agg #[.int .u8 (AtC W H n f u v 0), .int .u8 (AtC W H n f u v 1), .int .u8 (AtC W H n f u v 2), .int .u8 (AtC W H n f u v 3)], .int .i64 (AtE W H n u v)]) ∧ Below w.heap.size w w' := by
  unfold AtC
  by_cases hm : May W H n
  · by_cases h : (0 ≤ u ∧ u ≤ 255) ∧ (0 ≤ v ∧ v ≤ 255)
    · have e : AtE W H n u v = 0 := by unfold AtE; rw [if_neg (by simpa using hm), if_pos h]
      rw [e]
      exact refat_ok W H u v A n c f w hm hp h.1.1 h.1.2 h.2.1 h.2.2
    · have e : AtE W H n u v = 2 := by unfold AtE; rw [if_neg (by simpa using hm), if_neg h]
      rw [e]
      exact refat_arg W H u v A n c w hm h
  · have e : AtE W H n u v = 8 := by unfold AtE; rw [if_pos hm]
    rw [e]
    exact refat_bad W H u v A n c w hm
theorem same31_at (b : Bool) (W W' H H' : Int) (A B : Option Addr) (n m c d : Nat) (F G : Nat → Nat → Int) (w : World) (hA : Px w A n F) (hB : Px w B m G) (hn : (n : Int) ≤ 9223372036854775807) (hm : (m : Int) ≤ 9223372036854775807) (hs : b = true ↔ SameT W W' H H' n m F G) :
    Calls Try.prog 31 #[.agg #[.int .i64 W, .int .i64 H, .slice A n c], .agg #[.int .i64 W', .int .i64 H', .slice B m d]] w fun e w' => e = .returned (.bool b) ∧ Below w.heap.size w w' :=
  (same31 W W' H H' A B n m c d F G w hA hB hn hm).mono fun e w' ⟨⟨b', he, hb⟩, hbel⟩ => ⟨by rw [he]; have : b' = b := by { rw [Bool.eq_iff_iff]; exact hb.trans hs.symm }; rw [this], hbel⟩
theorem same28_at (b : Bool) (W W' H H' : Int) (A B : Option Addr) (n m c d : Nat) (F G : Nat → Nat → Int) (w : World) (hA : Px w A n F) (hB : Px w B m G) (hn : (n : Int) ≤ 9223372036854775807) (hm : (m : Int) ≤ 9223372036854775807) (hs : b = true ↔ SameT W W' H H' n m F G) :
    Calls Try.prog 28 #[.agg #[.int .i64 W, .int .i64 H, .slice A n c], .agg #[.int .i64 W', .int .i64 H', .slice B m d]] w fun e w' => e = .returned (.bool b) ∧ Below w.heap.size w w' :=
  (same28 W W' H H' A B n m c d F G w hA hB hn hm).mono fun e w' ⟨⟨b', he, hb⟩, hbel⟩ => ⟨by rw [he]; have : b' = b := by { rw [Bool.eq_iff_iff]; exact hb.trans hs.symm }; rw [this], hbel⟩
theorem sameT_refl (W H : Int) (n : Nat) (F : Nat → Nat → Int) : SameT W W H H n n F F := ⟨rfl, rfl, rfl, fun _ _ => ⟨rfl, rfl, rfl, rfl⟩⟩
theorem bool_of (p : Prop) : ∃ b : Bool, b = true ↔ p := by
  by_cases h : p
  · exact ⟨true, by simp [h]⟩
  · exact ⟨false, by simp [h]⟩

/-- What stands through the law's second half: the boxes and the copy. -/
structure Stay (w wr : World) (W H : Int) (A A1 A2 : Option Addr) (n c c1 c2 b9 b14 : Nat) (f : Nat → Nat → Int) : Prop where
  bel : Below w.heap.size w wr
  p5 : HasBlk wr w.heap.size 30 #[.int .i64 W, .int .i64 H, .slice A n c]
  p9 : HasBlk wr b9 30 #[.int .i64 W, .int .i64 H, .slice A1 n c1]
  p14 : HasBlk wr b14 30 #[.int .i64 W, .int .i64 H, .slice A2 n c2]
  r1 : Px wr A1 n f
theorem Stay.below {w wr w' : World} {W H : Int} {A A1 A2 : Option Addr} {n c c1 c2 b9 b14 : Nat} {f : Nat → Nat → Int} (h : Stay w wr W H A A1 A2 n c c1 c2 b9 b14 f) (hb : Below wr.heap.size wr w') : Stay w w' W H A A1 A2 n c c1 c2 b9 b14 f :=
  ⟨h.bel.trans (hb.mono h.bel.size), h.p5.below hb, h.p9.below hb, h.p14.below hb, h.r1.below hb⟩
/-- The copy that is spoilt: its block, and that its first bytes are there. -/
def Spoil (wr : World) (A2 : Option Addr) (n b5 b9 b14 : Nat) (A1 : Option Addr) : Prop :=
  0 < n → ∃ g cs, A2 = some ⟨g, 0, none⟩ ∧ HasBlk wr g 23 cs ∧ (∀ i, i < n → ∃ x, cs[i * 4]? = some (.int .u8 x)) ∧ g ≠ b5 ∧ g ≠ b9 ∧ g ≠ b14 ∧ (∀ a, A1 = some a → a.block ≠ g) ∧ b5 < g
theorem Stay.set {w wr : World} {W H : Int} {A A1 A2 : Option Addr} {n c c1 c2 b9 b14 : Nat} {f : Nat → Nat → Int} (h : Stay w wr W H A A1 A2 n c c1 c2 b9 b14 f) {g i : Nat} {u : Value} (h5 : g ≠ w.heap.size) (h9 : g ≠ b9) (h14 : g ≠ b14) (h1 : ∀ a, A1 = some a → a.block ≠ g) (hg : w.heap.size < g) :
    Stay w (wr.setCell ⟨g, i, none⟩ u) W H A A1 A2 n c c1 c2 b9 b14 f := by
  refine ⟨h.bel.setCell (p := ⟨g, i, none⟩) (by simp; omega) u, h.p5.far (p := ⟨g, i, none⟩) h5 u, h.p9.far (p := ⟨g, i, none⟩) h9 u, h.p14.far (p := ⟨g, i, none⟩) h14 u, fun hn => ?_⟩
  obtain ⟨b, off, e, hlt, hc⟩ := h.r1 hn
  refine ⟨b, off, e, by simpa using hlt, fun p hp j hj => ?_⟩
  have hne : b ≠ g := h1 _ e
  rw [← hc p hp j hj]
  exact World.cell?_setCell_far wr ⟨g, i, none⟩ ⟨b, off + p * 4 + j, none⟩ u (Ne.symm hne)
theorem Keeps.hasblk (g : Nat) (t : TypeId) (cs : Array Value) : Keeps (fun Wo => HasBlk Wo g t cs) := fun W W' hb hs => hs.below hb
theorem Spoil.below {wr w' : World} {A2 A1 : Option Addr} {n b5 b9 b14 : Nat} (h : Spoil wr A2 n b5 b9 b14 A1) (hb : Below wr.heap.size wr w') : Spoil w' A2 n b5 b9 b14 A1 := fun hn => by
  obtain ⟨g, cs, e, hg, h1⟩ := h hn
  exact ⟨g, cs, e, hg.below hb, h1⟩
theorem Spoil.set {wr : World} {A2 A1 : Option Addr} {n b5 b9 b14 : Nat} {g : Nat} (h : Spoil wr A2 n b5 b9 b14 A1) (hA : A2 = some ⟨g, 0, none⟩) (k : Nat) (y : Int) : Spoil (wr.setCell ⟨g, k * 4, none⟩ (.int .u8 y)) A2 n b5 b9 b14 A1 := fun hn => by
  obtain ⟨g', cs, e, hg, h1, h2⟩ := h hn
  rw [hA] at e
  injection e with e
  injection e with e _ _
  subst e
  refine ⟨g, _, hA, hg.set _ _, fun i hi => ?_, h2⟩
  obtain ⟨x, hx⟩ := h1 i hi
  rw [Array.getElem?_setIfInBounds]
  by_cases he : k * 4 = i * 4
  · rw [if_pos he, if_pos (by rw [he]; exact (Array.getElem?_eq_some_iff.1 hx).1)]
    exact ⟨y, rfl⟩
  · rw [if_neg he]
    exact ⟨x, hx⟩
theorem spoil_of_own {w : World} {B n c2 b5 b9 b14 : Nat} {A1 A2 : Option Addr} {f : Nat → Nat → Int} (h : w.ownsRow B 23 4 (.slice A2 n c2) n (cellsR 4 (fun p j => .int .u8 (f p j)) n)) (h5 : b5 < B) (h9 : b9 < B) (h14 : w.heap.size ≤ b14) (h1 : ∀ a, A1 = some a → a.block < B) : Spoil w A2 n b5 b9 b14 A1 := fun hn => by
  rcases h.2 with ⟨he, hx⟩ | ⟨g, cap, cur, he, hb, hg, _⟩
  · exfalso
    have := cellsR_len 4 (fun p j => Value.int .u8 (f p j)) n
    rw [hx] at this
    simp at this
    omega
  · injection he with e1 _ _
    subst e1
    have hk : HasBlk w g 23 cur := hg
    have hlt := hk.lt
    refine ⟨g, cur, rfl, hk, fun i hi => ?_, by omega, by omega, by omega, fun a ha => ?_, by omega⟩
    · have hc := h.cellAt (i * 4) (by omega)
      have hh := cellsR_at (s := 4) (F := fun p j => Value.int .u8 (f p j)) hi (show 0 < 4 by omega)
      rw [Nat.add_zero] at hh
      rw [hh, hk.cell] at hc
      exact ⟨_, hc⟩
    · have := h1 a ha
      omega
end Go.Proofs.Ytgcappooiecaiaa
