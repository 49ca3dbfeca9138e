/- The reference's SameAll. -/
import Derived.Test.YtgcappooiecaiaaW20
import Derived.Test.YtgcappooiecaiaaW15
namespace Go.Proofs.Ytgcappooiecaiaa
open Go.RowKit
set_option linter.unusedVariables false
attribute [local go_sem ↓] Go.wp_at_zero Go.wp_at_succ

/-- Two textures' cells say the same. -/
def TexD.like (d d' : TexD) : Prop := SameT d.W d'.W d.H d'.H d.n d'.n d.f d'.f
theorem same28_true (W W' H H' : Int) (A B : Option Addr) (n m c d : Nat) (F G : Nat → Nat → Int) (w : World) (hA : Px w A n F) (hB : Px w B m G) (hn : (n : Int) ≤ 9223372036854775807) (hm : (m : Int) ≤ 9223372036854775807) (hs : SameT W W' H H' n m F G) :
    Calls Try.prog 28 #[.agg #[.int .i64 W, .int .i64 H, .slice A n c], .agg #[.int .i64 W', .int .i64 H', .slice B m d]] w fun e w' => e = .returned (.bool true) ∧ Below w.heap.size w w' :=
  (same28 W W' H H' A B n m c d F G w hA hB hn hm).mono fun e w' ⟨⟨b, he, hb⟩, hbel⟩ => ⟨by rw [he, hb.2 hs], hbel⟩

set_option maxRecDepth 100000 in
set_option maxHeartbeats 2000000 in
theorem sameall_true (A B : Option Addr) (m c d : Nat) (D D' : Nat → TexD) (w : World) (hA : TL w A m D) (hB : TL w B m D') (hm : (m : Int) ≤ 9223372036854775807) (hn : ∀ i, i < m → ((D i).n : Int) ≤ 9223372036854775807) (hs : ∀ i, i < m → (D i).like (D' i)) :
    Calls Try.prog 36 #[.slice A m c, .slice B m d] w fun e w' => e = .returned (.bool true) ∧ Below w.heap.size w w' := by
  have HA := Lib.hid hA
  have HB := Lib.hid hB
  have Hs := Lib.hid hs
  have Hn := Lib.hid hn
  clear hA hB hs hn
  go_enter Try.func36, Try.ntmps36
  go_wp2
  go_loopw [5] (fun i wr => ∃ k : Nat, k ≤ m ∧ i = .int .i64 k ∧ Below w.heap.size w wr) (fun i wr => m - (intOf i).toNat)
  case atStart => exact ⟨0, Nat.zero_le _, rfl, Below.refl _ _⟩
  case round =>
    obtain ⟨k, hk, rfl, hbel⟩ := hrel
    by_cases hkm : k < m
    · obtain ⟨g, o, rfl, hg, hc, hp⟩ := HA.out (by omega)
      obtain ⟨g', o', rfl, hg', hc', hp'⟩ := HB.out (by omega)
      obtain ⟨c0, c1, c2⟩ := hc k hkm
      obtain ⟨d0, d1, d2⟩ := hc' k hkm
      have hlk := Hs.out k hkm
      have hnn := Hn.out k hkm
      have hsame := Lib.hid (fun W (h : Below w.heap.size w W) => same28_true (D k).W (D' k).W (D k).H (D' k).H (D k).a (D' k).a (D k).n (D' k).n (D k).c (D' k).c (D k).f (D' k).f W ((hp k hkm).below h) ((hp' k hkm).below h) hnn (by rw [← hlk.2.2.1]; exact hnn) hlk)
      have hkp : Keeps (fun Wo => (Below w.heap.size w Wo ∧ w.heap.size ≤ Wo.heap.size) ∧ Wo.cell? ⟨g, o + k * 3, none⟩ = some (.int .i64 (D k).W) ∧ Wo.cell? ⟨g, o + k * 3 + 1, none⟩ = some (.int .i64 (D k).H) ∧ Wo.cell? ⟨g, o + k * 3 + 2, none⟩ = some (.slice (D k).a (D k).n (D k).c) ∧ Wo.cell? ⟨g', o' + k * 3, none⟩ = some (.int .i64 (D' k).W) ∧ Wo.cell? ⟨g', o' + k * 3 + 1, none⟩ = some (.int .i64 (D' k).H) ∧ Wo.cell? ⟨g', o' + k * 3 + 2, none⟩ = some (.slice (D' k).a (D' k).n (D' k).c)) := by
        repeat' (first | exact Keeps.below _ | exact Keeps.size _ | exact Keeps.cell _ _ | apply Keeps.and)
      have e0 := (hbel.cell (p := ⟨g, o + k * 3, none⟩) hg).trans c0
      have e1 := (hbel.cell (p := ⟨g, o + k * 3 + 1, none⟩) hg).trans c1
      have e2 := (hbel.cell (p := ⟨g, o + k * 3 + 2, none⟩) hg).trans c2
      have f0 := (hbel.cell (p := ⟨g', o' + k * 3, none⟩) hg').trans d0
      have f1 := (hbel.cell (p := ⟨g', o' + k * 3 + 1, none⟩) hg').trans d1
      have f2 := (hbel.cell (p := ⟨g', o' + k * 3 + 2, none⟩) hg').trans d2
      have zb := hbel.size
      have hi : (k : Int) < (m : Int) := by omega
      have hi0 : (0 : Int) ≤ (k : Int) := by omega
      clear hc hc' hp hp' c0 c1 c2 d0 d1 d2 hlk hnn
      go_wp2_with fail
      go_region_held3 (fun Wo => (Below w.heap.size w Wo ∧ w.heap.size ≤ Wo.heap.size) ∧ Wo.cell? ⟨g, o + k * 3, none⟩ = some (.int .i64 (D k).W) ∧ Wo.cell? ⟨g, o + k * 3 + 1, none⟩ = some (.int .i64 (D k).H) ∧ Wo.cell? ⟨g, o + k * 3 + 2, none⟩ = some (.slice (D k).a (D k).n (D k).c) ∧ Wo.cell? ⟨g', o' + k * 3, none⟩ = some (.int .i64 (D' k).W) ∧ Wo.cell? ⟨g', o' + k * 3 + 1, none⟩ = some (.int .i64 (D' k).H) ∧ Wo.cell? ⟨g', o' + k * 3 + 2, none⟩ = some (.slice (D' k).a (D' k).n (D' k).c))
        (first | exact hkp _ _ hbel' (by assumption) | (refine ⟨⟨?_, by first | omega | (simp; done) | (simp; omega)⟩, by simp [go_sem, *], by simp [go_sem, *], by simp [go_sem, *], by simp [go_sem, *], by simp [go_sem, *], by simp [go_sem, *]⟩; repeat' (first | exact Below.refl _ _ | assumption | apply Below.drew | refine Below.setCell ?_ (by first | omega | (simp; done) | (simp; omega)) _ | refine Below.alloc ?_ (by first | omega | (simp; done) | (simp; omega)) _)) | fail "keep")
        (first | (go_at_call 28; (with_reducible refine (hsame.out _ ?_).mono ?_); (first | exact (‹(Below w.heap.size w _ ∧ _) ∧ _›).1.1 | (repeat' (first | exact Below.refl _ _ | assumption | apply Below.drew | refine Below.setCell ?_ (by first | omega | (simp; done) | (simp; omega)) _ | refine Below.alloc ?_ (by first | omega | (simp; done) | (simp; omega)) _))); rintro e w' ⟨rfl, hbel'⟩))
      go_wp2
      go_roundw
      case rel => exact ⟨k + 1, by omega, by go_num, (‹(Below w.heap.size w _ ∧ _) ∧ _›).1.1⟩
      case measure => simp [intOf]; omega
    · obtain rfl : k = m := by omega
      go_wp2
      go_ret
      exact ⟨rfl, hbel⟩
end Go.Proofs.Ytgcappooiecaiaa
