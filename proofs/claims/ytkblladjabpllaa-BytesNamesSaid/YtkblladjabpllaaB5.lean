/- Bytes: their strings, and where they come from. -/
import Derived.Test.YtkblladjabpllaaApp
import Derived.Test.YtkblladjabpllaaArg
import Derived.Test.YtkblladjabpllaaB4
import Derived.Laws.BytesArg
namespace Go.Proofs.Ytkblladjabpllaa
open Go.RowKit
set_option linter.unusedVariables false

/-- The string of n bytes. -/
def strB (n : Nat) (b : Nat → Nat) : ByteArray := strOfNums ((List.range n).map fun i => ((b i : Nat) : Int))
theorem strB_congr {n : Nat} {b b' : Nat → Nat} (h : ∀ i, i < n → b i = b' i) : strB n b = strB n b' := by
  unfold strB
  congr 1
  refine List.map_congr_left fun i hi => ?_
  rw [h i (List.mem_range.1 hi)]
theorem conv_bytes {w : World} {A : Option Addr} {n c : Nat} {b : Nat → Nat} (h : BS w A n b) :
    (convert 22 9 (.slice A n c)).run Try.prog w = .ok (.string (strB n b)) w := by
  rcases Nat.eq_zero_or_pos n with rfl | hn
  · have e : strB 0 b = ByteArray.empty := rfl
    rw [e]
    cases A with
    | none => exact run_convert_bytes_nil w 22 5 Try.underlying22 Try.underlying5 0 c 9 Try.underlying9
    | some a =>
      rw [run_convert_bytes_string w 22 9 5 _ 0 c Try.underlying22 Try.underlying5 Try.underlying9]
      simp [Conv.bytesToString, loadCells, loadCellsFrom]
  · obtain ⟨g, off, rfl, hg, hc⟩ := h hn
    refine run_convert_bytes_arg w 22 5 Try.underlying22 Try.underlying5 g off n c _ (by simp) (fun i hi => ?_) 9 Try.underlying9
    rw [hc i hi]
    simp [List.getD, hi]

/-- The cells of n bytes. -/
def cellsB (n : Nat) (b : Nat → Nat) : List Value := (List.range n).map fun i => bv (b i)
theorem cellsB_len (n : Nat) (b : Nat → Nat) : (cellsB n b).length = n := by simp [cellsB]
theorem cellsB_at {n : Nat} {b : Nat → Nat} {i : Nat} (h : i < n) : (cellsB n b)[i]? = some (bv (b i)) := by simp [cellsB, h]
theorem cellsB_one (n : Nat) (b : Nat → Nat) : ∀ u ∈ cellsB n b, u.oneCell' = true := by
  intro u hu
  obtain ⟨i, _, rfl⟩ := List.mem_map.1 hu
  rfl
theorem BS.news {w : World} {A : Option Addr} {n : Nat} {b : Nat → Nat} (h : BS w A n b) : 0 < n → ∃ ad, A = some ad ∧ ∀ j u, (cellsB n b)[j]? = some u → w.cell? (ad.add j) = some u := by
  intro hn
  obtain ⟨g, off, rfl, hg, hc⟩ := h hn
  refine ⟨_, rfl, fun j u hj => ?_⟩
  have hjn : j < n := by
    have := (List.getElem?_eq_some_iff.1 hj).1
    simpa [cellsB] using this
  rw [cellsB_at hjn] at hj
  rw [← hj, Addr.add_lit, hc j hjn]
  rfl
theorem BS.of_own {w : World} {base : Nat} {A : Option Addr} {n c : Nat} {l : List Value} (h : w.ownsRow base 5 1 (.slice A n c) n l) (b : Nat → Nat) (hl : ∀ i, i < n → l[i]? = some (bv (b i))) : BS w A n b := by
  intro hn
  obtain ⟨A', c', e, _, _, hat⟩ := own_at h
  injection e with e1 _ _
  subst e1
  obtain ⟨g, rfl, hb, hg, hc⟩ := hat hn
  refine ⟨g, 0, rfl, hg, fun i hi => ?_⟩
  rw [Nat.zero_add, hc i (by omega), hl i hi]
  rfl
theorem BS.of_bytes {w : World} {base : Nat} {A : Option Addr} {c : Nat} {l : List Nat} (h : Bytes w base (.slice A l.length c) l) : BS w A l.length (fun i => l.getD i 0) :=
  BS.of_own h _ fun i hi => by simp [List.getD, hi]

/-- An argument of bytes. -/
theorem arg_bytes {w : World} {v : Value} (h : Arg Try.prog w 22 v) : ∃ A n c b, v = .slice A n c ∧ (n ≤ c ∧ c ≤ maxLen) ∧ (∀ i, b i < 256) ∧ BS w A n b := by
  obtain ⟨A, n, c, rfl, hr⟩ := h.slice Try.underlying22
  obtain ⟨A', n', c', e, hnc, hcm, hat⟩ := hr.slice Try.underlying22 (of_decide_eq_true (by kernel_rfl))
  simp only [List.cons.injEq, Value.slice.injEq, and_true] at e
  obtain ⟨rfl, rfl, rfl⟩ := e
  have hk : Try.prog.cellsOf 5 = 1 := by kernel_rfl
  rcases Nat.eq_zero_or_pos n with rfl | hn
  · exact ⟨A, 0, c, fun _ => 0, rfl, ⟨hnc, hcm⟩, fun _ => (by decide : 0 < 256), fun h => absurd h (by omega)⟩
  · obtain ⟨g, off, rfl, hg, hc⟩ := hat (by omega)
    have hx : ∀ i, ∃ x : Nat, x < 256 ∧ (i < n → w.cell? ⟨g, off + i, none⟩ = some (.int .u8 (x : Int))) := by
      intro i
      by_cases hi : i < n
      · obtain ⟨cs', hl, hcell, hrd⟩ := hc i (by omega)
        obtain ⟨x, rfl, hwf⟩ := hrd.int Try.underlying5
        have hb : 0 ≤ x ∧ x < 256 := by
          simp [Lit.wf, IntKind.min, IntKind.max, IntKind.bits, IntKind.signed] at hwf
          omega
        have h0 := hcell 0 (by omega)
        rw [hk] at h0
        simp only [Nat.mul_one, Nat.add_zero] at h0
        refine ⟨x.toNat, by omega, fun _ => ?_⟩
        rw [h0]
        have : ((x.toNat : Nat) : Int) = x := by omega
        rw [this]; rfl
      · exact ⟨0, by omega, fun h => absurd h hi⟩
    obtain ⟨b, hb⟩ := Classical.axiomOfChoice hx
    exact ⟨_, n, c, b, rfl, ⟨hnc, hcm⟩, fun i => (hb i).1, fun _ => ⟨g, off, rfl, hg, fun i hi => (hb i).2 hi⟩⟩
end Go.Proofs.Ytkblladjabpllaa
