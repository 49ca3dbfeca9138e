/- The walk of bytes.Read. -/
import Derived.Test.YtkblladjabpllaaB2
namespace Go.Proofs.Ytkblladjabpllaa
open Go.RowKit
set_option linter.unusedVariables false

/-- A slice that reads as these bytes. -/
def BS (w : World) (A : Option Addr) (n : Nat) (b : Nat → Nat) : Prop :=
  0 < n → ∃ g off, A = some ⟨g, off, none⟩ ∧ g < w.heap.size ∧ ∀ i, i < n → w.cell? ⟨g, off + i, none⟩ = some (.int .u8 ((b i : Nat) : Int))
theorem BS.below {w w' : World} {A : Option Addr} {n : Nat} {b : Nat → Nat} (h : BS w A n b) (hb : Below w.heap.size w w') : BS w' A n b := fun hn => by
  obtain ⟨g, off, e, hl, hc⟩ := h hn
  exact ⟨g, off, e, Nat.lt_of_lt_of_le hl hb.size, fun i hi => (hb.cell (p := ⟨g, off + i, none⟩) hl).trans (hc i hi)⟩

set_option maxRecDepth 100000 in
set_option maxHeartbeats 1000000 in
theorem read_any (A : Option Addr) (n c : Nat) (b : Nat → Nat) (w : World) (hs : BS w A n b) (hb : ∀ i, b i < 256) (hn : (n : Int) ≤ 9223372036854775807) :
    Calls Try.prog 10 #[.slice A n c] w fun e w' => e = .returned (.tuple #[.int .i64 (rd b n).1, .int .i64 (rd b n).2.1, .int .i64 (rd b n).2.2]) ∧ w = w' := by
  have hmin : (if (6 : Int) < ↑n then 6 else (n : Int)) = ((min n 6 : Nat) : Int) := by split <;> omega
  obtain ⟨m, hm⟩ : ∃ m, min n 6 = m := ⟨_, rfl⟩
  rw [hm] at hmin
  have hm1 : m ≤ n := by omega
  have hm2 : m ≤ 6 := by omega
  have hm3 : m = n ∨ m = 6 := by omega
  clear hm
  have H3 := Lib.hid hm3
  have Hs := Lib.hid hs
  have Hb := Lib.hid hb
  clear hm3 hs hb
  go_enter Try.func10, Try.ntmps10
  go_wp2
  go_loopw [5, 12] (fun x i wr => ∃ k : Nat, k ≤ m ∧ i = .int .i64 k ∧ x = .int .u64 ((val b k : Nat) : Int) ∧ Hid (rd b n = rdFrom b n (6 - k) k) ∧ w = wr) (fun x i wr => m - (intOf i).toNat)
  case atStart => exact ⟨0, Nat.zero_le _, rfl, rfl, rfl, rfl⟩
  case round =>
    obtain ⟨k, hk, rfl, rfl, hrd, rfl⟩ := hrel
    by_cases hkm : k < m
    · obtain ⟨g, off, rfl, hg, hc⟩ := Hs.out (by omega)
      have c0 := hc k (by omega)
      have hk5 : k ≤ 5 := by omega
      have hv := read_or b hk5 (Hb.out k)
      have Hv := Lib.hid (val_small b hk5)
      have hx := unrank_bits (val_small b hk5)
      have hstep : rdFrom b n (6 - k) k = if b k < 128 then fin b k else rdFrom b n (6 - (k + 1)) (k + 1) := by
        rw [show 6 - k = 6 - (k + 1) + 1 from by omega, rdFrom, if_pos (by omega)]
      have hfin : fin b k = if (0 < k ∧ b k = 0) ∨ ¬ InB (unrank (val b (k + 1))) then (0, 0, 8) else (unrank (val b (k + 1)), (k : Int) + 1, 0) := rfl
      generalize hV : val b (k + 1) = V at *
      have HV := Lib.hid hV
      generalize unrank V = U at *
      have Hstep := Lib.hid (hrd.out.trans hstep)
      have Hfin := Lib.hid hfin
      clear hc hstep hfin hV hrd
      by_cases hc128 : b k < 128
      · have d1 : decide ((128 : Int) ≤ (b k : Int)) = false := decide_eq_false (by omega)
        have Hc := Lib.hid hc128
        clear hc128
        by_cases hz : 0 < k ∧ b k = 0
        · have d2 : ((b k : Int) == 0) = true := by simp [hz.2]
          have d3 : decide ((0 : Int) < (k : Int)) = true := decide_eq_true (by omega)
          have Hz := Lib.hid hz
          clear hz
          go_wp2
          all_goals first | (exfalso; have := Hz.out; omega) | skip
          refine bodyPost_ret (results_tmp3 rfl _ _ _) rfl ?_
          have he : rd b n = (0, 0, 8) := by rw [Hstep.out, if_pos Hc.out, Hfin.out, if_pos (.inl Hz.out)]
          exact ⟨by rw [he]; rfl, rfl⟩
        · have d2 : ((b k : Int) == 0) = false ∨ (((b k : Int) == 0) = true ∧ k = 0) := by
            by_cases e : b k = 0
            · exact .inr ⟨by simp [e], by omega⟩
            · exact .inl (by simp; omega)
          have Hz := Lib.hid hz
          clear hz
          by_cases hin : InB U
          · have he : Hid (rd b n = (U, (k : Int) + 1, 0)) := by
              unfold Hid
              rw [Hstep.out, if_pos Hc.out, Hfin.out, if_neg]
              rintro (h | h)
              · exact Hz.out h
              · exact h hin
            have hmay := Lib.hid (may_yes U)
            rcases d2 with d2 | ⟨d2, d3⟩
            · go_wp2_with fail
              refine (hmay.out _ hin).mono ?_
              rintro e w' ⟨rfl, rfl⟩
              go_wp2
              refine bodyPost_ret (results_tmp3 rfl _ _ _) rfl ?_
              exact ⟨by rw [he.out]; rfl, rfl⟩
            · subst d3
              simp only [Nat.add_zero] at c0
              simp only [Nat.mul_zero, Int.pow_zero, Int.mul_one] at hv
              go_wp2_with fail
              refine (hmay.out _ hin).mono ?_
              rintro e w' ⟨rfl, rfl⟩
              go_wp2
              refine bodyPost_ret (results_tmp3 rfl _ _ _) rfl ?_
              exact ⟨by rw [he.out]; rfl, rfl⟩
          · have he : Hid (rd b n = (0, 0, 8)) := by
              unfold Hid
              rw [Hstep.out, if_pos Hc.out, Hfin.out, if_pos (.inr hin)]
            have hmay := Lib.hid (may_no U)
            rcases d2 with d2 | ⟨d2, d3⟩
            · go_wp2_with fail
              refine (hmay.out _ hin).mono ?_
              rintro e w' ⟨rfl, rfl⟩
              go_wp2
              refine bodyPost_ret (results_tmp3 rfl _ _ _) rfl ?_
              exact ⟨by rw [he.out]; rfl, rfl⟩
            · subst d3
              simp only [Nat.add_zero] at c0
              simp only [Nat.mul_zero, Int.pow_zero, Int.mul_one] at hv
              go_wp2_with fail
              refine (hmay.out _ hin).mono ?_
              rintro e w' ⟨rfl, rfl⟩
              go_wp2
              refine bodyPost_ret (results_tmp3 rfl _ _ _) rfl ?_
              exact ⟨by rw [he.out]; rfl, rfl⟩
      · have d1 : decide ((128 : Int) ≤ (b k : Int)) = true := decide_eq_true (by omega)
        have Hc := Lib.hid hc128
        clear hc128
        go_wp2
        go_roundw
        case rel => exact ⟨k + 1, by omega, by go_num, by rw [HV.out], by unfold Hid; rw [Hstep.out, if_neg Hc.out], by first | rfl | trivial⟩
        case measure => simp [intOf]; omega
    · have hkm' : k = m := by omega
      have he : Hid (rd b n = (0, 0, 8)) := by
        unfold Hid
        rw [hrd.out]
        rcases H3.out with h | h
        · cases hf : 6 - k with
          | zero => rfl
          | succ f => rw [rdFrom, if_neg (by omega)]
        · rw [show 6 - k = 0 from by omega]; rfl
      clear hrd
      subst hkm'
      go_wp2
      refine bodyPost_ret (results_tmp3 rfl _ _ _) rfl ?_
      exact ⟨by rw [he.out]; rfl, rfl⟩
end Go.Proofs.Ytkblladjabpllaa
