/- The walk of the reference's Read. -/
import Derived.Test.YtkblladjabpllaaB3
namespace Go.Proofs.Ytkblladjabpllaa
open Go.RowKit
set_option linter.unusedVariables false

theorem unrank_even {V : Nat} (h : V % 2 = 0) : unrank V = (V : Int) / 2 := by unfold unrank; rw [if_pos h]; omega
theorem unrank_odd {V : Nat} (h : ¬ V % 2 = 0) : unrank V = -1 - (V : Int) / 2 := by unfold unrank; rw [if_neg h]; omega

set_option maxRecDepth 100000 in
set_option maxHeartbeats 2000000 in
theorem refread_any (A : Option Addr) (n c : Nat) (b : Nat → Nat) (w : World) (hs : BS w A n b) (hb : ∀ i, b i < 256) (hn : (n : Int) ≤ 9223372036854775807) :
    Calls Try.prog 11 #[.slice A n c] w fun e w' => e = .returned (.tuple #[.int .i64 (rd b n).1, .int .i64 (rd b n).2.1, .int .i64 (rd b n).2.2]) ∧ w = w' := by
  have Hs := Lib.hid hs
  have Hb := Lib.hid hb
  clear hs hb
  go_enter Try.func11, Try.ntmps11
  go_wp2
  go_loopw [5, 6, 7] (fun x u i wr => ∃ k : Nat, k ≤ n ∧ k ≤ 6 ∧ i = .int .i64 k ∧ x = .int .i64 ((val b k : Nat) : Int) ∧ u = .int .i64 ((128 ^ k : Nat) : Int) ∧ Hid (rd b n = rdFrom b n (6 - k) k) ∧ w = wr) (fun x u i wr => 6 - (intOf i).toNat)
  case atStart => exact ⟨0, Nat.zero_le _, Nat.zero_le _, rfl, rfl, rfl, rfl, rfl⟩
  case round =>
    obtain ⟨k, hkn, hk6, rfl, rfl, rfl, hrd, rfl⟩ := hrel
    by_cases hkm : k < n ∧ k < 6
    · obtain ⟨hkn', hk6'⟩ := hkm
      obtain ⟨g, off, rfl, hg, hc⟩ := Hs.out (by omega)
      have c0 := hc k (by omega)
      have hk5 : k ≤ 5 := by omega
      have hv : val b (k + 1) = val b k + b k % 128 * 128 ^ k := rfl
      have hv2 := val_small b hk5
      have hstep : rdFrom b n (6 - k) k = if b k < 128 then fin b k else rdFrom b n (6 - (k + 1)) (k + 1) := by
        rw [show 6 - k = 6 - (k + 1) + 1 from by omega, rdFrom, if_pos (by omega)]
      have hfin : fin b k = if (0 < k ∧ b k = 0) ∨ ¬ InB (unrank (val b (k + 1))) then (0, 0, 8) else (unrank (val b (k + 1)), (k : Int) + 1, 0) := rfl
      have hU5 : 128 ^ k ≤ 34359738368 := Nat.le_trans (Nat.pow_le_pow_right (by omega) hk5) (by decide)
      have hUs : 128 ^ (k + 1) = 128 ^ k * 128 := Nat.pow_succ ..
      have hQ : (b k : Int) % 128 * ((128 ^ k : Nat) : Int) = ((b k % 128 * 128 ^ k : Nat) : Int) := by rw [Int.natCast_mul]; rfl
      generalize hV : val b (k + 1) = V at *
      have HV := Lib.hid hV
      have Hstep := Lib.hid (hrd.out.trans hstep)
      have Hfin := Lib.hid hfin
      have HUs := Lib.hid hUs
      clear hc hstep hfin hV hrd hUs
      generalize hq : b k % 128 * 128 ^ k = Q at *
      have Hq := Lib.hid hq
      clear hq
      generalize hU : 128 ^ k = U at *
      have hQi : (b k : Int) % 128 * (U : Int) = (Q : Int) := hQ
      by_cases hc128 : b k < 128
      · have d1 : decide ((b k : Int) < 128) = true := decide_eq_true (by omega)
        have Hc := Lib.hid hc128
        clear hc128
        subst hv
        generalize hx : val b k = X at *
        have hxv : ((X + Q : Nat) : Int) = (X : Int) + (Q : Int) := by omega
        generalize hV : X + Q = V at *
        have hxv' : (X : Int) + (Q : Int) = (V : Int) := hxv.symm
        clear hxv hQ hx
        have hXV : X ≤ V := by omega
        have hQV : Q ≤ V := by omega
        clear hV
        by_cases par : V % 2 = 0
        · have eU := unrank_even par
          have t1 : ((V : Int) % 2 == 1) = false := by simp; omega
          by_cases hz : 0 < k ∧ b k = 0
          · have d2 : ((b k : Int) == 0) = true := by simp [hz.2]
            have d3 : decide ((0 : Int) < (k : Int)) = true := decide_eq_true (by omega)
            have Hz := Lib.hid hz
            clear hz
            go_wp2
            all_goals first | (exfalso; have := Hz.out; omega) | skip
            refine bodyPost_ret (results_tmp3 rfl _ _ _) rfl ?_
            have he : rd b n = (0, 0, 8) := by rw [Hstep.out, if_pos Hc.out, Hfin.out, if_pos (.inl Hz.out)]
            exact ⟨by rw [he]; rfl, rfl⟩
          · have d2 : (((b k : Int) == 0) = false ∧ 0 < k) ∨ k = 0 := by
              by_cases e : k = 0
              · exact .inr e
              · exact .inl ⟨by simp; omega, by omega⟩
            have Hz := Lib.hid hz
            clear hz
            by_cases hin : InB (unrank V)
            · have he : Hid (rd b n = (unrank V, (k : Int) + 1, 0)) := by
                unfold Hid
                rw [Hstep.out, if_pos Hc.out, Hfin.out, if_neg]
                rintro (h | h)
                · exact Hz.out h
                · exact h hin
              rw [eU] at he hin
              have hmay := Lib.hid (in_yes ((V : Int) / 2))
              rcases d2 with ⟨d2, d3⟩ | d3
              · go_wp2_with fail
                refine (hmay.out _ hin).mono ?_
                rintro e w' ⟨rfl, rfl⟩
                go_wp2
                refine bodyPost_ret (results_tmp3 rfl _ _ _) rfl ?_
                exact ⟨by rw [he.out]; rfl, rfl⟩
              · subst d3
                simp only [Nat.add_zero] at c0
                have hU1 : U = 1 := hU.symm
                have hQi2 : (b 0 : Int) % 128 = (Q : Int) := by rw [hU1] at hQi; omega
                subst hU1
                clear hU hQi
                go_wp2_with fail
                refine (hmay.out _ hin).mono ?_
                rintro e w' ⟨rfl, rfl⟩
                go_wp2
                refine bodyPost_ret (results_tmp3 rfl _ _ _) rfl ?_
                exact ⟨by rw [he.out]; rfl, rfl⟩
            · have he : Hid (rd b n = (0, 0, 8)) := by
                unfold Hid
                rw [Hstep.out, if_pos Hc.out, Hfin.out, if_pos (.inr hin)]
              rw [eU] at hin
              have hmay := Lib.hid (in_no ((V : Int) / 2))
              rcases d2 with ⟨d2, d3⟩ | d3
              · go_wp2_with fail
                refine (hmay.out _ hin).mono ?_
                rintro e w' ⟨rfl, rfl⟩
                go_wp2
                refine bodyPost_ret (results_tmp3 rfl _ _ _) rfl ?_
                exact ⟨by rw [he.out]; rfl, rfl⟩
              · subst d3
                simp only [Nat.add_zero] at c0
                have hU1 : U = 1 := hU.symm
                have hQi2 : (b 0 : Int) % 128 = (Q : Int) := by rw [hU1] at hQi; omega
                subst hU1
                clear hU hQi
                go_wp2_with fail
                refine (hmay.out _ hin).mono ?_
                rintro e w' ⟨rfl, rfl⟩
                go_wp2
                refine bodyPost_ret (results_tmp3 rfl _ _ _) rfl ?_
                exact ⟨by rw [he.out]; rfl, rfl⟩

        · have eU := unrank_odd par
          have t1 : ((V : Int) % 2 == 1) = true := by simp; omega
          by_cases hz : 0 < k ∧ b k = 0
          · have d2 : ((b k : Int) == 0) = true := by simp [hz.2]
            have d3 : decide ((0 : Int) < (k : Int)) = true := decide_eq_true (by omega)
            have Hz := Lib.hid hz
            clear hz
            go_wp2
            all_goals first | (exfalso; have := Hz.out; omega) | skip
            refine bodyPost_ret (results_tmp3 rfl _ _ _) rfl ?_
            have he : rd b n = (0, 0, 8) := by rw [Hstep.out, if_pos Hc.out, Hfin.out, if_pos (.inl Hz.out)]
            exact ⟨by rw [he]; rfl, rfl⟩
          · have d2 : (((b k : Int) == 0) = false ∧ 0 < k) ∨ k = 0 := by
              by_cases e : k = 0
              · exact .inr e
              · exact .inl ⟨by simp; omega, by omega⟩
            have Hz := Lib.hid hz
            clear hz
            by_cases hin : InB (unrank V)
            · have he : Hid (rd b n = (unrank V, (k : Int) + 1, 0)) := by
                unfold Hid
                rw [Hstep.out, if_pos Hc.out, Hfin.out, if_neg]
                rintro (h | h)
                · exact Hz.out h
                · exact h hin
              rw [eU] at he hin
              have hmay := Lib.hid (in_yes (-1 - (V : Int) / 2))
              rcases d2 with ⟨d2, d3⟩ | d3
              · go_wp2_with fail
                refine (hmay.out _ hin).mono ?_
                rintro e w' ⟨rfl, rfl⟩
                go_wp2
                refine bodyPost_ret (results_tmp3 rfl _ _ _) rfl ?_
                exact ⟨by rw [he.out]; rfl, rfl⟩
              · subst d3
                simp only [Nat.add_zero] at c0
                have hU1 : U = 1 := hU.symm
                have hQi2 : (b 0 : Int) % 128 = (Q : Int) := by rw [hU1] at hQi; omega
                subst hU1
                clear hU hQi
                go_wp2_with fail
                refine (hmay.out _ hin).mono ?_
                rintro e w' ⟨rfl, rfl⟩
                go_wp2
                refine bodyPost_ret (results_tmp3 rfl _ _ _) rfl ?_
                exact ⟨by rw [he.out]; rfl, rfl⟩
            · have he : Hid (rd b n = (0, 0, 8)) := by
                unfold Hid
                rw [Hstep.out, if_pos Hc.out, Hfin.out, if_pos (.inr hin)]
              rw [eU] at hin
              have hmay := Lib.hid (in_no (-1 - (V : Int) / 2))
              rcases d2 with ⟨d2, d3⟩ | d3
              · go_wp2_with fail
                refine (hmay.out _ hin).mono ?_
                rintro e w' ⟨rfl, rfl⟩
                go_wp2
                refine bodyPost_ret (results_tmp3 rfl _ _ _) rfl ?_
                exact ⟨by rw [he.out]; rfl, rfl⟩
              · subst d3
                simp only [Nat.add_zero] at c0
                have hU1 : U = 1 := hU.symm
                have hQi2 : (b 0 : Int) % 128 = (Q : Int) := by rw [hU1] at hQi; omega
                subst hU1
                clear hU hQi
                go_wp2_with fail
                refine (hmay.out _ hin).mono ?_
                rintro e w' ⟨rfl, rfl⟩
                go_wp2
                refine bodyPost_ret (results_tmp3 rfl _ _ _) rfl ?_
                exact ⟨by rw [he.out]; rfl, rfl⟩

      · have d1 : decide ((b k : Int) < 128) = false := decide_eq_false (by omega)
        have Hc := Lib.hid hc128
        clear hc128
        go_wp2
        go_roundw
        case rel => exact ⟨k + 1, by omega, by omega, by go_num, by rw [HV.out]; try (congr 1; omega), by rw [HUs.out]; try rfl, by unfold Hid; rw [Hstep.out, if_neg Hc.out], by first | rfl | trivial⟩
        case measure => simp [intOf]; omega
    · have he : Hid (rd b n = (0, 0, 8)) := by
        unfold Hid
        rw [hrd.out]
        cases hf : 6 - k with
        | zero => rfl
        | succ f => rw [rdFrom, if_neg (by omega)]
      clear hrd
      by_cases h1 : k < n
      · have h2 : k = 6 := by omega
        subst h2
        go_wp2
        refine bodyPost_ret (results_tmp3 rfl _ _ _) rfl ?_
        exact ⟨by rw [he.out]; rfl, rfl⟩
      · go_wp2
        refine bodyPost_ret (results_tmp3 rfl _ _ _) rfl ?_
        exact ⟨by rw [he.out]; rfl, rfl⟩
end Go.Proofs.Ytkblladjabpllaa
