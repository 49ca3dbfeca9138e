/- Lists that are written are read back, and the other way round, in plain Lean. -/
import Derived.Test.YtkblladjabpllaaList
namespace Go.Proofs.Ytkblladjabpllaa

theorem lst_pre (l : Nat → Int) (n j : Nat) : ∀ d, ∃ t, lst l n (j + d) = lst l n j ++ t
  | 0 => ⟨[], by simp⟩
  | d + 1 => by
    obtain ⟨t, ht⟩ := lst_pre l n j d
    exact ⟨t ++ enc 6 (rank (l (j + d))), by rw [← Nat.add_assoc, lst_succ, ht, List.append_assoc]⟩
theorem getD_mid (a e t : List Nat) (i : Nat) (h : i < e.length) : (a ++ e ++ t).getD (a.length + i) 0 = e.getD i 0 := by
  rw [List.append_assoc, List.getD_eq_getElem?_getD, List.getElem?_append_right (by omega), Nat.add_sub_cancel_left, List.getElem?_append_left h, List.getD_eq_getElem?_getD]
/-- From the j-th number on. -/
theorem rds_lst (l : Nat → Int) (n N : Nat) (b : Nat → Nat) (hin : ∀ i, i < n → InB (l i)) (hN : (lst l n n).length ≤ N) (hb : ∀ i, i < (lst l n n).length → b i = (lst l n n).getD i 0) :
    ∀ d j, j + d = n → rds b N d (lst l n j).length ((List.range j).map l) = some ((List.range n).map l, (lst l n n).length)
  | 0, j, h => by
    have : j = n := by omega
    subst this
    rw [rds]
  | d + 1, j, h => by
    obtain ⟨t, ht⟩ := lst_pre l n (j + 1) d
    rw [show j + 1 + d = n from by omega, lst_succ] at ht
    have hlen : (lst l n n).length = (lst l n j).length + (enc 6 (rank (l j))).length + t.length := by rw [ht]; simp [Nat.add_assoc]
    have hr := rd_enc (hin j (by omega)) (fun i => b ((lst l n j).length + i)) (N - (lst l n j).length) (by omega) (fun i hi => by
      show b ((lst l n j).length + i) = _
      rw [hb _ (by omega), ht]
      exact getD_mid _ _ _ _ hi)
    rw [rds, hr, if_pos rfl]
    show rds b N d ((lst l n j).length + ((((enc 6 (rank (l j))).length : Nat) : Int)).toNat) ((List.range j).map l ++ [l j]) = _
    have e1 : (lst l n j).length + ((((enc 6 (rank (l j))).length : Nat) : Int)).toNat = (lst l n (j + 1)).length := by rw [lst_succ, List.length_append]; omega
    have e2 : (List.range j).map l ++ [l j] = (List.range (j + 1)).map l := by rw [List.range_succ, List.map_append]; rfl
    rw [e1, e2]
    exact rds_lst l n N b hin hN hb d (j + 1) (by omega)
/-- What is written is read back. -/
theorem rdList_lst (l : Nat → Int) (n N : Nat) (b : Nat → Nat) (hn : n ≤ 65536) (hin : ∀ i, i < n → InB (l i)) (hN : (lst l n n).length ≤ N) (hb : ∀ i, i < (lst l n n).length → b i = (lst l n n).getD i 0) :
    rdList b N (n : Int) = ((List.range n).map l, (lst l n n).length, 0) := by
  obtain ⟨t, ht⟩ := lst_pre l n 0 n
  rw [Nat.zero_add] at ht
  have e0 : lst l n 0 = enc 6 (rank (n : Int)) := by unfold lst; rw [encs, List.append_nil]
  have hlen : (lst l n n).length = (enc 6 (rank (n : Int))).length + t.length := by rw [ht, e0]; simp
  have hr := rd_enc (n := (n : Int)) ⟨by omega, by omega⟩ b N (by omega) (fun i hi => by
    rw [hb i (by omega), ht, e0, List.getD_eq_getElem?_getD, List.getElem?_append_left hi, List.getD_eq_getElem?_getD])
  unfold rdList
  rw [if_neg (by omega), hr, if_neg (by rintro (h | h | h) <;> first | exact h rfl | (dsimp only at h; omega))]
  have := rds_lst l n N b hin hN hb n 0 (by omega)
  rw [e0] at this
  simp only [List.range_zero, List.map_nil] at this
  dsimp only
  rw [Int.toNat_natCast, Int.toNat_natCast, this]

/-- The bytes of a list. -/
def cat (ms : List Int) : List Nat := ms.flatMap fun m => enc 6 (rank m)
theorem encs_cat (l : Nat → Int) : ∀ k, encs l k = cat ((List.range k).map l)
  | 0 => rfl
  | k + 1 => by rw [encs, encs_cat l k, List.range_succ, List.map_append]; simp [cat]
theorem range_getD (ms : List Int) : (List.range ms.length).map (fun i => ms.getD i 0) = ms := by
  refine List.ext_getElem (by simp) fun i h1 h2 => ?_
  simp [List.getD, List.getElem?_eq_getElem h2]
theorem range_shift (b : Nat → Nat) (p v : Nat) : (List.range (p + v)).map b = (List.range p).map b ++ (List.range v).map (fun i => b (p + i)) := by
  rw [List.range_add, List.map_append, List.map_map]; rfl
theorem rds_back {b : Nat → Nat} {n : Nat} (hb : ∀ i, b i < 256) : ∀ (k p : Nat) (acc l : List Int) (q : Nat), p ≤ n → rds b n k p acc = some (l, q) →
    ∃ ms, l = acc ++ ms ∧ ms.length = k ∧ (∀ m ∈ ms, InB m) ∧ q ≤ n ∧ (List.range q).map b = (List.range p).map b ++ cat ms
  | 0, p, acc, l, q, hp, h => by
    rw [rds] at h
    injection h with h
    injection h with h1 h2
    subst h1; subst h2
    exact ⟨[], by simp, rfl, by simp, hp, by simp [cat]⟩
  | k + 1, p, acc, l, q, hp, h => by
    rw [rds] at h
    rcases rd_back (b := fun i => b (p + i)) (n := n - p) (fun i => hb _) with e | ⟨m, v, e, hm, hv, hv1, hv6, he⟩
    · rw [e, if_neg (by decide)] at h
      cases h
    · rw [e, if_pos rfl] at h
      obtain ⟨ms, h1, h2, h3, h4, h5⟩ := rds_back hb k (p + v) (acc ++ [m]) l q (by omega) h
      refine ⟨m :: ms, by rw [h1]; simp, by simp [h2], ?_, h4, ?_⟩
      · intro x hx
        rcases List.mem_cons.1 hx with rfl | hx
        · exact hm
        · exact h3 x hx
      · rw [h5, range_shift, ← he]
        simp [cat]
/-- What is read is written as just these bytes. -/
theorem rdList_back {b : Nat → Nat} {n : Nat} {most : Int} (hb : ∀ i, b i < 256) : (∃ e, e ≠ 0 ∧ (e = 2 ∨ e = 8) ∧ rdList b n most = ([], 0, e)) ∨
    ∃ ms q, rdList b n most = (ms, q, 0) ∧ ms.length ≤ 65536 ∧ (ms.length : Int) ≤ most ∧ (∀ m ∈ ms, InB m) ∧ q ≤ n ∧ 1 ≤ q ∧ lst (fun i => ms.getD i 0) ms.length ms.length = (List.range q).map b := by
  by_cases h1 : most < 0 ∨ 65536 < most
  · exact .inl ⟨2, by decide, .inl rfl, by unfold rdList; rw [if_pos h1]⟩
  · rcases rd_back (b := b) (n := n) hb with e | ⟨m, v, e, hm, hv, hv1, hv6, he⟩
    · exact .inl ⟨8, by decide, .inr rfl, by unfold rdList; rw [if_neg h1, e, if_pos (.inl (by decide))]⟩
    · by_cases h2 : m < 0 ∨ most < m
      · exact .inl ⟨8, by decide, .inr rfl, by unfold rdList; rw [if_neg h1, e, if_pos (.inr h2)]⟩
      · have hne : ¬ ((m, (v : Int), (0 : Int)).2.2 ≠ 0 ∨ (m, (v : Int), (0 : Int)).1 < 0 ∨ most < (m, (v : Int), (0 : Int)).1) := by
          rintro (h | h)
          · exact h rfl
          · exact h2 h
        have hu : rdList b n most = match rds b n m.toNat v [] with | none => ([], 0, 8) | some (l, p) => (l, p, 0) := by
          unfold rdList; rw [if_neg h1, e, if_neg hne]; rfl
        cases hc : rds b n m.toNat v [] with
        | none => exact .inl ⟨8, by decide, .inr rfl, by rw [hu, hc]⟩
        | some lp =>
          obtain ⟨l, q⟩ := lp
          obtain ⟨ms, k1, k2, k3, k4, k5⟩ := rds_back hb _ _ _ _ _ hv hc
          rw [List.nil_append] at k1
          subst k1
          have hM : ((l.length : Nat) : Int) = m := by rw [k2]; omega
          refine .inr ⟨l, q, by rw [hu, hc], by omega, by omega, k3, k4, ?_, ?_⟩
          · have h9 := congrArg List.length k5
            simp at h9
            omega
          · unfold lst
            rw [encs_cat, range_getD, hM, he, k5]
end Go.Proofs.Ytkblladjabpllaa
