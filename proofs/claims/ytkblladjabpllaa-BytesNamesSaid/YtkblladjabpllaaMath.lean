/- Numbers as bytes, in plain Lean: no program in sight. -/
namespace Go.Proofs.Ytkblladjabpllaa

def rank (n : Int) : Nat := if 0 ≤ n then (2 * n).toNat else (-1 - 2 * n).toNat
def unrank (r : Nat) : Int := if r % 2 = 0 then (r / 2 : Nat) else -1 - ((r / 2 : Nat) : Int)
theorem unrank_rank (n : Int) : unrank (rank n) = n := by
  unfold unrank rank
  by_cases h : 0 ≤ n
  · rw [if_pos h, if_pos (by omega)]; omega
  · rw [if_neg h, if_neg (by omega)]; omega
theorem rank_unrank (r : Nat) : rank (unrank r) = r := by
  unfold unrank rank
  by_cases h : r % 2 = 0
  · rw [if_pos h, if_pos (by omega)]; omega
  · rw [if_neg h, if_neg (by omega)]; omega
/-- May a number be written? -/
def InB (n : Int) : Prop := -1099511627776 ≤ n ∧ n ≤ 1099511627776
instance (n : Int) : Decidable (InB n) := inferInstanceAs (Decidable (_ ∧ _))
theorem rank_bd {n : Int} (h : InB n) : rank n ≤ 2199023255552 := by
  obtain ⟨h0, h1⟩ := h
  unfold rank; split <;> omega

/-- A rank's bytes, with fuel. -/
def enc : Nat → Nat → List Nat
  | 0, _ => []
  | f + 1, r => if r < 128 then [r] else (r % 128 + 128) :: enc f (r / 128)
theorem enc_small {f r : Nat} (h : r < 128) : enc (f + 1) r = [r] := by rw [enc, if_pos h]
theorem enc_great {f r : Nat} (h : ¬ r < 128) : enc (f + 1) r = (r % 128 + 128) :: enc f (r / 128) := by rw [enc, if_neg h]
theorem pow_div {f r : Nat} (h : r < 128 ^ (f + 1)) : r / 128 < 128 ^ f := by
  rw [Nat.pow_succ] at h
  exact Nat.div_lt_of_lt_mul (by omega)
theorem enc_len : ∀ (f r : Nat), (enc f r).length ≤ f
  | 0, _ => Nat.le_refl _
  | f + 1, r => by
    rw [enc]
    split
    · simp
    · simp; exact enc_len f _
theorem enc_pos (f r : Nat) : 0 < (enc (f + 1) r).length := by
  rw [enc]; split <;> simp
theorem enc_byte : ∀ (f r : Nat) (x : Nat), x ∈ enc f r → x < 256
  | 0, _, _, h => by simp [enc] at h
  | f + 1, r, x, h => by
    rw [enc] at h
    split at h
    · simp at h; omega
    · rcases List.mem_cons.1 h with h | h
      · omega
      · exact enc_byte f _ x h

/-- What the first i bytes come to. -/
def val (b : Nat → Nat) : Nat → Nat
  | 0 => 0
  | i + 1 => val b i + b i % 128 * 128 ^ i
theorem val_lt (b : Nat → Nat) : ∀ i, val b i < 128 ^ i
  | 0 => by simp [val]
  | i + 1 => by
    have h := val_lt b i
    have h2 : b i % 128 ≤ 127 := by omega
    have h3 : b i % 128 * 128 ^ i ≤ 127 * 128 ^ i := Nat.mul_le_mul_right _ h2
    rw [val, Nat.pow_succ]
    omega
theorem val_shift (b : Nat → Nat) : ∀ i, val b (i + 1) = b 0 % 128 + 128 * val (fun j => b (j + 1)) i
  | 0 => by simp [val]
  | i + 1 => by
    have h := val_shift b i
    rw [val, h, val, Nat.pow_succ, Nat.mul_add]
    have : b (i + 1) % 128 * (128 ^ i * 128) = 128 * (b (i + 1) % 128 * 128 ^ i) := by
      rw [← Nat.mul_assoc, Nat.mul_comm]
    omega
theorem val_congr {b b' : Nat → Nat} : ∀ i, (∀ j, j < i → b j = b' j) → val b i = val b' i
  | 0, _ => rfl
  | i + 1, h => by rw [val, val, val_congr i (fun j hj => h j (by omega)), h i (by omega)]

/-- What is answered where the byte at i is the last one. -/
def fin (b : Nat → Nat) (i : Nat) : Int × Int × Int :=
  if (0 < i ∧ b i = 0) ∨ ¬ InB (unrank (val b (i + 1))) then (0, 0, 8) else (unrank (val b (i + 1)), i + 1, 0)
def rdFrom (b : Nat → Nat) (n : Nat) : Nat → Nat → Int × Int × Int
  | 0, _ => (0, 0, 8)
  | f + 1, i => if i < n then (if b i < 128 then fin b i else rdFrom b n f (i + 1)) else (0, 0, 8)
/-- A number, out of n bytes: it, how many bytes, the error. -/
def rd (b : Nat → Nat) (n : Nat) : Int × Int × Int := rdFrom b n 6 0

theorem rdFrom_stop {b : Nat → Nat} {n : Nat} : ∀ {f i t : Nat}, i ≤ t → t < i + f → t < n → (∀ j, i ≤ j → j < t → ¬ b j < 128) → b t < 128 → rdFrom b n f i = fin b t
  | 0, i, t, h, h1, _, _, _ => by omega
  | f + 1, i, t, h, h1, h2, h3, h4 => by
    by_cases e : i = t
    · subst e
      rw [rdFrom, if_pos h2, if_pos h4]
    · rw [rdFrom, if_pos (by omega), if_neg (h3 i (Nat.le_refl _) (by omega))]
      exact rdFrom_stop (by omega) (by omega) h2 (fun j hj hj2 => h3 j (by omega) hj2) h4
theorem rdFrom_spec {b : Nat → Nat} {n : Nat} : ∀ (f i : Nat), rdFrom b n f i = (0, 0, 8) ∨ ∃ t, i ≤ t ∧ t < i + f ∧ t < n ∧ (∀ j, i ≤ j → j < t → ¬ b j < 128) ∧ b t < 128 ∧ rdFrom b n f i = fin b t
  | 0, i => .inl rfl
  | f + 1, i => by
    by_cases h : i < n
    · by_cases h1 : b i < 128
      · exact .inr ⟨i, Nat.le_refl _, by omega, h, fun j hj hj2 => by omega, h1, by rw [rdFrom, if_pos h, if_pos h1]⟩
      · have e : rdFrom b n (f + 1) i = rdFrom b n f (i + 1) := by rw [rdFrom, if_pos h, if_neg h1]
        rw [e]
        rcases rdFrom_spec (b := b) (n := n) f (i + 1) with h2 | ⟨t, h2, h3, h4, h5, h6, h7⟩
        · exact .inl h2
        · exact .inr ⟨t, by omega, by omega, h4, fun j hj hj2 => by
            by_cases e : j = i
            · subst e; exact h1
            · exact h5 j (by omega) hj2, h6, h7⟩
    · exact .inl (by rw [rdFrom, if_neg h])

/-- The bytes of a rank: all but the last have 128 added, the last is not 0 but where it is alone, and they come to the rank. -/
theorem enc_spec : ∀ (f r : Nat) (b : Nat → Nat), r < 128 ^ f → (∀ j, j < (enc f r).length → b j = (enc f r).getD j 0) → 0 < f →
    ∃ t, (enc f r).length = t + 1 ∧ (∀ j, j < t → ¬ b j < 128) ∧ b t < 128 ∧ (0 < t → b t ≠ 0) ∧ val b (t + 1) = r
  | 0, _, _, _, _, h => by omega
  | f + 1, r, b, hr, hb, _ => by
    by_cases h : r < 128
    · rw [enc_small h] at hb ⊢
      refine ⟨0, rfl, fun j hj => by omega, ?_, fun h => by omega, ?_⟩
      · have := hb 0 (by simp); simp at this; omega
      · have := hb 0 (by simp); simp at this; simp [val, this]; omega
    · have hf : 0 < f := by
        rcases Nat.eq_zero_or_pos f with rfl | h0
        · simp at hr; omega
        · exact h0
      rw [enc_great h] at hb ⊢
      have hb0 := hb 0 (by simp)
      simp only [List.getD_cons_zero] at hb0
      obtain ⟨t, h1, h2, h3, h4, h5⟩ := enc_spec f (r / 128) (fun j => b (j + 1)) (pow_div hr) (fun j hj => by
        have := hb (j + 1) (by simp; omega)
        simpa using this) hf
      refine ⟨t + 1, by simp [h1], fun j hj => ?_, h3, fun _ => ?_, ?_⟩
      · rcases Nat.eq_zero_or_pos j with rfl | hj0
        · omega
        · obtain ⟨i, rfl⟩ : ∃ i, j = i + 1 := ⟨j - 1, by omega⟩
          exact h2 i (by omega)
      · rcases Nat.eq_zero_or_pos t with rfl | ht
        · intro e0
          simp only [Nat.zero_add, val, Nat.pow_zero, Nat.mul_one] at h5
          simp only [Nat.zero_add] at e0
          rw [e0] at h5
          omega
        · exact h4 ht
      · rw [val_shift, h5, hb0]
        omega
/-- What is written is read back. -/
theorem rd_enc {n : Int} (hn : InB n) (b : Nat → Nat) (m : Nat) (hm : (enc 6 (rank n)).length ≤ m) (hb : ∀ j, j < (enc 6 (rank n)).length → b j = (enc 6 (rank n)).getD j 0) :
    rd b m = (n, ((enc 6 (rank n)).length : Int), 0) := by
  have hr := rank_bd hn
  have h6 : (128 : Nat) ^ 6 = 4398046511104 := by decide
  obtain ⟨t, h1, h2, h3, h4, h5⟩ := enc_spec 6 (rank n) b (by omega) hb (by omega)
  have hl := enc_len 6 (rank n)
  have e : rd b m = fin b t := rdFrom_stop (Nat.zero_le _) (by omega) (by omega) (fun j _ hj => h2 j hj) h3
  rw [e, fin, h5, unrank_rank, if_neg, h1]
  · simp
  · rintro (⟨a, c⟩ | c)
    · exact h4 a c
    · exact c hn

/-- The bytes up to a last one are those of what they come to. -/
theorem enc_val : ∀ (t f : Nat) (b : Nat → Nat), t < f → (∀ j, j ≤ t → b j < 256) → (∀ j, j < t → ¬ b j < 128) → b t < 128 → (0 < t → b t ≠ 0) →
    enc f (val b (t + 1)) = (List.range (t + 1)).map b
  | 0, f + 1, b, _, hb, _, h2, _ => by
    have e : val b 1 = b 0 := by simp [val]; omega
    rw [e, enc_small h2]; rfl
  | t + 1, f + 1, b, hf, hb, h1, h2, h3 => by
    have ih := enc_val t f (fun j => b (j + 1)) (by omega) (fun j hj => hb (j + 1) (by omega)) (fun j hj => h1 (j + 1) (by omega)) h2 (fun ht => h3 (by omega))
    have h0 := h1 0 (by omega)
    have h00 := hb 0 (by omega)
    have hv : val b (t + 1 + 1) = b 0 % 128 + 128 * val (fun j => b (j + 1)) (t + 1) := val_shift b (t + 1)
    have hpos : 0 < val (fun j => b (j + 1)) (t + 1) := by
      have hne : b (t + 1) ≠ 0 := h3 (by omega)
      rw [val]
      have h4 : b (t + 1) % 128 = b (t + 1) := Nat.mod_eq_of_lt h2
      have : 0 < b (t + 1) % 128 * 128 ^ t := Nat.mul_pos (by omega) (Nat.pow_pos (by omega))
      exact Nat.lt_of_lt_of_le this (Nat.le_add_left _ _)
    rw [hv, enc_great (by omega)]
    have e1 : (b 0 % 128 + 128 * val (fun j => b (j + 1)) (t + 1)) % 128 + 128 = b 0 := by omega
    have e2 : (b 0 % 128 + 128 * val (fun j => b (j + 1)) (t + 1)) / 128 = val (fun j => b (j + 1)) (t + 1) := by omega
    rw [e1, e2, ih, List.range_succ_eq_map (n := t + 1), List.map_cons, List.map_map]
    rfl
/-- What is read is written as just these bytes. -/
theorem rd_back {b : Nat → Nat} {n : Nat} (hb : ∀ j, b j < 256) : rd b n = (0, 0, 8) ∨
    ∃ (m : Int) (w : Nat), rd b n = (m, (w : Int), 0) ∧ InB m ∧ w ≤ n ∧ 1 ≤ w ∧ w ≤ 6 ∧ enc 6 (rank m) = (List.range w).map b := by
  rcases rdFrom_spec (b := b) (n := n) 6 0 with h | ⟨t, _, h2, h3, h4, h5, h6⟩
  · exact .inl h
  · by_cases c : (0 < t ∧ b t = 0) ∨ ¬ InB (unrank (val b (t + 1)))
    · left; unfold rd; rw [h6, fin, if_pos c]
    · right
      refine ⟨unrank (val b (t + 1)), t + 1, ?_, ?_, by omega, by omega, by omega, ?_⟩
      · unfold rd; rw [h6, fin, if_neg c]; simp
      · by_cases k : InB (unrank (val b (t + 1)))
        · exact k
        · exact absurd (.inr k) c
      · rw [rank_unrank]
        exact enc_val t 6 b (by omega) (fun j _ => hb j) (fun j hj => h4 j (by omega) hj) h5 (fun ht e => c (.inl ⟨ht, e⟩))
end Go.Proofs.Ytkblladjabpllaa
