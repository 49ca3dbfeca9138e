/- nodes: what may be stays what may be: plain law of Make, Link, Unlink, Kill. -/
import Derived.Test.YtgkeiaggldahnaaN15
namespace Go.Proofs.Ytgkeiaggldahnaa
open Go.RowKit
set_option linter.unusedVariables false
/-- Fewer edges. -/
def GE.Sub (e' e : GE) : Prop := ∀ i k, i < e'.n → k < e'.L i → i < e.n ∧ ∃ k', k' < e.L i ∧ e.K i k' = e'.K i k
theorem GE.Sub.reach {e e' : GE} (h : e'.Sub e) {i j : Nat} (hr : e'.Reach i j) : e.Reach i j := by
  induction hr with
  | self _ => exact .self _
  | step hi hk _ ih =>
    obtain ⟨h1, k', h2, h3⟩ := h _ _ hi hk
    exact .step h1 h2 (h3 ▸ ih)
theorem GE.Sub.acyc {e e' : GE} (h : e'.Sub e) (ha : e.Acyc) : e'.Acyc := fun i k hi hk hr => by
  obtain ⟨h1, k', h2, h3⟩ := h i k hi hk
  exact ha i k' h1 h2 (h3 ▸ h.reach hr)
theorem made_other {n k n' : Nat} {g g' : Nat → Int} {b b' : Nat → Bool} (h : Made n g b k n' g' b') {i : Nat} (hi : i < n) (hb : b i = true) : g' i = g i ∧ b' i = true := by
  rcases h with ⟨h1, h2, _, _, rfl, rfl⟩ | ⟨rfl, _, _, _, rfl, rfl⟩
  · have e : i ≠ k := fun e => by
      subst e
      unfold freeS at h2
      rw [hb] at h2
      cases h2
    rw [upd_ne _ _ e, upd_ne _ _ e]
    exact ⟨rfl, hb⟩
  · have e : i ≠ k := by omega
    rw [upd_ne _ _ e, upd_ne _ _ e]
    exact ⟨rfl, hb⟩
theorem made_held {n k n' : Nat} {g g' : Nat → Int} {b b' : Nat → Bool} (h : Made n g b k n' g' b') {s q : Int} (hh : HeldA n g b s q) : HeldA n' g' b' s q := by
  obtain ⟨h1, h2, h3, h4⟩ := hh
  have hn := (made_le h).1
  obtain ⟨e1, e2⟩ := made_other h (i := s.toNat) (by omega) h4
  exact ⟨h1, by omega, by rw [e1]; exact h3, e2⟩
theorem made_new {n k n' : Nat} {g g' : Nat → Int} {b b' : Nat → Bool} (h : Made n g b k n' g' b') : HeldA n' g' b' (k : Nat) (g' k) := by
  have hk := (made_le h).2.2
  refine ⟨by omega, by omega, rfl, ?_⟩
  show b' k = true
  rcases h with ⟨_, _, _, _, _, rfl⟩ | ⟨rfl, _, _, _, _, rfl⟩ <;> exact upd_at _ _ _
theorem made_mayA {n k n' : Nat} {g g' : Nat → Int} {b b' : Nat → Bool} (hm : MayA n g) (h : Made n g b k n' g' b') : MayA n' g' := by
  obtain ⟨h0, hg⟩ := hm
  rcases h with ⟨h1, h2, _, rfl, rfl, rfl⟩ | ⟨rfl, h2, _, rfl, rfl, rfl⟩
  · refine ⟨h0, fun i hi => ?_⟩
    by_cases e : i = k
    · subst e
      rw [upd_at]
      have h3 := hg i hi
      unfold freeS at h2
      unfold okS at h3 ⊢
      simp at h2 h3 ⊢
      omega
    · rw [upd_ne _ _ e]; exact hg i hi
  · refine ⟨by omega, fun i hi => ?_⟩
    by_cases e : i = k
    · subst e; rw [upd_at]; rfl
    · rw [upd_ne _ _ e]; exact hg i (by omega)
theorem made_may {d : GD} {k n' : Nat} {g' : Nat → Int} {b' : Nat → Bool} (hm : d.May) (h : Made d.n d.g d.b k n' g' b') : (d.made n' g' b').May := by
  have hn := made_le h
  refine ⟨made_mayA hm.1 h, rfl, fun i hi => ?_, ?_⟩
  · by_cases e : i < d.n
    · obtain ⟨h1, h2, h3⟩ := hm.2.2.1 i (by rw [hm.2.1]; exact e)
      have eL := made_L (d := d) (n' := n') (g' := g') (b' := b') e
      refine ⟨by rw [eL]; exact h1, fun hp => (made_other h e (h2 (by rw [← eL]; exact hp))).2, fun j hj => made_held h (h3 j (by rw [← eL]; exact hj))⟩
    · have eL : (d.made n' g' b').L i = 0 := if_neg e
      exact ⟨by omega, fun hp => by omega, fun j hj => by omega⟩
  · refine GE.Sub.acyc (e := d.E) (fun i j hi hj => ?_) hm.2.2.2
    by_cases e : i < d.n
    · refine ⟨e, j, ?_, rfl⟩
      have eL := made_L (d := d) (n' := n') (g' := g') (b' := b') e
      have hj' : j < (d.made n' g' b').L i := hj
      rw [eL] at hj'
      exact hj'
    · have eL : (d.made n' g' b').L i = 0 := if_neg e
      have hj' : j < (d.made n' g' b').L i := hj
      omega
theorem link_L {d : GD} {s a : Nat} {x y : Int} : (d.link s a x y).L s = d.L s + 1 := upd_at _ _ _
theorem link_Lne {d : GD} {s a i : Nat} {x y : Int} (h : i ≠ s) : (d.link s a x y).L i = d.L i := upd_ne _ _ h
theorem link_S {d : GD} {s a : Nat} {x y : Int} : (d.link s a x y).S s = insF (d.S s) a x := if_pos rfl
theorem link_Q {d : GD} {s a : Nat} {x y : Int} : (d.link s a x y).Q s = insF (d.Q s) a y := if_pos rfl
theorem link_Sne {d : GD} {s a i : Nat} {x y : Int} (h : i ≠ s) : (d.link s a x y).S i = d.S i := if_neg h
theorem link_Qne {d : GD} {s a i : Nat} {x y : Int} (h : i ≠ s) : (d.link s a x y).Q i = d.Q i := if_neg h
/-- An edge of a linked graph is the new one or one of before. -/
theorem link_edge {d : GD} {s a t : Nat} {y : Int} (ha : a ≤ d.L s) {i k : Nat} (hk : k < (d.link s a t y).E.L i) : (i = s ∧ (d.link s a t y).E.K i k = t) ∨ ∃ k', k' < d.E.L i ∧ d.E.K i k' = (d.link s a t y).E.K i k := by
  have hk' : k < (d.link s a t y).L i := hk
  by_cases e : i = s
  · subst e
    rw [link_L] at hk'
    have eK : (d.link i a t y).E.K i k = (insF (d.S i) a t k).toNat := by show ((d.link i a t y).S i k).toNat = _; rw [link_S]
    rw [eK]
    rcases Nat.lt_trichotomy k a with h | h | h
    · rw [insF_lo h]
      exact .inr ⟨k, by show k < d.L i; omega, rfl⟩
    · subst h
      rw [insF_at]
      exact .inl ⟨rfl, rfl⟩
    · rw [insF_hi h]
      exact .inr ⟨k - 1, by show k - 1 < d.L i; omega, rfl⟩
  · rw [link_Lne e] at hk'
    refine .inr ⟨k, hk', ?_⟩
    show (d.S i k).toNat = ((d.link s a t y).S i k).toNat
    rw [link_Sne e]
theorem link_reach {d : GD} {s a t : Nat} {y : Int} (ha : a ≤ d.L s) {i j : Nat} (h : (d.link s a t y).E.Reach i j) : d.E.Reach i j ∨ (d.E.Reach i s ∧ d.E.Reach t j) := by
  induction h with
  | self _ => exact .inl (.self _)
  | @step i j k hi hk _ ih =>
    rcases link_edge ha hk with ⟨rfl, e⟩ | ⟨k', hk', e⟩
    · rw [e] at ih
      rcases ih with h | ⟨_, h⟩
      · exact .inr ⟨.self _, h⟩
      · exact .inr ⟨.self _, h⟩
    · rw [← e] at ih
      rcases ih with h | ⟨h1, h2⟩
      · exact .inl (.step hi hk' h)
      · exact .inr ⟨.step hi hk' h1, h2⟩
theorem link_acyc {d : GD} {s a t : Nat} {y : Int} (ha : a ≤ d.L s) (hac : d.E.Acyc) (hr : ¬ d.E.Reach t s) : (d.link s a t y).E.Acyc := fun i k hi hk h => by
  have hi' : i < d.E.n := hi
  rcases link_edge ha hk with ⟨rfl, e⟩ | ⟨k', hk', e⟩
  · rw [e] at h
    rcases link_reach ha h with h | ⟨h, _⟩
    · exact hr h
    · exact hr h
  · rw [← e] at h
    rcases link_reach ha h with h | ⟨h1, h2⟩
    · exact hac i k' hi' hk' h
    · exact hr (h2.trans (.step hi' hk' h1))
theorem link_may {d : GD} {s a t : Nat} (hm : d.May) (hs : s < d.n) (hb : d.b s = true) (ht : HeldA d.n d.g d.b (t : Nat) (d.g t)) (ha : a ≤ d.L s) (hL : d.L s ≠ 16) (hr : ¬ d.E.Reach t s) : (d.link s a t (d.g t)).May := by
  refine ⟨hm.1, hm.2.1, fun i hi => ?_, link_acyc ha hm.2.2.2 hr⟩
  obtain ⟨h1, h2, h3⟩ := hm.2.2.1 i hi
  by_cases e : i = s
  · subst e
    refine ⟨by rw [link_L]; omega, fun _ => hb, fun k hk => ?_⟩
    rw [link_L] at hk
    rw [link_S, link_Q]
    rcases Nat.lt_trichotomy k a with h | h | h
    · rw [insF_lo h, insF_lo h]; exact h3 k (by omega)
    · subst h; rw [insF_at, insF_at]; exact ht
    · rw [insF_hi h, insF_hi h]; exact h3 (k - 1) (by omega)
  · refine ⟨by rw [link_Lne e]; exact h1, fun hp => h2 (by rw [link_Lne e] at hp; exact hp), fun k hk => ?_⟩
    rw [link_Lne e] at hk
    rw [link_Sne e, link_Qne e]
    exact h3 k hk
/-- What Link asks for, where it says yes. -/
theorem linkH_zero {d : GD} {s t : Nat} {x : Int} (h : linkH d s t x = 0) : 0 ≤ x ∧ x ≤ (d.L s : Int) ∧ d.L s ≠ 16 ∧ ¬ d.E.Reach t s := by
  unfold linkH at h
  by_cases h1 : x < 0 ∨ (d.L s : Int) < x
  · rw [if_pos h1] at h; cases h
  · rw [if_neg h1] at h
    by_cases h2 : d.L s = 16
    · rw [if_pos h2] at h; cases h
    · rw [if_neg h2] at h
      cases h3 : d.E.reachB t s with
      | true => rw [h3, if_pos rfl] at h; cases h
      | false => exact ⟨by omega, by omega, h2, fun hr => by rw [(GE.reachB_iff _ _ _).2 hr] at h3; cases h3⟩
theorem linkH_ok {d : GD} {s t a : Nat} (ha : a ≤ d.L s) (h16 : d.L s ≠ 16) (hr : ¬ d.E.Reach t s) : linkH d s t a = 0 := by
  unfold linkH
  have h3 : d.E.reachB t s = false := by
    cases h : d.E.reachB t s
    · rfl
    · exact absurd ((GE.reachB_iff _ _ _).1 h) hr
  rw [if_neg (by omega), if_neg h16, h3, if_neg (by decide)]
theorem linkE_zero {d : GD} {s q s' q' x : Int} (h : linkE d s q s' q' x = 0) : ∃ k t a : Nat, s = k ∧ s' = t ∧ x = a ∧ q = d.g k ∧ q' = d.g t ∧ d.May ∧ HeldA d.n d.g d.b (k : Nat) (d.g k) ∧ HeldA d.n d.g d.b (t : Nat) (d.g t) ∧ a ≤ d.L k ∧ d.L k ≠ 16 ∧ ¬ d.E.Reach t k := by
  unfold linkE at h
  by_cases h0 : askv d (HeldA d.n d.g d.b s q ∧ HeldA d.n d.g d.b s' q') = 0
  · rw [if_pos h0] at h
    obtain ⟨hm, h1, h2⟩ := askv_zero h0
    obtain ⟨k, rfl⟩ := Int.eq_ofNat_of_zero_le h1.1
    obtain ⟨t, rfl⟩ := Int.eq_ofNat_of_zero_le h2.1
    simp only [Int.toNat_natCast] at h
    obtain ⟨h3, h4, h5, h6⟩ := linkH_zero h
    obtain ⟨a, rfl⟩ := Int.eq_ofNat_of_zero_le h3
    have e1 : d.g k = q := h1.2.2.1
    have e2 : d.g t = q' := h2.2.2.1
    subst e1 e2
    exact ⟨k, t, a, rfl, rfl, rfl, rfl, rfl, hm, h1, h2, by omega, h5, h6⟩
  · rw [if_neg h0] at h
    exact absurd h h0
theorem linkE_ok {d : GD} {k t a : Nat} (hm : d.May) (h1 : HeldA d.n d.g d.b (k : Nat) (d.g k)) (h2 : HeldA d.n d.g d.b (t : Nat) (d.g t)) (ha : a ≤ d.L k) (h16 : d.L k ≠ 16) (hr : ¬ d.E.Reach t k) : linkE d k (d.g k) t (d.g t) a = 0 := by
  unfold linkE
  rw [if_pos (askv_ok hm ⟨h1, h2⟩)]
  exact linkH_ok ha h16 hr
theorem GD.May.sm {d : GD} (h : d.May) : d.Sm := ⟨by have := h.1.1; omega, by have := h.1.1; rw [h.2.1]; omega, fun i hi => by have := (h.2.2.1 i hi).1; omega⟩
/-- A graph of three nodes without children. -/
structure GD.Three (d : GD) : Prop where
  may : d.May
  n : d.n = 3
  g : ∀ i, i < 3 → d.g i = 1
  b : ∀ i, i < 3 → d.b i = true
  L : ∀ i, i < 3 → d.L i = 0
theorem GD.Three.held {d : GD} (h : d.Three) {i : Nat} (hi : i < 3) : HeldA d.n d.g d.b (i : Nat) (d.g i) := ⟨by omega, by rw [h.n]; omega, rfl, h.b i hi⟩
/-- No child, nobody reaches another one. -/
theorem GD.Three.none {d : GD} (h : d.Three) {i j : Nat} (hr : d.E.Reach i j) : i = j := by
  cases hr with
  | self _ => rfl
  | step hi hk _ =>
    have h1 : i < d.n := hi
    rw [h.n] at h1
    have h2 : _ < d.L i := hk
    rw [h.L i h1] at h2
    omega
/-- The first link. -/
theorem GD.Three.one {d : GD} (h : d.Three) : (d.link 0 0 1 1).May ∧ linkE d 0 1 1 1 0 = 0 := by
  have e0 := h.g 0 (by omega)
  have e1 := h.g 1 (by omega)
  have hr : ¬ d.E.Reach 1 0 := fun hr => by have := h.none hr; omega
  have hL := h.L 0 (by omega)
  have a := link_may h.may (s := 0) (t := 1) (a := 0) (by rw [h.n]; omega) (h.b 0 (by omega)) (h.held (by omega)) (by omega) (by omega) hr
  have b := linkE_ok h.may (k := 0) (t := 1) (a := 0) (h.held (by omega)) (h.held (by omega)) (by omega) (by omega) hr
  rw [e1] at a
  rw [e0, e1] at b
  exact ⟨a, b⟩
theorem GD.Three.two {d : GD} (h : d.Three) : ((d.link 0 0 1 1).link 0 1 1 1).May ∧ linkE (d.link 0 0 1 1) 0 1 1 1 1 = 0 := by
  have e0 := h.g 0 (by omega)
  have e1 := h.g 1 (by omega)
  have hL := h.L 0 (by omega)
  have hL1 : (d.link 0 0 1 1).L 0 = 1 := by rw [link_L, hL]
  have hr : ¬ (d.link 0 0 1 1).E.Reach 1 0 := fun hr => by
    rcases link_reach (t := 1) (by omega) hr with h1 | ⟨h1, _⟩
    · have := h.none h1; omega
    · have := h.none h1; omega
  have a := link_may h.one.1 (s := 0) (t := 1) (a := 1) (by show 0 < d.n; rw [h.n]; omega) (h.b 0 (by omega)) (h.held (by omega)) (by omega) (by omega) hr
  have b := linkE_ok h.one.1 (k := 0) (t := 1) (a := 1) (h.held (by omega)) (h.held (by omega)) (by omega) (by omega) hr
  have e0' : (d.link 0 0 1 1).g 0 = 1 := e0
  have e1' : (d.link 0 0 1 1).g 1 = 1 := e1
  rw [e1'] at a
  rw [e0', e1'] at b
  exact ⟨a, b⟩
theorem GD.Three.three {d : GD} (h : d.Three) : (((d.link 0 0 1 1).link 0 1 1 1).link 1 0 2 1).May ∧ linkE ((d.link 0 0 1 1).link 0 1 1 1) 1 1 2 1 0 = 0 := by
  have e1 := h.g 1 (by omega)
  have e2 := h.g 2 (by omega)
  have hL0 := h.L 0 (by omega)
  have hL := h.L 1 (by omega)
  have hL1 : (d.link 0 0 1 1).L 0 = 1 := by rw [link_L, hL0]
  have hL2 : ((d.link 0 0 1 1).link 0 1 1 1).L 1 = 0 := by rw [link_Lne (by omega), link_Lne (by omega), hL]
  have hr : ¬ ((d.link 0 0 1 1).link 0 1 1 1).E.Reach 2 1 := fun hr => by
    have no : ∀ j, j ≠ 2 → ¬ (d.link 0 0 1 1).E.Reach 2 j := fun j hj hr => by
      rcases link_reach (t := 1) (by omega) hr with h1 | ⟨h1, _⟩
      · have := h.none h1; omega
      · have := h.none h1; omega
    rcases link_reach (t := 1) (by omega) hr with h1 | ⟨h1, _⟩
    · exact no 1 (by omega) h1
    · exact no 0 (by omega) h1
  have a := link_may h.two.1 (s := 1) (t := 2) (a := 0) (by show 1 < d.n; rw [h.n]; omega) (h.b 1 (by omega)) (h.held (by omega)) (by omega) (by omega) hr
  have b := linkE_ok h.two.1 (k := 1) (t := 2) (a := 0) (h.held (by omega)) (h.held (by omega)) (by omega) (by omega) hr
  have e1' : ((d.link 0 0 1 1).link 0 1 1 1).g 1 = 1 := e1
  have e2' : ((d.link 0 0 1 1).link 0 1 1 1).g 2 = 1 := e2
  rw [e2'] at a
  rw [e1', e2'] at b
  exact ⟨a, b⟩
/-- A graph of k nodes without children. -/
structure GD.Up (d : GD) (k : Nat) : Prop where
  may : d.May
  n : d.n = k
  g : ∀ i, i < k → d.g i = 1
  b : ∀ i, i < k → d.b i = true
  L : ∀ i, i < k → d.L i = 0
theorem GD.Up.three {d : GD} (h : d.Up 3) : d.Three := ⟨h.may, h.n, h.g, h.b, h.L⟩
theorem GD.Up.sm {d : GD} {k : Nat} (h : d.Up k) (hk : k ≤ 3) : d.Sm := ⟨by rw [h.n]; omega, by rw [h.may.2.1, h.n]; omega, fun i hi => by rw [h.L i (by rw [h.may.2.1, h.n] at hi; exact hi)]; omega⟩
/-- The graph of nothing. -/
def GD.nil : GD := ⟨0, fun _ => 0, fun _ => false, 0, fun _ => 0, fun _ _ => 0, fun _ _ => 0⟩
theorem GD.nil_up : GD.nil.Up 0 := ⟨⟨⟨by show (0 : Nat) ≤ 128; omega, fun i hi => absurd hi (Nat.not_lt_zero i)⟩, rfl, fun i hi => absurd hi (Nat.not_lt_zero i), fun i k hi => absurd hi (Nat.not_lt_zero i)⟩, rfl, fun i hi => absurd hi (by omega), fun i hi => absurd hi (by omega), fun i hi => absurd hi (by omega)⟩
theorem GD.nil_ok (w : World) (KA : Nat → Option Addr) (KC : Nat → Nat) : GOk w ⟨none, 0, none, 0, KA, KC⟩ GD.nil := ⟨Row.zero _ _ _ _, Row.zero _ _ _ _, fun i hi => absurd hi (Nat.not_lt_zero i)⟩
theorem GD.Up.made {d : GD} {k j n' : Nat} {g' : Nat → Int} {b' : Nat → Bool} (h : d.Up k) (hm : Made d.n d.g d.b j n' g' b') : j = k ∧ n' = k + 1 ∧ g' j = 1 ∧ (d.made n' g' b').Up (k + 1) := by
  have hmay := made_may h.may hm
  rcases hm with ⟨h1, h2, _⟩ | ⟨rfl, h2, _, rfl, rfl, rfl⟩
  · rw [h.n] at h1
    have := h.b j h1
    unfold freeS at h2
    rw [this] at h2
    cases h2
  · refine ⟨h.n, by rw [h.n], upd_at _ _ _, hmay, by show d.n + 1 = k + 1; rw [h.n], fun i hi => ?_, fun i hi => ?_, fun i hi => ?_⟩
    · show upd d.g d.n 1 i = 1
      by_cases e : i = d.n
      · subst e; exact upd_at _ _ _
      · rw [upd_ne _ _ e]; exact h.g i (by rw [h.n] at e; omega)
    · show upd d.b d.n true i = true
      by_cases e : i = d.n
      · subst e; exact upd_at _ _ _
      · rw [upd_ne _ _ e]; exact h.b i (by rw [h.n] at e; omega)
    · by_cases e : i < d.n
      · rw [made_L e]; exact h.L i (by rw [h.n] at e; exact e)
      · exact if_neg e
/-- The chapter's example. -/
def GD.ex (d : GD) : GD := ((d.link 0 0 1 1).link 0 1 1 1).link 1 0 2 1
theorem GD.Three.ex {d : GD} (h : d.Three) : d.ex.May ∧ d.ex.Sm ∧ (∀ i : Nat, i < 3 → HeldA d.ex.n d.ex.g d.ex.b (i : Nat) 1) ∧ d.ex.L 0 = 2 ∧ d.ex.L 1 = 1 ∧ d.ex.L 2 = 0 ∧ (∀ k, k < 2 → d.ex.S 0 k = 1 ∧ d.ex.Q 0 k = 1) ∧ d.ex.S 1 0 = 2 ∧ d.ex.Q 1 0 = 1 := by
  have l0 : d.ex.L 0 = 2 := by unfold GD.ex; rw [link_Lne (by omega), link_L, link_L, h.L 0 (by omega)]
  have l1 : d.ex.L 1 = 1 := by unfold GD.ex; rw [link_L, link_Lne (by omega), link_Lne (by omega), h.L 1 (by omega)]
  have l2 : d.ex.L 2 = 0 := by unfold GD.ex; rw [link_Lne (by omega), link_Lne (by omega), link_Lne (by omega), h.L 2 (by omega)]
  have hm : d.ex.May := h.three.1
  refine ⟨hm, ⟨by show d.n ≤ 1000; rw [h.n]; omega, by rw [hm.2.1]; show d.n ≤ 1000; rw [h.n]; omega, fun i hi => ?_⟩, fun i hi => ?_, l0, l1, l2, fun k hk => ?_, ?_, ?_⟩
  · have := (hm.2.2.1 i hi).1
    omega
  · have := h.held hi
    rw [h.g i hi] at this
    exact this
  · unfold GD.ex
    rw [link_Sne (by omega), link_Qne (by omega), link_S, link_S, link_Q, link_Q]
    obtain rfl | rfl : k = 0 ∨ k = 1 := by omega
    · rw [insF_lo (f := insF (d.S 0) 0 1) (by omega), insF_lo (f := insF (d.Q 0) 0 1) (by omega), insF_at, insF_at]; exact ⟨rfl, rfl⟩
    · rw [insF_at, insF_at]; exact ⟨rfl, rfl⟩
  · unfold GD.ex
    rw [link_S, insF_at]
  · unfold GD.ex
    rw [link_Q, insF_at]
theorem GD.Three.ask {d : GD} (h : d.Three) {i : Nat} (hi : i < 3) : askv d.ex (HeldA d.ex.n d.ex.g d.ex.b (i : Nat) 1) = 0 := askv_ok h.ex.1 (h.ex.2.2.1 i hi)
theorem GD.Three.ask2 {d : GD} (h : d.Three) {i j : Nat} (hi : i < 3) (hj : j < 3) : askv d.ex (HeldA d.ex.n d.ex.g d.ex.b (i : Nat) 1 ∧ HeldA d.ex.n d.ex.g d.ex.b (j : Nat) 1) = 0 := askv_ok h.ex.1 ⟨h.ex.2.2.1 i hi, h.ex.2.2.1 j hj⟩
theorem GD.Three.kidN {d : GD} (h : d.Three) : kidN d.ex (0 : Nat) 1 = 2 := by
  unfold Go.Proofs.Ytgkeiaggldahnaa.kidN
  rw [if_pos (h.ask (i := 0) (by omega))]
  exact h.ex.2.2.2.1
theorem GD.Three.par {d : GD} (h : d.Three) : parV d.ex (1 : Nat) 1 = [0, 0] := by
  obtain ⟨hm, _, _, l0, l1, l2, hs, s1, q1⟩ := h.ex
  unfold parV
  rw [if_pos (h.ask (i := 1) (by omega))]
  have e : d.ex.m = 3 := by rw [hm.2.1]; exact h.n
  have a0 := hs 0 (by omega)
  have a1 := hs 1 (by omega)
  rw [e]
  simp [parL, parK, l0, l1, l2, a0, a1, s1, q1]
theorem GD.Three.down {d : GD} (h : d.Three) : d.ex.E.Reach 0 2 := by
  obtain ⟨hm, _, _, l0, l1, l2, hs, s1, q1⟩ := h.ex
  have k0 : d.ex.E.K 0 0 = 1 := by show (d.ex.S 0 0).toNat = 1; rw [(hs 0 (by omega)).1]; rfl
  have k1 : d.ex.E.K 1 0 = 2 := by show (d.ex.S 1 0).toNat = 2; rw [s1]; rfl
  have n3 : d.ex.E.n = 3 := h.n
  refine .step (k := 0) (by omega) (by show 0 < d.ex.L 0; omega) ?_
  rw [k0]
  refine .step (k := 0) (by omega) (by show 0 < d.ex.L 1; omega) ?_
  rw [k1]
  exact .self _
theorem GD.Three.up {d : GD} (h : d.Three) : ¬ d.ex.E.Reach 2 0 := fun hr => by
  obtain ⟨hm, _, _, l0, l1, l2, hs, s1, q1⟩ := h.ex
  cases hr with
  | step hi hk _ =>
    have h2 : _ < d.ex.L 2 := hk
    omega
theorem GD.Three.rch {d : GD} (h : d.Three) : rchv d.ex (0 : Nat) 1 (2 : Nat) 1 = true ∧ rchv d.ex (2 : Nat) 1 (0 : Nat) 1 = false := by
  unfold rchv
  rw [if_pos (h.ask2 (i := 0) (j := 2) (by omega) (by omega)), if_pos (h.ask2 (i := 2) (j := 0) (by omega) (by omega))]
  refine ⟨(GE.reachB_iff _ _ _).2 h.down, ?_⟩
  cases hb : d.ex.E.reachB ((2 : Nat) : Int).toNat ((0 : Nat) : Int).toNat with
  | false => rfl
  | true => exact absurd ((GE.reachB_iff _ _ _).1 hb) h.up
end Go.Proofs.Ytgkeiaggldahnaa
