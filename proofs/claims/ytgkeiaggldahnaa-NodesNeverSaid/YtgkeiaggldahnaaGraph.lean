/- nodes: graphs of slots, who reaches whom; plain law, no program. -/
namespace Go.Proofs.Ytgkeiaggldahnaa
set_option linter.unusedVariables false
/-- How many of the first n are so. -/
def cnt (p : Nat → Bool) : Nat → Nat
  | 0 => 0
  | n + 1 => cnt p n + (if p n = true then 1 else 0)
theorem cnt_le (p : Nat → Bool) : ∀ n, cnt p n ≤ n
  | 0 => Nat.le_refl _
  | n + 1 => by
    have := cnt_le p n
    unfold cnt
    split <;> omega
theorem cnt_mono {p q : Nat → Bool} : ∀ n, (∀ i, i < n → p i = true → q i = true) → cnt p n ≤ cnt q n
  | 0, _ => Nat.le_refl _
  | n + 1, h => by
    have := cnt_mono n fun i hi => h i (by omega)
    have hn := h n (by omega)
    unfold cnt
    by_cases hp : p n = true
    · rw [if_pos hp, if_pos (hn hp)]; omega
    · rw [if_neg hp]; omega
theorem cnt_lt {p q : Nat → Bool} : ∀ n j, j < n → (∀ i, i < n → p i = true → q i = true) → p j = false → q j = true → cnt p n < cnt q n
  | 0, _, hj, _, _, _ => absurd hj (by omega)
  | n + 1, j, hj, h, h1, h2 => by
    have hm := cnt_mono n fun i hi => h i (by omega)
    have hn := h n (by omega)
    unfold cnt
    by_cases e : j = n
    · subst e
      rw [if_neg (by rw [h1]; decide), if_pos h2]; omega
    · have := cnt_lt n j (by omega) (fun i hi => h i (by omega)) h1 h2
      by_cases hp : p n = true
      · rw [if_pos hp, if_pos (hn hp)]; omega
      · rw [if_neg hp]; omega
theorem cnt_all {p : Nat → Bool} : ∀ n, cnt p n = n ↔ ∀ i, i < n → p i = true
  | 0 => ⟨fun _ i hi => absurd hi (by omega), fun _ => rfl⟩
  | n + 1 => by
    have ih := cnt_all (p := p) n
    have hl := cnt_le p n
    unfold cnt
    by_cases hp : p n = true
    · rw [if_pos hp]
      refine ⟨fun h i hi => ?_, fun h => ?_⟩
      · rcases Nat.lt_or_ge i n with hlt | hge
        · exact ih.1 (by omega) i hlt
        · obtain rfl : i = n := by omega
          exact hp
      · have := ih.2 fun i hi => h i (by omega)
        omega
    · rw [if_neg hp]
      exact ⟨fun h => absurd h (by omega), fun h => absurd (h n (by omega)) hp⟩
theorem cnt_none (n : Nat) : cnt (fun _ => false) n = 0 := by
  induction n with
  | zero => rfl
  | succ n ih => unfold cnt; rw [ih]; rfl
theorem cnt_upd {p : Nat → Bool} {k : Nat} (hp : p k = false) : ∀ n, k < n → cnt (fun i => if i = k then true else p i) n = cnt p n + 1
  | 0, h => absurd h (by omega)
  | n + 1, h => by
    unfold cnt
    by_cases e : k = n
    · subst e
      rw [if_pos (by simp), if_neg (by rw [hp]; decide)]
      have : ∀ m, m ≤ k → cnt (fun i => if i = k then true else p i) m = cnt p m := by
        intro m
        induction m with
        | zero => intro _; rfl
        | succ m ih =>
          intro hm
          unfold cnt
          rw [ih (by omega), if_neg (c := m = k) (by omega)]
      rw [this k (Nat.le_refl _)]
    · rw [cnt_upd hp n (by omega)]
      have : (if n = k then true else p n) = p n := if_neg (by omega)
      simp only [this]
      omega

/-- A graph: n nodes; the children of each, by their slots. -/
structure GE where
  n : Nat
  L : Nat → Nat
  K : Nat → Nat → Nat
/-- Every child is one of the nodes. -/
def GE.In (e : GE) : Prop := ∀ i k, i < e.n → k < e.L i → e.K i k < e.n
/-- Who reaches whom. -/
inductive GE.Reach (e : GE) : Nat → Nat → Prop
  | self (i : Nat) : GE.Reach e i i
  | step {i j k : Nat} (hi : i < e.n) (hk : k < e.L i) (h : GE.Reach e (e.K i k) j) : GE.Reach e i j
theorem GE.Reach.trans {e : GE} {i j l : Nat} (h : e.Reach i j) (h' : e.Reach j l) : e.Reach i l := by
  induction h with
  | self _ => exact h'
  | step hi hk _ ih => exact .step hi hk (ih h')
theorem GE.Reach.snoc {e : GE} {i j k : Nat} (h : e.Reach i j) (hj : j < e.n) (hk : k < e.L j) : e.Reach i (e.K j k) := h.trans (.step hj hk (.self _))
/-- A set that holds the children of whatever it holds. -/
def GE.Closed (e : GE) (p : Nat → Bool) : Prop := ∀ i k, i < e.n → k < e.L i → p i = true → p (e.K i k) = true
theorem GE.Closed.reach {e : GE} {p : Nat → Bool} (h : e.Closed p) {i j : Nat} (hr : e.Reach i j) (hi : p i = true) : p j = true := by
  induction hr with
  | self _ => exact hi
  | step h1 h2 _ ih => exact ih (h _ _ h1 h2 hi)
/-- No node has a child that reaches it. -/
def GE.Acyc (e : GE) : Prop := ∀ i k, i < e.n → k < e.L i → ¬ e.Reach (e.K i k) i
open Classical in
/-- The nodes that a node reaches. -/
noncomputable def GE.reachB (e : GE) (i j : Nat) : Bool := decide (e.Reach i j)
theorem GE.reachB_iff (e : GE) (i j : Nat) : e.reachB i j = true ↔ e.Reach i j := by unfold GE.reachB; simp
/-- Where not all are counted, one that is not has counted children alone. -/
theorem GE.Acyc.next {e : GE} (ha : e.Acyc) (hin : e.In) {p : Nat → Bool} : ∀ m i, i < e.n → p i = false → cnt (e.reachB i) e.n ≤ m → ∃ j, j < e.n ∧ p j = false ∧ ∀ k, k < e.L j → p (e.K j k) = true
  | 0, i, hi, hp, hm => by
    have h := cnt_lt (p := fun _ => false) (q := e.reachB i) e.n i hi (fun _ _ h => by cases h) rfl ((e.reachB_iff i i).2 (.self i))
    omega
  | m + 1, i, hi, hp, hm => by
    by_cases hc : ∀ k, k < e.L i → p (e.K i k) = true
    · exact ⟨i, hi, hp, hc⟩
    · obtain ⟨k, hk⟩ := Classical.not_forall.1 hc
      obtain ⟨hk, hkp⟩ := Classical.not_imp.1 hk
      have hkp : p (e.K i k) = false := by cases h : p (e.K i k) <;> simp_all
      refine ha.next hin m _ (hin i k hi hk) hkp ?_
      have := cnt_lt (p := e.reachB (e.K i k)) (q := e.reachB i) e.n i hi (fun j _ h => (e.reachB_iff _ _).2 (.step hi hk ((e.reachB_iff _ _).1 h)))
        (by cases h : e.reachB (e.K i k) i with | false => rfl | true => exact absurd ((e.reachB_iff _ _).1 h) (ha i k hi hk)) ((e.reachB_iff i i).2 (.self i))
      omega
/-- A numbering that falls from each node to its children. -/
theorem GE.acyc_rank {e : GE} (r : Nat → Nat) (h : ∀ i k, i < e.n → k < e.L i → r (e.K i k) < r i) : e.Acyc := by
  have hr : ∀ i j, e.Reach i j → r j ≤ r i := by
    intro i j hij
    induction hij with
    | self _ => exact Nat.le_refl _
    | step hi hk _ ih => have := h _ _ hi hk; omega
  intro i k hi hk hreach
  have := hr _ _ hreach
  have := h i k hi hk
  omega
/-- The pass of 'loose': counted nodes have counted children, counted ahead of them. -/
structure GE.Cnt (e : GE) (p : Nat → Bool) (r : Nat → Nat) (c : Nat) : Prop where
  many : cnt p e.n = c
  low : ∀ i, i < e.n → p i = true → r i < c
  kids : ∀ i k, i < e.n → k < e.L i → p i = true → p (e.K i k) = true ∧ r (e.K i k) < r i
theorem GE.Cnt.zero (e : GE) (r : Nat → Nat) : e.Cnt (fun _ => false) r 0 := ⟨cnt_none _, fun _ _ h => (by cases h), fun _ _ _ _ h => (by cases h)⟩
theorem GE.Cnt.add {e : GE} {p : Nat → Bool} {r : Nat → Nat} {c i : Nat} (h : e.Cnt p r c) (hin : e.In) (hi : i < e.n) (hp : p i = false) (hk : ∀ k, k < e.L i → p (e.K i k) = true) :
    e.Cnt (fun j => if j = i then true else p j) (fun j => if j = i then c else r j) (c + 1) := by
  refine ⟨by rw [cnt_upd hp _ hi, h.many], fun j hj hpj => ?_, fun j k hj hkj hpj => ?_⟩
  · by_cases e1 : j = i
    · show (if j = i then c else r j) < _; rw [if_pos e1]; omega
    · have hpj' : (if j = i then true else p j) = true := hpj
      rw [if_neg e1] at hpj'
      show (if j = i then c else r j) < _; rw [if_neg e1]; have := h.low j hj hpj'; omega
  · show (if e.K j k = i then true else p (e.K j k)) = true ∧ (if e.K j k = i then c else r (e.K j k)) < (if j = i then c else r j)
    by_cases e1 : j = i
    · subst e1
      have h1 := hk k hkj
      have h2 : e.K j k ≠ j := fun e2 => by rw [e2, hp] at h1; cases h1
      rw [if_neg h2, if_neg h2, if_pos rfl]
      exact ⟨h1, h.low _ (hin j k hj hkj) h1⟩
    · have hpj' : (if j = i then true else p j) = true := hpj
      rw [if_neg e1] at hpj'
      obtain ⟨h1, h3⟩ := h.kids j k hj hkj hpj'
      have h2 : e.K j k ≠ i := fun e2 => by rw [e2, hp] at h1; cases h1
      rw [if_neg h2, if_neg h2, if_neg e1]
      exact ⟨h1, h3⟩
theorem GE.Cnt.acyc {e : GE} {p : Nat → Bool} {r : Nat → Nat} (h : e.Cnt p r e.n) : e.Acyc :=
  GE.acyc_rank r fun i k hi hk => (h.kids i k hi hk ((cnt_all e.n).1 h.many i hi)).2
/-- A pass of 'loose' from the set q on: the nodes ahead of m are through. -/
structure GE.Pass (e : GE) (q p : Nat → Bool) (m : Nat) : Prop where
  sub : ∀ i, i < e.n → q i = true → p i = true
  done : ∀ i, i < m → i < e.n → (∀ k, k < e.L i → q (e.K i k) = true) → p i = true
theorem GE.Pass.start (e : GE) (q : Nat → Bool) : e.Pass q q 0 := ⟨fun _ _ h => h, fun _ h => absurd h (by omega)⟩
theorem GE.Pass.skip {e : GE} {q p : Nat → Bool} {m : Nat} (h : e.Pass q p m) (hin : e.In) (hm : m < e.n) (hp : p m = true ∨ ∃ k, k < e.L m ∧ p (e.K m k) = false) : e.Pass q p (m + 1) :=
  ⟨h.sub, fun i hi hn hk => by
    rcases Nat.lt_or_ge i m with h1 | h1
    · exact h.done i h1 hn hk
    · obtain rfl : i = m := by omega
      rcases hp with hp | ⟨k, hkl, hp⟩
      · exact hp
      · have := h.sub _ (hin i k hn hkl) (hk k hkl)
        rw [hp] at this
        cases this⟩
theorem GE.Pass.add {e : GE} {q p : Nat → Bool} {m : Nat} (h : e.Pass q p m) : e.Pass q (fun j => if j = m then true else p j) (m + 1) :=
  ⟨fun i hi hq => by
    show (if i = m then true else p i) = true
    split
    · rfl
    · exact h.sub i hi hq, fun i hi hn hk => by
    show (if i = m then true else p i) = true
    split
    · rfl
    · exact h.done i (by omega) hn hk⟩
/-- Behind a pass: where there are no loops, one more is counted, or all are. -/
theorem GE.Pass.more {e : GE} {q p : Nat → Bool} {r r' : Nat → Nat} {c d a : Nat} (h : e.Pass q p e.n) (hin : e.In) (hq : e.Cnt q r c) (hp : e.Cnt p r' d) (ha : e.Acyc → a ≤ c ∨ c = e.n) : e.Acyc → a + 1 ≤ d ∨ d = e.n := fun hac => by
  have h1 := hq.many
  have h2 := hp.many
  have h3 := cnt_mono e.n h.sub
  have h4 := cnt_le p e.n
  by_cases hcn : c = e.n
  · right; omega
  · have hex : ∃ i, i < e.n ∧ q i = false := by
      apply Classical.byContradiction
      intro hno
      exact hcn (h1.symm.trans ((cnt_all e.n).2 fun i hi => by
        cases hqi : q i with
        | true => rfl
        | false => exact absurd ⟨i, hi, hqi⟩ hno))
    obtain ⟨i, hi, hqi⟩ := hex
    obtain ⟨j, hj, hqj, hjk⟩ := hac.next hin _ i hi hqi (Nat.le_refl _)
    have := cnt_lt e.n j hj h.sub hqj (h.done j hj hj hjk)
    rcases ha hac with h5 | h5
    · left; omega
    · omega
/-- A pass of 'Below' from the set q on; of what 'fr' reaches; the nodes ahead of m, and the first t children of m, are through. -/
structure GE.Spr (e : GE) (fr : Nat) (q p : Nat → Bool) (m t : Nat) : Prop where
  sub : ∀ i, i < e.n → q i = true → p i = true
  reach : ∀ i, i < e.n → p i = true → e.Reach fr i
  same : e.Closed q → ∀ i, i < e.n → p i = true → q i = true
  done : ∀ i k, i < m ∨ (i = m ∧ k < t) → i < e.n → k < e.L i → q i = true → p (e.K i k) = true
theorem GE.Spr.start {e : GE} {fr : Nat} {q : Nat → Bool} (h : ∀ i, i < e.n → q i = true → e.Reach fr i) : e.Spr fr q q 0 0 :=
  ⟨fun _ _ h => h, h, fun _ _ _ h => h, fun i k h => absurd h (by omega)⟩
theorem GE.Spr.kid {e : GE} {fr : Nat} {q p : Nat → Bool} {m t : Nat} (h : e.Spr fr q p m t) (hin : e.In) (hm : m < e.n) (ht : t < e.L m) (hp : p m = true) :
    e.Spr fr q (fun j => if j = e.K m t then true else p j) m (t + 1) := by
  have hx := hin m t hm ht
  refine ⟨fun i hi hq => ?_, fun i hi hpi => ?_, fun hc i hi hpi => ?_, fun i k hik hi hk hq => ?_⟩
  · show (if i = e.K m t then true else p i) = true
    split
    · rfl
    · exact h.sub i hi hq
  · have hpi' : (if i = e.K m t then true else p i) = true := hpi
    by_cases e1 : i = e.K m t
    · rw [e1]; exact (h.reach m hm hp).snoc hm ht
    · rw [if_neg e1] at hpi'; exact h.reach i hi hpi'
  · have hpi' : (if i = e.K m t then true else p i) = true := hpi
    by_cases e1 : i = e.K m t
    · rw [e1]; exact hc m t hm ht (h.same hc m hm hp)
    · rw [if_neg e1] at hpi'; exact h.same hc i hi hpi'
  · show (if e.K i k = e.K m t then true else p (e.K i k)) = true
    by_cases e1 : e.K i k = e.K m t
    · rw [if_pos e1]
    · rw [if_neg e1]
      refine h.done i k ?_ hi hk hq
      rcases hik with h1 | ⟨h1, h2⟩
      · exact .inl h1
      · subst h1
        refine .inr ⟨rfl, ?_⟩
        rcases Nat.lt_or_ge k t with h3 | h3
        · exact h3
        · obtain rfl : k = t := by omega
          exact absurd rfl e1
theorem GE.Spr.pass {e : GE} {fr : Nat} {q p : Nat → Bool} {m t : Nat} (h : e.Spr fr q p m t) (hm : m < e.n) (hp : p m = false) : e.Spr fr q p m (t + 1) :=
  ⟨h.sub, h.reach, h.same, fun i k hik hi hk hq => by
    rcases hik with h1 | ⟨h1, h2⟩
    · exact h.done i k (.inl h1) hi hk hq
    · subst h1
      have := h.sub i hi hq
      rw [hp] at this
      cases this⟩
theorem GE.Spr.row {e : GE} {fr : Nat} {q p : Nat → Bool} {m t : Nat} (h : e.Spr fr q p m t) (ht : e.L m ≤ t) : e.Spr fr q p (m + 1) 0 :=
  ⟨h.sub, h.reach, h.same, fun i k hik hi hk hq => by
    rcases hik with h1 | ⟨h1, h2⟩
    · rcases Nat.lt_or_ge i m with h3 | h3
      · exact h.done i k (.inl h3) hi hk hq
      · obtain rfl : i = m := by omega
        exact h.done i k (.inr ⟨rfl, by omega⟩) hi hk hq
    · omega⟩
/-- Ahead of the pass a: closed, or of more than a nodes. -/
structure GE.Wide (e : GE) (fr : Nat) (q : Nat → Bool) (a : Nat) : Prop where
  frm : q fr = true
  reach : ∀ i, i < e.n → q i = true → e.Reach fr i
  much : e.Closed q ∨ a + 1 ≤ cnt q e.n
theorem GE.Wide.start {e : GE} {fr : Nat} (hf : fr < e.n) : e.Wide fr (fun j => if j = fr then true else false) 0 :=
  ⟨by simp, fun i _ h => (by
    by_cases e1 : i = fr
    · rw [e1]; exact .self _
    · have h' : (if i = fr then true else false) = true := h
      rw [if_neg e1] at h'; cases h'), .inr (by
    have h1 := cnt_upd (p := fun _ => false) (k := fr) rfl e.n hf
    have h2 := cnt_none e.n
    omega)⟩
theorem GE.Wide.next {e : GE} {fr : Nat} {q p : Nat → Bool} {a : Nat} (h : e.Wide fr q a) (hin : e.In) (hf : fr < e.n) (s : e.Spr fr q p e.n 0) : e.Wide fr p (a + 1) := by
  refine ⟨s.sub fr hf h.frm, s.reach, ?_⟩
  by_cases hc : e.Closed q
  · refine .inl fun i k hi hk hpi => ?_
    exact s.sub _ (hin i k hi hk) (hc i k hi hk (s.same hc i hi hpi))
  · have h1 : a + 1 ≤ cnt q e.n := h.much.resolve_left hc
    right
    obtain ⟨i, hi⟩ := Classical.not_forall.1 hc
    obtain ⟨k, hk⟩ := Classical.not_forall.1 hi
    obtain ⟨h2, h3⟩ := Classical.not_imp.1 hk
    obtain ⟨h4, h5⟩ := Classical.not_imp.1 h3
    obtain ⟨h6, h7⟩ := Classical.not_imp.1 h5
    have := cnt_lt (p := q) (q := p) e.n (e.K i k) (hin i k h2 h4) s.sub (by cases hq : q (e.K i k) <;> simp_all) (s.done i k (.inl h2) h2 h4 h6)
    omega
theorem GE.Wide.end {e : GE} {fr : Nat} {q : Nat → Bool} (h : e.Wide fr q e.n) {j : Nat} (hj : j < e.n) : q j = true ↔ e.Reach fr j := by
  have hc : e.Closed q := h.much.resolve_right (by have := cnt_le q e.n; omega)
  exact ⟨h.reach j hj, fun hr => hc.reach hr h.frm⟩

/-! ### the search of the program -/
/-- Nodes that are known not to reach t. -/
structure GE.Good (e : GE) (t : Nat) (S : Nat → Bool) : Prop where
  not : S t = false
  shut : e.Closed S
theorem GE.Good.zero (e : GE) (t : Nat) : e.Good t (fun _ => false) := ⟨rfl, fun _ _ _ _ h => by cases h⟩
/-- What a search at i leaves behind. -/
structure GE.Dfs (e : GE) (t : Nat) (S S' : Nat → Bool) (i : Nat) (b : Bool) : Prop where
  sub : ∀ j, S j = true → S' j = true
  yes : b = true → e.Reach i t
  no : b = false → S' i = true
  new : b = false → ∀ j, S' j = true → S j = true ∨ (j ≠ t ∧ ∀ k, k < e.L j → S' (e.K j k) = true)
theorem GE.Dfs.good {e : GE} {t i : Nat} {S S' : Nat → Bool} (h : e.Dfs t S S' i false) (g : e.Good t S) : e.Good t S' :=
  ⟨by
    cases ht : S' t with
    | false => rfl
    | true =>
      rcases h.new rfl t ht with h1 | ⟨h1, _⟩
      · rw [g.not] at h1; cases h1
      · exact absurd rfl h1, fun j k hj hk hs => by
    rcases h.new rfl j hs with h1 | ⟨_, h1⟩
    · exact h.sub _ (g.shut j k hj hk h1)
    · exact h1 k hk⟩
theorem GE.Dfs.iff {e : GE} {t i : Nat} {S S' : Nat → Bool} {b : Bool} (h : e.Dfs t S S' i b) (g : e.Good t S) : b = true ↔ e.Reach i t := by
  refine ⟨h.yes, fun hr => ?_⟩
  cases b with
  | true => rfl
  | false =>
    have hg := h.good g
    have := hg.shut.reach hr (h.no rfl)
    rw [hg.not] at this
    cases this
theorem GE.Dfs.here (e : GE) (t : Nat) (S : Nat → Bool) : e.Dfs t S S t true := ⟨fun _ h => h, fun _ => .self _, fun h => (by cases h), fun h => by cases h⟩
theorem GE.Dfs.seen {e : GE} {t i : Nat} {S : Nat → Bool} (h : S i = true) : e.Dfs t S S i false := ⟨fun _ h => h, fun h => (by cases h), fun _ => h, fun _ _ h => .inl h⟩
/-- Among the children of i, which is marked: the first m are through, without having met t. -/
structure GE.Row (e : GE) (t : Nat) (S S' : Nat → Bool) (i m : Nat) : Prop where
  sub : ∀ j, S j = true → S' j = true
  me : S' i = true
  kids : ∀ k, k < m → S' (e.K i k) = true
  new : ∀ j, S' j = true → j = i ∨ S j = true ∨ (j ≠ t ∧ ∀ k, k < e.L j → S' (e.K j k) = true)
theorem GE.Row.start (e : GE) (t : Nat) (S : Nat → Bool) (i : Nat) : e.Row t S (fun j => if j = i then true else S j) i 0 :=
  ⟨fun j h => by show (if j = i then true else S j) = true; split; rfl; exact h, by simp, fun _ h => absurd h (by omega), fun j h => by
    by_cases e1 : j = i
    · exact .inl e1
    · have h' : (if j = i then true else S j) = true := h
      rw [if_neg e1] at h'; exact .inr (.inl h')⟩
theorem GE.Row.next {e : GE} {t i m : Nat} {S S' S'' : Nat → Bool} (h : e.Row t S S' i m) (d : e.Dfs t S' S'' (e.K i m) false) : e.Row t S S'' i (m + 1) :=
  ⟨fun j hj => d.sub j (h.sub j hj), d.sub i h.me, fun k hk => by
    rcases Nat.lt_or_ge k m with h1 | h1
    · exact d.sub _ (h.kids k h1)
    · obtain rfl : k = m := by omega
      exact d.no rfl, fun j hj => by
    rcases d.new rfl j hj with h1 | h1
    · rcases h.new j h1 with h2 | h2 | ⟨h2, h3⟩
      · exact .inl h2
      · exact .inr (.inl h2)
      · exact .inr (.inr ⟨h2, fun k hk => d.sub _ (h3 k hk)⟩)
    · exact .inr (.inr h1)⟩
theorem GE.Row.yes {e : GE} {t i m : Nat} {S S' S'' : Nat → Bool} (h : e.Row t S S' i m) (hi : i < e.n) (hm : m < e.L i) (d : e.Dfs t S' S'' (e.K i m) true) : e.Dfs t S S'' i true :=
  ⟨fun j hj => d.sub j (h.sub j hj), fun _ => .step hi hm (d.yes rfl), fun h => (by cases h), fun h => by cases h⟩
theorem GE.Row.no {e : GE} {t i : Nat} {S S' : Nat → Bool} (h : e.Row t S S' i (e.L i)) (hne : i ≠ t) : e.Dfs t S S' i false :=
  ⟨h.sub, fun h => (by cases h), fun _ => h.me, fun _ j hj => by
    rcases h.new j hj with h1 | h1 | h1
    · subst h1; exact .inr ⟨hne, h.kids⟩
    · exact .inl h1
    · exact .inr h1⟩
/-- How many nodes are not marked. -/
def left (S : Nat → Bool) (n : Nat) : Nat := n - cnt S n
theorem left_mark {S S' : Nat → Bool} {n i : Nat} (hi : i < n) (hs : S i = false) (h : ∀ j, (if j = i then true else S j) = true → S' j = true) : left S' n < left S n := by
  have h1 := cnt_upd hs n hi
  have h2 := cnt_mono (p := fun j => if j = i then true else S j) (q := S') n fun j _ => h j
  have h3 := cnt_le S' n
  unfold left
  omega
end Go.Proofs.Ytgkeiaggldahnaa
