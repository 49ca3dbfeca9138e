/- nodes: NodesTurn. -/
import Derived.Test.YtgkeiaggldahnaaRf
namespace Go.Proofs.Ytgkeiaggldahnaa
open Go.RowKit
set_option linter.unusedVariables false
open Classical in
/-- The graph of an answer: the new one, or none where there is an error. -/
noncomputable def opD (E : Int) (dn : GD) : GD := if E = 0 then dn else GD.nil
theorem GOwn.nil (B : Nat) (w : World) : GOwn B w ⟨none, 0, none, 0, fun _ => none, fun _ => 0⟩ GD.nil := ⟨own_nil _ _ _ _, own_nil _ _ _ _, KOwn.zero _ _ _ _ _ _ _⟩
theorem GD.nil_sm : GD.nil.Sm := ⟨Nat.zero_le _, Nat.zero_le _, fun i hi => absurd hi (Nat.not_lt_zero i)⟩
/-- What an operation answers: the graph and the error. -/
def OpP (E : Int) (dn : GD) (B : Nat) (e : Ending) (w' : World) : Prop := ∃ p : GP, e = .returned (.tuple #[.agg #[.slice p.A (opD E dn).n p.c, .slice p.K (opD E dn).m p.kc], .int .i64 E]) ∧ GOwn B w' p (opD E dn)
theorem op_of {E : Int} {dn : GD} {n m B : Nat} {e : Ending} {w' : World} (hn : dn.n = n) (hm : dn.m = m) (h : (E ≠ 0 ∧ e = .returned (.tuple #[.agg #[.slice none 0 0, .slice none 0 0], .int .i64 E])) ∨ (E = 0 ∧ ∃ p : GP, e = .returned (.tuple #[.agg #[.slice p.A n p.c, .slice p.K m p.kc], .int .i64 0]) ∧ GOwn B w' p dn)) : OpP E dn B e w' := by
  subst hn hm
  rcases h with ⟨h, rfl⟩ | ⟨rfl, p, rfl, ho⟩
  · refine ⟨⟨none, 0, none, 0, fun _ => none, fun _ => 0⟩, ?_, ?_⟩
    · unfold opD; rw [if_neg h]; rfl
    · unfold opD; rw [if_neg h]; exact GOwn.nil _ _
  · refine ⟨p, ?_, ?_⟩
    · unfold opD; rw [if_pos rfl]
    · unfold opD; rw [if_pos rfl]; exact ho
theorem opD_sm {E : Int} {dn : GD} (h : E = 0 → dn.Sm) : (opD E dn).Sm := by
  unfold opD
  split
  · rename_i h0; exact h h0
  · exact GD.nil_sm
theorem opD_same {E : Int} {a b : GD} (h : SameG a b) : SameG (opD E a) (opD E b) := by
  unfold opD
  split
  · exact h
  · exact SameG.refl _
theorem askv_may {d : GD} {H : Prop} (h : askv d H = 0) : d.May := (askv_zero h).1
/-- What Make answers. -/
def MakeS (d d' : GD) (s q x : Int) : Prop :=
  (¬ d.May ∧ d' = GD.nil ∧ s = 0 ∧ q = 0 ∧ x = 8) ∨ (d.May ∧ (∀ i, i < d.n → freeS (d.g i) (d.b i) = false) ∧ d.n = 128 ∧ d' = GD.nil ∧ s = 0 ∧ q = 0 ∧ x = 9) ∨
  (d.May ∧ ∃ (k n' : Nat) (g' : Nat → Int) (b' : Nat → Bool), Made d.n d.g d.b k n' g' b' ∧ d' = d.made n' g' b' ∧ s = (k : Nat) ∧ q = g' k ∧ x = 0)
theorem made_fn {n k k2 n' n2 : Nat} {g g' g2 : Nat → Int} {b b' b2 : Nat → Bool} (h : Made n g b k n' g' b') (h2 : Made n g b k2 n2 g2 b2) : k = k2 ∧ n' = n2 ∧ g' = g2 ∧ b' = b2 := by
  rcases h with ⟨a1, a2, a3, rfl, rfl, rfl⟩ | ⟨rfl, a2, a3, rfl, rfl, rfl⟩
  · rcases h2 with ⟨c1, c2, c3, rfl, rfl, rfl⟩ | ⟨rfl, c2, c3, rfl, rfl, rfl⟩
    · rcases Nat.lt_trichotomy k k2 with h | rfl | h
      · rw [c3 k h] at a2; cases a2
      · exact ⟨rfl, rfl, rfl, rfl⟩
      · rw [a3 k2 h] at c2; cases c2
    · rw [c3 k a1] at a2; cases a2
  · rcases h2 with ⟨c1, c2, c3, rfl, rfl, rfl⟩ | ⟨rfl, c2, c3, rfl, rfl, rfl⟩
    · rw [a3 k2 c1] at c2; cases c2
    · exact ⟨rfl, rfl, rfl, rfl⟩
theorem made_free {n k n' : Nat} {g g' : Nat → Int} {b b' : Nat → Bool} (h : Made n g b k n' g' b') (hf : ∀ i, i < n → freeS (g i) (b i) = false) (hn : n = 128) : False := by
  rcases h with ⟨a1, a2, _⟩ | ⟨_, a2, _⟩
  · rw [hf k a1] at a2; cases a2
  · omega
theorem makeS_fn {d d1 d2 : GD} {s1 q1 x1 s2 q2 x2 : Int} (h : MakeS d d1 s1 q1 x1) (h2 : MakeS d d2 s2 q2 x2) : d1 = d2 ∧ s1 = s2 ∧ q1 = q2 ∧ x1 = x2 := by
  rcases h with ⟨a, rfl, rfl, rfl, rfl⟩ | ⟨a, b, c, rfl, rfl, rfl, rfl⟩ | ⟨a, k, n', g', b', hm, rfl, rfl, rfl, rfl⟩
  · rcases h2 with ⟨_, rfl, rfl, rfl, rfl⟩ | ⟨e, _⟩ | ⟨e, _⟩
    · exact ⟨rfl, rfl, rfl, rfl⟩
    · exact absurd e a
    · exact absurd e a
  · rcases h2 with ⟨e, _⟩ | ⟨_, _, _, rfl, rfl, rfl, rfl⟩ | ⟨_, k2, n2, g2, b2, hm2, _⟩
    · exact absurd a e
    · exact ⟨rfl, rfl, rfl, rfl⟩
    · exact absurd (made_free hm2 b c) id
  · rcases h2 with ⟨e, _⟩ | ⟨_, e, f, _⟩ | ⟨_, k2, n2, g2, b2, hm2, rfl, rfl, rfl, rfl⟩
    · exact absurd a e
    · exact absurd (made_free hm e f) id
    · obtain ⟨rfl, rfl, rfl, rfl⟩ := made_fn hm hm2
      exact ⟨rfl, rfl, rfl, rfl⟩
theorem makeS_sm {d d' : GD} {s q x : Int} (h : MakeS d d' s q x) : d'.Sm := by
  rcases h with ⟨_, rfl, _⟩ | ⟨_, _, _, rfl, _⟩ | ⟨a, k, n', g', b', hm, rfl, _⟩
  · exact GD.nil_sm
  · exact GD.nil_sm
  · exact (made_may a hm).sm
theorem make_of {d : GD} {B : Nat} {e : Ending} {w' : World} (h : MakeGR d B e w') : ∃ (p : GP) (d' : GD) (s q x : Int), e = .returned (.tuple #[.agg #[.slice p.A d'.n p.c, .slice p.K d'.m p.kc], .agg #[.int .i64 s, .int .i64 q], .int .i64 x]) ∧ GOwn B w' p d' ∧ MakeS d d' s q x := by
  rcases h with ⟨a, rfl⟩ | ⟨a, b, c, rfl⟩ | ⟨a, k, n', g', b', p, hm, rfl, ho⟩
  · exact ⟨_, GD.nil, 0, 0, 8, rfl, GOwn.nil _ _, .inl ⟨a, rfl, rfl, rfl, rfl⟩⟩
  · exact ⟨_, GD.nil, 0, 0, 9, rfl, GOwn.nil _ _, .inr (.inl ⟨a, b, c, rfl, rfl, rfl, rfl⟩)⟩
  · exact ⟨p, d.made n' g' b', k, g' k, 0, rfl, ho, .inr (.inr ⟨a, k, n', g', b', hm, rfl, rfl, rfl, rfl⟩)⟩
theorem GOwn.nblk {B g : Nat} {w : World} {p : GP} {d : GD} {cs : Array Value} (h : GOwn B w p d) (hb : HasBlk w g 27 cs) : ¬ GBlk p d g := fun hx => by
  rcases hx with hx | ⟨i, hi, hx⟩
  · exact (hb.ne_own h.ar (by decide)) hx
  · exact (hb.ne_own (h.kd.kd i hi) (by decide)) hx
open Classical in
theorem eqr_dec {P : Prop} {e : Ending} (h : EqR P e) : e = .returned (.bool (decide P)) := by
  obtain ⟨b, rfl, hb⟩ := h
  by_cases hp : P
  · rw [decide_eq_true hp, hb.2 hp]
  · have : b = false := by
      cases b
      · rfl
      · exact absurd (hb.1 rfl) hp
    rw [this, decide_eq_false hp]
open Classical in
noncomputable def chkv (d : GD) : Int := if d.May then 0 else 8
theorem chkv_of {d : GD} {x : Int} (h : chkG d x) : x = chkv d := by
  unfold chkv
  rcases h with ⟨a, rfl⟩ | ⟨a, rfl⟩
  · rw [if_pos a]
  · rw [if_neg a]
theorem kill_nm (d : GD) (k : Nat) : (d.kill k).n = d.n ∧ (d.kill k).m = d.m := killN_n (d.dead k) (k : Nat) (d.g k) d.m
theorem kill_mayS {d : GD} {s q : Int} (h : askv d (HeldA d.n d.g d.b s q) = 0) (hm : d.May) : (d.kill s.toNat).May := by
  obtain ⟨_, hh⟩ := askv_zero h
  obtain ⟨k, rfl⟩ := Int.eq_ofNat_of_zero_le hh.1
  have e := hh.2.2.1
  simp only [Int.toNat_natCast] at e ⊢
  subst e
  exact kill_may hm hh
theorem unlink_mayS {d : GD} {s q x : Int} (h : unlinkE d s q x = 0) (hm : d.May) : (d.unlink s.toNat x.toNat).May := by
  unfold unlinkE at h
  split at h
  · rename_i h0
    split at h
    · cases h
    · exact unlink_may hm (by omega)
  · rename_i h0
    exact absurd h h0
theorem link_mayS {d : GD} {s q s' q' x : Int} (h : linkE d s q s' q' x = 0) (hm : d.May) : (d.link s.toNat x.toNat s' q').May := by
  obtain ⟨k, t, a, rfl, rfl, rfl, rfl, rfl, _, h1, h2, ha, h16, hr⟩ := linkE_zero h
  exact link_may hm (by have := h1.2.1; omega) h1.2.2.2 h2 ha h16 hr
theorem rkill_nm (d : GD) (k : Nat) : (d.rkill k).n = d.n ∧ (d.rkill k).m = d.m := killN_n (d.cold k) (k : Nat) (d.g k) d.m
theorem same_symm {a b : GD} (h : SameG a b) : SameG b a := by
  obtain ⟨⟨h1, h2⟩, h3, h4⟩ := h
  refine ⟨⟨h1.symm, fun i hi => ?_⟩, h3.symm, fun i hi => ?_⟩
  · obtain ⟨x, y⟩ := h2 i (by omega)
    exact ⟨x.symm, y.symm⟩
  · obtain ⟨x, y⟩ := h4 i (by omega)
    refine ⟨x.symm, fun k hk => ?_⟩
    obtain ⟨u, v⟩ := y k (by omega)
    exact ⟨u.symm, v.symm⟩
theorem unlink_may0 {d : GD} {s q x : Int} (h : unlinkE d s q x = 0) : d.May := by
  unfold unlinkE at h
  split at h
  · rename_i h0; exact (askv_zero h0).1
  · rename_i h0; exact absurd h h0
set_option maxRecDepth 100000 in
set_option maxHeartbeats 40000000 in
theorem nodesTurn_walk (d d2 : GD) (p p2 : GP) (hrc : d.Rch) (hrc2 : d2.Rch) (hcap : ∀ i, i < d.m → d.L i ≤ p.KC i ∧ (p.KA i = none → p.KC i = 0)) (s q s' q' x : Int) (w : World) (hok : GOk w p d) (hok2 : GOk w p2 d2) :
    Calls Try.prog 8 #[.agg #[.slice p.A d.n p.c, .slice p.K d.m p.kc], .agg #[.slice p2.A d2.n p2.c, .slice p2.K d2.m p2.kc], hval s q, hval s' q', .int .i64 x] w fun e w' => e = .returned (.bool true) ∧ Below w.heap.size w w' := by
  have B0 := Lib.hid (show Below w.heap.size w ((((w.alloc (.cells #[.slice p.A d.n p.c, .slice p.K d.m p.kc] 27)).alloc (.cells #[.slice p2.A d2.n p2.c, .slice p2.K d2.m p2.kc] 27)).alloc (.cells #[.int .i64 s, .int .i64 q] 29)).alloc (.cells #[.int .i64 s', .int .i64 q'] 29)) by
    repeat' (first | exact Below.refl _ _ | assumption | apply Below.drew | refine Below.setCell ?_ (by first | omega | (simp; done) | (simp; omega)) _ | refine Below.alloc ?_ (by first | omega | (simp; done) | (simp; omega)) _))
  have T5 := Lib.hid (show HasBlk ((((w.alloc (.cells #[.slice p.A d.n p.c, .slice p.K d.m p.kc] 27)).alloc (.cells #[.slice p2.A d2.n p2.c, .slice p2.K d2.m p2.kc] 27)).alloc (.cells #[.int .i64 s, .int .i64 q] 29)).alloc (.cells #[.int .i64 s', .int .i64 q'] 29)) (w.heap.size) 27 #[.slice p.A d.n p.c, .slice p.K d.m p.kc] by simpa using ((((hasBlk_new w 27 #[.slice p.A d.n p.c, .slice p.K d.m p.kc]).alloc (.cells #[.slice p2.A d2.n p2.c, .slice p2.K d2.m p2.kc] 27)).alloc (.cells #[.int .i64 s, .int .i64 q] 29)).alloc (.cells #[.int .i64 s', .int .i64 q'] 29)))
  have T6 := Lib.hid (show HasBlk ((((w.alloc (.cells #[.slice p.A d.n p.c, .slice p.K d.m p.kc] 27)).alloc (.cells #[.slice p2.A d2.n p2.c, .slice p2.K d2.m p2.kc] 27)).alloc (.cells #[.int .i64 s, .int .i64 q] 29)).alloc (.cells #[.int .i64 s', .int .i64 q'] 29)) (w.heap.size + 1) 27 #[.slice p2.A d2.n p2.c, .slice p2.K d2.m p2.kc] by simpa using (((hasBlk_new (w.alloc (.cells #[.slice p.A d.n p.c, .slice p.K d.m p.kc] 27)) 27 #[.slice p2.A d2.n p2.c, .slice p2.K d2.m p2.kc]).alloc (.cells #[.int .i64 s, .int .i64 q] 29)).alloc (.cells #[.int .i64 s', .int .i64 q'] 29)))
  have T7 := Lib.hid (show HasBlk ((((w.alloc (.cells #[.slice p.A d.n p.c, .slice p.K d.m p.kc] 27)).alloc (.cells #[.slice p2.A d2.n p2.c, .slice p2.K d2.m p2.kc] 27)).alloc (.cells #[.int .i64 s, .int .i64 q] 29)).alloc (.cells #[.int .i64 s', .int .i64 q'] 29)) (w.heap.size + 1 + 1) 29 #[.int .i64 s, .int .i64 q] by simpa using ((hasBlk_new ((w.alloc (.cells #[.slice p.A d.n p.c, .slice p.K d.m p.kc] 27)).alloc (.cells #[.slice p2.A d2.n p2.c, .slice p2.K d2.m p2.kc] 27)) 29 #[.int .i64 s, .int .i64 q]).alloc (.cells #[.int .i64 s', .int .i64 q'] 29)))
  have T8 := Lib.hid (show HasBlk ((((w.alloc (.cells #[.slice p.A d.n p.c, .slice p.K d.m p.kc] 27)).alloc (.cells #[.slice p2.A d2.n p2.c, .slice p2.K d2.m p2.kc] 27)).alloc (.cells #[.int .i64 s, .int .i64 q] 29)).alloc (.cells #[.int .i64 s', .int .i64 q'] 29)) (w.heap.size + 1 + 1 + 1) 29 #[.int .i64 s', .int .i64 q'] by simpa using (hasBlk_new (((w.alloc (.cells #[.slice p.A d.n p.c, .slice p.K d.m p.kc] 27)).alloc (.cells #[.slice p2.A d2.n p2.c, .slice p2.K d2.m p2.kc] 27)).alloc (.cells #[.int .i64 s, .int .i64 q] 29)) 29 #[.int .i64 s', .int .i64 q']))
  have OKg := Lib.hid hok
  have OKq := Lib.hid hok2
  have RC := Lib.hid hrc
  have RC2 := Lib.hid hrc2
  have CAP := Lib.hid hcap
  clear hok hok2 hrc hrc2 hcap
  go_enter Try.func8, Try.ntmps8
  have KX := Lib.hid (great_any d p RC.out ((((w.alloc (.cells #[.slice p.A d.n p.c, .slice p.K d.m p.kc] 27)).alloc (.cells #[.slice p2.A d2.n p2.c, .slice p2.K d2.m p2.kc] 27)).alloc (.cells #[.int .i64 s, .int .i64 q] 29)).alloc (.cells #[.int .i64 s', .int .i64 q'] 29)) (OKg.out.below B0.out))
  have t5_0 := T5.out.cell 0
  have t5_1 := T5.out.cell 1
  have t5_z := T5.out.lt
  simp at t5_0 t5_1
  go_wp2_with fail
  refine KX.out.mono ?_
  rintro e w1 ⟨⟨r, rfl, hr⟩, bel⟩
  clear KX
  clear t5_0 t5_1 t5_z
  have T5' := Lib.hid (T5.out.below bel)
  clear T5
  have T5 := Lib.hid T5'.out
  clear T5'
  have T6' := Lib.hid (T6.out.below bel)
  clear T6
  have T6 := Lib.hid T6'.out
  clear T6'
  have T7' := Lib.hid (T7.out.below bel)
  clear T7
  have T7 := Lib.hid T7'.out
  clear T7'
  have T8' := Lib.hid (T8.out.below bel)
  clear T8
  have T8 := Lib.hid T8'.out
  clear T8'
  have B0' := Lib.hid (B0.out.trans (bel.mono B0.out.size))
  clear B0
  have B0 := Lib.hid B0'.out
  clear B0' bel
  cases r with
  | true =>
    clear hr T5 T6 T7 T8
    go_wp2
    go_ret
    exact ⟨rfl, B0.out⟩
  | false =>
    have Sm := Lib.hid (GD.Sm.mk2 (hr rfl))
    clear hr
    have KX := Lib.hid (great_any d2 p2 RC2.out w1 (OKq.out.below B0.out))
    have t6_0 := T6.out.cell 0
    have t6_1 := T6.out.cell 1
    have t6_z := T6.out.lt
    simp at t6_0 t6_1
    go_wp2_with fail
    refine KX.out.mono ?_
    rintro e w2 ⟨⟨r, rfl, hr⟩, bel⟩
    clear KX
    clear t6_0 t6_1 t6_z
    have T5' := Lib.hid (T5.out.below bel)
    clear T5
    have T5 := Lib.hid T5'.out
    clear T5'
    have T6' := Lib.hid (T6.out.below bel)
    clear T6
    have T6 := Lib.hid T6'.out
    clear T6'
    have T7' := Lib.hid (T7.out.below bel)
    clear T7
    have T7 := Lib.hid T7'.out
    clear T7'
    have T8' := Lib.hid (T8.out.below bel)
    clear T8
    have T8 := Lib.hid T8'.out
    clear T8'
    have B0' := Lib.hid (B0.out.trans (bel.mono B0.out.size))
    clear B0
    have B0 := Lib.hid B0'.out
    clear B0' bel
    cases r with
    | true =>
      clear hr T5 T6 T7 T8
      go_wp2
      go_ret
      exact ⟨rfl, B0.out⟩
    | false =>
      have Sm2 := Lib.hid (GD.Sm.mk2 (hr rfl))
      clear hr
      have KX := Lib.hid (reftwing_any d p Sm.out w2 (OKg.out.below B0.out))
      have t5_0 := T5.out.cell 0
      have t5_1 := T5.out.cell 1
      have t5_z := T5.out.lt
      simp at t5_0 t5_1
      go_wp2_with fail
      refine KX.out.mono ?_
      rintro e w3 ⟨⟨v, rfl, po, rfl, ho⟩, bel⟩
      clear KX
      clear t5_0 t5_1 t5_z
      have T5' := Lib.hid (T5.out.below bel)
      clear T5
      have T5 := Lib.hid T5'.out
      clear T5'
      have T6' := Lib.hid (T6.out.below bel)
      clear T6
      have T6 := Lib.hid T6'.out
      clear T6'
      have T7' := Lib.hid (T7.out.below bel)
      clear T7
      have T7 := Lib.hid T7'.out
      clear T7'
      have T8' := Lib.hid (T8.out.below bel)
      clear T8
      have T8 := Lib.hid T8'.out
      clear T8'
      have B0' := Lib.hid (B0.out.trans (bel.mono B0.out.size))
      clear B0
      have B0 := Lib.hid B0'.out
      clear B0' bel
      have OKo := Lib.hid ho.ok
      clear ho
      have B3 := Lib.hid (Below.refl w3.heap.size w3)
      have B03 := Lib.hid B0.out
      clear B0
      go_upto_region 4 with fail
      have bA := ((Below.refl w3.heap.size w3).alloc (Nat.le_refl _) (.cells #[.slice po.A d.n po.c, .slice po.K d.m po.kc] 27))
      have T11 := Lib.hid (show HasBlk (w3.alloc (.cells #[.slice po.A d.n po.c, .slice po.K d.m po.kc] 27)) (w3.heap.size) 27 #[.slice po.A d.n po.c, .slice po.K d.m po.kc] by simpa using (hasBlk_new w3 27 #[.slice po.A d.n po.c, .slice po.K d.m po.kc]))
      have T5' := Lib.hid (T5.out.below bA)
      clear T5
      have T5 := Lib.hid T5'.out
      clear T5'
      have T6' := Lib.hid (T6.out.below bA)
      clear T6
      have T6 := Lib.hid T6'.out
      clear T6'
      have T7' := Lib.hid (T7.out.below bA)
      clear T7
      have T7 := Lib.hid T7'.out
      clear T7'
      have T8' := Lib.hid (T8.out.below bA)
      clear T8
      have T8 := Lib.hid T8'.out
      clear T8'
      have B3' := Lib.hid (B3.out.trans (bA.mono B3.out.size))
      clear B3
      have B3 := Lib.hid B3'.out
      clear B3'
      clear bA
      obtain ⟨zv1, hzv1⟩ : ∃ z, z = w3.heap.size := ⟨_, rfl⟩
      rw [← hzv1] at T11 ⊢
      clear hzv1
      generalize (w3.alloc (.cells #[.slice po.A d.n po.c, .slice po.K d.m po.kc] 27)) = v1 at *
      have E0 := Lib.hid B3.out.size
      obtain ⟨bA, hbA⟩ : ∃ z, z = v1.heap.size := ⟨_, rfl⟩
      have NA := Lib.hid (show w3.heap.size ≤ bA from by rw [hbA]; exact B3.out.size)
      have KX := Lib.hid (makeg_any d po Sm.out v1 (OKo.out.below B3.out))
      have t11_0 := T11.out.cell 0
      have t11_1 := T11.out.cell 1
      have t11_z := T11.out.lt
      simp at t11_0 t11_1
      go_wp2_with fail
      refine KX.out.mono ?_
      rintro e v2 ⟨hx, bel⟩
      clear KX
      clear t11_0 t11_1 t11_z
      have T5' := Lib.hid (T5.out.below bel)
      clear T5
      have T5 := Lib.hid T5'.out
      clear T5'
      have T6' := Lib.hid (T6.out.below bel)
      clear T6
      have T6 := Lib.hid T6'.out
      clear T6'
      have T7' := Lib.hid (T7.out.below bel)
      clear T7
      have T7 := Lib.hid T7'.out
      clear T7'
      have T8' := Lib.hid (T8.out.below bel)
      clear T8
      have T8 := Lib.hid T8'.out
      clear T8'
      have T11' := Lib.hid (T11.out.below bel)
      clear T11
      have T11 := Lib.hid T11'.out
      clear T11'
      have B3' := Lib.hid (B3.out.trans (bel.mono B3.out.size))
      clear B3
      have B3 := Lib.hid B3'.out
      clear B3'
      have HBA := Lib.hid (show bA ≤ v2.heap.size from by rw [hbA]; exact bel.size)
      clear bel
      obtain ⟨pA, dA, sA, qA, xA, rfl, ho, hmA⟩ := make_of hx
      clear hx
      rw [← hbA] at ho
      have GA := Lib.hid ho
      have MA := Lib.hid hmA
      clear ho hmA
      obtain ⟨eA, heA⟩ : ∃ z, z = v2.heap.size := ⟨_, rfl⟩
      have LA := Lib.hid (show ∀ x, GBlk pA dA x → bA ≤ x ∧ x < eA from fun x hx => by rw [heA]; exact GA.out.blk hx)
      have BEBA := Lib.hid (show bA ≤ eA from by rw [heA]; exact HBA.out)
      have MeA := Lib.hid (show eA ≤ v2.heap.size from Nat.le_of_eq heA)
      clear heA
      go_upto_region 5 with fail
      have bA := (((Below.refl v2.heap.size v2).alloc (Nat.le_refl _) (.cells #[.slice pA.A dA.n pA.c, .slice pA.K dA.m pA.kc] 27)).alloc (by simp) (.cells #[.int .i64 sA, .int .i64 qA] 29))
      have T12 := Lib.hid (show HasBlk ((v2.alloc (.cells #[.slice pA.A dA.n pA.c, .slice pA.K dA.m pA.kc] 27)).alloc (.cells #[.int .i64 sA, .int .i64 qA] 29)) (v2.heap.size) 27 #[.slice pA.A dA.n pA.c, .slice pA.K dA.m pA.kc] by simpa using ((hasBlk_new v2 27 #[.slice pA.A dA.n pA.c, .slice pA.K dA.m pA.kc]).alloc (.cells #[.int .i64 sA, .int .i64 qA] 29)))
      have T13 := Lib.hid (show HasBlk ((v2.alloc (.cells #[.slice pA.A dA.n pA.c, .slice pA.K dA.m pA.kc] 27)).alloc (.cells #[.int .i64 sA, .int .i64 qA] 29)) (v2.heap.size + 1) 29 #[.int .i64 sA, .int .i64 qA] by simpa using (hasBlk_new (v2.alloc (.cells #[.slice pA.A dA.n pA.c, .slice pA.K dA.m pA.kc] 27)) 29 #[.int .i64 sA, .int .i64 qA]))
      have T5' := Lib.hid (T5.out.below bA)
      clear T5
      have T5 := Lib.hid T5'.out
      clear T5'
      have T6' := Lib.hid (T6.out.below bA)
      clear T6
      have T6 := Lib.hid T6'.out
      clear T6'
      have T7' := Lib.hid (T7.out.below bA)
      clear T7
      have T7 := Lib.hid T7'.out
      clear T7'
      have T8' := Lib.hid (T8.out.below bA)
      clear T8
      have T8 := Lib.hid T8'.out
      clear T8'
      have T11' := Lib.hid (T11.out.below bA)
      clear T11
      have T11 := Lib.hid T11'.out
      clear T11'
      have GA' := Lib.hid (GA.out.below bA)
      clear GA
      have GA := Lib.hid GA'.out
      clear GA'
      have B3' := Lib.hid (B3.out.trans (bA.mono B3.out.size))
      clear B3
      have B3 := Lib.hid B3'.out
      clear B3'
      have MeA' := Lib.hid (Nat.le_trans MeA.out bA.size)
      clear MeA
      have MeA := Lib.hid MeA'.out
      clear MeA'
      clear bA
      obtain ⟨zv3, hzv3⟩ : ∃ z, z = v2.heap.size := ⟨_, rfl⟩
      rw [← hzv3] at T12 T13 ⊢
      clear hzv3
      generalize ((v2.alloc (.cells #[.slice pA.A dA.n pA.c, .slice pA.K dA.m pA.kc] 27)).alloc (.cells #[.int .i64 sA, .int .i64 qA] 29)) = v3 at *
      have KX := Lib.hid (refmakeg_any d p Sm.out v3 (OKg.out.below (B03.out.trans (B3.out.mono B03.out.size))))
      have t5_0 := T5.out.cell 0
      have t5_1 := T5.out.cell 1
      have t5_z := T5.out.lt
      simp at t5_0 t5_1
      go_wp2_with fail
      refine KX.out.mono ?_
      rintro e v4 ⟨hx, bel⟩
      clear KX
      clear t5_0 t5_1 t5_z
      have T5' := Lib.hid (T5.out.below bel)
      clear T5
      have T5 := Lib.hid T5'.out
      clear T5'
      have T6' := Lib.hid (T6.out.below bel)
      clear T6
      have T6 := Lib.hid T6'.out
      clear T6'
      have T7' := Lib.hid (T7.out.below bel)
      clear T7
      have T7 := Lib.hid T7'.out
      clear T7'
      have T8' := Lib.hid (T8.out.below bel)
      clear T8
      have T8 := Lib.hid T8'.out
      clear T8'
      have T11' := Lib.hid (T11.out.below bel)
      clear T11
      have T11 := Lib.hid T11'.out
      clear T11'
      have GA' := Lib.hid (GA.out.below bel)
      clear GA
      have GA := Lib.hid GA'.out
      clear GA'
      have T12' := Lib.hid (T12.out.below bel)
      clear T12
      have T12 := Lib.hid T12'.out
      clear T12'
      have T13' := Lib.hid (T13.out.below bel)
      clear T13
      have T13 := Lib.hid T13'.out
      clear T13'
      have B3' := Lib.hid (B3.out.trans (bel.mono B3.out.size))
      clear B3
      have B3 := Lib.hid B3'.out
      clear B3'
      have MeA' := Lib.hid (Nat.le_trans MeA.out bel.size)
      clear MeA
      have MeA := Lib.hid MeA'.out
      clear MeA'
      clear bel
      obtain ⟨pa, da, sa, qa, xa, rfl, ho, hma⟩ := make_of hx
      clear hx
      obtain ⟨rfl, rfl, rfl, rfl⟩ := makeS_fn MA.out hma
      clear hma
      have Ga := Lib.hid ho.ok
      clear ho
      go_upto_region 6 with fail
      have bA := (((Below.refl v4.heap.size v4).alloc (Nat.le_refl _) (.cells #[.slice pa.A dA.n pa.c, .slice pa.K dA.m pa.kc] 27)).alloc (by simp) (.cells #[.int .i64 sA, .int .i64 qA] 29))
      have T15 := Lib.hid (show HasBlk ((v4.alloc (.cells #[.slice pa.A dA.n pa.c, .slice pa.K dA.m pa.kc] 27)).alloc (.cells #[.int .i64 sA, .int .i64 qA] 29)) (v4.heap.size) 27 #[.slice pa.A dA.n pa.c, .slice pa.K dA.m pa.kc] by simpa using ((hasBlk_new v4 27 #[.slice pa.A dA.n pa.c, .slice pa.K dA.m pa.kc]).alloc (.cells #[.int .i64 sA, .int .i64 qA] 29)))
      have T16 := Lib.hid (show HasBlk ((v4.alloc (.cells #[.slice pa.A dA.n pa.c, .slice pa.K dA.m pa.kc] 27)).alloc (.cells #[.int .i64 sA, .int .i64 qA] 29)) (v4.heap.size + 1) 29 #[.int .i64 sA, .int .i64 qA] by simpa using (hasBlk_new (v4.alloc (.cells #[.slice pa.A dA.n pa.c, .slice pa.K dA.m pa.kc] 27)) 29 #[.int .i64 sA, .int .i64 qA]))
      have T5' := Lib.hid (T5.out.below bA)
      clear T5
      have T5 := Lib.hid T5'.out
      clear T5'
      have T6' := Lib.hid (T6.out.below bA)
      clear T6
      have T6 := Lib.hid T6'.out
      clear T6'
      have T7' := Lib.hid (T7.out.below bA)
      clear T7
      have T7 := Lib.hid T7'.out
      clear T7'
      have T8' := Lib.hid (T8.out.below bA)
      clear T8
      have T8 := Lib.hid T8'.out
      clear T8'
      have T11' := Lib.hid (T11.out.below bA)
      clear T11
      have T11 := Lib.hid T11'.out
      clear T11'
      have GA' := Lib.hid (GA.out.below bA)
      clear GA
      have GA := Lib.hid GA'.out
      clear GA'
      have T12' := Lib.hid (T12.out.below bA)
      clear T12
      have T12 := Lib.hid T12'.out
      clear T12'
      have T13' := Lib.hid (T13.out.below bA)
      clear T13
      have T13 := Lib.hid T13'.out
      clear T13'
      have Ga' := Lib.hid (Ga.out.below bA)
      clear Ga
      have Ga := Lib.hid Ga'.out
      clear Ga'
      have B3' := Lib.hid (B3.out.trans (bA.mono B3.out.size))
      clear B3
      have B3 := Lib.hid B3'.out
      clear B3'
      have MeA' := Lib.hid (Nat.le_trans MeA.out bA.size)
      clear MeA
      have MeA := Lib.hid MeA'.out
      clear MeA'
      clear bA
      obtain ⟨zv5, hzv5⟩ : ∃ z, z = v4.heap.size := ⟨_, rfl⟩
      rw [← hzv5] at T15 T16 ⊢
      clear hzv5
      generalize ((v4.alloc (.cells #[.slice pa.A dA.n pa.c, .slice pa.K dA.m pa.kc] 27)).alloc (.cells #[.int .i64 sA, .int .i64 qA] 29)) = v5 at *
      obtain ⟨bC, hbC⟩ : ∃ z, z = v5.heap.size := ⟨_, rfl⟩
      have NC := Lib.hid (show eA ≤ bC from by rw [hbC]; exact MeA.out)
      have KX := Lib.hid (killg_any d po Sm.out s q v5 (OKo.out.below B3.out))
      have t11_0 := T11.out.cell 0
      have t11_1 := T11.out.cell 1
      have t11_z := T11.out.lt
      have t7_0 := T7.out.cell 0
      have t7_1 := T7.out.cell 1
      have t7_z := T7.out.lt
      simp at t11_0 t11_1 t7_0 t7_1
      go_wp2_with fail
      refine KX.out.mono ?_
      rintro e v6 ⟨hx, bel⟩
      clear KX
      clear t11_0 t11_1 t11_z t7_0 t7_1 t7_z
      have T5' := Lib.hid (T5.out.below bel)
      clear T5
      have T5 := Lib.hid T5'.out
      clear T5'
      have T6' := Lib.hid (T6.out.below bel)
      clear T6
      have T6 := Lib.hid T6'.out
      clear T6'
      have T7' := Lib.hid (T7.out.below bel)
      clear T7
      have T7 := Lib.hid T7'.out
      clear T7'
      have T8' := Lib.hid (T8.out.below bel)
      clear T8
      have T8 := Lib.hid T8'.out
      clear T8'
      have T11' := Lib.hid (T11.out.below bel)
      clear T11
      have T11 := Lib.hid T11'.out
      clear T11'
      have GA' := Lib.hid (GA.out.below bel)
      clear GA
      have GA := Lib.hid GA'.out
      clear GA'
      have T12' := Lib.hid (T12.out.below bel)
      clear T12
      have T12 := Lib.hid T12'.out
      clear T12'
      have T13' := Lib.hid (T13.out.below bel)
      clear T13
      have T13 := Lib.hid T13'.out
      clear T13'
      have Ga' := Lib.hid (Ga.out.below bel)
      clear Ga
      have Ga := Lib.hid Ga'.out
      clear Ga'
      have T15' := Lib.hid (T15.out.below bel)
      clear T15
      have T15 := Lib.hid T15'.out
      clear T15'
      have T16' := Lib.hid (T16.out.below bel)
      clear T16
      have T16 := Lib.hid T16'.out
      clear T16'
      have B3' := Lib.hid (B3.out.trans (bel.mono B3.out.size))
      clear B3
      have B3 := Lib.hid B3'.out
      clear B3'
      have MeA' := Lib.hid (Nat.le_trans MeA.out bel.size)
      clear MeA
      have MeA := Lib.hid MeA'.out
      clear MeA'
      have HBC := Lib.hid (show bC ≤ v6.heap.size from by rw [hbC]; exact bel.size)
      clear bel
      obtain ⟨pC, rfl, ho⟩ := op_of (E := (askv d (HeldA d.n d.g d.b s q))) (dn := (d.kill s.toNat)) (kill_nm _ _).1 (kill_nm _ _).2 hx
      clear hx
      obtain ⟨dC, hdC⟩ : ∃ z, opD (askv d (HeldA d.n d.g d.b s q)) (d.kill s.toNat) = z := ⟨_, rfl⟩
      rw [hdC] at ho ⊢
      have DC := Lib.hid hdC
      clear hdC
      rw [← hbC] at ho
      clear hbC
      have GC := Lib.hid ho
      clear ho
      obtain ⟨eC, heC⟩ : ∃ z, z = v6.heap.size := ⟨_, rfl⟩
      have LC := Lib.hid (show ∀ x, GBlk pC dC x → bC ≤ x ∧ x < eC from fun x hx => by rw [heC]; exact GC.out.blk hx)
      have BEBC := Lib.hid (show bC ≤ eC from by rw [heC]; exact HBC.out)
      have MeC := Lib.hid (show eC ≤ v6.heap.size from Nat.le_of_eq heC)
      clear heC
      go_upto_region 7 with fail
      have bA := ((Below.refl v6.heap.size v6).alloc (Nat.le_refl _) (.cells #[.slice pC.A dC.n pC.c, .slice pC.K dC.m pC.kc] 27))
      have T18 := Lib.hid (show HasBlk (v6.alloc (.cells #[.slice pC.A dC.n pC.c, .slice pC.K dC.m pC.kc] 27)) (v6.heap.size) 27 #[.slice pC.A dC.n pC.c, .slice pC.K dC.m pC.kc] by simpa using (hasBlk_new v6 27 #[.slice pC.A dC.n pC.c, .slice pC.K dC.m pC.kc]))
      have T5' := Lib.hid (T5.out.below bA)
      clear T5
      have T5 := Lib.hid T5'.out
      clear T5'
      have T6' := Lib.hid (T6.out.below bA)
      clear T6
      have T6 := Lib.hid T6'.out
      clear T6'
      have T7' := Lib.hid (T7.out.below bA)
      clear T7
      have T7 := Lib.hid T7'.out
      clear T7'
      have T8' := Lib.hid (T8.out.below bA)
      clear T8
      have T8 := Lib.hid T8'.out
      clear T8'
      have T11' := Lib.hid (T11.out.below bA)
      clear T11
      have T11 := Lib.hid T11'.out
      clear T11'
      have GA' := Lib.hid (GA.out.below bA)
      clear GA
      have GA := Lib.hid GA'.out
      clear GA'
      have T12' := Lib.hid (T12.out.below bA)
      clear T12
      have T12 := Lib.hid T12'.out
      clear T12'
      have T13' := Lib.hid (T13.out.below bA)
      clear T13
      have T13 := Lib.hid T13'.out
      clear T13'
      have Ga' := Lib.hid (Ga.out.below bA)
      clear Ga
      have Ga := Lib.hid Ga'.out
      clear Ga'
      have T15' := Lib.hid (T15.out.below bA)
      clear T15
      have T15 := Lib.hid T15'.out
      clear T15'
      have T16' := Lib.hid (T16.out.below bA)
      clear T16
      have T16 := Lib.hid T16'.out
      clear T16'
      have GC' := Lib.hid (GC.out.below bA)
      clear GC
      have GC := Lib.hid GC'.out
      clear GC'
      have B3' := Lib.hid (B3.out.trans (bA.mono B3.out.size))
      clear B3
      have B3 := Lib.hid B3'.out
      clear B3'
      have MeA' := Lib.hid (Nat.le_trans MeA.out bA.size)
      clear MeA
      have MeA := Lib.hid MeA'.out
      clear MeA'
      have MeC' := Lib.hid (Nat.le_trans MeC.out bA.size)
      clear MeC
      have MeC := Lib.hid MeC'.out
      clear MeC'
      clear bA
      obtain ⟨zv7, hzv7⟩ : ∃ z, z = v6.heap.size := ⟨_, rfl⟩
      rw [← hzv7] at T18 ⊢
      clear hzv7
      generalize (v6.alloc (.cells #[.slice pC.A dC.n pC.c, .slice pC.K dC.m pC.kc] 27)) = v7 at *
      have KX := Lib.hid (refkillg_any d p Sm.out s q v7 (OKg.out.below (B03.out.trans (B3.out.mono B03.out.size))))
      have t5_0 := T5.out.cell 0
      have t5_1 := T5.out.cell 1
      have t5_z := T5.out.lt
      have t7_0 := T7.out.cell 0
      have t7_1 := T7.out.cell 1
      have t7_z := T7.out.lt
      simp at t5_0 t5_1 t7_0 t7_1
      go_wp2_with fail
      refine KX.out.mono ?_
      rintro e v8 ⟨hx, bel⟩
      clear KX
      clear t5_0 t5_1 t5_z t7_0 t7_1 t7_z
      have T5' := Lib.hid (T5.out.below bel)
      clear T5
      have T5 := Lib.hid T5'.out
      clear T5'
      have T6' := Lib.hid (T6.out.below bel)
      clear T6
      have T6 := Lib.hid T6'.out
      clear T6'
      have T7' := Lib.hid (T7.out.below bel)
      clear T7
      have T7 := Lib.hid T7'.out
      clear T7'
      have T8' := Lib.hid (T8.out.below bel)
      clear T8
      have T8 := Lib.hid T8'.out
      clear T8'
      have T11' := Lib.hid (T11.out.below bel)
      clear T11
      have T11 := Lib.hid T11'.out
      clear T11'
      have GA' := Lib.hid (GA.out.below bel)
      clear GA
      have GA := Lib.hid GA'.out
      clear GA'
      have T12' := Lib.hid (T12.out.below bel)
      clear T12
      have T12 := Lib.hid T12'.out
      clear T12'
      have T13' := Lib.hid (T13.out.below bel)
      clear T13
      have T13 := Lib.hid T13'.out
      clear T13'
      have Ga' := Lib.hid (Ga.out.below bel)
      clear Ga
      have Ga := Lib.hid Ga'.out
      clear Ga'
      have T15' := Lib.hid (T15.out.below bel)
      clear T15
      have T15 := Lib.hid T15'.out
      clear T15'
      have T16' := Lib.hid (T16.out.below bel)
      clear T16
      have T16 := Lib.hid T16'.out
      clear T16'
      have GC' := Lib.hid (GC.out.below bel)
      clear GC
      have GC := Lib.hid GC'.out
      clear GC'
      have T18' := Lib.hid (T18.out.below bel)
      clear T18
      have T18 := Lib.hid T18'.out
      clear T18'
      have B3' := Lib.hid (B3.out.trans (bel.mono B3.out.size))
      clear B3
      have B3 := Lib.hid B3'.out
      clear B3'
      have MeA' := Lib.hid (Nat.le_trans MeA.out bel.size)
      clear MeA
      have MeA := Lib.hid MeA'.out
      clear MeA'
      have MeC' := Lib.hid (Nat.le_trans MeC.out bel.size)
      clear MeC
      have MeC := Lib.hid MeC'.out
      clear MeC'
      clear bel
      obtain ⟨pc, rfl, ho⟩ := op_of (E := (askv d (HeldA d.n d.g d.b s q))) (dn := (d.rkill s.toNat)) (rkill_nm _ _).1 (rkill_nm _ _).2 hx
      clear hx
      obtain ⟨dc, hdc⟩ : ∃ z, opD (askv d (HeldA d.n d.g d.b s q)) (d.rkill s.toNat) = z := ⟨_, rfl⟩
      rw [hdc] at ho ⊢
      have Dc := Lib.hid hdc
      clear hdc
      have Gc := Lib.hid ho.ok
      clear ho
      go_upto_region 8 with fail
      have bA := ((Below.refl v8.heap.size v8).alloc (Nat.le_refl _) (.cells #[.slice pc.A dc.n pc.c, .slice pc.K dc.m pc.kc] 27))
      have T20 := Lib.hid (show HasBlk (v8.alloc (.cells #[.slice pc.A dc.n pc.c, .slice pc.K dc.m pc.kc] 27)) (v8.heap.size) 27 #[.slice pc.A dc.n pc.c, .slice pc.K dc.m pc.kc] by simpa using (hasBlk_new v8 27 #[.slice pc.A dc.n pc.c, .slice pc.K dc.m pc.kc]))
      have T5' := Lib.hid (T5.out.below bA)
      clear T5
      have T5 := Lib.hid T5'.out
      clear T5'
      have T6' := Lib.hid (T6.out.below bA)
      clear T6
      have T6 := Lib.hid T6'.out
      clear T6'
      have T7' := Lib.hid (T7.out.below bA)
      clear T7
      have T7 := Lib.hid T7'.out
      clear T7'
      have T8' := Lib.hid (T8.out.below bA)
      clear T8
      have T8 := Lib.hid T8'.out
      clear T8'
      have T11' := Lib.hid (T11.out.below bA)
      clear T11
      have T11 := Lib.hid T11'.out
      clear T11'
      have GA' := Lib.hid (GA.out.below bA)
      clear GA
      have GA := Lib.hid GA'.out
      clear GA'
      have T12' := Lib.hid (T12.out.below bA)
      clear T12
      have T12 := Lib.hid T12'.out
      clear T12'
      have T13' := Lib.hid (T13.out.below bA)
      clear T13
      have T13 := Lib.hid T13'.out
      clear T13'
      have Ga' := Lib.hid (Ga.out.below bA)
      clear Ga
      have Ga := Lib.hid Ga'.out
      clear Ga'
      have T15' := Lib.hid (T15.out.below bA)
      clear T15
      have T15 := Lib.hid T15'.out
      clear T15'
      have T16' := Lib.hid (T16.out.below bA)
      clear T16
      have T16 := Lib.hid T16'.out
      clear T16'
      have GC' := Lib.hid (GC.out.below bA)
      clear GC
      have GC := Lib.hid GC'.out
      clear GC'
      have T18' := Lib.hid (T18.out.below bA)
      clear T18
      have T18 := Lib.hid T18'.out
      clear T18'
      have Gc' := Lib.hid (Gc.out.below bA)
      clear Gc
      have Gc := Lib.hid Gc'.out
      clear Gc'
      have B3' := Lib.hid (B3.out.trans (bA.mono B3.out.size))
      clear B3
      have B3 := Lib.hid B3'.out
      clear B3'
      have MeA' := Lib.hid (Nat.le_trans MeA.out bA.size)
      clear MeA
      have MeA := Lib.hid MeA'.out
      clear MeA'
      have MeC' := Lib.hid (Nat.le_trans MeC.out bA.size)
      clear MeC
      have MeC := Lib.hid MeC'.out
      clear MeC'
      clear bA
      obtain ⟨zv9, hzv9⟩ : ∃ z, z = v8.heap.size := ⟨_, rfl⟩
      rw [← hzv9] at T20 ⊢
      clear hzv9
      generalize (v8.alloc (.cells #[.slice pc.A dc.n pc.c, .slice pc.K dc.m pc.kc] 27)) = v9 at *
      obtain ⟨bP, hbP⟩ : ∃ z, z = v9.heap.size := ⟨_, rfl⟩
      have NP := Lib.hid (show eC ≤ bP from by rw [hbP]; exact MeC.out)
      have KX := Lib.hid (linkg_any d po Sm.out s q s' q' x v9 (OKo.out.below B3.out))
      have t11_0 := T11.out.cell 0
      have t11_1 := T11.out.cell 1
      have t11_z := T11.out.lt
      have t7_0 := T7.out.cell 0
      have t7_1 := T7.out.cell 1
      have t7_z := T7.out.lt
      have t8_0 := T8.out.cell 0
      have t8_1 := T8.out.cell 1
      have t8_z := T8.out.lt
      simp at t11_0 t11_1 t7_0 t7_1 t8_0 t8_1
      go_wp2_with fail
      refine KX.out.mono ?_
      rintro e v10 ⟨hx, bel⟩
      clear KX
      clear t11_0 t11_1 t11_z t7_0 t7_1 t7_z t8_0 t8_1 t8_z
      have T5' := Lib.hid (T5.out.below bel)
      clear T5
      have T5 := Lib.hid T5'.out
      clear T5'
      have T6' := Lib.hid (T6.out.below bel)
      clear T6
      have T6 := Lib.hid T6'.out
      clear T6'
      have T7' := Lib.hid (T7.out.below bel)
      clear T7
      have T7 := Lib.hid T7'.out
      clear T7'
      have T8' := Lib.hid (T8.out.below bel)
      clear T8
      have T8 := Lib.hid T8'.out
      clear T8'
      have T11' := Lib.hid (T11.out.below bel)
      clear T11
      have T11 := Lib.hid T11'.out
      clear T11'
      have GA' := Lib.hid (GA.out.below bel)
      clear GA
      have GA := Lib.hid GA'.out
      clear GA'
      have T12' := Lib.hid (T12.out.below bel)
      clear T12
      have T12 := Lib.hid T12'.out
      clear T12'
      have T13' := Lib.hid (T13.out.below bel)
      clear T13
      have T13 := Lib.hid T13'.out
      clear T13'
      have Ga' := Lib.hid (Ga.out.below bel)
      clear Ga
      have Ga := Lib.hid Ga'.out
      clear Ga'
      have T15' := Lib.hid (T15.out.below bel)
      clear T15
      have T15 := Lib.hid T15'.out
      clear T15'
      have T16' := Lib.hid (T16.out.below bel)
      clear T16
      have T16 := Lib.hid T16'.out
      clear T16'
      have GC' := Lib.hid (GC.out.below bel)
      clear GC
      have GC := Lib.hid GC'.out
      clear GC'
      have T18' := Lib.hid (T18.out.below bel)
      clear T18
      have T18 := Lib.hid T18'.out
      clear T18'
      have Gc' := Lib.hid (Gc.out.below bel)
      clear Gc
      have Gc := Lib.hid Gc'.out
      clear Gc'
      have T20' := Lib.hid (T20.out.below bel)
      clear T20
      have T20 := Lib.hid T20'.out
      clear T20'
      have B3' := Lib.hid (B3.out.trans (bel.mono B3.out.size))
      clear B3
      have B3 := Lib.hid B3'.out
      clear B3'
      have MeA' := Lib.hid (Nat.le_trans MeA.out bel.size)
      clear MeA
      have MeA := Lib.hid MeA'.out
      clear MeA'
      have MeC' := Lib.hid (Nat.le_trans MeC.out bel.size)
      clear MeC
      have MeC := Lib.hid MeC'.out
      clear MeC'
      have HBP := Lib.hid (show bP ≤ v10.heap.size from by rw [hbP]; exact bel.size)
      clear bel
      obtain ⟨pP, rfl, ho⟩ := op_of (E := (linkE d s q s' q' x)) (dn := (d.link s.toNat x.toNat s' q')) rfl rfl hx
      clear hx
      obtain ⟨dP, hdP⟩ : ∃ z, opD (linkE d s q s' q' x) (d.link s.toNat x.toNat s' q') = z := ⟨_, rfl⟩
      rw [hdP] at ho ⊢
      have DP := Lib.hid hdP
      clear hdP
      rw [← hbP] at ho
      clear hbP
      have GP := Lib.hid ho
      clear ho
      obtain ⟨eP, heP⟩ : ∃ z, z = v10.heap.size := ⟨_, rfl⟩
      have LP := Lib.hid (show ∀ x, GBlk pP dP x → bP ≤ x ∧ x < eP from fun x hx => by rw [heP]; exact GP.out.blk hx)
      have BEBP := Lib.hid (show bP ≤ eP from by rw [heP]; exact HBP.out)
      have MeP := Lib.hid (show eP ≤ v10.heap.size from Nat.le_of_eq heP)
      clear heP
      go_upto_region 9 with fail
      have bA := ((Below.refl v10.heap.size v10).alloc (Nat.le_refl _) (.cells #[.slice pP.A dP.n pP.c, .slice pP.K dP.m pP.kc] 27))
      have T22 := Lib.hid (show HasBlk (v10.alloc (.cells #[.slice pP.A dP.n pP.c, .slice pP.K dP.m pP.kc] 27)) (v10.heap.size) 27 #[.slice pP.A dP.n pP.c, .slice pP.K dP.m pP.kc] by simpa using (hasBlk_new v10 27 #[.slice pP.A dP.n pP.c, .slice pP.K dP.m pP.kc]))
      have T5' := Lib.hid (T5.out.below bA)
      clear T5
      have T5 := Lib.hid T5'.out
      clear T5'
      have T6' := Lib.hid (T6.out.below bA)
      clear T6
      have T6 := Lib.hid T6'.out
      clear T6'
      have T7' := Lib.hid (T7.out.below bA)
      clear T7
      have T7 := Lib.hid T7'.out
      clear T7'
      have T8' := Lib.hid (T8.out.below bA)
      clear T8
      have T8 := Lib.hid T8'.out
      clear T8'
      have T11' := Lib.hid (T11.out.below bA)
      clear T11
      have T11 := Lib.hid T11'.out
      clear T11'
      have GA' := Lib.hid (GA.out.below bA)
      clear GA
      have GA := Lib.hid GA'.out
      clear GA'
      have T12' := Lib.hid (T12.out.below bA)
      clear T12
      have T12 := Lib.hid T12'.out
      clear T12'
      have T13' := Lib.hid (T13.out.below bA)
      clear T13
      have T13 := Lib.hid T13'.out
      clear T13'
      have Ga' := Lib.hid (Ga.out.below bA)
      clear Ga
      have Ga := Lib.hid Ga'.out
      clear Ga'
      have T15' := Lib.hid (T15.out.below bA)
      clear T15
      have T15 := Lib.hid T15'.out
      clear T15'
      have T16' := Lib.hid (T16.out.below bA)
      clear T16
      have T16 := Lib.hid T16'.out
      clear T16'
      have GC' := Lib.hid (GC.out.below bA)
      clear GC
      have GC := Lib.hid GC'.out
      clear GC'
      have T18' := Lib.hid (T18.out.below bA)
      clear T18
      have T18 := Lib.hid T18'.out
      clear T18'
      have Gc' := Lib.hid (Gc.out.below bA)
      clear Gc
      have Gc := Lib.hid Gc'.out
      clear Gc'
      have T20' := Lib.hid (T20.out.below bA)
      clear T20
      have T20 := Lib.hid T20'.out
      clear T20'
      have GP' := Lib.hid (GP.out.below bA)
      clear GP
      have GP := Lib.hid GP'.out
      clear GP'
      have B3' := Lib.hid (B3.out.trans (bA.mono B3.out.size))
      clear B3
      have B3 := Lib.hid B3'.out
      clear B3'
      have MeA' := Lib.hid (Nat.le_trans MeA.out bA.size)
      clear MeA
      have MeA := Lib.hid MeA'.out
      clear MeA'
      have MeC' := Lib.hid (Nat.le_trans MeC.out bA.size)
      clear MeC
      have MeC := Lib.hid MeC'.out
      clear MeC'
      have MeP' := Lib.hid (Nat.le_trans MeP.out bA.size)
      clear MeP
      have MeP := Lib.hid MeP'.out
      clear MeP'
      clear bA
      obtain ⟨zv11, hzv11⟩ : ∃ z, z = v10.heap.size := ⟨_, rfl⟩
      rw [← hzv11] at T22 ⊢
      clear hzv11
      generalize (v10.alloc (.cells #[.slice pP.A dP.n pP.c, .slice pP.K dP.m pP.kc] 27)) = v11 at *
      have KX := Lib.hid (reflinkg_any d p Sm.out CAP.out s q s' q' x v11 (OKg.out.below (B03.out.trans (B3.out.mono B03.out.size))))
      have t5_0 := T5.out.cell 0
      have t5_1 := T5.out.cell 1
      have t5_z := T5.out.lt
      have t7_0 := T7.out.cell 0
      have t7_1 := T7.out.cell 1
      have t7_z := T7.out.lt
      have t8_0 := T8.out.cell 0
      have t8_1 := T8.out.cell 1
      have t8_z := T8.out.lt
      simp at t5_0 t5_1 t7_0 t7_1 t8_0 t8_1
      go_wp2_with fail
      refine KX.out.mono ?_
      rintro e v12 ⟨hx, bel⟩
      clear KX
      clear t5_0 t5_1 t5_z t7_0 t7_1 t7_z t8_0 t8_1 t8_z
      have T5' := Lib.hid (T5.out.below bel)
      clear T5
      have T5 := Lib.hid T5'.out
      clear T5'
      have T6' := Lib.hid (T6.out.below bel)
      clear T6
      have T6 := Lib.hid T6'.out
      clear T6'
      have T7' := Lib.hid (T7.out.below bel)
      clear T7
      have T7 := Lib.hid T7'.out
      clear T7'
      have T8' := Lib.hid (T8.out.below bel)
      clear T8
      have T8 := Lib.hid T8'.out
      clear T8'
      have T11' := Lib.hid (T11.out.below bel)
      clear T11
      have T11 := Lib.hid T11'.out
      clear T11'
      have GA' := Lib.hid (GA.out.below bel)
      clear GA
      have GA := Lib.hid GA'.out
      clear GA'
      have T12' := Lib.hid (T12.out.below bel)
      clear T12
      have T12 := Lib.hid T12'.out
      clear T12'
      have T13' := Lib.hid (T13.out.below bel)
      clear T13
      have T13 := Lib.hid T13'.out
      clear T13'
      have Ga' := Lib.hid (Ga.out.below bel)
      clear Ga
      have Ga := Lib.hid Ga'.out
      clear Ga'
      have T15' := Lib.hid (T15.out.below bel)
      clear T15
      have T15 := Lib.hid T15'.out
      clear T15'
      have T16' := Lib.hid (T16.out.below bel)
      clear T16
      have T16 := Lib.hid T16'.out
      clear T16'
      have GC' := Lib.hid (GC.out.below bel)
      clear GC
      have GC := Lib.hid GC'.out
      clear GC'
      have T18' := Lib.hid (T18.out.below bel)
      clear T18
      have T18 := Lib.hid T18'.out
      clear T18'
      have Gc' := Lib.hid (Gc.out.below bel)
      clear Gc
      have Gc := Lib.hid Gc'.out
      clear Gc'
      have T20' := Lib.hid (T20.out.below bel)
      clear T20
      have T20 := Lib.hid T20'.out
      clear T20'
      have GP' := Lib.hid (GP.out.below bel)
      clear GP
      have GP := Lib.hid GP'.out
      clear GP'
      have T22' := Lib.hid (T22.out.below bel)
      clear T22
      have T22 := Lib.hid T22'.out
      clear T22'
      have B3' := Lib.hid (B3.out.trans (bel.mono B3.out.size))
      clear B3
      have B3 := Lib.hid B3'.out
      clear B3'
      have MeA' := Lib.hid (Nat.le_trans MeA.out bel.size)
      clear MeA
      have MeA := Lib.hid MeA'.out
      clear MeA'
      have MeC' := Lib.hid (Nat.le_trans MeC.out bel.size)
      clear MeC
      have MeC := Lib.hid MeC'.out
      clear MeC'
      have MeP' := Lib.hid (Nat.le_trans MeP.out bel.size)
      clear MeP
      have MeP := Lib.hid MeP'.out
      clear MeP'
      clear bel
      obtain ⟨pl, rfl, ho⟩ := op_of (E := (linkE d s q s' q' x)) (dn := (d.link s.toNat x.toNat s' q')) rfl rfl hx
      clear hx
      obtain ⟨dl, hdl⟩ : ∃ z, opD (linkE d s q s' q' x) (d.link s.toNat x.toNat s' q') = z := ⟨_, rfl⟩
      rw [hdl] at ho ⊢
      have Dl := Lib.hid hdl
      clear hdl
      have Gl := Lib.hid ho.ok
      clear ho
      go_upto_region 10 with fail
      have bA := ((Below.refl v12.heap.size v12).alloc (Nat.le_refl _) (.cells #[.slice pl.A dl.n pl.c, .slice pl.K dl.m pl.kc] 27))
      have T24 := Lib.hid (show HasBlk (v12.alloc (.cells #[.slice pl.A dl.n pl.c, .slice pl.K dl.m pl.kc] 27)) (v12.heap.size) 27 #[.slice pl.A dl.n pl.c, .slice pl.K dl.m pl.kc] by simpa using (hasBlk_new v12 27 #[.slice pl.A dl.n pl.c, .slice pl.K dl.m pl.kc]))
      have T5' := Lib.hid (T5.out.below bA)
      clear T5
      have T5 := Lib.hid T5'.out
      clear T5'
      have T6' := Lib.hid (T6.out.below bA)
      clear T6
      have T6 := Lib.hid T6'.out
      clear T6'
      have T7' := Lib.hid (T7.out.below bA)
      clear T7
      have T7 := Lib.hid T7'.out
      clear T7'
      have T8' := Lib.hid (T8.out.below bA)
      clear T8
      have T8 := Lib.hid T8'.out
      clear T8'
      have T11' := Lib.hid (T11.out.below bA)
      clear T11
      have T11 := Lib.hid T11'.out
      clear T11'
      have GA' := Lib.hid (GA.out.below bA)
      clear GA
      have GA := Lib.hid GA'.out
      clear GA'
      have T12' := Lib.hid (T12.out.below bA)
      clear T12
      have T12 := Lib.hid T12'.out
      clear T12'
      have T13' := Lib.hid (T13.out.below bA)
      clear T13
      have T13 := Lib.hid T13'.out
      clear T13'
      have Ga' := Lib.hid (Ga.out.below bA)
      clear Ga
      have Ga := Lib.hid Ga'.out
      clear Ga'
      have T15' := Lib.hid (T15.out.below bA)
      clear T15
      have T15 := Lib.hid T15'.out
      clear T15'
      have T16' := Lib.hid (T16.out.below bA)
      clear T16
      have T16 := Lib.hid T16'.out
      clear T16'
      have GC' := Lib.hid (GC.out.below bA)
      clear GC
      have GC := Lib.hid GC'.out
      clear GC'
      have T18' := Lib.hid (T18.out.below bA)
      clear T18
      have T18 := Lib.hid T18'.out
      clear T18'
      have Gc' := Lib.hid (Gc.out.below bA)
      clear Gc
      have Gc := Lib.hid Gc'.out
      clear Gc'
      have T20' := Lib.hid (T20.out.below bA)
      clear T20
      have T20 := Lib.hid T20'.out
      clear T20'
      have GP' := Lib.hid (GP.out.below bA)
      clear GP
      have GP := Lib.hid GP'.out
      clear GP'
      have T22' := Lib.hid (T22.out.below bA)
      clear T22
      have T22 := Lib.hid T22'.out
      clear T22'
      have Gl' := Lib.hid (Gl.out.below bA)
      clear Gl
      have Gl := Lib.hid Gl'.out
      clear Gl'
      have B3' := Lib.hid (B3.out.trans (bA.mono B3.out.size))
      clear B3
      have B3 := Lib.hid B3'.out
      clear B3'
      have MeA' := Lib.hid (Nat.le_trans MeA.out bA.size)
      clear MeA
      have MeA := Lib.hid MeA'.out
      clear MeA'
      have MeC' := Lib.hid (Nat.le_trans MeC.out bA.size)
      clear MeC
      have MeC := Lib.hid MeC'.out
      clear MeC'
      have MeP' := Lib.hid (Nat.le_trans MeP.out bA.size)
      clear MeP
      have MeP := Lib.hid MeP'.out
      clear MeP'
      clear bA
      obtain ⟨zv13, hzv13⟩ : ∃ z, z = v12.heap.size := ⟨_, rfl⟩
      rw [← hzv13] at T24 ⊢
      clear hzv13
      generalize (v12.alloc (.cells #[.slice pl.A dl.n pl.c, .slice pl.K dl.m pl.kc] 27)) = v13 at *
      obtain ⟨bR, hbR⟩ : ∃ z, z = v13.heap.size := ⟨_, rfl⟩
      have NR := Lib.hid (show eP ≤ bR from by rw [hbR]; exact MeP.out)
      have KX := Lib.hid (unlinkg_any d po Sm.out s q x v13 (OKo.out.below B3.out))
      have t11_0 := T11.out.cell 0
      have t11_1 := T11.out.cell 1
      have t11_z := T11.out.lt
      have t7_0 := T7.out.cell 0
      have t7_1 := T7.out.cell 1
      have t7_z := T7.out.lt
      simp at t11_0 t11_1 t7_0 t7_1
      go_wp2_with fail
      refine KX.out.mono ?_
      rintro e v14 ⟨hx, bel⟩
      clear KX
      clear t11_0 t11_1 t11_z t7_0 t7_1 t7_z
      have T5' := Lib.hid (T5.out.below bel)
      clear T5
      have T5 := Lib.hid T5'.out
      clear T5'
      have T6' := Lib.hid (T6.out.below bel)
      clear T6
      have T6 := Lib.hid T6'.out
      clear T6'
      have T7' := Lib.hid (T7.out.below bel)
      clear T7
      have T7 := Lib.hid T7'.out
      clear T7'
      have T8' := Lib.hid (T8.out.below bel)
      clear T8
      have T8 := Lib.hid T8'.out
      clear T8'
      have T11' := Lib.hid (T11.out.below bel)
      clear T11
      have T11 := Lib.hid T11'.out
      clear T11'
      have GA' := Lib.hid (GA.out.below bel)
      clear GA
      have GA := Lib.hid GA'.out
      clear GA'
      have T12' := Lib.hid (T12.out.below bel)
      clear T12
      have T12 := Lib.hid T12'.out
      clear T12'
      have T13' := Lib.hid (T13.out.below bel)
      clear T13
      have T13 := Lib.hid T13'.out
      clear T13'
      have Ga' := Lib.hid (Ga.out.below bel)
      clear Ga
      have Ga := Lib.hid Ga'.out
      clear Ga'
      have T15' := Lib.hid (T15.out.below bel)
      clear T15
      have T15 := Lib.hid T15'.out
      clear T15'
      have T16' := Lib.hid (T16.out.below bel)
      clear T16
      have T16 := Lib.hid T16'.out
      clear T16'
      have GC' := Lib.hid (GC.out.below bel)
      clear GC
      have GC := Lib.hid GC'.out
      clear GC'
      have T18' := Lib.hid (T18.out.below bel)
      clear T18
      have T18 := Lib.hid T18'.out
      clear T18'
      have Gc' := Lib.hid (Gc.out.below bel)
      clear Gc
      have Gc := Lib.hid Gc'.out
      clear Gc'
      have T20' := Lib.hid (T20.out.below bel)
      clear T20
      have T20 := Lib.hid T20'.out
      clear T20'
      have GP' := Lib.hid (GP.out.below bel)
      clear GP
      have GP := Lib.hid GP'.out
      clear GP'
      have T22' := Lib.hid (T22.out.below bel)
      clear T22
      have T22 := Lib.hid T22'.out
      clear T22'
      have Gl' := Lib.hid (Gl.out.below bel)
      clear Gl
      have Gl := Lib.hid Gl'.out
      clear Gl'
      have T24' := Lib.hid (T24.out.below bel)
      clear T24
      have T24 := Lib.hid T24'.out
      clear T24'
      have B3' := Lib.hid (B3.out.trans (bel.mono B3.out.size))
      clear B3
      have B3 := Lib.hid B3'.out
      clear B3'
      have MeA' := Lib.hid (Nat.le_trans MeA.out bel.size)
      clear MeA
      have MeA := Lib.hid MeA'.out
      clear MeA'
      have MeC' := Lib.hid (Nat.le_trans MeC.out bel.size)
      clear MeC
      have MeC := Lib.hid MeC'.out
      clear MeC'
      have MeP' := Lib.hid (Nat.le_trans MeP.out bel.size)
      clear MeP
      have MeP := Lib.hid MeP'.out
      clear MeP'
      have HBR := Lib.hid (show bR ≤ v14.heap.size from by rw [hbR]; exact bel.size)
      clear bel
      obtain ⟨pR, rfl, ho⟩ := op_of (E := (unlinkE d s q x)) (dn := (d.unlink s.toNat x.toNat)) rfl rfl hx
      clear hx
      obtain ⟨dR, hdR⟩ : ∃ z, opD (unlinkE d s q x) (d.unlink s.toNat x.toNat) = z := ⟨_, rfl⟩
      rw [hdR] at ho ⊢
      have DR := Lib.hid hdR
      clear hdR
      rw [← hbR] at ho
      clear hbR
      have GR := Lib.hid ho
      clear ho
      obtain ⟨eR, heR⟩ : ∃ z, z = v14.heap.size := ⟨_, rfl⟩
      have LR := Lib.hid (show ∀ x, GBlk pR dR x → bR ≤ x ∧ x < eR from fun x hx => by rw [heR]; exact GR.out.blk hx)
      have BEBR := Lib.hid (show bR ≤ eR from by rw [heR]; exact HBR.out)
      have MeR := Lib.hid (show eR ≤ v14.heap.size from Nat.le_of_eq heR)
      clear heR
      go_upto_region 11 with fail
      have bA := ((Below.refl v14.heap.size v14).alloc (Nat.le_refl _) (.cells #[.slice pR.A dR.n pR.c, .slice pR.K dR.m pR.kc] 27))
      have T26 := Lib.hid (show HasBlk (v14.alloc (.cells #[.slice pR.A dR.n pR.c, .slice pR.K dR.m pR.kc] 27)) (v14.heap.size) 27 #[.slice pR.A dR.n pR.c, .slice pR.K dR.m pR.kc] by simpa using (hasBlk_new v14 27 #[.slice pR.A dR.n pR.c, .slice pR.K dR.m pR.kc]))
      have T5' := Lib.hid (T5.out.below bA)
      clear T5
      have T5 := Lib.hid T5'.out
      clear T5'
      have T6' := Lib.hid (T6.out.below bA)
      clear T6
      have T6 := Lib.hid T6'.out
      clear T6'
      have T7' := Lib.hid (T7.out.below bA)
      clear T7
      have T7 := Lib.hid T7'.out
      clear T7'
      have T8' := Lib.hid (T8.out.below bA)
      clear T8
      have T8 := Lib.hid T8'.out
      clear T8'
      have T11' := Lib.hid (T11.out.below bA)
      clear T11
      have T11 := Lib.hid T11'.out
      clear T11'
      have GA' := Lib.hid (GA.out.below bA)
      clear GA
      have GA := Lib.hid GA'.out
      clear GA'
      have T12' := Lib.hid (T12.out.below bA)
      clear T12
      have T12 := Lib.hid T12'.out
      clear T12'
      have T13' := Lib.hid (T13.out.below bA)
      clear T13
      have T13 := Lib.hid T13'.out
      clear T13'
      have Ga' := Lib.hid (Ga.out.below bA)
      clear Ga
      have Ga := Lib.hid Ga'.out
      clear Ga'
      have T15' := Lib.hid (T15.out.below bA)
      clear T15
      have T15 := Lib.hid T15'.out
      clear T15'
      have T16' := Lib.hid (T16.out.below bA)
      clear T16
      have T16 := Lib.hid T16'.out
      clear T16'
      have GC' := Lib.hid (GC.out.below bA)
      clear GC
      have GC := Lib.hid GC'.out
      clear GC'
      have T18' := Lib.hid (T18.out.below bA)
      clear T18
      have T18 := Lib.hid T18'.out
      clear T18'
      have Gc' := Lib.hid (Gc.out.below bA)
      clear Gc
      have Gc := Lib.hid Gc'.out
      clear Gc'
      have T20' := Lib.hid (T20.out.below bA)
      clear T20
      have T20 := Lib.hid T20'.out
      clear T20'
      have GP' := Lib.hid (GP.out.below bA)
      clear GP
      have GP := Lib.hid GP'.out
      clear GP'
      have T22' := Lib.hid (T22.out.below bA)
      clear T22
      have T22 := Lib.hid T22'.out
      clear T22'
      have Gl' := Lib.hid (Gl.out.below bA)
      clear Gl
      have Gl := Lib.hid Gl'.out
      clear Gl'
      have T24' := Lib.hid (T24.out.below bA)
      clear T24
      have T24 := Lib.hid T24'.out
      clear T24'
      have GR' := Lib.hid (GR.out.below bA)
      clear GR
      have GR := Lib.hid GR'.out
      clear GR'
      have B3' := Lib.hid (B3.out.trans (bA.mono B3.out.size))
      clear B3
      have B3 := Lib.hid B3'.out
      clear B3'
      have MeA' := Lib.hid (Nat.le_trans MeA.out bA.size)
      clear MeA
      have MeA := Lib.hid MeA'.out
      clear MeA'
      have MeC' := Lib.hid (Nat.le_trans MeC.out bA.size)
      clear MeC
      have MeC := Lib.hid MeC'.out
      clear MeC'
      have MeP' := Lib.hid (Nat.le_trans MeP.out bA.size)
      clear MeP
      have MeP := Lib.hid MeP'.out
      clear MeP'
      have MeR' := Lib.hid (Nat.le_trans MeR.out bA.size)
      clear MeR
      have MeR := Lib.hid MeR'.out
      clear MeR'
      clear bA
      obtain ⟨zv15, hzv15⟩ : ∃ z, z = v14.heap.size := ⟨_, rfl⟩
      rw [← hzv15] at T26 ⊢
      clear hzv15
      generalize (v14.alloc (.cells #[.slice pR.A dR.n pR.c, .slice pR.K dR.m pR.kc] 27)) = v15 at *
      have KX := Lib.hid (refunlinkg_any d p Sm.out CAP.out s q x v15 (OKg.out.below (B03.out.trans (B3.out.mono B03.out.size))))
      have t5_0 := T5.out.cell 0
      have t5_1 := T5.out.cell 1
      have t5_z := T5.out.lt
      have t7_0 := T7.out.cell 0
      have t7_1 := T7.out.cell 1
      have t7_z := T7.out.lt
      simp at t5_0 t5_1 t7_0 t7_1
      go_wp2_with fail
      refine KX.out.mono ?_
      rintro e v16 ⟨hx, bel⟩
      clear KX
      clear t5_0 t5_1 t5_z t7_0 t7_1 t7_z
      have T5' := Lib.hid (T5.out.below bel)
      clear T5
      have T5 := Lib.hid T5'.out
      clear T5'
      have T6' := Lib.hid (T6.out.below bel)
      clear T6
      have T6 := Lib.hid T6'.out
      clear T6'
      have T7' := Lib.hid (T7.out.below bel)
      clear T7
      have T7 := Lib.hid T7'.out
      clear T7'
      have T8' := Lib.hid (T8.out.below bel)
      clear T8
      have T8 := Lib.hid T8'.out
      clear T8'
      have T11' := Lib.hid (T11.out.below bel)
      clear T11
      have T11 := Lib.hid T11'.out
      clear T11'
      have GA' := Lib.hid (GA.out.below bel)
      clear GA
      have GA := Lib.hid GA'.out
      clear GA'
      have T12' := Lib.hid (T12.out.below bel)
      clear T12
      have T12 := Lib.hid T12'.out
      clear T12'
      have T13' := Lib.hid (T13.out.below bel)
      clear T13
      have T13 := Lib.hid T13'.out
      clear T13'
      have Ga' := Lib.hid (Ga.out.below bel)
      clear Ga
      have Ga := Lib.hid Ga'.out
      clear Ga'
      have T15' := Lib.hid (T15.out.below bel)
      clear T15
      have T15 := Lib.hid T15'.out
      clear T15'
      have T16' := Lib.hid (T16.out.below bel)
      clear T16
      have T16 := Lib.hid T16'.out
      clear T16'
      have GC' := Lib.hid (GC.out.below bel)
      clear GC
      have GC := Lib.hid GC'.out
      clear GC'
      have T18' := Lib.hid (T18.out.below bel)
      clear T18
      have T18 := Lib.hid T18'.out
      clear T18'
      have Gc' := Lib.hid (Gc.out.below bel)
      clear Gc
      have Gc := Lib.hid Gc'.out
      clear Gc'
      have T20' := Lib.hid (T20.out.below bel)
      clear T20
      have T20 := Lib.hid T20'.out
      clear T20'
      have GP' := Lib.hid (GP.out.below bel)
      clear GP
      have GP := Lib.hid GP'.out
      clear GP'
      have T22' := Lib.hid (T22.out.below bel)
      clear T22
      have T22 := Lib.hid T22'.out
      clear T22'
      have Gl' := Lib.hid (Gl.out.below bel)
      clear Gl
      have Gl := Lib.hid Gl'.out
      clear Gl'
      have T24' := Lib.hid (T24.out.below bel)
      clear T24
      have T24 := Lib.hid T24'.out
      clear T24'
      have GR' := Lib.hid (GR.out.below bel)
      clear GR
      have GR := Lib.hid GR'.out
      clear GR'
      have T26' := Lib.hid (T26.out.below bel)
      clear T26
      have T26 := Lib.hid T26'.out
      clear T26'
      have B3' := Lib.hid (B3.out.trans (bel.mono B3.out.size))
      clear B3
      have B3 := Lib.hid B3'.out
      clear B3'
      have MeA' := Lib.hid (Nat.le_trans MeA.out bel.size)
      clear MeA
      have MeA := Lib.hid MeA'.out
      clear MeA'
      have MeC' := Lib.hid (Nat.le_trans MeC.out bel.size)
      clear MeC
      have MeC := Lib.hid MeC'.out
      clear MeC'
      have MeP' := Lib.hid (Nat.le_trans MeP.out bel.size)
      clear MeP
      have MeP := Lib.hid MeP'.out
      clear MeP'
      have MeR' := Lib.hid (Nat.le_trans MeR.out bel.size)
      clear MeR
      have MeR := Lib.hid MeR'.out
      clear MeR'
      clear bel
      obtain ⟨pu, rfl, ho⟩ := op_of (E := (unlinkE d s q x)) (dn := (d.unlink s.toNat x.toNat)) rfl rfl hx
      clear hx
      obtain ⟨du, hdu⟩ : ∃ z, opD (unlinkE d s q x) (d.unlink s.toNat x.toNat) = z := ⟨_, rfl⟩
      rw [hdu] at ho ⊢
      have Du := Lib.hid hdu
      clear hdu
      have Gu := Lib.hid ho.ok
      clear ho
      go_upto_region 12 with fail
      have bA := ((Below.refl v16.heap.size v16).alloc (Nat.le_refl _) (.cells #[.slice pu.A du.n pu.c, .slice pu.K du.m pu.kc] 27))
      have T28 := Lib.hid (show HasBlk (v16.alloc (.cells #[.slice pu.A du.n pu.c, .slice pu.K du.m pu.kc] 27)) (v16.heap.size) 27 #[.slice pu.A du.n pu.c, .slice pu.K du.m pu.kc] by simpa using (hasBlk_new v16 27 #[.slice pu.A du.n pu.c, .slice pu.K du.m pu.kc]))
      have T5' := Lib.hid (T5.out.below bA)
      clear T5
      have T5 := Lib.hid T5'.out
      clear T5'
      have T6' := Lib.hid (T6.out.below bA)
      clear T6
      have T6 := Lib.hid T6'.out
      clear T6'
      have T7' := Lib.hid (T7.out.below bA)
      clear T7
      have T7 := Lib.hid T7'.out
      clear T7'
      have T8' := Lib.hid (T8.out.below bA)
      clear T8
      have T8 := Lib.hid T8'.out
      clear T8'
      have T11' := Lib.hid (T11.out.below bA)
      clear T11
      have T11 := Lib.hid T11'.out
      clear T11'
      have GA' := Lib.hid (GA.out.below bA)
      clear GA
      have GA := Lib.hid GA'.out
      clear GA'
      have T12' := Lib.hid (T12.out.below bA)
      clear T12
      have T12 := Lib.hid T12'.out
      clear T12'
      have T13' := Lib.hid (T13.out.below bA)
      clear T13
      have T13 := Lib.hid T13'.out
      clear T13'
      have Ga' := Lib.hid (Ga.out.below bA)
      clear Ga
      have Ga := Lib.hid Ga'.out
      clear Ga'
      have T15' := Lib.hid (T15.out.below bA)
      clear T15
      have T15 := Lib.hid T15'.out
      clear T15'
      have T16' := Lib.hid (T16.out.below bA)
      clear T16
      have T16 := Lib.hid T16'.out
      clear T16'
      have GC' := Lib.hid (GC.out.below bA)
      clear GC
      have GC := Lib.hid GC'.out
      clear GC'
      have T18' := Lib.hid (T18.out.below bA)
      clear T18
      have T18 := Lib.hid T18'.out
      clear T18'
      have Gc' := Lib.hid (Gc.out.below bA)
      clear Gc
      have Gc := Lib.hid Gc'.out
      clear Gc'
      have T20' := Lib.hid (T20.out.below bA)
      clear T20
      have T20 := Lib.hid T20'.out
      clear T20'
      have GP' := Lib.hid (GP.out.below bA)
      clear GP
      have GP := Lib.hid GP'.out
      clear GP'
      have T22' := Lib.hid (T22.out.below bA)
      clear T22
      have T22 := Lib.hid T22'.out
      clear T22'
      have Gl' := Lib.hid (Gl.out.below bA)
      clear Gl
      have Gl := Lib.hid Gl'.out
      clear Gl'
      have T24' := Lib.hid (T24.out.below bA)
      clear T24
      have T24 := Lib.hid T24'.out
      clear T24'
      have GR' := Lib.hid (GR.out.below bA)
      clear GR
      have GR := Lib.hid GR'.out
      clear GR'
      have T26' := Lib.hid (T26.out.below bA)
      clear T26
      have T26 := Lib.hid T26'.out
      clear T26'
      have Gu' := Lib.hid (Gu.out.below bA)
      clear Gu
      have Gu := Lib.hid Gu'.out
      clear Gu'
      have B3' := Lib.hid (B3.out.trans (bA.mono B3.out.size))
      clear B3
      have B3 := Lib.hid B3'.out
      clear B3'
      have MeA' := Lib.hid (Nat.le_trans MeA.out bA.size)
      clear MeA
      have MeA := Lib.hid MeA'.out
      clear MeA'
      have MeC' := Lib.hid (Nat.le_trans MeC.out bA.size)
      clear MeC
      have MeC := Lib.hid MeC'.out
      clear MeC'
      have MeP' := Lib.hid (Nat.le_trans MeP.out bA.size)
      clear MeP
      have MeP := Lib.hid MeP'.out
      clear MeP'
      have MeR' := Lib.hid (Nat.le_trans MeR.out bA.size)
      clear MeR
      have MeR := Lib.hid MeR'.out
      clear MeR'
      clear bA
      obtain ⟨zv17, hzv17⟩ : ∃ z, z = v16.heap.size := ⟨_, rfl⟩
      rw [← hzv17] at T28 ⊢
      clear hzv17
      generalize (v16.alloc (.cells #[.slice pu.A du.n pu.c, .slice pu.K du.m pu.kc] 27)) = v17 at *
      obtain ⟨bT, hbT⟩ : ∃ z, z = v17.heap.size := ⟨_, rfl⟩
      have NT := Lib.hid (show eR ≤ bT from by rw [hbT]; exact MeR.out)
      have KX := Lib.hid (twing_any d po Sm.out v17 (OKo.out.below B3.out))
      have t11_0 := T11.out.cell 0
      have t11_1 := T11.out.cell 1
      have t11_z := T11.out.lt
      simp at t11_0 t11_1
      go_wp2_with fail
      refine KX.out.mono ?_
      rintro e v18 ⟨⟨_, rfl, pT, rfl, ho⟩, bel⟩
      clear KX
      clear t11_0 t11_1 t11_z
      have T5' := Lib.hid (T5.out.below bel)
      clear T5
      have T5 := Lib.hid T5'.out
      clear T5'
      have T6' := Lib.hid (T6.out.below bel)
      clear T6
      have T6 := Lib.hid T6'.out
      clear T6'
      have T7' := Lib.hid (T7.out.below bel)
      clear T7
      have T7 := Lib.hid T7'.out
      clear T7'
      have T8' := Lib.hid (T8.out.below bel)
      clear T8
      have T8 := Lib.hid T8'.out
      clear T8'
      have T11' := Lib.hid (T11.out.below bel)
      clear T11
      have T11 := Lib.hid T11'.out
      clear T11'
      have GA' := Lib.hid (GA.out.below bel)
      clear GA
      have GA := Lib.hid GA'.out
      clear GA'
      have T12' := Lib.hid (T12.out.below bel)
      clear T12
      have T12 := Lib.hid T12'.out
      clear T12'
      have T13' := Lib.hid (T13.out.below bel)
      clear T13
      have T13 := Lib.hid T13'.out
      clear T13'
      have Ga' := Lib.hid (Ga.out.below bel)
      clear Ga
      have Ga := Lib.hid Ga'.out
      clear Ga'
      have T15' := Lib.hid (T15.out.below bel)
      clear T15
      have T15 := Lib.hid T15'.out
      clear T15'
      have T16' := Lib.hid (T16.out.below bel)
      clear T16
      have T16 := Lib.hid T16'.out
      clear T16'
      have GC' := Lib.hid (GC.out.below bel)
      clear GC
      have GC := Lib.hid GC'.out
      clear GC'
      have T18' := Lib.hid (T18.out.below bel)
      clear T18
      have T18 := Lib.hid T18'.out
      clear T18'
      have Gc' := Lib.hid (Gc.out.below bel)
      clear Gc
      have Gc := Lib.hid Gc'.out
      clear Gc'
      have T20' := Lib.hid (T20.out.below bel)
      clear T20
      have T20 := Lib.hid T20'.out
      clear T20'
      have GP' := Lib.hid (GP.out.below bel)
      clear GP
      have GP := Lib.hid GP'.out
      clear GP'
      have T22' := Lib.hid (T22.out.below bel)
      clear T22
      have T22 := Lib.hid T22'.out
      clear T22'
      have Gl' := Lib.hid (Gl.out.below bel)
      clear Gl
      have Gl := Lib.hid Gl'.out
      clear Gl'
      have T24' := Lib.hid (T24.out.below bel)
      clear T24
      have T24 := Lib.hid T24'.out
      clear T24'
      have GR' := Lib.hid (GR.out.below bel)
      clear GR
      have GR := Lib.hid GR'.out
      clear GR'
      have T26' := Lib.hid (T26.out.below bel)
      clear T26
      have T26 := Lib.hid T26'.out
      clear T26'
      have Gu' := Lib.hid (Gu.out.below bel)
      clear Gu
      have Gu := Lib.hid Gu'.out
      clear Gu'
      have T28' := Lib.hid (T28.out.below bel)
      clear T28
      have T28 := Lib.hid T28'.out
      clear T28'
      have B3' := Lib.hid (B3.out.trans (bel.mono B3.out.size))
      clear B3
      have B3 := Lib.hid B3'.out
      clear B3'
      have MeA' := Lib.hid (Nat.le_trans MeA.out bel.size)
      clear MeA
      have MeA := Lib.hid MeA'.out
      clear MeA'
      have MeC' := Lib.hid (Nat.le_trans MeC.out bel.size)
      clear MeC
      have MeC := Lib.hid MeC'.out
      clear MeC'
      have MeP' := Lib.hid (Nat.le_trans MeP.out bel.size)
      clear MeP
      have MeP := Lib.hid MeP'.out
      clear MeP'
      have MeR' := Lib.hid (Nat.le_trans MeR.out bel.size)
      clear MeR
      have MeR := Lib.hid MeR'.out
      clear MeR'
      clear bel
      rw [← hbT] at ho
      clear hbT
      have GT := Lib.hid ho
      clear ho
      have LT := Lib.hid (show ∀ x, GBlk pT d x → bT ≤ x from fun x hx => (GT.out.blk hx).1)
      go_upto_region 13 with fail
      have bA := ((Below.refl v18.heap.size v18).alloc (Nat.le_refl _) (.cells #[.slice pT.A d.n pT.c, .slice pT.K d.m pT.kc] 27))
      have T30 := Lib.hid (show HasBlk (v18.alloc (.cells #[.slice pT.A d.n pT.c, .slice pT.K d.m pT.kc] 27)) (v18.heap.size) 27 #[.slice pT.A d.n pT.c, .slice pT.K d.m pT.kc] by simpa using (hasBlk_new v18 27 #[.slice pT.A d.n pT.c, .slice pT.K d.m pT.kc]))
      have T5' := Lib.hid (T5.out.below bA)
      clear T5
      have T5 := Lib.hid T5'.out
      clear T5'
      have T6' := Lib.hid (T6.out.below bA)
      clear T6
      have T6 := Lib.hid T6'.out
      clear T6'
      have T7' := Lib.hid (T7.out.below bA)
      clear T7
      have T7 := Lib.hid T7'.out
      clear T7'
      have T8' := Lib.hid (T8.out.below bA)
      clear T8
      have T8 := Lib.hid T8'.out
      clear T8'
      have T11' := Lib.hid (T11.out.below bA)
      clear T11
      have T11 := Lib.hid T11'.out
      clear T11'
      have GA' := Lib.hid (GA.out.below bA)
      clear GA
      have GA := Lib.hid GA'.out
      clear GA'
      have T12' := Lib.hid (T12.out.below bA)
      clear T12
      have T12 := Lib.hid T12'.out
      clear T12'
      have T13' := Lib.hid (T13.out.below bA)
      clear T13
      have T13 := Lib.hid T13'.out
      clear T13'
      have Ga' := Lib.hid (Ga.out.below bA)
      clear Ga
      have Ga := Lib.hid Ga'.out
      clear Ga'
      have T15' := Lib.hid (T15.out.below bA)
      clear T15
      have T15 := Lib.hid T15'.out
      clear T15'
      have T16' := Lib.hid (T16.out.below bA)
      clear T16
      have T16 := Lib.hid T16'.out
      clear T16'
      have GC' := Lib.hid (GC.out.below bA)
      clear GC
      have GC := Lib.hid GC'.out
      clear GC'
      have T18' := Lib.hid (T18.out.below bA)
      clear T18
      have T18 := Lib.hid T18'.out
      clear T18'
      have Gc' := Lib.hid (Gc.out.below bA)
      clear Gc
      have Gc := Lib.hid Gc'.out
      clear Gc'
      have T20' := Lib.hid (T20.out.below bA)
      clear T20
      have T20 := Lib.hid T20'.out
      clear T20'
      have GP' := Lib.hid (GP.out.below bA)
      clear GP
      have GP := Lib.hid GP'.out
      clear GP'
      have T22' := Lib.hid (T22.out.below bA)
      clear T22
      have T22 := Lib.hid T22'.out
      clear T22'
      have Gl' := Lib.hid (Gl.out.below bA)
      clear Gl
      have Gl := Lib.hid Gl'.out
      clear Gl'
      have T24' := Lib.hid (T24.out.below bA)
      clear T24
      have T24 := Lib.hid T24'.out
      clear T24'
      have GR' := Lib.hid (GR.out.below bA)
      clear GR
      have GR := Lib.hid GR'.out
      clear GR'
      have T26' := Lib.hid (T26.out.below bA)
      clear T26
      have T26 := Lib.hid T26'.out
      clear T26'
      have Gu' := Lib.hid (Gu.out.below bA)
      clear Gu
      have Gu := Lib.hid Gu'.out
      clear Gu'
      have T28' := Lib.hid (T28.out.below bA)
      clear T28
      have T28 := Lib.hid T28'.out
      clear T28'
      have GT' := Lib.hid (GT.out.below bA)
      clear GT
      have GT := Lib.hid GT'.out
      clear GT'
      have B3' := Lib.hid (B3.out.trans (bA.mono B3.out.size))
      clear B3
      have B3 := Lib.hid B3'.out
      clear B3'
      have MeA' := Lib.hid (Nat.le_trans MeA.out bA.size)
      clear MeA
      have MeA := Lib.hid MeA'.out
      clear MeA'
      have MeC' := Lib.hid (Nat.le_trans MeC.out bA.size)
      clear MeC
      have MeC := Lib.hid MeC'.out
      clear MeC'
      have MeP' := Lib.hid (Nat.le_trans MeP.out bA.size)
      clear MeP
      have MeP := Lib.hid MeP'.out
      clear MeP'
      have MeR' := Lib.hid (Nat.le_trans MeR.out bA.size)
      clear MeR
      have MeR := Lib.hid MeR'.out
      clear MeR'
      clear bA
      obtain ⟨zv19, hzv19⟩ : ∃ z, z = v18.heap.size := ⟨_, rfl⟩
      rw [← hzv19] at T30 ⊢
      clear hzv19
      generalize (v18.alloc (.cells #[.slice pT.A d.n pT.c, .slice pT.K d.m pT.kc] 27)) = v19 at *
      obtain ⟨xK, hxK⟩ : ∃ z, (askv d (HeldA d.n d.g d.b s q)) = z := ⟨_, rfl⟩
      obtain ⟨xL, hxL⟩ : ∃ z, (linkE d s q s' q' x) = z := ⟨_, rfl⟩
      obtain ⟨xU, hxU⟩ : ∃ z, (unlinkE d s q x) = z := ⟨_, rfl⟩
      have SMA := Lib.hid (makeS_sm MA.out)
      have SMC := Lib.hid (show dC.Sm from by rw [← DC.out]; exact opD_sm (fun h => (kill_mayS h (askv_may h)).sm))
      have SMP := Lib.hid (show dP.Sm from by rw [← DP.out]; exact opD_sm (fun h => by
        obtain ⟨_, _, _, _, _, _, _, _, hm, _⟩ := linkE_zero h
        exact (link_mayS h hm).sm))
      have SMR := Lib.hid (show dR.Sm from by rw [← DR.out]; exact opD_sm (fun h => (unlink_mayS h (unlink_may0 h)).sm))
      have SC := Lib.hid (show SameG dC dc from by rw [← DC.out, ← Dc.out]; exact opD_same (same_symm (rkill_same d s.toNat)))
      have SP := Lib.hid (show SameG dP dl from by rw [← DP.out, ← Dl.out]; exact SameG.refl _)
      have SR := Lib.hid (show SameG dR du from by rw [← DR.out, ← Du.out]; exact SameG.refl _)
      rw [hxK, hxL, hxU]
      clear DC Dc DP Dl DR Du hxK hxL hxU
      have hq := fun W => eql_hdl sA qA sA qA W
      simp only [beq_self_eq_true, Bool.and_self] at hq
      have KX := Lib.hid (refsameg_any dA dA pA pa v19 GA.out.ok Ga.out (by have := SMA.out.n; omega) (by have := SMA.out.m; omega) (fun i hi => by have := SMA.out.L i hi; omega))
      have t12_0 := T12.out.cell 0
      have t12_1 := T12.out.cell 1
      have t12_z := T12.out.lt
      have t15_0 := T15.out.cell 0
      have t15_1 := T15.out.cell 1
      have t15_z := T15.out.lt
      simp at t12_0 t12_1 t15_0 t15_1
      go_wp2_with fail
      refine KX.out.mono ?_
      rintro e v20 ⟨⟨b, rfl, hb⟩, bel⟩
      clear KX
      clear t12_0 t12_1 t12_z t15_0 t15_1 t15_z
      have T5' := Lib.hid (T5.out.below bel)
      clear T5
      have T5 := Lib.hid T5'.out
      clear T5'
      have T6' := Lib.hid (T6.out.below bel)
      clear T6
      have T6 := Lib.hid T6'.out
      clear T6'
      have T7' := Lib.hid (T7.out.below bel)
      clear T7
      have T7 := Lib.hid T7'.out
      clear T7'
      have T8' := Lib.hid (T8.out.below bel)
      clear T8
      have T8 := Lib.hid T8'.out
      clear T8'
      have T11' := Lib.hid (T11.out.below bel)
      clear T11
      have T11 := Lib.hid T11'.out
      clear T11'
      have GA' := Lib.hid (GA.out.below bel)
      clear GA
      have GA := Lib.hid GA'.out
      clear GA'
      have T12' := Lib.hid (T12.out.below bel)
      clear T12
      have T12 := Lib.hid T12'.out
      clear T12'
      have T13' := Lib.hid (T13.out.below bel)
      clear T13
      have T13 := Lib.hid T13'.out
      clear T13'
      have Ga' := Lib.hid (Ga.out.below bel)
      clear Ga
      have Ga := Lib.hid Ga'.out
      clear Ga'
      have T15' := Lib.hid (T15.out.below bel)
      clear T15
      have T15 := Lib.hid T15'.out
      clear T15'
      have T16' := Lib.hid (T16.out.below bel)
      clear T16
      have T16 := Lib.hid T16'.out
      clear T16'
      have GC' := Lib.hid (GC.out.below bel)
      clear GC
      have GC := Lib.hid GC'.out
      clear GC'
      have T18' := Lib.hid (T18.out.below bel)
      clear T18
      have T18 := Lib.hid T18'.out
      clear T18'
      have Gc' := Lib.hid (Gc.out.below bel)
      clear Gc
      have Gc := Lib.hid Gc'.out
      clear Gc'
      have T20' := Lib.hid (T20.out.below bel)
      clear T20
      have T20 := Lib.hid T20'.out
      clear T20'
      have GP' := Lib.hid (GP.out.below bel)
      clear GP
      have GP := Lib.hid GP'.out
      clear GP'
      have T22' := Lib.hid (T22.out.below bel)
      clear T22
      have T22 := Lib.hid T22'.out
      clear T22'
      have Gl' := Lib.hid (Gl.out.below bel)
      clear Gl
      have Gl := Lib.hid Gl'.out
      clear Gl'
      have T24' := Lib.hid (T24.out.below bel)
      clear T24
      have T24 := Lib.hid T24'.out
      clear T24'
      have GR' := Lib.hid (GR.out.below bel)
      clear GR
      have GR := Lib.hid GR'.out
      clear GR'
      have T26' := Lib.hid (T26.out.below bel)
      clear T26
      have T26 := Lib.hid T26'.out
      clear T26'
      have Gu' := Lib.hid (Gu.out.below bel)
      clear Gu
      have Gu := Lib.hid Gu'.out
      clear Gu'
      have T28' := Lib.hid (T28.out.below bel)
      clear T28
      have T28 := Lib.hid T28'.out
      clear T28'
      have GT' := Lib.hid (GT.out.below bel)
      clear GT
      have GT := Lib.hid GT'.out
      clear GT'
      have T30' := Lib.hid (T30.out.below bel)
      clear T30
      have T30 := Lib.hid T30'.out
      clear T30'
      have B3' := Lib.hid (B3.out.trans (bel.mono B3.out.size))
      clear B3
      have B3 := Lib.hid B3'.out
      clear B3'
      clear bel
      obtain rfl : b = true := hb.mpr (SameG.refl _)
      clear hb
      have KX := Lib.hid (refsameg_any dC dc pC pc v20 GC.out.ok Gc.out (by have := SMC.out.n; omega) (by have := SMC.out.m; omega) (fun i hi => by have := SMC.out.L i hi; omega))
      have t18_0 := T18.out.cell 0
      have t18_1 := T18.out.cell 1
      have t18_z := T18.out.lt
      have t20_0 := T20.out.cell 0
      have t20_1 := T20.out.cell 1
      have t20_z := T20.out.lt
      have t13_0 := T13.out.cell 0
      have t13_1 := T13.out.cell 1
      have t13_z := T13.out.lt
      have t16_0 := T16.out.cell 0
      have t16_1 := T16.out.cell 1
      have t16_z := T16.out.lt
      simp at t18_0 t18_1 t20_0 t20_1 t13_0 t13_1 t16_0 t16_1
      go_wp2_with fail
      refine KX.out.mono ?_
      rintro e v21 ⟨⟨b, rfl, hb⟩, bel⟩
      clear KX
      clear t18_0 t18_1 t18_z t20_0 t20_1 t20_z t13_0 t13_1 t13_z t16_0 t16_1 t16_z
      have T5' := Lib.hid (T5.out.below bel)
      clear T5
      have T5 := Lib.hid T5'.out
      clear T5'
      have T6' := Lib.hid (T6.out.below bel)
      clear T6
      have T6 := Lib.hid T6'.out
      clear T6'
      have T7' := Lib.hid (T7.out.below bel)
      clear T7
      have T7 := Lib.hid T7'.out
      clear T7'
      have T8' := Lib.hid (T8.out.below bel)
      clear T8
      have T8 := Lib.hid T8'.out
      clear T8'
      have T11' := Lib.hid (T11.out.below bel)
      clear T11
      have T11 := Lib.hid T11'.out
      clear T11'
      have GA' := Lib.hid (GA.out.below bel)
      clear GA
      have GA := Lib.hid GA'.out
      clear GA'
      have T12' := Lib.hid (T12.out.below bel)
      clear T12
      have T12 := Lib.hid T12'.out
      clear T12'
      have T13' := Lib.hid (T13.out.below bel)
      clear T13
      have T13 := Lib.hid T13'.out
      clear T13'
      have Ga' := Lib.hid (Ga.out.below bel)
      clear Ga
      have Ga := Lib.hid Ga'.out
      clear Ga'
      have T15' := Lib.hid (T15.out.below bel)
      clear T15
      have T15 := Lib.hid T15'.out
      clear T15'
      have T16' := Lib.hid (T16.out.below bel)
      clear T16
      have T16 := Lib.hid T16'.out
      clear T16'
      have GC' := Lib.hid (GC.out.below bel)
      clear GC
      have GC := Lib.hid GC'.out
      clear GC'
      have T18' := Lib.hid (T18.out.below bel)
      clear T18
      have T18 := Lib.hid T18'.out
      clear T18'
      have Gc' := Lib.hid (Gc.out.below bel)
      clear Gc
      have Gc := Lib.hid Gc'.out
      clear Gc'
      have T20' := Lib.hid (T20.out.below bel)
      clear T20
      have T20 := Lib.hid T20'.out
      clear T20'
      have GP' := Lib.hid (GP.out.below bel)
      clear GP
      have GP := Lib.hid GP'.out
      clear GP'
      have T22' := Lib.hid (T22.out.below bel)
      clear T22
      have T22 := Lib.hid T22'.out
      clear T22'
      have Gl' := Lib.hid (Gl.out.below bel)
      clear Gl
      have Gl := Lib.hid Gl'.out
      clear Gl'
      have T24' := Lib.hid (T24.out.below bel)
      clear T24
      have T24 := Lib.hid T24'.out
      clear T24'
      have GR' := Lib.hid (GR.out.below bel)
      clear GR
      have GR := Lib.hid GR'.out
      clear GR'
      have T26' := Lib.hid (T26.out.below bel)
      clear T26
      have T26 := Lib.hid T26'.out
      clear T26'
      have Gu' := Lib.hid (Gu.out.below bel)
      clear Gu
      have Gu := Lib.hid Gu'.out
      clear Gu'
      have T28' := Lib.hid (T28.out.below bel)
      clear T28
      have T28 := Lib.hid T28'.out
      clear T28'
      have GT' := Lib.hid (GT.out.below bel)
      clear GT
      have GT := Lib.hid GT'.out
      clear GT'
      have T30' := Lib.hid (T30.out.below bel)
      clear T30
      have T30 := Lib.hid T30'.out
      clear T30'
      have B3' := Lib.hid (B3.out.trans (bel.mono B3.out.size))
      clear B3
      have B3 := Lib.hid B3'.out
      clear B3'
      clear bel
      obtain rfl : b = true := hb.mpr SC.out
      clear hb
      have KX := Lib.hid (refsameg_any dP dl pP pl v21 GP.out.ok Gl.out (by have := SMP.out.n; omega) (by have := SMP.out.m; omega) (fun i hi => by have := SMP.out.L i hi; omega))
      have t22_0 := T22.out.cell 0
      have t22_1 := T22.out.cell 1
      have t22_z := T22.out.lt
      have t24_0 := T24.out.cell 0
      have t24_1 := T24.out.cell 1
      have t24_z := T24.out.lt
      simp at t22_0 t22_1 t24_0 t24_1
      go_wp2_with fail
      refine KX.out.mono ?_
      rintro e v22 ⟨⟨b, rfl, hb⟩, bel⟩
      clear KX
      clear t22_0 t22_1 t22_z t24_0 t24_1 t24_z
      have T5' := Lib.hid (T5.out.below bel)
      clear T5
      have T5 := Lib.hid T5'.out
      clear T5'
      have T6' := Lib.hid (T6.out.below bel)
      clear T6
      have T6 := Lib.hid T6'.out
      clear T6'
      have T7' := Lib.hid (T7.out.below bel)
      clear T7
      have T7 := Lib.hid T7'.out
      clear T7'
      have T8' := Lib.hid (T8.out.below bel)
      clear T8
      have T8 := Lib.hid T8'.out
      clear T8'
      have T11' := Lib.hid (T11.out.below bel)
      clear T11
      have T11 := Lib.hid T11'.out
      clear T11'
      have GA' := Lib.hid (GA.out.below bel)
      clear GA
      have GA := Lib.hid GA'.out
      clear GA'
      have T12' := Lib.hid (T12.out.below bel)
      clear T12
      have T12 := Lib.hid T12'.out
      clear T12'
      have T13' := Lib.hid (T13.out.below bel)
      clear T13
      have T13 := Lib.hid T13'.out
      clear T13'
      have Ga' := Lib.hid (Ga.out.below bel)
      clear Ga
      have Ga := Lib.hid Ga'.out
      clear Ga'
      have T15' := Lib.hid (T15.out.below bel)
      clear T15
      have T15 := Lib.hid T15'.out
      clear T15'
      have T16' := Lib.hid (T16.out.below bel)
      clear T16
      have T16 := Lib.hid T16'.out
      clear T16'
      have GC' := Lib.hid (GC.out.below bel)
      clear GC
      have GC := Lib.hid GC'.out
      clear GC'
      have T18' := Lib.hid (T18.out.below bel)
      clear T18
      have T18 := Lib.hid T18'.out
      clear T18'
      have Gc' := Lib.hid (Gc.out.below bel)
      clear Gc
      have Gc := Lib.hid Gc'.out
      clear Gc'
      have T20' := Lib.hid (T20.out.below bel)
      clear T20
      have T20 := Lib.hid T20'.out
      clear T20'
      have GP' := Lib.hid (GP.out.below bel)
      clear GP
      have GP := Lib.hid GP'.out
      clear GP'
      have T22' := Lib.hid (T22.out.below bel)
      clear T22
      have T22 := Lib.hid T22'.out
      clear T22'
      have Gl' := Lib.hid (Gl.out.below bel)
      clear Gl
      have Gl := Lib.hid Gl'.out
      clear Gl'
      have T24' := Lib.hid (T24.out.below bel)
      clear T24
      have T24 := Lib.hid T24'.out
      clear T24'
      have GR' := Lib.hid (GR.out.below bel)
      clear GR
      have GR := Lib.hid GR'.out
      clear GR'
      have T26' := Lib.hid (T26.out.below bel)
      clear T26
      have T26 := Lib.hid T26'.out
      clear T26'
      have Gu' := Lib.hid (Gu.out.below bel)
      clear Gu
      have Gu := Lib.hid Gu'.out
      clear Gu'
      have T28' := Lib.hid (T28.out.below bel)
      clear T28
      have T28 := Lib.hid T28'.out
      clear T28'
      have GT' := Lib.hid (GT.out.below bel)
      clear GT
      have GT := Lib.hid GT'.out
      clear GT'
      have T30' := Lib.hid (T30.out.below bel)
      clear T30
      have T30 := Lib.hid T30'.out
      clear T30'
      have B3' := Lib.hid (B3.out.trans (bel.mono B3.out.size))
      clear B3
      have B3 := Lib.hid B3'.out
      clear B3'
      clear bel
      obtain rfl : b = true := hb.mpr SP.out
      clear hb
      have KX := Lib.hid (refsameg_any dR du pR pu v22 GR.out.ok Gu.out (by have := SMR.out.n; omega) (by have := SMR.out.m; omega) (fun i hi => by have := SMR.out.L i hi; omega))
      have t26_0 := T26.out.cell 0
      have t26_1 := T26.out.cell 1
      have t26_z := T26.out.lt
      have t28_0 := T28.out.cell 0
      have t28_1 := T28.out.cell 1
      have t28_z := T28.out.lt
      simp at t26_0 t26_1 t28_0 t28_1
      go_wp2_with fail
      refine KX.out.mono ?_
      rintro e v23 ⟨⟨b, rfl, hb⟩, bel⟩
      clear KX
      clear t26_0 t26_1 t26_z t28_0 t28_1 t28_z
      have T5' := Lib.hid (T5.out.below bel)
      clear T5
      have T5 := Lib.hid T5'.out
      clear T5'
      have T6' := Lib.hid (T6.out.below bel)
      clear T6
      have T6 := Lib.hid T6'.out
      clear T6'
      have T7' := Lib.hid (T7.out.below bel)
      clear T7
      have T7 := Lib.hid T7'.out
      clear T7'
      have T8' := Lib.hid (T8.out.below bel)
      clear T8
      have T8 := Lib.hid T8'.out
      clear T8'
      have T11' := Lib.hid (T11.out.below bel)
      clear T11
      have T11 := Lib.hid T11'.out
      clear T11'
      have GA' := Lib.hid (GA.out.below bel)
      clear GA
      have GA := Lib.hid GA'.out
      clear GA'
      have T12' := Lib.hid (T12.out.below bel)
      clear T12
      have T12 := Lib.hid T12'.out
      clear T12'
      have T13' := Lib.hid (T13.out.below bel)
      clear T13
      have T13 := Lib.hid T13'.out
      clear T13'
      have Ga' := Lib.hid (Ga.out.below bel)
      clear Ga
      have Ga := Lib.hid Ga'.out
      clear Ga'
      have T15' := Lib.hid (T15.out.below bel)
      clear T15
      have T15 := Lib.hid T15'.out
      clear T15'
      have T16' := Lib.hid (T16.out.below bel)
      clear T16
      have T16 := Lib.hid T16'.out
      clear T16'
      have GC' := Lib.hid (GC.out.below bel)
      clear GC
      have GC := Lib.hid GC'.out
      clear GC'
      have T18' := Lib.hid (T18.out.below bel)
      clear T18
      have T18 := Lib.hid T18'.out
      clear T18'
      have Gc' := Lib.hid (Gc.out.below bel)
      clear Gc
      have Gc := Lib.hid Gc'.out
      clear Gc'
      have T20' := Lib.hid (T20.out.below bel)
      clear T20
      have T20 := Lib.hid T20'.out
      clear T20'
      have GP' := Lib.hid (GP.out.below bel)
      clear GP
      have GP := Lib.hid GP'.out
      clear GP'
      have T22' := Lib.hid (T22.out.below bel)
      clear T22
      have T22 := Lib.hid T22'.out
      clear T22'
      have Gl' := Lib.hid (Gl.out.below bel)
      clear Gl
      have Gl := Lib.hid Gl'.out
      clear Gl'
      have T24' := Lib.hid (T24.out.below bel)
      clear T24
      have T24 := Lib.hid T24'.out
      clear T24'
      have GR' := Lib.hid (GR.out.below bel)
      clear GR
      have GR := Lib.hid GR'.out
      clear GR'
      have T26' := Lib.hid (T26.out.below bel)
      clear T26
      have T26 := Lib.hid T26'.out
      clear T26'
      have Gu' := Lib.hid (Gu.out.below bel)
      clear Gu
      have Gu := Lib.hid Gu'.out
      clear Gu'
      have T28' := Lib.hid (T28.out.below bel)
      clear T28
      have T28 := Lib.hid T28'.out
      clear T28'
      have GT' := Lib.hid (GT.out.below bel)
      clear GT
      have GT := Lib.hid GT'.out
      clear GT'
      have T30' := Lib.hid (T30.out.below bel)
      clear T30
      have T30 := Lib.hid T30'.out
      clear T30'
      have B3' := Lib.hid (B3.out.trans (bel.mono B3.out.size))
      clear B3
      have B3 := Lib.hid B3'.out
      clear B3'
      clear bel
      obtain rfl : b = true := hb.mpr SR.out
      clear hb
      clear hq
      go_upto_region 14 with fail
      have t11_0 := T11.out.cell 0
      have t11_1 := T11.out.cell 1
      have t11_z := T11.out.lt
      have t5_0 := T5.out.cell 0
      have t5_1 := T5.out.cell 1
      have t5_z := T5.out.lt
      have t6_0 := T6.out.cell 0
      have t6_1 := T6.out.cell 1
      have t6_z := T6.out.lt
      have t30_0 := T30.out.cell 0
      have t30_1 := T30.out.cell 1
      have t30_z := T30.out.lt
      simp at t11_0 t11_1 t5_0 t5_1 t6_0 t6_1 t30_0 t30_1
      have r0 := fun b : BW v23 => BW.cell t11_0 t11_z b
      have r1 := fun b : BW v23 => BW.cell t11_1 t11_z b
      have r2 := fun b : BW v23 => BW.cell t5_0 t5_z b
      have r3 := fun b : BW v23 => BW.cell t5_1 t5_z b
      have r4 := fun b : BW v23 => BW.cell t6_0 t6_z b
      have r5 := fun b : BW v23 => BW.cell t6_1 t6_z b
      have r6 := fun b : BW v23 => BW.cell t30_0 t30_z b
      have r7 := fun b : BW v23 => BW.cell t30_1 t30_z b
      have k1 := Lib.hid (fun b : BW v23 => BW.call (f := 26) (args := #[.agg #[.slice po.A d.n po.c, .slice po.K d.m po.kc]]) (v := .int .i64 (chkv d)) (fun W' (h : Below v23.heap.size v23 W') => (check_any d po Sm.out W' (OKo.out.below (B3.out.trans (h.mono B3.out.size)))).mono (fun e w' h' => ⟨by obtain ⟨x, h1, h2⟩ := h'.1; rw [h1, chkv_of h2], h'.2⟩)) b)
      have k2 := Lib.hid (fun b : BW v23 => BW.call (f := 34) (args := #[.agg #[.slice p.A d.n p.c, .slice p.K d.m p.kc]]) (v := .int .i64 (chkv d)) (fun W' (h : Below v23.heap.size v23 W') => (refcheckg_any d p Sm.out W' (OKg.out.below (B03.out.trans ((B3.out.trans (h.mono B3.out.size)).mono B03.out.size)))).mono (fun e w' h' => ⟨by obtain ⟨x, h1, h2⟩ := h'.1; rw [h1, chkv_of h2], h'.2⟩)) b)
      have k3 := Lib.hid (fun b : BW v23 => BW.call (f := 18) (args := #[.agg #[.slice pT.A d.n pT.c, .slice pT.K d.m pT.kc], .agg #[.slice p.A d.n p.c, .slice p.K d.m p.kc]]) (v := .bool true) (fun W' (h : Below v23.heap.size v23 W') => (refsameg_any d d pT p W' (GT.out.ok.below h) (OKg.out.below (B03.out.trans ((B3.out.trans (h.mono B3.out.size)).mono B03.out.size))) (by have := Sm.out.n; omega) (by have := Sm.out.m; omega) (fun i hi => by have := Sm.out.L i hi; omega)).mono (fun e w' h' => ⟨by obtain ⟨b, h1, h2⟩ := h'.1; rw [h1, h2.mpr (SameG.refl _)], h'.2⟩)) b)
      obtain ⟨bo, hbo⟩ : ∃ z, @decide (SameG d d2) (Classical.propDecidable _) = z := ⟨_, rfl⟩
      have HBO := Lib.hid hbo
      clear hbo
      have k4 := Lib.hid (fun b : BW v23 => BW.call (f := 22) (args := #[.agg #[.slice p.A d.n p.c, .slice p.K d.m p.kc], .agg #[.slice p2.A d2.n p2.c, .slice p2.K d2.m p2.kc]]) (v := .bool bo) (fun W' (h : Below v23.heap.size v23 W') => (sameg_any d d2 p p2 W' (OKg.out.below (B03.out.trans ((B3.out.trans (h.mono B3.out.size)).mono B03.out.size))) (OKq.out.below (B03.out.trans ((B3.out.trans (h.mono B3.out.size)).mono B03.out.size))) Sm.out).mono (fun e w' h' => ⟨(eqr_dec h'.1).trans (congrArg (fun b => Ending.returned (.bool b)) HBO.out), h'.2⟩)) b)
      have k5 := Lib.hid (fun b : BW v23 => BW.call (f := 18) (args := #[.agg #[.slice p.A d.n p.c, .slice p.K d.m p.kc], .agg #[.slice p2.A d2.n p2.c, .slice p2.K d2.m p2.kc]]) (v := .bool bo) (fun W' (h : Below v23.heap.size v23 W') => (refsameg_any d d2 p p2 W' (OKg.out.below (B03.out.trans ((B3.out.trans (h.mono B3.out.size)).mono B03.out.size))) (OKq.out.below (B03.out.trans ((B3.out.trans (h.mono B3.out.size)).mono B03.out.size))) (by have := Sm.out.n; omega) (by have := Sm.out.m; omega) (fun i hi => by have := Sm.out.L i hi; omega)).mono (fun e w' h' => ⟨(eqr_dec h'.1).trans (congrArg (fun b => Ending.returned (.bool b)) HBO.out), h'.2⟩)) b)
      have k6 := Lib.hid (fun b : BW v23 => BW.call (f := 22) (args := #[.agg #[.slice po.A d.n po.c, .slice po.K d.m po.kc], .agg #[.slice p.A d.n p.c, .slice p.K d.m p.kc]]) (v := .bool true) (fun W' (h : Below v23.heap.size v23 W') => (sameg_any d d po p W' (OKo.out.below (B3.out.trans (h.mono B3.out.size))) (OKg.out.below (B03.out.trans ((B3.out.trans (h.mono B3.out.size)).mono B03.out.size))) Sm.out).mono (fun e w' h' => ⟨by obtain ⟨b, h1, h2⟩ := h'.1; rw [h1, h2.mpr (SameG.refl _)], h'.2⟩)) b)
      clear t11_0 t11_1 t5_0 t5_1 t6_0 t6_1 t30_0 t30_1
      refine wp_region_quiet_bw (by kernel_rfl) (by kernel_rfl) ?_
      repeat (go_big_quiet_step ((first | (go_at_call 26; with_reducible exact k1.out _) | (go_at_call 34; with_reducible exact k2.out _) | (go_at_call 18; first | with_reducible exact k3.out _ | with_reducible exact k5.out _) | (go_at_call 22; first | with_reducible exact k4.out _ | with_reducible exact k6.out _))))
      refine wpQuiet_nil ?_
      intro _ hw'
      obtain ⟨pq, hw''⟩ := hw'
      subst hw''
      clear r0 r1 r2 r3 r4 r5 r6 r7 k1 k2 k3 k4 k5 k6
      have bq := pq.h
      have T5' := Lib.hid (T5.out.below bq)
      clear T5
      have T5 := Lib.hid T5'.out
      clear T5'
      have T6' := Lib.hid (T6.out.below bq)
      clear T6
      have T6 := Lib.hid T6'.out
      clear T6'
      have T7' := Lib.hid (T7.out.below bq)
      clear T7
      have T7 := Lib.hid T7'.out
      clear T7'
      have T8' := Lib.hid (T8.out.below bq)
      clear T8
      have T8 := Lib.hid T8'.out
      clear T8'
      have T11' := Lib.hid (T11.out.below bq)
      clear T11
      have T11 := Lib.hid T11'.out
      clear T11'
      have GA' := Lib.hid (GA.out.below bq)
      clear GA
      have GA := Lib.hid GA'.out
      clear GA'
      have T12' := Lib.hid (T12.out.below bq)
      clear T12
      have T12 := Lib.hid T12'.out
      clear T12'
      have T13' := Lib.hid (T13.out.below bq)
      clear T13
      have T13 := Lib.hid T13'.out
      clear T13'
      have Ga' := Lib.hid (Ga.out.below bq)
      clear Ga
      have Ga := Lib.hid Ga'.out
      clear Ga'
      have T15' := Lib.hid (T15.out.below bq)
      clear T15
      have T15 := Lib.hid T15'.out
      clear T15'
      have T16' := Lib.hid (T16.out.below bq)
      clear T16
      have T16 := Lib.hid T16'.out
      clear T16'
      have GC' := Lib.hid (GC.out.below bq)
      clear GC
      have GC := Lib.hid GC'.out
      clear GC'
      have T18' := Lib.hid (T18.out.below bq)
      clear T18
      have T18 := Lib.hid T18'.out
      clear T18'
      have Gc' := Lib.hid (Gc.out.below bq)
      clear Gc
      have Gc := Lib.hid Gc'.out
      clear Gc'
      have T20' := Lib.hid (T20.out.below bq)
      clear T20
      have T20 := Lib.hid T20'.out
      clear T20'
      have GP' := Lib.hid (GP.out.below bq)
      clear GP
      have GP := Lib.hid GP'.out
      clear GP'
      have T22' := Lib.hid (T22.out.below bq)
      clear T22
      have T22 := Lib.hid T22'.out
      clear T22'
      have Gl' := Lib.hid (Gl.out.below bq)
      clear Gl
      have Gl := Lib.hid Gl'.out
      clear Gl'
      have T24' := Lib.hid (T24.out.below bq)
      clear T24
      have T24 := Lib.hid T24'.out
      clear T24'
      have GR' := Lib.hid (GR.out.below bq)
      clear GR
      have GR := Lib.hid GR'.out
      clear GR'
      have T26' := Lib.hid (T26.out.below bq)
      clear T26
      have T26 := Lib.hid T26'.out
      clear T26'
      have Gu' := Lib.hid (Gu.out.below bq)
      clear Gu
      have Gu := Lib.hid Gu'.out
      clear Gu'
      have T28' := Lib.hid (T28.out.below bq)
      clear T28
      have T28 := Lib.hid T28'.out
      clear T28'
      have GT' := Lib.hid (GT.out.below bq)
      clear GT
      have GT := Lib.hid GT'.out
      clear GT'
      have T30' := Lib.hid (T30.out.below bq)
      clear T30
      have T30 := Lib.hid T30'.out
      clear T30'
      have B3' := Lib.hid (B3.out.trans (bq.mono B3.out.size))
      clear B3
      have B3 := Lib.hid B3'.out
      clear B3'
      clear bq t11_z t5_z t6_z t30_z
      generalize pq.W = vq at *
      clear pq
      clear T6 T7 T8 T13 Ga T15 T16 Gc T20 Gl T24 Gu T28
      have WA := Lib.hid (show w3.heap.size ≤ bA from NA.out)
      have BEA := Lib.hid (show bA ≤ eA from BEBA.out)
      have WC := Lib.hid (show w3.heap.size ≤ bC from by have a := WA.out; have b := BEA.out; have c := NC.out; omega)
      have BEC := Lib.hid (show bC ≤ eC from BEBC.out)
      have WP := Lib.hid (show w3.heap.size ≤ bP from by have a := WC.out; have b := BEC.out; have c := NP.out; omega)
      have BEP := Lib.hid (show bP ≤ eP from BEBP.out)
      have WR := Lib.hid (show w3.heap.size ≤ bR from by have a := WP.out; have b := BEP.out; have c := NR.out; omega)
      have BER := Lib.hid (show bR ≤ eR from BEBR.out)
      have WT := Lib.hid (show w3.heap.size ≤ bT from by have a := WR.out; have b := BER.out; have c := NT.out; omega)
      have KX := Lib.hid (spoil_any dA pA bA SMA.out vq GA.out)
      have t12_0 := T12.out.cell 0
      have t12_1 := T12.out.cell 1
      have t12_z := T12.out.lt
      simp at t12_0 t12_1
      go_wp2_with fail
      refine KX.out.mono ?_
      rintro e v24 ⟨rfl, spo⟩
      clear KX
      clear t12_0 t12_1 t12_z
      have T5' := Lib.hid (spo.blk T5.out (GA.out.nblk T5.out))
      have T11' := Lib.hid (spo.blk T11.out (GA.out.nblk T11.out))
      have T18' := Lib.hid (spo.blk T18.out (GA.out.nblk T18.out))
      have T22' := Lib.hid (spo.blk T22.out (GA.out.nblk T22.out))
      have T26' := Lib.hid (spo.blk T26.out (GA.out.nblk T26.out))
      have T30' := Lib.hid (spo.blk T30.out (GA.out.nblk T30.out))
      have GC' := Lib.hid (GC.out.spo (E := 0) spo (fun x hx => by have z0 := (LA.out x hx).2; have n1 := NC.out; omega))
      have GP' := Lib.hid (GP.out.spo (E := 0) spo (fun x hx => by have z0 := (LA.out x hx).2; have n1 := NC.out; have n2 := NP.out; have m1 := BEC.out; omega))
      have GR' := Lib.hid (GR.out.spo (E := 0) spo (fun x hx => by have z0 := (LA.out x hx).2; have n1 := NC.out; have n2 := NP.out; have n3 := NR.out; have m1 := BEC.out; have m2 := BEP.out; omega))
      have GT' := Lib.hid (GT.out.spo (E := 0) spo (fun x hx => by have z0 := (LA.out x hx).2; have n1 := NC.out; have n2 := NP.out; have n3 := NR.out; have n4 := NT.out; have m1 := BEC.out; have m2 := BEP.out; have m3 := BER.out; omega))
      have B3' := Lib.hid (B3.out.trans (spo.below (B := w3.heap.size) (fun x hx => by have z0 := (LA.out x hx).1; have z1 := WA.out; omega) B3.out.size))
      clear T5 T11 T18 T22 T26 T30 GC GP GR GT B3 spo GA T12
      have T5 := Lib.hid T5'.out
      clear T5'
      have T11 := Lib.hid T11'.out
      clear T11'
      have T18 := Lib.hid T18'.out
      clear T18'
      have T22 := Lib.hid T22'.out
      clear T22'
      have T26 := Lib.hid T26'.out
      clear T26'
      have T30 := Lib.hid T30'.out
      clear T30'
      have GC := Lib.hid GC'.out
      clear GC'
      have GP := Lib.hid GP'.out
      clear GP'
      have GR := Lib.hid GR'.out
      clear GR'
      have GT := Lib.hid GT'.out
      clear GT'
      have B3 := Lib.hid B3'.out
      clear B3'
      have KX := Lib.hid (spoil_any dC pC bC SMC.out v24 GC.out)
      have t18_0 := T18.out.cell 0
      have t18_1 := T18.out.cell 1
      have t18_z := T18.out.lt
      simp at t18_0 t18_1
      go_wp2_with fail
      refine KX.out.mono ?_
      rintro e v25 ⟨rfl, spo⟩
      clear KX
      clear t18_0 t18_1 t18_z
      have T5' := Lib.hid (spo.blk T5.out (GC.out.nblk T5.out))
      have T11' := Lib.hid (spo.blk T11.out (GC.out.nblk T11.out))
      have T22' := Lib.hid (spo.blk T22.out (GC.out.nblk T22.out))
      have T26' := Lib.hid (spo.blk T26.out (GC.out.nblk T26.out))
      have T30' := Lib.hid (spo.blk T30.out (GC.out.nblk T30.out))
      have GP' := Lib.hid (GP.out.spo (E := 0) spo (fun x hx => by have z0 := (LC.out x hx).2; have n2 := NP.out; omega))
      have GR' := Lib.hid (GR.out.spo (E := 0) spo (fun x hx => by have z0 := (LC.out x hx).2; have n2 := NP.out; have n3 := NR.out; have m2 := BEP.out; omega))
      have GT' := Lib.hid (GT.out.spo (E := 0) spo (fun x hx => by have z0 := (LC.out x hx).2; have n2 := NP.out; have n3 := NR.out; have n4 := NT.out; have m2 := BEP.out; have m3 := BER.out; omega))
      have B3' := Lib.hid (B3.out.trans (spo.below (B := w3.heap.size) (fun x hx => by have z0 := (LC.out x hx).1; have z1 := WC.out; omega) B3.out.size))
      clear T5 T11 T22 T26 T30 GP GR GT B3 spo GC T18
      have T5 := Lib.hid T5'.out
      clear T5'
      have T11 := Lib.hid T11'.out
      clear T11'
      have T22 := Lib.hid T22'.out
      clear T22'
      have T26 := Lib.hid T26'.out
      clear T26'
      have T30 := Lib.hid T30'.out
      clear T30'
      have GP := Lib.hid GP'.out
      clear GP'
      have GR := Lib.hid GR'.out
      clear GR'
      have GT := Lib.hid GT'.out
      clear GT'
      have B3 := Lib.hid B3'.out
      clear B3'
      have KX := Lib.hid (spoil_any dP pP bP SMP.out v25 GP.out)
      have t22_0 := T22.out.cell 0
      have t22_1 := T22.out.cell 1
      have t22_z := T22.out.lt
      simp at t22_0 t22_1
      go_wp2_with fail
      refine KX.out.mono ?_
      rintro e v26 ⟨rfl, spo⟩
      clear KX
      clear t22_0 t22_1 t22_z
      have T5' := Lib.hid (spo.blk T5.out (GP.out.nblk T5.out))
      have T11' := Lib.hid (spo.blk T11.out (GP.out.nblk T11.out))
      have T26' := Lib.hid (spo.blk T26.out (GP.out.nblk T26.out))
      have T30' := Lib.hid (spo.blk T30.out (GP.out.nblk T30.out))
      have GR' := Lib.hid (GR.out.spo (E := 0) spo (fun x hx => by have z0 := (LP.out x hx).2; have n3 := NR.out; omega))
      have GT' := Lib.hid (GT.out.spo (E := 0) spo (fun x hx => by have z0 := (LP.out x hx).2; have n3 := NR.out; have n4 := NT.out; have m3 := BER.out; omega))
      have B3' := Lib.hid (B3.out.trans (spo.below (B := w3.heap.size) (fun x hx => by have z0 := (LP.out x hx).1; have z1 := WP.out; omega) B3.out.size))
      clear T5 T11 T26 T30 GR GT B3 spo GP T22
      have T5 := Lib.hid T5'.out
      clear T5'
      have T11 := Lib.hid T11'.out
      clear T11'
      have T26 := Lib.hid T26'.out
      clear T26'
      have T30 := Lib.hid T30'.out
      clear T30'
      have GR := Lib.hid GR'.out
      clear GR'
      have GT := Lib.hid GT'.out
      clear GT'
      have B3 := Lib.hid B3'.out
      clear B3'
      have KX := Lib.hid (spoil_any dR pR bR SMR.out v26 GR.out)
      have t26_0 := T26.out.cell 0
      have t26_1 := T26.out.cell 1
      have t26_z := T26.out.lt
      simp at t26_0 t26_1
      go_wp2_with fail
      refine KX.out.mono ?_
      rintro e v27 ⟨rfl, spo⟩
      clear KX
      clear t26_0 t26_1 t26_z
      have T5' := Lib.hid (spo.blk T5.out (GR.out.nblk T5.out))
      have T11' := Lib.hid (spo.blk T11.out (GR.out.nblk T11.out))
      have T30' := Lib.hid (spo.blk T30.out (GR.out.nblk T30.out))
      have GT' := Lib.hid (GT.out.spo (E := 0) spo (fun x hx => by have z0 := (LR.out x hx).2; have n4 := NT.out; omega))
      have B3' := Lib.hid (B3.out.trans (spo.below (B := w3.heap.size) (fun x hx => by have z0 := (LR.out x hx).1; have z1 := WR.out; omega) B3.out.size))
      clear T5 T11 T30 GT B3 spo GR T26
      have T5 := Lib.hid T5'.out
      clear T5'
      have T11 := Lib.hid T11'.out
      clear T11'
      have T30 := Lib.hid T30'.out
      clear T30'
      have GT := Lib.hid GT'.out
      clear GT'
      have B3 := Lib.hid B3'.out
      clear B3'
      have KX := Lib.hid (spoil_any d pT bT Sm.out v27 GT.out)
      have t30_0 := T30.out.cell 0
      have t30_1 := T30.out.cell 1
      have t30_z := T30.out.lt
      simp at t30_0 t30_1
      go_wp2_with fail
      refine KX.out.mono ?_
      rintro e v28 ⟨rfl, spo⟩
      clear KX
      clear t30_0 t30_1 t30_z
      have T5' := Lib.hid (spo.blk T5.out (GT.out.nblk T5.out))
      have T11' := Lib.hid (spo.blk T11.out (GT.out.nblk T11.out))
      have B3' := Lib.hid (B3.out.trans (spo.below (B := w3.heap.size) (fun x hx => by have z0 := LT.out x hx; have z1 := WT.out; omega) B3.out.size))
      clear T5 T11 B3 spo GT T30
      have T5 := Lib.hid T5'.out
      clear T5'
      have T11 := Lib.hid T11'.out
      clear T11'
      have B3 := Lib.hid B3'.out
      clear B3'
      have KX := Lib.hid (refsameg_any d d po p v28 (OKo.out.below B3.out) (OKg.out.below (B03.out.trans (B3.out.mono B03.out.size))) (by have := Sm.out.n; omega) (by have := Sm.out.m; omega) (fun i hi => by have := Sm.out.L i hi; omega))
      have t11_0 := T11.out.cell 0
      have t11_1 := T11.out.cell 1
      have t11_z := T11.out.lt
      have t5_0 := T5.out.cell 0
      have t5_1 := T5.out.cell 1
      have t5_z := T5.out.lt
      simp at t11_0 t11_1 t5_0 t5_1
      go_wp2_with fail
      refine KX.out.mono ?_
      rintro e vE ⟨⟨b, rfl, hb⟩, bel⟩
      obtain rfl : b = true := hb.mpr (SameG.refl _)
      clear hb KX
      clear t11_0 t11_1 t11_z t5_0 t5_1 t5_z
      have B9 := Lib.hid (B03.out.trans ((B3.out.trans (bel.mono B3.out.size)).mono B03.out.size))
      clear bel
      go_wp2
      go_ret
      exact ⟨rfl, B9.out⟩
set_option maxRecDepth 100000 in
theorem rd_hdlsC {w : World} {cs : List Value} (h : RdS Try.prog w 32 cs) : ∃ (A : Option Addr) (n c : Nat) (S Q : Nat → Int), cs = [.slice A n c] ∧ n ≤ 140737488355328 ∧ (n ≤ c ∧ (A = none → c = 0)) ∧ Row w A n 2 (hv S Q) := by
  obtain ⟨A0, n0, c0, e0, hnc0, _, _, hat⟩ := h.slice Try.underlying32 (by rw [cells_hdl2]; omega)
  obtain ⟨A, n, c, S, Q, e, hn, hr⟩ := rd_hdlsS h
  subst e0
  injection e with e _
  injection e with e1 e2 e3
  subst e1 e2 e3
  refine ⟨A0, n0, c0, S, Q, rfl, hn, ⟨hnc0, fun h => ?_⟩, hr⟩
  rcases Nat.eq_zero_or_pos c0 with h0 | h0
  · exact h0
  · obtain ⟨b, off, e, _⟩ := hat h0
    rw [h] at e
    cases e
set_option maxRecDepth 100000 in
theorem rd_kidsC {w : World} {cs : List Value} (h : RdS Try.prog w 25 cs) : ∃ (K : Option Addr) (m kc : Nat) (KA : Nat → Option Addr) (L KC : Nat → Nat) (S Q : Nat → Nat → Int), cs = [.slice K m kc] ∧ m ≤ 140737488355328 ∧ Row w K m 1 (fun i _ => .slice (KA i) (L i) (KC i)) ∧ ∀ i, L i ≤ 140737488355328 ∧ (L i ≤ KC i ∧ (KA i = none → KC i = 0)) ∧ Row w (KA i) (L i) 2 (hv (S i) (Q i)) := by
  obtain ⟨K, m, kc, F, rfl, hnc, hF, hr⟩ := rd_rowsS 1 (fun f => ∃ (x : Option Addr × Nat × Nat × (Nat → Int) × (Nat → Int)), f 0 = .slice x.1 x.2.1 x.2.2.1 ∧ x.2.1 ≤ 140737488355328 ∧ (x.2.1 ≤ x.2.2.1 ∧ (x.1 = none → x.2.2.1 = 0)) ∧ Row w x.1 x.2.1 2 (hv x.2.2.2.1 x.2.2.2.2)) Try.underlying25 cells_lst (by omega)
    (fun cs hl hr => by
      obtain ⟨A, n, c, S, Q, rfl, hn, hc, hrow⟩ := rd_hdlsC hr
      exact ⟨(A, n, c, S, Q), rfl, hn, hc, hrow⟩) ⟨fun j => .slice none 0 0, (none, 0, 0, fun _ => 0, fun _ => 0), rfl, Nat.zero_le _, ⟨Nat.le_refl _, fun _ => rfl⟩, Row.zero _ _ _ _⟩ h
  obtain ⟨x, hx⟩ := Classical.axiomOfChoice hF
  rw [bytes_lst, reach_val] at hnc
  refine ⟨K, m, kc, fun i => (x i).1, fun i => (x i).2.1, fun i => (x i).2.2.1, fun i => (x i).2.2.2.1, fun i => (x i).2.2.2.2, rfl, by omega, hr.congr fun i hi j hj => ?_, fun i => (hx i).2⟩
  obtain rfl : j = 0 := by omega
  exact (hx i).1
set_option maxRecDepth 100000 in
theorem arg_graphC {w : World} {v : Value} (h : Arg Try.prog w 27 v) (h' : RdS Try.prog w 27 v.cells.toList) : ∃ (p : GP) (d : GD), v = .agg #[.slice p.A d.n p.c, .slice p.K d.m p.kc] ∧ d.Rch ∧ (∀ i, i < d.m → d.L i ≤ p.KC i ∧ (p.KA i = none → p.KC i = 0)) ∧ GOk w p d := by
  obtain ⟨cs, rfl, hl, _⟩ := h.struct Try.underlying27
  have h2 : RdS Try.prog w 27 cs := by simpa [Value.cells] using h'
  obtain ⟨_, hf⟩ := h2.struct Try.underlying27
  rw [cells_gr9] at hl
  match cs, hl with
  | [x, y], _ =>
    obtain ⟨_, ha⟩ := (hf 0 _ rfl).struct Try.underlying24
    obtain ⟨A, n, c, g, b, e0, hn, hA⟩ := rd_slotsS (ha 0 _ rfl)
    obtain ⟨K, m, kc, KA, L, KC, S, Q, e1, hm, hK, hk⟩ := rd_kidsC (hf 1 _ rfl)
    simp [cells_ar9, cells_sl9, cells_kl9] at e0 e1
    subst e0 e1
    exact ⟨⟨A, c, K, kc, KA, KC⟩, ⟨n, g, b, m, L, S, Q⟩, rfl, ⟨hn, hm, fun i _ => (hk i).1⟩, fun i _ => (hk i).2.1, ⟨hA, hK, fun i _ => (hk i).2.2⟩⟩
theorem nodesTurn_arg (v0 v1 v2 v3 v4 : Value) (w : World) (h0 : Arg Try.prog w 27 v0) (s0 : RdS Try.prog w 27 v0.cells.toList) (h1 : Arg Try.prog w 27 v1) (s1 : RdS Try.prog w 27 v1.cells.toList) (h2 : Arg Try.prog w 29 v2) (s2 : RdS Try.prog w 29 v2.cells.toList) (h3 : Arg Try.prog w 29 v3) (s3 : RdS Try.prog w 29 v3.cells.toList) (h4 : Arg Try.prog w 3 v4) (s4 : RdS Try.prog w 3 v4.cells.toList) : Calls Try.prog 8 #[v0, v1, v2, v3, v4] w fun e w' => e = .returned (.bool true) ∧ Below w.heap.size w w' := by
  obtain ⟨p, d, rfl, hrc, hcap, hok⟩ := arg_graphC h0 s0
  obtain ⟨p2, d2, rfl, hrc2, hok2⟩ := arg_graph h1 s1
  obtain ⟨s, q, rfl⟩ := arg_hdl h2
  obtain ⟨s', q', rfl⟩ := arg_hdl h3
  obtain ⟨n, rfl, _⟩ := h4.int Try.underlying3
  exact nodesTurn_walk d d2 p p2 hrc hrc2 hcap s q s' q' n w hok hok2
end Go.Proofs.Ytgkeiaggldahnaa
