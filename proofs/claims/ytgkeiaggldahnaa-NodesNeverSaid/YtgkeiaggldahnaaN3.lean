/- nodes: Check. -/
import Derived.Test.YtgkeiaggldahnaaN2
namespace Go.Proofs.Ytgkeiaggldahnaa
open Go.RowKit
set_option linter.unusedVariables false

set_option maxRecDepth 100000 in
set_option maxHeartbeats 2000000 in
theorem stales_idx (A : Option Addr) (n c : Nat) (F : Nat → Nat → Value) (q1 : Value) (Inv Yes : Nat → World → Prop) (w : World) (hrow : ∀ k W, Inv k W → Row W A n 2 F) (hn : (n : Int) ≤ 9223372036854775807) (hcl : ∀ k, k < n → ∀ W, Inv k W → Calls Try.prog 53 #[.agg #[F k 0, F k 1], q1] W fun e w' => (e = .returned (.bool true) ∧ Yes k w') ∨ (e = .returned (.bool false) ∧ Inv (k + 1) w')) (h0 : Inv 0 w) :
    Calls Try.prog 69 #[.slice A n c, .func (Fn.func 53) #[] #[q1]] w fun e w' => IdxI Inv Yes n e w' := by
  have Hcl := Lib.hid hcl
  have Hrow := Lib.hid hrow
  have H0 := Lib.hid h0
  clear hcl hrow h0
  go_enter Try.func69, Try.ntmps69
  go_wp2
  go_loopw [8] (fun i wr => ∃ k : Nat, k ≤ n ∧ i = .int .i64 k ∧ Hid (Inv k wr)) (fun i wr => n - (intOf i).toNat)
  case atStart => exact ⟨0, Nat.zero_le _, rfl, H0⟩
  case round =>
    obtain ⟨k, hk, rfl, hinv⟩ := hrel
    by_cases hkn : k < n
    · obtain ⟨g, o, rfl, hg, hc⟩ := Hrow.out k _ hinv.out (by omega)
      have c0 := hc k hkn 0 (by omega)
      have c1 := hc k hkn 1 (by omega)
      simp only [Nat.add_zero] at c0
      have hi : (k : Int) < (n : Int) := by omega
      have hi0 : (0 : Int) ≤ (k : Int) := by omega
      have hc1 := Lib.hid (Hcl.out k hkn _ hinv.out)
      clear hc
      go_wp2_with fail
      refine hc1.out.mono ?_
      rintro e w1 (⟨rfl, hy⟩ | ⟨rfl, hy⟩)
      · have HY := Lib.hid hy
        clear hy
        go_wp2
        go_ret
        exact .inl ⟨k, hkn, rfl, HY.out⟩
      · have HY := Lib.hid hy
        clear hy
        go_wp2
        go_roundw
        case rel => exact ⟨k + 1, by omega, by go_num, HY⟩
        case measure => simp [intOf]; omega
    · obtain rfl : k = n := by omega
      go_wp2
      go_ret
      exact .inr ⟨rfl, hinv.out⟩

set_option maxRecDepth 100000 in
set_option maxHeartbeats 2000000 in
theorem stales_any (A : Option Addr) (n c : Nat) (F : Nat → Nat → Value) (q1 : Value) (Inv Yes : Nat → World → Prop) (w : World) (hrow : ∀ k W, Inv k W → Row W A n 2 F) (hn : (n : Int) ≤ 9223372036854775807) (hcl : ∀ k, k < n → ∀ W, Inv k W → Calls Try.prog 53 #[.agg #[F k 0, F k 1], q1] W fun e w' => (e = .returned (.bool true) ∧ Yes k w') ∨ (e = .returned (.bool false) ∧ Inv (k + 1) w')) (h0 : Inv 0 w) :
    Calls Try.prog 55 #[.slice A n c, .func (Fn.func 53) #[] #[q1]] w fun e w' => HasI Inv Yes n e w' := by
  have hi := Lib.hid (stales_idx A n c F q1 Inv Yes w hrow hn hcl h0)
  clear hcl hrow h0
  go_enter Try.func55, Try.ntmps55
  go_wp2_with fail
  refine hi.out.mono ?_
  rintro e w1 hx
  rcases hx with ⟨k, hk, rfl, hy⟩ | ⟨rfl, hy⟩
  · have HY := Lib.hid hy
    clear hy
    have g0 : decide ((0 : Int) ≤ (k : Int)) = true := decide_eq_true (by omega)
    go_wp2
    go_ret
    exact .inl ⟨rfl, k, hk, HY.out⟩
  · have HY := Lib.hid hy
    clear hy
    go_wp2
    go_ret
    exact .inr ⟨rfl, HY.out⟩

set_option maxRecDepth 100000 in
set_option maxHeartbeats 2000000 in
theorem loops_idx (A : Option Addr) (n c : Nat) (F : Nat → Nat → Value) (q1 q2 q3 : Value) (Inv Yes : Nat → World → Prop) (w : World) (hrow : ∀ k W, Inv k W → Row W A n 2 F) (hn : (n : Int) ≤ 9223372036854775807) (hcl : ∀ k, k < n → ∀ W, Inv k W → Calls Try.prog 56 #[.agg #[F k 0, F k 1], q1, q2, q3] W fun e w' => (e = .returned (.bool true) ∧ Yes k w') ∨ (e = .returned (.bool false) ∧ Inv (k + 1) w')) (h0 : Inv 0 w) :
    Calls Try.prog 69 #[.slice A n c, .func (Fn.func 56) #[] #[q1, q2, q3]] w fun e w' => IdxI Inv Yes n e w' := by
  have Hcl := Lib.hid hcl
  have Hrow := Lib.hid hrow
  have H0 := Lib.hid h0
  clear hcl hrow h0
  go_enter Try.func69, Try.ntmps69
  go_wp2
  go_loopw [8] (fun i wr => ∃ k : Nat, k ≤ n ∧ i = .int .i64 k ∧ Hid (Inv k wr)) (fun i wr => n - (intOf i).toNat)
  case atStart => exact ⟨0, Nat.zero_le _, rfl, H0⟩
  case round =>
    obtain ⟨k, hk, rfl, hinv⟩ := hrel
    by_cases hkn : k < n
    · obtain ⟨g, o, rfl, hg, hc⟩ := Hrow.out k _ hinv.out (by omega)
      have c0 := hc k hkn 0 (by omega)
      have c1 := hc k hkn 1 (by omega)
      simp only [Nat.add_zero] at c0
      have hi : (k : Int) < (n : Int) := by omega
      have hi0 : (0 : Int) ≤ (k : Int) := by omega
      have hc1 := Lib.hid (Hcl.out k hkn _ hinv.out)
      clear hc
      go_wp2_with fail
      refine hc1.out.mono ?_
      rintro e w1 (⟨rfl, hy⟩ | ⟨rfl, hy⟩)
      · have HY := Lib.hid hy
        clear hy
        go_wp2
        go_ret
        exact .inl ⟨k, hkn, rfl, HY.out⟩
      · have HY := Lib.hid hy
        clear hy
        go_wp2
        go_roundw
        case rel => exact ⟨k + 1, by omega, by go_num, HY⟩
        case measure => simp [intOf]; omega
    · obtain rfl : k = n := by omega
      go_wp2
      go_ret
      exact .inr ⟨rfl, hinv.out⟩

set_option maxRecDepth 100000 in
set_option maxHeartbeats 2000000 in
theorem loops_any (A : Option Addr) (n c : Nat) (F : Nat → Nat → Value) (q1 q2 q3 : Value) (Inv Yes : Nat → World → Prop) (w : World) (hrow : ∀ k W, Inv k W → Row W A n 2 F) (hn : (n : Int) ≤ 9223372036854775807) (hcl : ∀ k, k < n → ∀ W, Inv k W → Calls Try.prog 56 #[.agg #[F k 0, F k 1], q1, q2, q3] W fun e w' => (e = .returned (.bool true) ∧ Yes k w') ∨ (e = .returned (.bool false) ∧ Inv (k + 1) w')) (h0 : Inv 0 w) :
    Calls Try.prog 55 #[.slice A n c, .func (Fn.func 56) #[] #[q1, q2, q3]] w fun e w' => HasI Inv Yes n e w' := by
  have hi := Lib.hid (loops_idx A n c F q1 q2 q3 Inv Yes w hrow hn hcl h0)
  clear hcl hrow h0
  go_enter Try.func55, Try.ntmps55
  go_wp2_with fail
  refine hi.out.mono ?_
  rintro e w1 hx
  rcases hx with ⟨k, hk, rfl, hy⟩ | ⟨rfl, hy⟩
  · have HY := Lib.hid hy
    clear hy
    have g0 : decide ((0 : Int) ≤ (k : Int)) = true := decide_eq_true (by omega)
    go_wp2
    go_ret
    exact .inl ⟨rfl, k, hk, HY.out⟩
  · have HY := Lib.hid hy
    clear hy
    go_wp2
    go_ret
    exact .inr ⟨rfl, HY.out⟩

/-- May a row of children be (the arena may)? -/
def RowOk (d : GD) (i : Nat) : Prop := d.L i ≤ 16 ∧ (0 < d.L i → d.b i = true) ∧ ∀ k, k < d.L i → HeldA d.n d.g d.b (d.S i k) (d.Q i k)
/-- May a graph be? -/
def GD.May (d : GD) : Prop := MayA d.n d.g ∧ d.m = d.n ∧ (∀ i, i < d.m → RowOk d i) ∧ d.E.Acyc
theorem GD.May.kids {d : GD} (h : d.May) : d.Kid := ⟨h.2.1, h.1, fun i k hi hk => (h.2.2.1 i hi).2.2 k hk⟩
/-- The answer of Check. -/
def chkG (d : GD) (x : Int) : Prop := (d.May ∧ x = 0) ∨ (¬ d.May ∧ x = 8)
theorem chkG.bad {d : GD} (h : ¬ d.May) : chkG d 8 := .inr ⟨h, rfl⟩

set_option maxRecDepth 100000 in
set_option maxHeartbeats 2000000 in
theorem stale_any (d : GD) (p : GP) (bg : Nat) (s q : Int) (w : World) (hm : MayA d.n d.g) (hG : HasBlk w bg 27 #[.slice p.A d.n p.c, .slice p.K d.m p.kc]) (hok : GOk w p d) :
    Calls Try.prog 53 #[hval s q, .pointer (some ⟨bg, 0, none⟩)] w fun e w' => e = .returned (.bool (!decide (HeldA d.n d.g d.b s q))) ∧ Below w.heap.size w w' := by
  have h1 := hm.1
  have hh := Lib.hid (holds_any p.A d.n p.c d.g d.b s q (w.alloc (.cells #[.int .i64 s, .int .i64 q] 29)) (hok.ar.below ((Below.refl w.heap.size w).alloc (Nat.le_refl _) _)) (by omega))
  have HM := Lib.hid hm
  have g0 := hG.cell 0
  have zg := hG.lt
  simp at g0
  have B1 := Lib.hid ((Below.refl w.heap.size w).alloc (Nat.le_refl _) (.cells #[.int .i64 s, .int .i64 q] 29))
  clear hm h1 hok hG
  go_enter Try.func53, Try.ntmps53
  go_wp2_with fail
  refine hh.out.mono ?_
  rintro e w1 ⟨⟨r, rfl, hr⟩, bel⟩
  have hr' : r = decide (HeldA d.n d.g d.b s q) := by
    rw [Bool.eq_iff_iff, hr, decide_eq_true_eq]
    exact ⟨fun h => h.2, fun h => ⟨HM.out, h⟩⟩
  have B2 := Lib.hid (B1.out.trans (bel.mono B1.out.size))
  have HR := Lib.hid hr'
  clear hr bel hr'
  go_wp2
  go_ret
  exact ⟨by rw [HR.out]; rfl, B2.out⟩

set_option maxRecDepth 100000 in
set_option maxHeartbeats 2000000 in
theorem loop_any (d : GD) (p : GP) (hk : d.Kid) (hsm : d.Sm) (t i bg bs bt m : Nat) (s : Nat → Bool) (w : World) (ht : t < d.n) (hi : i < d.n) (hok : GOk w p d) (hS : SetG d w m s)
    (hG : HasBlk w bg 27 #[.slice p.A d.n p.c, .slice p.K d.m p.kc]) (hB : HasBlk w bs 90 #[.map (some m)]) (hT : HasBlk w bt 29 #[.int .i64 t, .int .i64 (d.g t)]) :
    Calls Try.prog 56 #[hval i (d.g i), .pointer (some ⟨bg, 0, none⟩), .pointer (some ⟨bs, 0, none⟩), .pointer (some ⟨bt, 0, none⟩)] w (LookR d t m i s w) := by
  have b1 := (Below.refl w.heap.size w).alloc (Nat.le_refl _) (.cells #[.int .i64 i, .int .i64 (d.g i)] 29)
  have hb := Lib.hid (below_any d p hk hsm t i m s _ ht hi (hok.below b1) (hS.below b1))
  have B1 := Lib.hid b1
  have g0 := hG.cell 0
  have g1 := hG.cell 1
  have m0 := hB.cell 0
  have t0 := hT.cell 0
  have t1 := hT.cell 1
  have zg := hG.lt
  have zb := hB.lt
  have zt := hT.lt
  simp at g0 g1 m0 t0 t1
  clear hk hsm hok hS hG hB hT ht hi b1
  go_enter Try.func56, Try.ntmps56
  go_wp2_with fail
  refine hb.out.mono ?_
  rintro e w1 ⟨r, s', rfl, h1, h2, h3⟩
  have H1 := Lib.hid h1
  have H2 := Lib.hid h2
  have H3 := Lib.hid h3
  clear h1 h2 h3
  go_wp2
  go_ret
  exact ⟨r, s', rfl, H1.out, H2.out, gb_trans (gb_below B1.out _) H3.out⟩

set_option maxRecDepth 100000 in
set_option maxHeartbeats 8000000 in
theorem check_any (d : GD) (p : GP) (hsm : d.Sm) (w : World) (hok : GOk w p d) :
    Calls Try.prog 26 #[.agg #[.slice p.A d.n p.c, .slice p.K d.m p.kc]] w fun e w' => (∃ x, e = .returned (.int .i64 x) ∧ chkG d x) ∧ Below w.heap.size w w' := by
  obtain ⟨A, c, K, kc, KA, KC⟩ := p
  dsimp only
  have b1 := (Below.refl w.heap.size w).alloc (Nat.le_refl _) (.cells #[.slice A d.n c, .slice K d.m kc] 27)
  have OK := Lib.hid hok
  have Sm := Lib.hid hsm
  have B1 := Lib.hid b1
  have hn := hsm.n
  have hm := hsm.m
  have hP := hasBlk_new w 27 #[.slice A d.n c, .slice K d.m kc]
  clear hok hsm
  by_cases hma : MayA d.n d.g
  rotate_left
  · have hc := Lib.hid (check_bad A d.n c d.g d.b (w.alloc (.cells #[.slice A d.n c, .slice K d.m kc] 27)) (OK.out.ar.below b1) (by omega) hma)
    have MA := Lib.hid hma
    clear hma b1 hP
    go_enter Try.func26, Try.ntmps26
    go_wp2_with fail
    refine hc.out.mono ?_
    rintro e w1 ⟨rfl, bel⟩
    have B2 := Lib.hid (B1.out.trans (bel.mono B1.out.size))
    clear bel
    go_wp2
    go_ret
    exact ⟨⟨8, rfl, .bad fun h => MA.out h.1⟩, B2.out⟩
  have hc := Lib.hid (check_ok A d.n c d.g d.b (w.alloc (.cells #[.slice A d.n c, .slice K d.m kc] 27)) (OK.out.ar.below b1) hma)
  have MA := Lib.hid hma
  by_cases hmn : d.m = d.n
  rotate_left
  · have n1 : ((d.m : Int) != (d.n : Int)) = true := by simp; omega
    have n2 : ((d.m : Int) == (d.n : Int)) = false := by simp; omega
    have MN := Lib.hid hmn
    clear hma b1 hmn
    go_enter Try.func26, Try.ntmps26
    go_wp2_with fail
    refine hc.out.mono ?_
    rintro e w1 ⟨rfl, bel⟩
    have B2 := Lib.hid (B1.out.trans (bel.mono B1.out.size))
    have hP1 := hP.below bel
    have zP := hP1.lt
    have p0 := hP1.cell 0
    have p1 := hP1.cell 1
    simp at p0 p1
    clear bel hP hP1
    go_wp2
    go_ret
    exact ⟨⟨8, rfl, .bad fun h => MN.out h.2.1⟩, B2.out⟩
  have n1 : ((d.m : Int) != (d.n : Int)) = false := by simp; omega
  have HM := Lib.hid hmn
  clear hma b1 hmn
  go_enter Try.func26, Try.ntmps26
  go_wp2_with fail
  refine hc.out.mono ?_
  rintro e w1 ⟨rfl, bel⟩
  have B2 := Lib.hid (B1.out.trans (bel.mono B1.out.size))
  have hP1 := hP.below bel
  have HP := Lib.hid hP1
  have zP := hP1.lt
  have p0 := hP1.cell 0
  have p1 := hP1.cell 1
  simp at p0 p1
  clear bel hP hP1
  go_wp2
  go_loopw [27] (fun i wr => ∃ k : Nat, k ≤ d.m ∧ i = .int .i64 k ∧ HasBlk wr w.heap.size 27 #[.slice A d.n c, .slice K d.m kc] ∧ Below w.heap.size w wr ∧ ∀ i', i' < k → RowOk d i') (fun i wr => d.m - (intOf i).toNat)
  case atStart => exact ⟨0, Nat.zero_le _, rfl, HP.out, B2.out, fun i' h => absurd h (by omega)⟩
  case round =>
    clear HP B2 zP p0 p1
    obtain ⟨k, hkm, rfl, hP, hbel, hro⟩ := hrel
    have RO := Lib.hid hro
    have HB := Lib.hid hbel
    have HP := Lib.hid hP
    have zb := hbel.size
    have p0 := hP.cell 0
    have p1 := hP.cell 1
    have zp := hP.lt
    simp at p0 p1
    clear hro hP hbel
    by_cases hlt : k < d.m
    · have hok := OK.out.below HB.out
      obtain ⟨gk, ok, hA, hgk, hck⟩ := hok.ks (by omega)
      dsimp only at hA
      subst hA
      have k0 := hck k hlt 0 (by omega)
      simp only [Nat.add_zero, Nat.mul_one, kv] at k0
      have hkn : k < d.n := by have := HM.out; omega
      obtain ⟨ga, oa, hA2, hga, hca⟩ := hok.ar (by omega)
      dsimp only at hA2
      subst hA2
      have c1 := hca k hkn 1 (by omega)
      simp only [sv] at c1
      rw [if_neg (by decide)] at c1
      have i1 : (k : Int) < (d.m : Int) := by omega
      have i2 : (k : Int) < (d.n : Int) := by omega
      have i0 : (0 : Int) ≤ (k : Int) := by omega
      have q16 := Sm.out.L k hlt
      have hokH := Lib.hid hok
      clear hck hca hok
      by_cases h16 : 16 < d.L k
      · have d1 : decide ((16 : Int) < (d.L k : Int)) = true := decide_eq_true (by omega)
        have HD := Lib.hid h16
        clear h16
        go_wp2
        go_ret
        exact ⟨⟨8, rfl, .bad fun h => by have := (h.2.2.1 k hlt).1; have := HD.out; omega⟩, HB.out⟩
      have d1 : decide ((16 : Int) < (d.L k : Int)) = false := decide_eq_false (by omega)
      have hst := Lib.hid (stales_any (KA k) (d.L k) (KC k) (hv (d.S k) (d.Q k)) (.pointer (some ⟨w.heap.size, 0, none⟩)) (fun k' W => Below wr.heap.size wr W ∧ ∀ j, j < k' → HeldA d.n d.g d.b (d.S k j) (d.Q k j)) (fun k' W => Below wr.heap.size wr W ∧ ¬ HeldA d.n d.g d.b (d.S k k') (d.Q k k')) wr
        (fun k' W h => (hokH.out.kd k hlt).below h.1) (by omega)
        (fun k' hk' W h => by
          refine (stale_any d _ w.heap.size (d.S k k') (d.Q k k') W MA.out (HP.out.below h.1) (hokH.out.below h.1)).mono ?_
          rintro e w' ⟨rfl, bel⟩
          have hb := h.1.trans (bel.mono h.1.size)
          by_cases hh : HeldA d.n d.g d.b (d.S k k') (d.Q k k')
          · rw [decide_eq_true hh]
            refine .inr ⟨rfl, hb, fun j hj => ?_⟩
            rcases Nat.lt_or_ge j k' with h1 | h1
            · exact h.2 j h1
            · obtain rfl : j = k' := by omega
              exact hh
          · rw [decide_eq_false hh]
            exact .inl ⟨rfl, hb, hh⟩)
        ⟨Below.refl _ _, fun j hj => absurd hj (by omega)⟩)
      have H16 := Lib.hid h16
      clear h16
      by_cases hL : 0 < d.L k
      · have e1 : decide (0 < d.L k) = true := decide_eq_true (by omega)
        cases hbk : d.b k with
        | false =>
          rw [hbk] at c1
          have HBK := Lib.hid hbk
          have HL := Lib.hid hL
          clear hbk hL
          go_wp2
          go_ret
          exact ⟨⟨8, rfl, .bad fun h => by have := (h.2.2.1 k hlt).2.1 HL.out; rw [HBK.out] at this; cases this⟩, HB.out⟩
        | true =>
          rw [hbk] at c1
          have HBK := Lib.hid (fun _ : 0 < d.L k => hbk)
          clear hbk
          go_wp2_with fail
          refine hst.out.mono ?_
          rintro e w2 (⟨rfl, kk, hkk, hbe, hno⟩ | ⟨rfl, hbe, hall⟩)
          · have HN := Lib.hid hno
            have B3 := Lib.hid (HB.out.trans (hbe.mono HB.out.size))
            clear hno hbe
            go_wp2
            go_ret
            exact ⟨⟨8, rfl, .bad fun h => HN.out ((h.2.2.1 k hlt).2.2 kk hkk)⟩, B3.out⟩
          · have HA := Lib.hid hall
            have B3 := Lib.hid (HB.out.trans (hbe.mono HB.out.size))
            have HP3 := Lib.hid (HP.out.below hbe)
            clear hall hbe
            go_wp2
            go_roundw
            case rel =>
              refine ⟨k + 1, by omega, by go_num, HP3.out, B3.out, fun i' hi' => ?_⟩
              rcases Nat.lt_or_ge i' k with h1 | h1
              · exact RO.out i' h1
              · obtain rfl : i' = k := by omega
                exact ⟨by have := H16.out; omega, HBK.out, HA.out⟩
            case measure => simp [intOf]; omega
      · have e1 : decide (0 < d.L k) = false := decide_eq_false (by omega)
        have HBK := Lib.hid (fun h : 0 < d.L k => (absurd h hL : d.b k = true))
        clear hL
        go_wp2_with fail
        refine hst.out.mono ?_
        rintro e w2 (⟨rfl, kk, hkk, hbe, hno⟩ | ⟨rfl, hbe, hall⟩)
        · have HN := Lib.hid hno
          have B3 := Lib.hid (HB.out.trans (hbe.mono HB.out.size))
          clear hno hbe
          go_wp2
          go_ret
          exact ⟨⟨8, rfl, .bad fun h => HN.out ((h.2.2.1 k hlt).2.2 kk hkk)⟩, B3.out⟩
        · have HA := Lib.hid hall
          have B3 := Lib.hid (HB.out.trans (hbe.mono HB.out.size))
          have HP3 := Lib.hid (HP.out.below hbe)
          clear hall hbe
          go_wp2
          go_roundw
          case rel =>
            refine ⟨k + 1, by omega, by go_num, HP3.out, B3.out, fun i' hi' => ?_⟩
            rcases Nat.lt_or_ge i' k with h1 | h1
            · exact RO.out i' h1
            · obtain rfl : i' = k := by omega
              exact ⟨by have := H16.out; omega, HBK.out, HA.out⟩
          case measure => simp [intOf]; omega
    · have hkm2 : k = d.m := by omega
      subst hkm2
      have hk : d.Kid := ⟨HM.out, MA.out, fun i k hi hk => (RO.out i hi).2.2 k hk⟩
      have m0 : decide ((d.m : Int) < (d.m : Int)) = false := decide_eq_false (by omega)
      have HK := Lib.hid hk
      clear hk
      have hmm := @run_makeMap Try.prog
      go_wp2
      obtain ⟨wo, rfl⟩ : ∃ wo : World, wo = wr := ⟨wr, rfl⟩
      have hP2 : HasBlk ((wo.alloc (.map #[] 0)).alloc (.cells #[.map (some wo.heap.size)] 90)) w.heap.size 27 #[.slice A d.n c, .slice K d.m kc] := (HP.out.alloc _).alloc _
      have hB2 : HasBlk ((wo.alloc (.map #[] 0)).alloc (.cells #[.map (some wo.heap.size)] 90)) (wo.heap.size + 1) 90 #[.map (some wo.heap.size)] := by
        have h := hasBlk_new (wo.alloc (.map #[] 0)) 90 #[.map (some wo.heap.size)]
        simpa using h
      have hS2 : SetG d ((wo.alloc (.map #[] 0)).alloc (.cells #[.map (some wo.heap.size)] 90)) wo.heap.size (fun _ => false) := (SetG.made d wo).below ((Below.refl _ _).alloc (Nat.le_refl _) _)
      have hb2 : Below w.heap.size w ((wo.alloc (.map #[] 0)).alloc (.cells #[.map (some wo.heap.size)] 90)) := (HB.out.alloc zb _).alloc (by simp; omega) _
      have L2 := Lib.hid (And.intro hP2 (And.intro hB2 (And.intro hS2 hb2)))
      clear hP2 hB2 hS2 hb2 HB HP p0 p1 hmm
      go_loopw [61] (fun i wr => ∃ k : Nat, k ≤ d.m ∧ i = .int .i64 k ∧ HasBlk wr w.heap.size 27 #[.slice A d.n c, .slice K d.m kc] ∧ HasBlk wr (wo.heap.size + 1) 90 #[.map (some wo.heap.size)] ∧ (∃ s, SetG d wr wo.heap.size s) ∧ Below w.heap.size w wr ∧ ∀ i' j, i' < k → j < d.L i' → ¬ d.E.Reach (d.E.K i' j) i') (fun i wr => d.m - (intOf i).toNat)
      case atStart => exact ⟨0, Nat.zero_le _, rfl, L2.out.1, L2.out.2.1, ⟨_, L2.out.2.2.1⟩, L2.out.2.2.2, fun i' j h => absurd h (by omega)⟩
      case round =>
        clear L2 zp
        obtain ⟨k, hk2, rfl, hP, hQ, ⟨s, hS⟩, hbel, hno⟩ := hrel
        have NO := Lib.hid hno
        have HB := Lib.hid hbel
        have HP := Lib.hid hP
        have HQ := Lib.hid hQ
        have HS := Lib.hid hS
        have zb2 := hbel.size
        have p0 := hP.cell 0
        have p1 := hP.cell 1
        have zp := hP.lt
        have q0 := hQ.cell 0
        have zq := hQ.lt
        have zm := hS.lt
        simp at p0 p1 q0
        clear hno hbel hP hQ hS
        by_cases hlt2 : k < d.m
        · have hok := OK.out.below HB.out
          obtain ⟨gk, ok, hA, hgk, hck⟩ := hok.ks (by omega)
          dsimp only at hA
          subst hA
          have k0 := hck k hlt2 0 (by omega)
          simp only [Nat.add_zero, Nat.mul_one, kv] at k0
          have hkn : k < d.n := by have := HM.out; omega
          obtain ⟨ga, oa, hA2, hga, hca⟩ := hok.ar (by omega)
          dsimp only at hA2
          subst hA2
          have c0 := hca k hkn 0 (by omega)
          simp only [sv, Nat.add_zero] at c0
          have i1 : (k : Int) < (d.m : Int) := by omega
          have i2 : (k : Int) < (d.n : Int) := by omega
          have i0 : (0 : Int) ≤ (k : Int) := by omega
          have q16 := Sm.out.L k hlt2
          have b3 := (Below.refl wr.heap.size wr).alloc (Nat.le_refl _) (.cells #[.int .i64 k, .int .i64 (d.g k)] 29)
          obtain ⟨wc, hclr, hSc, hgc⟩ := (HS.out.below b3).wipe
          have hM3 := (HS.out.below b3).isM
          have hPc := Lib.hid ((HP.out.below b3).gb hgc hM3)
          have hQc := Lib.hid ((HQ.out.below b3).gb hgc hM3)
          have hTc := Lib.hid ((hasBlk_new wr 29 #[.int .i64 k, .int .i64 (d.g k)]).gb hgc hM3)
          have hOc := Lib.hid ((hok.below b3).gb hgc hM3)
          have hBc := Lib.hid (below_gb (HB.out.trans (b3.mono zb2)) (by simp; omega) hgc zb)
          have hSC := Lib.hid hSc
          have hmc := Lib.hid hSc.isM
          have r0 := hPc.out.cell 0
          have r1 := hPc.out.cell 1
          have zr := hPc.out.lt
          have s0 := hQc.out.cell 0
          have zs := hQc.out.lt
          simp at r0 r1 s0
          have hcon := Lib.hid (loops_any (KA k) (d.L k) (KC k) (hv (d.S k) (d.Q k)) (.pointer (some ⟨w.heap.size, 0, none⟩)) (.pointer (some ⟨(wo.heap.size + 1), 0, none⟩)) (.pointer (some ⟨wr.heap.size, 0, none⟩))
            (fun k' W => (∃ s, SetG d W wo.heap.size s ∧ d.E.Good k s) ∧ wc.grownBy W (some wo.heap.size) ∧ ∀ j, j < k' → ¬ d.E.Reach (d.E.K k j) k)
            (fun k' W => (∃ s, SetG d W wo.heap.size s) ∧ wc.grownBy W (some wo.heap.size) ∧ d.E.Reach (d.E.K k k') k) wc
            (fun k' W h => (hOc.out.kd k hlt2).gb (by omega) h.2.1 hmc.out) (by omega)
            (fun k' hk' W h => by
              obtain ⟨⟨s1, hs1, hgd⟩, hg1, hn1⟩ := h
              obtain ⟨e1, e2, e3⟩ := HK.out.at hkn hk'
              have hc := loop_any d _ HK.out Sm.out k (d.E.K k k') w.heap.size (wo.heap.size + 1) wr.heap.size wo.heap.size s1 W hkn e3 (hOc.out.gb hg1 hmc.out) hs1 (hPc.out.gb hg1 hmc.out) (hQc.out.gb hg1 hmc.out) (hTc.out.gb hg1 hmc.out)
              show Calls Try.prog 56 #[.agg #[.int .i64 (d.S k k'), .int .i64 (d.Q k k')], _, _, _] W _
              rw [e1, e2]
              refine hc.mono ?_
              rintro e w' ⟨r, s2, rfl, hd, hs2, hg2⟩
              cases r with
              | true => exact .inl ⟨rfl, ⟨s2, hs2⟩, gb_trans hg1 hg2, hd.yes rfl⟩
              | false =>
                refine .inr ⟨rfl, ⟨s2, hs2, hd.good hgd⟩, gb_trans hg1 hg2, fun j hj hr => ?_⟩
                rcases Nat.lt_or_ge j k' with h1 | h1
                · exact hn1 j h1 hr
                · obtain rfl : j = k' := by omega
                  have := (hd.iff hgd).2 hr
                  cases this)
            ⟨⟨_, hSC.out, .zero _ _⟩, World.grownBy.refl _ _, fun j hj => absurd hj (by omega)⟩)
          clear hck hca hok b3 hM3 hSc hgc HP HQ HS
          go_wp2_with fail
          refine hcon.out.mono ?_
          rintro e w5 (⟨rfl, kk, hkk, ⟨s5, hs5⟩, hg5, hr5⟩ | ⟨rfl, ⟨s5, hs5, _⟩, hg5, hn5⟩)
          · have HR := Lib.hid hr5
            have B5 := Lib.hid (below_gb hBc.out hBc.out.size hg5 zb)
            clear hs5 hg5 hr5
            go_wp2
            go_ret
            exact ⟨⟨8, rfl, .bad fun h => h.2.2.2 k kk hkn hkk HR.out⟩, B5.out⟩
          · have HN := Lib.hid hn5
            have B5 := Lib.hid (below_gb hBc.out hBc.out.size hg5 zb)
            have P5 := Lib.hid (hPc.out.gb hg5 hmc.out)
            have Q5 := Lib.hid (hQc.out.gb hg5 hmc.out)
            have S5 := Lib.hid hs5
            clear hs5 hg5 hn5
            go_wp2
            go_roundw
            case rel =>
              refine ⟨k + 1, by omega, by go_num, P5.out, Q5.out, ⟨s5, S5.out⟩, B5.out, fun i' j hi' hj => ?_⟩
              rcases Nat.lt_or_ge i' k with h1 | h1
              · exact NO.out i' j h1 hj
              · obtain rfl : i' = k := by omega
                exact HN.out j hj
            case measure => simp [intOf]; omega
        · have hkm3 : k = d.m := by omega
          subst hkm3
          go_wp2
          go_ret
          exact ⟨⟨0, rfl, .inl ⟨⟨MA.out, HM.out, RO.out, fun i j hi hj => NO.out i j (by have := HM.out; have : i < d.n := hi; omega) hj⟩, rfl⟩⟩, HB.out⟩
end Go.Proofs.Ytgkeiaggldahnaa
