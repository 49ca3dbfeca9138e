/- nodes: count, NodesBoth. -/
import Derived.Test.YtgkeiaggldahnaaN16
import Derived.Test.YtgkeiaggldahnaaN11
namespace Go.Proofs.Ytgkeiaggldahnaa
open Go.RowKit
set_option linter.unusedVariables false
/-- How often a handle is among the first. -/
def cntH (S Q : Nat → Int) (x y : Int) : Nat → Nat
  | 0 => 0
  | k + 1 => if S k = x ∧ Q k = y then cntH S Q x y k + 1 else cntH S Q x y k
theorem cntH_le (S Q : Nat → Int) (x y : Int) : ∀ k, cntH S Q x y k ≤ k
  | 0 => Nat.le_refl _
  | k + 1 => by
    have := cntH_le S Q x y k
    unfold cntH
    split <;> omega
set_option maxRecDepth 100000 in
set_option maxHeartbeats 4000000 in
theorem count_any (A : Option Addr) (n c : Nat) (S Q : Nat → Int) (x y : Int) (w : World) (hA : Row w A n 2 (hv S Q)) (hn : n ≤ 1000000) :
    Calls Try.prog 20 #[.slice A n c, .agg #[.int .i64 x, .int .i64 y]] w fun e w' => e = .returned (.int .i64 (cntH S Q x y n)) ∧ Below w.heap.size w w' := by
  have B0 := Lib.hid ((Below.refl w.heap.size w).alloc (Nat.le_refl _) (.cells #[.int .i64 x, .int .i64 y] 29))
  have H0 := Lib.hid (hasBlk_new w 29 #[.int .i64 x, .int .i64 y])
  have HA := Lib.hid hA
  clear hA
  go_enter Try.func20, Try.ntmps20
  go_wp2
  go_loopw [6, 5] (fun i o wr => ∃ k : Nat, k ≤ n ∧ i = .int .i64 k ∧ o = .int .i64 (cntH S Q x y k) ∧ HasBlk wr w.heap.size 29 #[.int .i64 x, .int .i64 y] ∧ Below w.heap.size w wr) (fun i o wr => n - (intOf i).toNat)
  case atStart => exact ⟨0, Nat.zero_le _, rfl, rfl, H0.out, B0.out⟩
  case round =>
    clear H0 B0
    obtain ⟨k, hk, rfl, rfl, hH, hbel⟩ := hrel
    have HB := Lib.hid hH
    have BL := Lib.hid hbel
    by_cases hkn : k < n
    · obtain ⟨ga, oa, hA, hga, hca⟩ := HA.out.below hbel (by omega)
      subst hA
      have c0 := hca k hkn 0 (by omega)
      have c1 := hca k hkn 1 (by omega)
      simp only [hv, Nat.add_zero, if_true] at c0
      simp only [hv] at c1
      rw [if_neg (by decide)] at c1
      have h0 := hH.cell 0
      have h1 := hH.cell 1
      have zh := hH.lt
      simp at h0 h1
      have i1 : (k : Int) < (n : Int) := by omega
      have i0 : (0 : Int) ≤ (k : Int) := by omega
      have r1 := fun b : BW wr => BW.cell c0 hga b
      have r2 := fun b : BW wr => BW.cell c1 hga b
      have r3 := fun b : BW wr => BW.cell h0 zh b
      have r4 := fun b : BW wr => BW.cell h1 zh b
      have hq := fun W => eql_hdl (S k) (Q k) x y W
      have hle := cntH_le S Q x y k
      clear hca hH hbel
      by_cases hm : S k = x ∧ Q k = y
      · have hv1 : (S k == x && Q k == y) = true := by rw [hm.1, hm.2]; simp
        simp only [hv1] at hq
        have EL := Lib.hid (show cntH S Q x y (k + 1) = cntH S Q x y k + 1 from if_pos hm)
        obtain ⟨m, hmc⟩ : ∃ m, cntH S Q x y k = m := ⟨_, rfl⟩
        rw [hmc] at EL hle ⊢
        clear hmc hm hv1
        go_wp2_with fail
        clear c0 c1 h0 h1
        refine wp_region_quiet_bw (by kernel_rfl) (by kernel_rfl) ?_
        repeat (go_big_quiet_step (fail))
        refine wpQuiet_nil ?_
        intro _ hw'
        obtain ⟨pq, hw''⟩ := hw'
        subst hw''
        clear r1 r2 r3 r4
        have HB2 := Lib.hid (HB.out.below pq.h)
        have BL2 := Lib.hid (BL.out.trans (pq.h.mono BL.out.size))
        have gw : IntKind.i64.wrap ((m : Int) + 1) = (m : Int) + 1 := IntWalk.i64_in _ (by omega)
        go_wp2
        go_roundw
        case rel => exact ⟨k + 1, by omega, by go_num, by rw [EL.out]; push_cast; rfl, HB2.out, BL2.out⟩
        case measure => simp [intOf]; omega
      · have hv1 : (S k == x && Q k == y) = false := by
          rw [Bool.and_eq_false_iff]
          by_cases hm2 : S k = x
          · right
            simpa using fun h => hm ⟨hm2, h⟩
          · left
            simpa using hm2
        simp only [hv1] at hq
        have EL := Lib.hid (show cntH S Q x y (k + 1) = cntH S Q x y k from if_neg hm)
        clear hm hv1
        go_wp2_with fail
        clear c0 c1 h0 h1
        refine wp_region_quiet_bw (by kernel_rfl) (by kernel_rfl) ?_
        repeat (go_big_quiet_step (fail))
        refine wpQuiet_nil ?_
        intro _ hw'
        obtain ⟨pq, hw''⟩ := hw'
        subst hw''
        clear r1 r2 r3 r4
        have HB2 := Lib.hid (HB.out.below pq.h)
        have BL2 := Lib.hid (BL.out.trans (pq.h.mono BL.out.size))
        go_wp2
        go_roundw
        case rel => exact ⟨k + 1, by omega, by go_num, by rw [EL.out], HB2.out, BL2.out⟩
        case measure => simp [intOf]; omega
    · obtain rfl : k = n := by omega
      clear hH hbel
      go_wp2
      go_ret
      exact ⟨rfl, BL.out⟩
/-- The plain law: how often one is among the parents. -/
theorem cnt_list (g : Nat → Int) (k0 : Nat) (l : List Nat) : ∀ n, n ≤ l.length → cntH (fun j => ((l.getD j 0 : Nat) : Int)) (fun j => g (l.getD j 0)) k0 (g k0) n = (l.take n).count k0
  | 0, _ => by simp [cntH]
  | n + 1, h => by
    have ih := cnt_list g k0 l n (by omega)
    have e : l.take (n + 1) = l.take n ++ [l.getD n 0] := by
      rw [List.take_add_one]
      congr 1
      rw [List.getElem?_eq_getElem (by omega), List.getD_eq_getElem?_getD, List.getElem?_eq_getElem (by omega)]
      rfl
    rw [e, List.count_append, ← ih]
    show (if ((l.getD n 0 : Nat) : Int) = k0 ∧ g (l.getD n 0) = g k0 then cntH (fun j => ((l.getD j 0 : Nat) : Int)) (fun j => g (l.getD j 0)) k0 (g k0) n + 1 else cntH (fun j => ((l.getD j 0 : Nat) : Int)) (fun j => g (l.getD j 0)) k0 (g k0) n) = _
    by_cases hx : l.getD n 0 = k0
    · rw [if_pos ⟨by rw [hx], by rw [hx]⟩, hx, List.count_cons, List.count_nil, if_pos (by simp)]
    · rw [if_neg (fun h => hx (by have := h.1; omega))]
      rw [List.count_cons, List.count_nil, if_neg (by simpa using hx)]
      omega
theorem parK_count (d : GD) (x y : Int) (i k0 : Nat) : ∀ k, (parK d x y i k).count k0 = if i = k0 then cntH (d.S i) (d.Q i) x y k else 0
  | 0 => by simp [parK, cntH]
  | k + 1 => by
    have ih := parK_count d x y i k0 k
    unfold parK cntH
    by_cases h : d.S i k = x ∧ d.Q i k = y
    · rw [if_pos h, if_pos h, List.count_append, ih]
      by_cases e : i = k0
      · rw [if_pos e, if_pos e, e]; simp
      · rw [if_neg e, if_neg e, List.count_cons, List.count_nil, if_neg (by simpa using e)]
    · rw [if_neg h, if_neg h, ih]
theorem parL_count (d : GD) (x y : Int) (k0 : Nat) : ∀ m, (parL d x y m).count k0 = if k0 < m then cntH (d.S k0) (d.Q k0) x y (d.L k0) else 0
  | 0 => by simp [parL]
  | m + 1 => by
    unfold parL
    rw [List.count_append, parL_count d x y k0 m, parK_count]
    by_cases e : m = k0
    · subst e; rw [if_neg (by omega), if_pos rfl, if_pos (by omega)]; omega
    · rw [if_neg e]
      by_cases h : k0 < m
      · rw [if_pos h, if_pos (by omega)]; omega
      · rw [if_neg h, if_neg (by omega)]
theorem both_count {d : GD} {k : Nat} {x y : Int} (hk : k < d.m) : cntH (fun j => (((parL d x y d.m).getD j 0 : Nat) : Int)) (fun j => d.g ((parL d x y d.m).getD j 0)) k (d.g k) (parL d x y d.m).length = cntH (d.S k) (d.Q k) x y (d.L k) := by
  rw [cnt_list _ _ _ _ (Nat.le_refl _), List.take_length, parL_count, if_pos hk]
/-- Is it the other one, or does one of the first children reach it? -/
noncomputable def overB (d : GD) (k t : Nat) : Nat → Bool
  | 0 => k == t
  | j + 1 => overB d k t j || d.E.reachB (d.E.K k j) t
theorem overB_iff (d : GD) (k t : Nat) : ∀ n, overB d k t n = true ↔ k = t ∨ ∃ j, j < n ∧ d.E.Reach (d.E.K k j) t
  | 0 => by simp [overB]
  | n + 1 => by
    unfold overB
    rw [Bool.or_eq_true, overB_iff d k t n, GE.reachB_iff]
    constructor
    · rintro ((h | ⟨j, h1, h2⟩) | h)
      · exact .inl h
      · exact .inr ⟨j, by omega, h2⟩
      · exact .inr ⟨n, by omega, h⟩
    · rintro (h | ⟨j, h1, h2⟩)
      · exact .inl (.inl h)
      · by_cases e : j = n
        · subst e; exact .inr h2
        · exact .inl (.inr ⟨j, by omega, h2⟩)
theorem over_reach {d : GD} {k t : Nat} (hk : k < d.n) : d.E.reachB k t = overB d k t (d.L k) := by
  rw [Bool.eq_iff_iff, overB_iff, GE.reachB_iff]
  constructor
  · intro h
    cases h with
    | self _ => exact .inl rfl
    | step hi hj h => exact .inr ⟨_, hj, h⟩
  · rintro (rfl | ⟨j, h1, h2⟩)
    · exact .self _
    · exact .step hk h1 h2
theorem kid_rch {d : GD} (hm : d.May) {k j t : Nat} (hk : k < d.n) (hj : j < d.L k) (ht : HeldA d.n d.g d.b (t : Nat) (d.g t)) : rchv d (d.S k j) (d.Q k j) t (d.g t) = d.E.reachB (d.E.K k j) t ∧ askv d (HeldA d.n d.g d.b (d.S k j) (d.Q k j) ∧ HeldA d.n d.g d.b (t : Nat) (d.g t)) = 0 := by
  have h0 := askv_ok hm (H := HeldA d.n d.g d.b (d.S k j) (d.Q k j) ∧ HeldA d.n d.g d.b (t : Nat) (d.g t)) ⟨(hm.2.2.1 k (by rw [hm.2.1]; exact hk)).2.2 j hj, ht⟩
  refine ⟨?_, h0⟩
  unfold rchv
  rw [if_pos h0]
  rfl

set_option maxRecDepth 100000 in
set_option maxHeartbeats 8000000 in
theorem nodesBoth_walk (d : GD) (p : GP) (hrc : d.Rch) (s q s' q' : Int) (w : World) (hok : GOk w p d) :
    Calls Try.prog 4 #[.agg #[.slice p.A d.n p.c, .slice p.K d.m p.kc], hval s q, hval s' q'] w fun e w' => e = .returned (.bool true) ∧ Below w.heap.size w w' := by
  obtain ⟨A, c, K, kc, KA, KC⟩ := p
  dsimp only
  have B0 := Lib.hid (show Below w.heap.size w (((w.alloc (.cells #[.slice A d.n c, .slice K d.m kc] 27)).alloc (.cells #[.int .i64 s, .int .i64 q] 29)).alloc (.cells #[.int .i64 s', .int .i64 q'] 29)) by
    repeat' (first | exact Below.refl _ _ | assumption | apply Below.drew | refine Below.setCell ?_ (by first | omega | (simp; done) | (simp; omega)) _ | refine Below.alloc ?_ (by first | omega | (simp; done) | (simp; omega)) _))
  have P0 := Lib.hid (show HasBlk (((w.alloc (.cells #[.slice A d.n c, .slice K d.m kc] 27)).alloc (.cells #[.int .i64 s, .int .i64 q] 29)).alloc (.cells #[.int .i64 s', .int .i64 q'] 29)) (w.heap.size) 27 #[.slice A d.n c, .slice K d.m kc] by simpa using (((hasBlk_new w 27 #[.slice A d.n c, .slice K d.m kc]).alloc (.cells #[.int .i64 s, .int .i64 q] 29)).alloc (.cells #[.int .i64 s', .int .i64 q'] 29)))
  have H0 := Lib.hid (show HasBlk (((w.alloc (.cells #[.slice A d.n c, .slice K d.m kc] 27)).alloc (.cells #[.int .i64 s, .int .i64 q] 29)).alloc (.cells #[.int .i64 s', .int .i64 q'] 29)) (w.heap.size + 1) 29 #[.int .i64 s, .int .i64 q] by simpa using ((hasBlk_new (w.alloc (.cells #[.slice A d.n c, .slice K d.m kc] 27)) 29 #[.int .i64 s, .int .i64 q]).alloc (.cells #[.int .i64 s', .int .i64 q'] 29)))
  have J0 := Lib.hid (show HasBlk (((w.alloc (.cells #[.slice A d.n c, .slice K d.m kc] 27)).alloc (.cells #[.int .i64 s, .int .i64 q] 29)).alloc (.cells #[.int .i64 s', .int .i64 q'] 29)) (w.heap.size + 1 + 1) 29 #[.int .i64 s', .int .i64 q'] by simpa using (hasBlk_new ((w.alloc (.cells #[.slice A d.n c, .slice K d.m kc] 27)).alloc (.cells #[.int .i64 s, .int .i64 q] 29)) 29 #[.int .i64 s', .int .i64 q']))
  have OK := Lib.hid hok
  have RC := Lib.hid hrc
  clear hok hrc
  go_enter Try.func4, Try.ntmps4
  go_wp2_with fail
  refine (alive_any _).mono ?_
  rintro e w1 ⟨rfl, bel⟩
  have P1 := Lib.hid (P0.out.below bel)
  have H1 := Lib.hid (H0.out.below bel)
  have J1 := Lib.hid (J0.out.below bel)
  have B1 := Lib.hid (B0.out.trans (bel.mono B0.out.size))
  clear bel P0 H0 J0 B0
  have KX := Lib.hid (great_any d _ RC.out w1 (OK.out.below B1.out))
  have p0 := P1.out.cell 0
  have p1 := P1.out.cell 1
  have h0 := H1.out.cell 0
  have h1 := H1.out.cell 1
  have j0 := J1.out.cell 0
  have j1 := J1.out.cell 1
  have zp := P1.out.lt
  have zh := H1.out.lt
  have zj := J1.out.lt
  simp at p0 p1 h0 h1 j0 j1
  go_wp2_with fail
  refine KX.out.mono ?_
  rintro e w2 ⟨⟨r, rfl, hr⟩, bel⟩
  clear p0 p1 h0 h1 j0 j1 zp zh zj
  clear KX
  have P2 := Lib.hid (P1.out.below bel)
  have H2 := Lib.hid (H1.out.below bel)
  have J2 := Lib.hid (J1.out.below bel)
  have B2 := Lib.hid (B1.out.trans (bel.mono B1.out.size))
  clear bel P1 H1 J1 B1
  cases r with
  | true =>
    clear hr P2 H2 J2
    go_wp2
    go_ret
    exact ⟨rfl, B2.out⟩
  | false =>
    have Sm := Lib.hid (GD.Sm.mk2 (hr rfl))
    clear hr
    have KX := Lib.hid (kids_any d _ Sm.out s q w2 (OK.out.below B2.out))
    have p0 := P2.out.cell 0
    have p1 := P2.out.cell 1
    have h0 := H2.out.cell 0
    have h1 := H2.out.cell 1
    have j0 := J2.out.cell 0
    have j1 := J2.out.cell 1
    have zp := P2.out.lt
    have zh := H2.out.lt
    have zj := J2.out.lt
    simp at p0 p1 h0 h1 j0 j1
    go_wp2_with fail
    refine KX.out.mono ?_
    rintro e w3 ⟨⟨A1, c1, rfl, ho⟩, bel⟩
    clear p0 p1 h0 h1 j0 j1 zp zh zj
    clear KX
    have OW1 := Lib.hid ho
    clear ho
    have P3 := Lib.hid (P2.out.below bel)
    have H3 := Lib.hid (H2.out.below bel)
    have J3 := Lib.hid (J2.out.below bel)
    have B3 := Lib.hid (B2.out.trans (bel.mono B2.out.size))
    clear bel P2 H2 J2 B2
    have KX := Lib.hid (parents_any d _ Sm.out s' q' w3 (OK.out.below B3.out))
    have p0 := P3.out.cell 0
    have p1 := P3.out.cell 1
    have h0 := H3.out.cell 0
    have h1 := H3.out.cell 1
    have j0 := J3.out.cell 0
    have j1 := J3.out.cell 1
    have zp := P3.out.lt
    have zh := H3.out.lt
    have zj := J3.out.lt
    simp at p0 p1 h0 h1 j0 j1
    go_wp2_with fail
    refine KX.out.mono ?_
    rintro e w4 ⟨⟨A2, c2, rfl, ho⟩, bel⟩
    clear p0 p1 h0 h1 j0 j1 zp zh zj
    clear KX
    have RW2 := Lib.hid (par_row ho)
    have OW14 := Lib.hid (own_below OW1.out bel)
    clear ho OW1
    have P4 := Lib.hid (P3.out.below bel)
    have H4 := Lib.hid (H3.out.below bel)
    have J4 := Lib.hid (J3.out.below bel)
    have B4 := Lib.hid (B3.out.trans (bel.mono B3.out.size))
    clear bel P3 H3 J3 B3
    have KX := Lib.hid (rch_any d _ Sm.out s q s' q' w4 (OK.out.below B4.out))
    have p0 := P4.out.cell 0
    have p1 := P4.out.cell 1
    have h0 := H4.out.cell 0
    have h1 := H4.out.cell 1
    have j0 := J4.out.cell 0
    have j1 := J4.out.cell 1
    have zp := P4.out.lt
    have zh := H4.out.lt
    have zj := J4.out.lt
    simp at p0 p1 h0 h1 j0 j1
    go_wp2_with fail
    refine KX.out.mono ?_
    rintro e w5 ⟨rfl, bel⟩
    clear p0 p1 h0 h1 j0 j1 zp zh zj
    clear KX
    have RW25 := Lib.hid (RW2.out.below bel)
    have OW15 := Lib.hid (own_below OW14.out bel)
    clear OW14 RW2
    have P5 := Lib.hid (P4.out.below bel)
    have H5 := Lib.hid (H4.out.below bel)
    have J5 := Lib.hid (J4.out.below bel)
    have B5 := Lib.hid (B4.out.trans (bel.mono B4.out.size))
    clear bel P4 H4 J4 B4
    obtain ⟨x1, hx1⟩ : ∃ x, askv d (HeldA d.n d.g d.b s q) = x := ⟨_, rfl⟩
    obtain ⟨x2, hx2⟩ : ∃ x, askv d (HeldA d.n d.g d.b s' q') = x := ⟨_, rfl⟩
    rw [hx1, hx2]
    by_cases h1 : x1 = 0
    rotate_left
    · have a1 : (x1 == 0) = false := by simpa using h1
      have a2 : (x1 != 0) = true := by simpa using h1
      clear h1 hx1 hx2 P5 H5 J5
      generalize askv d (HeldA d.n d.g d.b s q ∧ HeldA d.n d.g d.b s' q') = x3
      generalize rchv d s q s' q' = b3
      go_wp2
      go_ret
      exact ⟨rfl, B5.out⟩
    by_cases h2 : x2 = 0
    rotate_left
    · have a1 : (x2 == 0) = false := by simpa using h2
      have a2 : (x2 != 0) = true := by simpa using h2
      subst h1
      clear h2 hx1 hx2 P5 H5 J5
      generalize askv d (HeldA d.n d.g d.b s q ∧ HeldA d.n d.g d.b s' q') = x3
      generalize rchv d s q s' q' = b3
      go_wp2
      go_ret
      exact ⟨rfl, B5.out⟩
    subst h1 h2
    obtain ⟨hmay, hheld⟩ := askv_zero hx1
    obtain ⟨_, hheld'⟩ := askv_zero hx2
    obtain ⟨k, rfl⟩ := Int.eq_ofNat_of_zero_le hheld.1
    obtain ⟨t, rfl⟩ := Int.eq_ofNat_of_zero_le hheld'.1
    have hq1 : d.g k = q := hheld.2.2.1
    have hq2 : d.g t = q' := hheld'.2.2.1
    subst hq1 hq2
    have hkn : k < d.n := by have := hheld.2.1; omega
    have htn : t < d.n := by have := hheld'.2.1; omega
    have hkm : k < d.m := by rw [hmay.2.1]; exact hkn
    have h3 := askv_ok hmay (H := HeldA d.n d.g d.b (k : Nat) (d.g k) ∧ HeldA d.n d.g d.b (t : Nat) (d.g t)) ⟨hheld, hheld'⟩
    have e1 : kidN d (k : Nat) (d.g k) = d.L k := by unfold kidN; rw [if_pos hx1]; rfl
    have e2 : parV d (t : Nat) (d.g t) = parL d t (d.g t) d.m := by unfold parV; rw [if_pos hx2]
    have e3 : rchv d (k : Nat) (d.g k) (t : Nat) (d.g t) = overB d k t (d.L k) := by unfold rchv; rw [if_pos h3, ← over_reach hkn]; rfl
    have PL := Lib.hid (parL_len Sm.out t (d.g t) d.m (Nat.le_refl _))
    have BC := Lib.hid (both_count (x := (t : Nat)) (y := d.g t) hkm)
    have KR := Lib.hid (fun j (hj : j < d.L k) => kid_rch hmay hkn hj hheld')
    have LK := Lib.hid (Sm.out.L k hkm)
    have KM := Lib.hid (And.intro hkn (And.intro htn hkm))
    rw [e1] at OW15
    rw [e2] at RW25
    rw [h3, e3, e1, e2]
    have RA := Lib.hid (Row.of_cells OW15.out)
    have OKK := Lib.hid (OK.out.kd k hkm)
    have h00 : (((k : Nat) : Int) == ((t : Nat) : Int) && d.g k == d.g t) = (k == t) := by
      by_cases e : k = t
      · subst e; simp
      · rw [show (((k : Nat) : Int) == ((t : Nat) : Int)) = false from beq_false_of_ne (by omega), show (k == t) = false from beq_false_of_ne e]; rfl
    have hq := fun W => eql_hdl ((k : Nat) : Int) (d.g k) ((t : Nat) : Int) (d.g t) W
    simp only [h00] at hq
    obtain ⟨M, hM⟩ : ∃ M, (parL d t (d.g t) d.m).length = M := ⟨_, rfl⟩
    obtain ⟨cc, hcc⟩ : ∃ cc, cntH (d.S k) (d.Q k) (t : Nat) (d.g t) (d.L k) = cc := ⟨_, rfl⟩
    have PM := Lib.hid (show M ≤ 1000000 by have := PL.out; have := Sm.out.m; omega)
    have BC2 := Lib.hid BC.out
    rw [hM, hcc] at BC2
    rw [hM] at RW25 ⊢
    clear BC PL hx1 hx2 hmay hheld hheld' hkn htn hkm h3 e1 e2 e3 h00 OW15
    have p0 := P5.out.cell 0
    have p1 := P5.out.cell 1
    have h0 := H5.out.cell 0
    have h1 := H5.out.cell 1
    have j0 := J5.out.cell 0
    have j1 := J5.out.cell 1
    have zp := P5.out.lt
    have zh := H5.out.lt
    have zj := J5.out.lt
    simp at p0 p1 h0 h1 j0 j1
    go_wp2
    clear hq
    go_loopw [15, 14] (fun i o wr => ∃ j : Nat, j ≤ d.L k ∧ i = .int .i64 j ∧ o = .bool (overB d k t j) ∧ HasBlk wr w.heap.size 27 #[.slice A d.n c, .slice K d.m kc] ∧ HasBlk wr (w.heap.size + 1) 29 #[.int .i64 k, .int .i64 (d.g k)] ∧ HasBlk wr (w.heap.size + 1 + 1) 29 #[.int .i64 t, .int .i64 (d.g t)] ∧ Row wr A1 (d.L k) 2 (hv (d.S k) (d.Q k)) ∧ Row wr A2 M 2 (hv (fun i => (((parL d t (d.g t) d.m).getD i 0 : Nat) : Int)) (fun i => d.g ((parL d t (d.g t) d.m).getD i 0))) ∧ Below w.heap.size w wr) (fun i o wr => d.L k - (intOf i).toNat)
    case atStart => exact ⟨0, Nat.zero_le _, rfl, rfl, P5.out, H5.out, J5.out, RA.out, RW25.out, B5.out⟩
    case round =>
      clear P5 H5 J5 RA RW25 p0 p1 h0 h1 j0 j1 zp zh zj
      obtain ⟨j, hj, rfl, rfl, hP, hH, hJ, hR1, hR2, hbel⟩ := hrel
      have P6 := Lib.hid hP
      have H6 := Lib.hid hH
      have J6 := Lib.hid hJ
      have R16 := Lib.hid hR1
      have R26 := Lib.hid hR2
      have B6 := Lib.hid hbel
      clear hP hH hJ hR1 hR2 hbel
      have p0 := P6.out.cell 0
      have p1 := P6.out.cell 1
      have h0 := H6.out.cell 0
      have h1 := H6.out.cell 1
      have j0 := J6.out.cell 0
      have j1 := J6.out.cell 1
      have zp := P6.out.lt
      have zh := H6.out.lt
      have zj := J6.out.lt
      simp at p0 p1 h0 h1 j0 j1
      have zb := B6.out.size
      have lk := LK.out
      by_cases hjl : j < d.L k
      · obtain ⟨ga, oa, hA, hga, hca⟩ := R16.out (by omega)
        subst hA
        have c0 := hca j hjl 0 (by omega)
        have c1 := hca j hjl 1 (by omega)
        simp only [hv, Nat.add_zero, if_true] at c0
        simp only [hv] at c1
        rw [if_neg (by decide)] at c1
        have i1 : (j : Int) < (d.L k : Int) := by omega
        have i0 : (0 : Int) ≤ (j : Int) := by omega
        have r1 := fun b : BW wr => BW.cell c0 hga b
        have r2 := fun b : BW wr => BW.cell c1 hga b
        have r3 := fun b : BW wr => BW.cell j0 zj b
        have r4 := fun b : BW wr => BW.cell j1 zj b
        have r5 := fun b : BW wr => BW.cell p0 zp b
        have r6 := fun b : BW wr => BW.cell p1 zp b
        have KH := Lib.hid (show ∀ b : BW wr, Calls Try.prog 15 #[.agg #[.slice A d.n c, .slice K d.m kc], .agg #[.int .i64 (d.S k j), .int .i64 (d.Q k j)], .agg #[.int .i64 t, .int .i64 (d.g t)]] b.W fun e w'' => e = .returned (.tuple #[.bool (d.E.reachB (d.E.K k j) t), .int .i64 0]) ∧ ∃ p' : BW wr, w'' = p'.W from fun b => BW.call (fun W' (h : Below wr.heap.size wr W') => (rch_any d ⟨A, c, K, kc, KA, KC⟩ Sm.out (d.S k j) (d.Q k j) t (d.g t) W' (OK.out.below (B6.out.trans (h.mono zb)))).mono (fun e w' h' => ⟨h'.1.trans (by rw [(KR.out j hjl).1, (KR.out j hjl).2]), h'.2⟩)) b)
        have OV := Lib.hid (show overB d k t (j + 1) = (overB d k t j || d.E.reachB (d.E.K k j) t) from rfl)
        generalize d.E.reachB (d.E.K k j) t = rb at *
        generalize overB d k t j = ob at *
        clear hca
        go_wp2_with fail
        clear c0 c1 p0 p1 h0 h1 j0 j1
        refine wp_region_quiet_bw (by kernel_rfl) (by kernel_rfl) ?_
        repeat (go_big_quiet_step ((go_at_call 15; with_reducible exact KH.out _)))
        refine wpQuiet_nil ?_
        intro _ hw'
        obtain ⟨pq, hw''⟩ := hw'
        subst hw''
        clear r1 r2 r3 r4 r5 r6 KH
        have P7 := Lib.hid (P6.out.below pq.h)
        have H7 := Lib.hid (H6.out.below pq.h)
        have J7 := Lib.hid (J6.out.below pq.h)
        have R17 := Lib.hid (R16.out.below pq.h)
        have R27 := Lib.hid (R26.out.below pq.h)
        have B7 := Lib.hid (B6.out.trans (pq.h.mono B6.out.size))
        cases ob
        all_goals
          cases rb
          all_goals
            go_wp2
            go_roundw
            case rel => exact ⟨j + 1, by omega, by go_num, by rw [OV.out]; rfl, P7.out, H7.out, J7.out, R17.out, R27.out, B7.out⟩
            case measure => simp [intOf]; omega
      · obtain rfl : j = d.L k := by omega
        obtain ⟨gk, ok, hA, hgk, hck⟩ := (OK.out.below B6.out).ks (by have := KM.out.2.2; omega)
        dsimp only at hA
        subst hA
        have k0 := hck k KM.out.2.2 0 (by omega)
        simp only [Nat.add_zero, Nat.mul_one, kv] at k0
        have i1 : (k : Int) < (d.m : Int) := by have := KM.out.2.2; omega
        have i0 : (0 : Int) ≤ (k : Int) := by omega
        have r1 := fun b : BW wr => BW.cell k0 hgk b
        have r2 := fun b : BW wr => BW.cell p1 zp b
        have r3 := fun b : BW wr => BW.cell h0 zh b
        have r4 := fun b : BW wr => BW.cell h1 zh b
        have r5 := fun b : BW wr => BW.cell j0 zj b
        have r6 := fun b : BW wr => BW.cell j1 zj b
        have KC1 := Lib.hid (fun b : BW wr => BW.call (fun W' (h : Below wr.heap.size wr W') => (count_any A1 (d.L k) c1 (d.S k) (d.Q k) t (d.g t) W' (R16.out.below h) (by omega)).mono (fun e w' h' => ⟨h'.1.trans (by rw [hcc]), h'.2⟩)) b)
        have KC2 := Lib.hid (fun b : BW wr => BW.call (fun W' (h : Below wr.heap.size wr W') => (count_any A2 M c2 (fun i => (((parL d t (d.g t) d.m).getD i 0 : Nat) : Int)) (fun i => d.g ((parL d t (d.g t) d.m).getD i 0)) k (d.g k) W' (R26.out.below h) PM.out).mono (fun e w' h' => ⟨h'.1.trans (by rw [BC2.out]), h'.2⟩)) b)
        have KS := Lib.hid (fun b : BW wr => BW.call (fun W' (h : Below wr.heap.size wr W') => sh_same A1 (KA k) (d.L k) c1 (KC k) (d.S k) (d.Q k) W' (R16.out.below h) (OKK.out.below (B6.out.trans (h.mono zb))) (by omega)) b)
        generalize overB d k t (d.L k) = ob at *
        clear hck
        go_upto_region 17 with fail
        clear p0 p1 h0 h1 j0 j1 k0
        refine wp_region_quiet_bw (by kernel_rfl) (by kernel_rfl) ?_
        repeat (go_big_quiet_step ((first | (go_at_call 20; with_reducible exact KC1.out _) | (go_at_call 20; with_reducible exact KC2.out _) | (go_at_call 17; with_reducible exact KS.out _))))
        refine wpQuiet_nil ?_
        intro _ hw'
        obtain ⟨pq, hw''⟩ := hw'
        subst hw''
        clear r1 r2 r3 r4 r5 r6
        go_wp2
        go_ret
        exact ⟨rfl, B6.out.trans (pq.h.mono B6.out.size)⟩

theorem nodesBoth_arg (v0 v1 v2 : Value) (w : World) (h0 : Arg Try.prog w 27 v0) (s0 : RdS Try.prog w 27 v0.cells.toList) (h1 : Arg Try.prog w 29 v1) (s1 : RdS Try.prog w 29 v1.cells.toList) (h2 : Arg Try.prog w 29 v2) (s2 : RdS Try.prog w 29 v2.cells.toList) : Calls Try.prog 4 #[v0, v1, v2] w fun e w' => e = .returned (.bool true) ∧ Below w.heap.size w w' := by
  obtain ⟨p, d, rfl, hrc, hok⟩ := arg_graph h0 s0
  obtain ⟨s, q, rfl⟩ := arg_hdl h1
  obtain ⟨s', q', rfl⟩ := arg_hdl h2
  exact nodesBoth_walk d p hrc s q s' q' w hok
end Go.Proofs.Ytgkeiaggldahnaa
