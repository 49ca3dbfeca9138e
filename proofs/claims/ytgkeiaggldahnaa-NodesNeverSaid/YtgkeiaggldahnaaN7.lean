/- nodes: the reference's asked, Kids, Reaches. -/
import Derived.Test.YtgkeiaggldahnaaN6
namespace Go.Proofs.Ytgkeiaggldahnaa
open Go.RowKit
set_option linter.unusedVariables false

set_option maxRecDepth 100000 in
set_option maxHeartbeats 4000000 in
theorem refasked_any (d : GD) (p : GP) (hsm : d.Sm) (s q s' q' : Int) (w : World) (hok : GOk w p d) :
    Calls Try.prog 39 #[.agg #[.slice p.A d.n p.c, .slice p.K d.m p.kc], hval s q, hval s' q'] w fun e w' => e = .returned (.int .i64 (askv d (HeldA d.n d.g d.b s q ∧ HeldA d.n d.g d.b s' q'))) ∧ Below w.heap.size w w' := by
  obtain ⟨A, c, K, kc, KA, KC⟩ := p
  dsimp only
  have b3 : Below w.heap.size w (((w.alloc (.cells #[.slice A d.n c, .slice K d.m kc] 27)).alloc (.cells #[.int .i64 s, .int .i64 q] 29)).alloc (.cells #[.int .i64 s', .int .i64 q'] 29)) := by
    repeat' (first | exact Below.refl _ _ | assumption | apply Below.drew | refine Below.setCell ?_ (by first | omega | (simp; done) | (simp; omega)) _ | refine Below.alloc ?_ (by first | omega | (simp; done) | (simp; omega)) _)
  have hP : HasBlk (((w.alloc (.cells #[.slice A d.n c, .slice K d.m kc] 27)).alloc (.cells #[.int .i64 s, .int .i64 q] 29)).alloc (.cells #[.int .i64 s', .int .i64 q'] 29)) w.heap.size 27 #[.slice A d.n c, .slice K d.m kc] := ((hasBlk_new w 27 #[.slice A d.n c, .slice K d.m kc]).alloc _).alloc _
  have hH : HasBlk (((w.alloc (.cells #[.slice A d.n c, .slice K d.m kc] 27)).alloc (.cells #[.int .i64 s, .int .i64 q] 29)).alloc (.cells #[.int .i64 s', .int .i64 q'] 29)) (w.heap.size + 1) 29 #[.int .i64 s, .int .i64 q] := by
    have h := (hasBlk_new (w.alloc (.cells #[.slice A d.n c, .slice K d.m kc] 27)) 29 #[.int .i64 s, .int .i64 q]).alloc (.cells #[.int .i64 s', .int .i64 q'] 29)
    simpa using h
  have hJ : HasBlk (((w.alloc (.cells #[.slice A d.n c, .slice K d.m kc] 27)).alloc (.cells #[.int .i64 s, .int .i64 q] 29)).alloc (.cells #[.int .i64 s', .int .i64 q'] 29)) (w.heap.size + 1 + 1) 29 #[.int .i64 s', .int .i64 q'] := by
    have h := hasBlk_new ((w.alloc (.cells #[.slice A d.n c, .slice K d.m kc] 27)).alloc (.cells #[.int .i64 s, .int .i64 q] 29)) 29 #[.int .i64 s', .int .i64 q']
    simpa using h
  have hc := refmayg_any d _ hsm _ (hok.below b3)
  have OK := Lib.hid hok
  have B3 := Lib.hid b3
  have P := Lib.hid hP
  have H := Lib.hid hH
  have J := Lib.hid hJ
  clear hsm hok b3 hP hH hJ
  by_cases hmay : d.May
  rotate_left
  · rw [mayB_no hmay] at hc
    rw [askv_bad hmay]
    have HC := Lib.hid hc
    clear hc hmay P H J
    go_enter Try.func39, Try.ntmps39
    go_wp2_with fail
    refine HC.out.mono ?_
    rintro e w1 ⟨rfl, bel⟩
    have B4 := Lib.hid (B3.out.trans (bel.mono B3.out.size))
    clear bel
    go_wp2
    go_ret
    exact ⟨rfl, B4.out⟩
  rw [mayB_yes hmay] at hc
  have HC := Lib.hid hc
  have h1 := fun W (hb : Below w.heap.size w W) => refheld_dec d _ s q W hmay.1 (OK.out.below hb)
  have h2 := fun W (hb : Below w.heap.size w W) => refheld_dec d _ s' q' W hmay.1 (OK.out.below hb)
  have HM := Lib.hid hmay
  clear hc hmay
  by_cases hh1 : HeldA d.n d.g d.b s q
  rotate_left
  · rw [askv_no HM.out (fun h => hh1 h.1)]
    simp only [decide_eq_false hh1] at h1
    have K1 := Lib.hid h1
    clear h1 h2 hh1
    go_enter Try.func39, Try.ntmps39
    go_wp2_with fail
    refine HC.out.mono ?_
    rintro e w1 ⟨rfl, bel⟩
    have B4 := Lib.hid (B3.out.trans (bel.mono B3.out.size))
    have P4 := Lib.hid (P.out.below bel)
    clear P
    have H4 := Lib.hid (H.out.below bel)
    clear H
    have J4 := Lib.hid (J.out.below bel)
    clear J
    have zp4 := P4.out.lt
    have p40 := P4.out.cell 0
    have p41 := P4.out.cell 1
    have zh4 := H4.out.lt
    have h40 := H4.out.cell 0
    have h41 := H4.out.cell 1
    have zj4 := J4.out.lt
    have j40 := J4.out.cell 0
    have j41 := J4.out.cell 1
    simp at p40 p41 h40 h41 j40 j41
    clear bel
    have K2 := Lib.hid (K1.out w1 B4.out)
    go_wp2_with fail
    refine K2.out.mono ?_
    rintro e w2 ⟨rfl, bel⟩
    have B5 := Lib.hid (B4.out.trans (bel.mono B4.out.size))
    clear bel
    go_wp2
    go_ret
    exact ⟨rfl, B5.out⟩
  simp only [decide_eq_true hh1] at h1
  have K1 := Lib.hid h1
  have hv : askv d (HeldA d.n d.g d.b s q ∧ HeldA d.n d.g d.b s' q') = if HeldA d.n d.g d.b s' q' then 0 else 50 := by
    by_cases hh2 : HeldA d.n d.g d.b s' q'
    · rw [askv_ok HM.out ⟨hh1, hh2⟩, if_pos hh2]
    · rw [askv_no HM.out (fun h => hh2 h.2), if_neg hh2]
  rw [hv]
  clear h1 hh1 hv
  by_cases hh2 : HeldA d.n d.g d.b s' q'
  · rw [if_pos hh2]
    simp only [decide_eq_true hh2] at h2
    have K3 := Lib.hid h2
    clear h2 hh2
    go_enter Try.func39, Try.ntmps39
    go_wp2_with fail
    refine HC.out.mono ?_
    rintro e w1 ⟨rfl, bel⟩
    have B4 := Lib.hid (B3.out.trans (bel.mono B3.out.size))
    have P4 := Lib.hid (P.out.below bel)
    clear P
    have H4 := Lib.hid (H.out.below bel)
    clear H
    have J4 := Lib.hid (J.out.below bel)
    clear J
    have zp4 := P4.out.lt
    have p40 := P4.out.cell 0
    have p41 := P4.out.cell 1
    have zh4 := H4.out.lt
    have h40 := H4.out.cell 0
    have h41 := H4.out.cell 1
    have zj4 := J4.out.lt
    have j40 := J4.out.cell 0
    have j41 := J4.out.cell 1
    simp at p40 p41 h40 h41 j40 j41
    clear bel
    have K2 := Lib.hid (K1.out w1 B4.out)
    go_wp2_with fail
    refine K2.out.mono ?_
    rintro e w2 ⟨rfl, bel⟩
    have B5 := Lib.hid (B4.out.trans (bel.mono B4.out.size))
    clear zp4 zh4 zj4 p40 p41 h40 h41 j40 j41
    have P45 := Lib.hid (P4.out.below bel)
    clear P4
    have H45 := Lib.hid (H4.out.below bel)
    clear H4
    have J45 := Lib.hid (J4.out.below bel)
    clear J4
    have zp45 := P45.out.lt
    have p450 := P45.out.cell 0
    have p451 := P45.out.cell 1
    have zh45 := H45.out.lt
    have h450 := H45.out.cell 0
    have h451 := H45.out.cell 1
    have zj45 := J45.out.lt
    have j450 := J45.out.cell 0
    have j451 := J45.out.cell 1
    simp at p450 p451 h450 h451 j450 j451
    clear bel
    have K4 := Lib.hid (K3.out w2 B5.out)
    go_wp2_with fail
    refine K4.out.mono ?_
    rintro e w3 ⟨rfl, bel⟩
    have B6 := Lib.hid (B5.out.trans (bel.mono B5.out.size))
    clear bel
    go_wp2
    go_ret
    exact ⟨rfl, B6.out⟩
  · rw [if_neg hh2]
    simp only [decide_eq_false hh2] at h2
    have K3 := Lib.hid h2
    clear h2 hh2
    go_enter Try.func39, Try.ntmps39
    go_wp2_with fail
    refine HC.out.mono ?_
    rintro e w1 ⟨rfl, bel⟩
    have B4 := Lib.hid (B3.out.trans (bel.mono B3.out.size))
    have P4 := Lib.hid (P.out.below bel)
    clear P
    have H4 := Lib.hid (H.out.below bel)
    clear H
    have J4 := Lib.hid (J.out.below bel)
    clear J
    have zp4 := P4.out.lt
    have p40 := P4.out.cell 0
    have p41 := P4.out.cell 1
    have zh4 := H4.out.lt
    have h40 := H4.out.cell 0
    have h41 := H4.out.cell 1
    have zj4 := J4.out.lt
    have j40 := J4.out.cell 0
    have j41 := J4.out.cell 1
    simp at p40 p41 h40 h41 j40 j41
    clear bel
    have K2 := Lib.hid (K1.out w1 B4.out)
    go_wp2_with fail
    refine K2.out.mono ?_
    rintro e w2 ⟨rfl, bel⟩
    have B5 := Lib.hid (B4.out.trans (bel.mono B4.out.size))
    clear zp4 zh4 zj4 p40 p41 h40 h41 j40 j41
    have P45 := Lib.hid (P4.out.below bel)
    clear P4
    have H45 := Lib.hid (H4.out.below bel)
    clear H4
    have J45 := Lib.hid (J4.out.below bel)
    clear J4
    have zp45 := P45.out.lt
    have p450 := P45.out.cell 0
    have p451 := P45.out.cell 1
    have zh45 := H45.out.lt
    have h450 := H45.out.cell 0
    have h451 := H45.out.cell 1
    have zj45 := J45.out.lt
    have j450 := J45.out.cell 0
    have j451 := J45.out.cell 1
    simp at p450 p451 h450 h451 j450 j451
    clear bel
    have K4 := Lib.hid (K3.out w2 B5.out)
    go_wp2_with fail
    refine K4.out.mono ?_
    rintro e w3 ⟨rfl, bel⟩
    have B6 := Lib.hid (B5.out.trans (bel.mono B5.out.size))
    clear bel
    go_wp2
    go_ret
    exact ⟨rfl, B6.out⟩

theorem askv_twice (d : GD) (H : Prop) : askv d (H ∧ H) = askv d H := askv_congr ⟨fun h => h.1, fun h => ⟨h, h⟩⟩

set_option maxRecDepth 100000 in
set_option maxHeartbeats 4000000 in
theorem refrch_any (d : GD) (p : GP) (hsm : d.Sm) (s q s' q' : Int) (w : World) (hok : GOk w p d) :
    Calls Try.prog 16 #[.agg #[.slice p.A d.n p.c, .slice p.K d.m p.kc], hval s q, hval s' q'] w fun e w' => e = .returned (.tuple #[.bool (rchv d s q s' q'), .int .i64 (askv d (HeldA d.n d.g d.b s q ∧ HeldA d.n d.g d.b s' q'))]) ∧ Below w.heap.size w w' := by
  obtain ⟨A, c, K, kc, KA, KC⟩ := p
  dsimp only
  have b3 : Below w.heap.size w (((w.alloc (.cells #[.slice A d.n c, .slice K d.m kc] 27)).alloc (.cells #[.int .i64 s, .int .i64 q] 29)).alloc (.cells #[.int .i64 s', .int .i64 q'] 29)) := by
    repeat' (first | exact Below.refl _ _ | assumption | apply Below.drew | refine Below.setCell ?_ (by first | omega | (simp; done) | (simp; omega)) _ | refine Below.alloc ?_ (by first | omega | (simp; done) | (simp; omega)) _)
  have hP : HasBlk (((w.alloc (.cells #[.slice A d.n c, .slice K d.m kc] 27)).alloc (.cells #[.int .i64 s, .int .i64 q] 29)).alloc (.cells #[.int .i64 s', .int .i64 q'] 29)) w.heap.size 27 #[.slice A d.n c, .slice K d.m kc] := ((hasBlk_new w 27 #[.slice A d.n c, .slice K d.m kc]).alloc _).alloc _
  have hH : HasBlk (((w.alloc (.cells #[.slice A d.n c, .slice K d.m kc] 27)).alloc (.cells #[.int .i64 s, .int .i64 q] 29)).alloc (.cells #[.int .i64 s', .int .i64 q'] 29)) (w.heap.size + 1) 29 #[.int .i64 s, .int .i64 q] := by
    have h := (hasBlk_new (w.alloc (.cells #[.slice A d.n c, .slice K d.m kc] 27)) 29 #[.int .i64 s, .int .i64 q]).alloc (.cells #[.int .i64 s', .int .i64 q'] 29)
    simpa using h
  have hJ : HasBlk (((w.alloc (.cells #[.slice A d.n c, .slice K d.m kc] 27)).alloc (.cells #[.int .i64 s, .int .i64 q] 29)).alloc (.cells #[.int .i64 s', .int .i64 q'] 29)) (w.heap.size + 1 + 1) 29 #[.int .i64 s', .int .i64 q'] := by
    have h := hasBlk_new ((w.alloc (.cells #[.slice A d.n c, .slice K d.m kc] 27)).alloc (.cells #[.int .i64 s, .int .i64 q] 29)) 29 #[.int .i64 s', .int .i64 q']
    simpa using h
  have hc := refasked_any d _ hsm s q s' q' _ (hok.below b3)
  have OK := Lib.hid hok
  have Sm := Lib.hid hsm
  have B3 := Lib.hid b3
  have P := Lib.hid hP
  have H := Lib.hid hH
  have J := Lib.hid hJ
  have hrv : ∀ x, askv d (HeldA d.n d.g d.b s q ∧ HeldA d.n d.g d.b s' q') = x → rchv d s q s' q' = if x = 0 then d.E.reachB s.toNat s'.toNat else false := fun x hx => by unfold rchv; rw [hx]
  obtain ⟨x, hx⟩ : ∃ x, askv d (HeldA d.n d.g d.b s q ∧ HeldA d.n d.g d.b s' q') = x := ⟨_, rfl⟩
  rw [hx] at hc ⊢
  rw [hrv x hx]
  clear hsm hok b3 hP hH hJ hrv
  by_cases hx0 : x = 0
  rotate_left
  · rw [if_neg hx0]
    have x1 : (x == 0) = false := by simpa using hx0
    have x2 : (x != 0) = true := by simpa using hx0
    have HC := Lib.hid hc
    clear hx hx0 hc P H J
    go_enter Try.func16, Try.ntmps16
    go_wp2_with fail
    refine HC.out.mono ?_
    rintro e w1 ⟨rfl, bel⟩
    have B4 := Lib.hid (B3.out.trans (bel.mono B3.out.size))
    clear bel
    go_wp2
    go_ret2
    exact ⟨rfl, B4.out⟩
  subst hx0
  rw [if_pos rfl]
  obtain ⟨hmay, hheld, hheld'⟩ := askv_zero hx
  obtain ⟨i, rfl⟩ := Int.eq_ofNat_of_zero_le hheld.1
  obtain ⟨t, rfl⟩ := Int.eq_ofNat_of_zero_le hheld'.1
  have hi : i < d.n := by have := hheld.2.1; omega
  have ht : t < d.n := by have := hheld'.2.1; omega
  have htm : t < d.m := by rw [hmay.2.1]; exact ht
  simp only [Int.toNat_natCast]
  have HC := Lib.hid hc
  have hb := Lib.hid (fun W (hb : Below w.heap.size w W) => refbelow_any d _ hmay.kids Sm.out i W hi (OK.out.below hb))
  clear hc hx hheld hheld' hmay
  go_enter Try.func16, Try.ntmps16
  go_wp2_with fail
  refine HC.out.mono ?_
  rintro e w1 ⟨rfl, bel⟩
  have B4 := Lib.hid (B3.out.trans (bel.mono B3.out.size))
  have P4 := Lib.hid (P.out.below bel)
  clear P
  have H4 := Lib.hid (H.out.below bel)
  clear H
  have J4 := Lib.hid (J.out.below bel)
  clear J
  have zp4 := P4.out.lt
  have p40 := P4.out.cell 0
  have p41 := P4.out.cell 1
  have zh4 := H4.out.lt
  have h40 := H4.out.cell 0
  have h41 := H4.out.cell 1
  have zj4 := J4.out.lt
  have j40 := J4.out.cell 0
  have j41 := J4.out.cell 1
  simp at p40 p41 h40 h41 j40 j41
  clear bel
  have K2 := Lib.hid (hb.out w1 B4.out)
  clear hb
  go_wp2_with fail
  refine K2.out.mono ?_
  rintro e w2 ⟨⟨X, qq, rfl, hX, hBX, hq⟩, bel⟩
  have B5 := Lib.hid (B4.out.trans (bel.mono B4.out.size))
  clear zp4 zh4 zj4 p40 p41 h40 h41 j40 j41
  have P45 := Lib.hid (P4.out.below bel)
  clear P4
  have H45 := Lib.hid (H4.out.below bel)
  clear H4
  have J45 := Lib.hid (J4.out.below bel)
  clear J4
  have zp45 := P45.out.lt
  have p450 := P45.out.cell 0
  have p451 := P45.out.cell 1
  have zh45 := H45.out.lt
  have h450 := H45.out.cell 0
  have h451 := H45.out.cell 1
  have zj45 := J45.out.lt
  have j450 := J45.out.cell 0
  have j451 := J45.out.cell 1
  simp at p450 p451 h450 h451 j450 j451
  have x0 := hX.cell t
  rw [bls_at htm, hq t ht] at x0
  have zx := hX.lt
  have i1 : (t : Int) < (d.m : Int) := by omega
  have i0 : (0 : Int) ≤ (t : Int) := by omega
  clear bel hX hq hBX
  go_wp2
  go_ret2
  exact ⟨rfl, B5.out⟩

/-- A list of handles that may be read, and an error. -/
def HrR (n : Nat) (S Q : Nat → Int) (x : Int) (e : Ending) (w' : World) : Prop := ∃ A' c', e = .returned (.tuple #[.slice A' n c', .int .i64 x]) ∧ Row w' A' n 2 (hv S Q)

set_option maxRecDepth 100000 in
set_option maxHeartbeats 4000000 in
theorem refkids_any (d : GD) (p : GP) (hsm : d.Sm) (s q : Int) (w : World) (hok : GOk w p d) :
    Calls Try.prog 12 #[.agg #[.slice p.A d.n p.c, .slice p.K d.m p.kc], hval s q] w fun e w' => HrR (kidN d s q) (d.S s.toNat) (d.Q s.toNat) (askv d (HeldA d.n d.g d.b s q)) e w' ∧ Below w.heap.size w w' := by
  obtain ⟨A, c, K, kc, KA, KC⟩ := p
  dsimp only
  have b2 : Below w.heap.size w ((w.alloc (.cells #[.slice A d.n c, .slice K d.m kc] 27)).alloc (.cells #[.int .i64 s, .int .i64 q] 29)) := by
    repeat' (first | exact Below.refl _ _ | assumption | apply Below.drew | refine Below.setCell ?_ (by first | omega | (simp; done) | (simp; omega)) _ | refine Below.alloc ?_ (by first | omega | (simp; done) | (simp; omega)) _)
  have hP : HasBlk ((w.alloc (.cells #[.slice A d.n c, .slice K d.m kc] 27)).alloc (.cells #[.int .i64 s, .int .i64 q] 29)) w.heap.size 27 #[.slice A d.n c, .slice K d.m kc] := (hasBlk_new w 27 #[.slice A d.n c, .slice K d.m kc]).alloc _
  have hH : HasBlk ((w.alloc (.cells #[.slice A d.n c, .slice K d.m kc] 27)).alloc (.cells #[.int .i64 s, .int .i64 q] 29)) (w.heap.size + 1) 29 #[.int .i64 s, .int .i64 q] := by
    have h := hasBlk_new (w.alloc (.cells #[.slice A d.n c, .slice K d.m kc] 27)) 29 #[.int .i64 s, .int .i64 q]
    simpa using h
  have hc := refasked_any d _ hsm s q s q _ (hok.below b2)
  rw [askv_twice] at hc
  have B2 := Lib.hid b2
  have P := Lib.hid hP
  have H := Lib.hid hH
  clear hsm b2 hP hH
  have hkn : ∀ x, askv d (HeldA d.n d.g d.b s q) = x → kidN d s q = if x = 0 then d.L s.toNat else 0 := fun x hx => by unfold kidN; rw [hx]
  obtain ⟨x, hx⟩ : ∃ x, askv d (HeldA d.n d.g d.b s q) = x := ⟨_, rfl⟩
  rw [hx] at hc ⊢
  rw [hkn x hx]
  clear hkn
  by_cases hx0 : x = 0
  rotate_left
  · rw [if_neg hx0]
    have x1 : (x == 0) = false := by simpa using hx0
    have x2 : (x != 0) = true := by simpa using hx0
    have HC := Lib.hid hc
    clear hx hx0 hc hok P H
    go_enter Try.func12, Try.ntmps12
    go_wp2_with fail
    refine HC.out.mono ?_
    rintro e w1 ⟨rfl, bel⟩
    have B3 := Lib.hid (B2.out.trans (bel.mono B2.out.size))
    clear bel
    go_wp2
    go_ret2
    exact ⟨⟨none, 0, rfl, Row.zero _ _ _ _⟩, B3.out⟩
  subst hx0
  rw [if_pos rfl]
  obtain ⟨hmay, hheld⟩ := askv_zero hx
  obtain ⟨k, rfl⟩ := Int.eq_ofNat_of_zero_le hheld.1
  simp only [Int.toNat_natCast]
  have hkn : k < d.n := by have := hheld.2.1; omega
  have hkm : k < d.m := by rw [hmay.2.1]; exact hkn
  obtain ⟨gk, ok, hA, hgk, hck⟩ := hok.ks (by omega)
  dsimp only at hA
  subst hA
  have k0 := Lib.hid (hck k hkm 0 (by omega))
  have HC := Lib.hid hc
  have i1 : (k : Int) < (d.m : Int) := by omega
  have i0 : (0 : Int) ≤ (k : Int) := by omega
  have hrow := Lib.hid (hok.kd k hkm)
  clear hck hok hc hx hheld hmay
  go_enter Try.func12, Try.ntmps12
  go_wp2_with fail
  refine HC.out.mono ?_
  rintro e w1 ⟨rfl, bel⟩
  have B3 := Lib.hid (B2.out.trans (bel.mono B2.out.size))
  have P4 := Lib.hid (P.out.below bel)
  clear P
  have H4 := Lib.hid (H.out.below bel)
  clear H
  have zp4 := P4.out.lt
  have p40 := P4.out.cell 0
  have p41 := P4.out.cell 1
  have zh4 := H4.out.lt
  have h40 := H4.out.cell 0
  have h41 := H4.out.cell 1
  simp at p40 p41 h40 h41
  have c0 := (B3.out.cell (p := ⟨gk, ok + k * 1 + 0, none⟩) hgk).trans k0.out
  simp only [Nat.add_zero, Nat.mul_one, kv] at c0
  clear bel
  go_wp2
  go_ret2
  exact ⟨⟨_, _, rfl, hrow.out.below B3.out⟩, B3.out⟩
end Go.Proofs.Ytgkeiaggldahnaa
