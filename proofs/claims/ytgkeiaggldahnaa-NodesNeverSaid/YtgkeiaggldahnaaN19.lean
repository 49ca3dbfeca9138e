/- nodes: Unlink. -/
import Derived.Test.YtgkeiaggldahnaaN18
namespace Go.Proofs.Ytgkeiaggldahnaa
open Go.RowKit
set_option linter.unusedVariables false
/-- A graph with one child less. -/
def GD.unlink (d : GD) (s k : Nat) : GD := ⟨d.n, d.g, d.b, d.m, upd d.L s (d.L s - 1), fun i => if i = s then delF (d.S s) k else d.S i, fun i => if i = s then delF (d.Q s) k else d.Q i⟩
open Classical in
/-- The error of Unlink. -/
noncomputable def unlinkE (d : GD) (s q at' : Int) : Int := if askv d (HeldA d.n d.g d.b s q) = 0 then (if at' < 0 ∨ (d.L s.toNat : Int) ≤ at' then 2 else 0) else askv d (HeldA d.n d.g d.b s q)
/-- What Unlink answers. -/
def UnlinkR (d : GD) (s q at' : Int) (B : Nat) (e : Ending) (w' : World) : Prop :=
  (unlinkE d s q at' ≠ 0 ∧ e = .returned (.tuple #[.agg #[.slice none 0 0, .slice none 0 0], .int .i64 (unlinkE d s q at')])) ∨
  (unlinkE d s q at' = 0 ∧ ∃ p : GP, e = .returned (.tuple #[.agg #[.slice p.A d.n p.c, .slice p.K d.m p.kc], .int .i64 0]) ∧ GOwn B w' p (d.unlink s.toNat at'.toNat))
set_option maxRecDepth 100000 in
set_option maxHeartbeats 8000000 in
theorem unlinkg_any (d : GD) (p : GP) (hsm : d.Sm) (s q at' : Int) (w : World) (hok : GOk w p d) :
    Calls Try.prog 23 #[.agg #[.slice p.A d.n p.c, .slice p.K d.m p.kc], hval s q, .int .i64 at'] w fun e w' => UnlinkR d s q at' w.heap.size e w' ∧ Below w.heap.size w w' := by
  obtain ⟨A, c, K, kc, KA, KC⟩ := p
  dsimp only
  have b2 : Below w.heap.size w ((((w.alloc (.cells #[.slice A d.n c, .slice K d.m kc] 27)).alloc (.cells #[.int .i64 s, .int .i64 q] 29)).alloc (.cells #[.slice none 0 0, .slice none 0 0] 27)).alloc (.cells #[.int .i64 s, .int .i64 q] 29)) := by
    repeat' (first | exact Below.refl _ _ | assumption | apply Below.drew | refine Below.setCell ?_ (by first | omega | (simp; done) | (simp; omega)) _ | refine Below.alloc ?_ (by first | omega | (simp; done) | (simp; omega)) _)
  have OK := Lib.hid hok
  have Sm := Lib.hid hsm
  have B2 := Lib.hid b2
  have P0 := Lib.hid (show HasBlk ((((w.alloc (.cells #[.slice A d.n c, .slice K d.m kc] 27)).alloc (.cells #[.int .i64 s, .int .i64 q] 29)).alloc (.cells #[.slice none 0 0, .slice none 0 0] 27)).alloc (.cells #[.int .i64 s, .int .i64 q] 29)) (w.heap.size) 27 #[.slice A d.n c, .slice K d.m kc] by simpa using ((((hasBlk_new w 27 #[.slice A d.n c, .slice K d.m kc]).alloc (.cells #[.int .i64 s, .int .i64 q] 29)).alloc (.cells #[.slice none 0 0, .slice none 0 0] 27)).alloc (.cells #[.int .i64 s, .int .i64 q] 29)))
  have H0 := Lib.hid (show HasBlk ((((w.alloc (.cells #[.slice A d.n c, .slice K d.m kc] 27)).alloc (.cells #[.int .i64 s, .int .i64 q] 29)).alloc (.cells #[.slice none 0 0, .slice none 0 0] 27)).alloc (.cells #[.int .i64 s, .int .i64 q] 29)) (w.heap.size + 1) 29 #[.int .i64 s, .int .i64 q] by simpa using (((hasBlk_new (w.alloc (.cells #[.slice A d.n c, .slice K d.m kc] 27)) 29 #[.int .i64 s, .int .i64 q]).alloc (.cells #[.slice none 0 0, .slice none 0 0] 27)).alloc (.cells #[.int .i64 s, .int .i64 q] 29)))
  have R0 := Lib.hid (show HasBlk ((((w.alloc (.cells #[.slice A d.n c, .slice K d.m kc] 27)).alloc (.cells #[.int .i64 s, .int .i64 q] 29)).alloc (.cells #[.slice none 0 0, .slice none 0 0] 27)).alloc (.cells #[.int .i64 s, .int .i64 q] 29)) (w.heap.size + 1 + 1) 27 #[.slice none 0 0, .slice none 0 0] by simpa using ((hasBlk_new ((w.alloc (.cells #[.slice A d.n c, .slice K d.m kc] 27)).alloc (.cells #[.int .i64 s, .int .i64 q] 29)) 27 #[.slice none 0 0, .slice none 0 0]).alloc (.cells #[.int .i64 s, .int .i64 q] 29)))
  have hL : HasBlk ((((w.alloc (.cells #[.slice A d.n c, .slice K d.m kc] 27)).alloc (.cells #[.int .i64 s, .int .i64 q] 29)).alloc (.cells #[.slice none 0 0, .slice none 0 0] 27)).alloc (.cells #[.int .i64 s, .int .i64 q] 29)) (w.heap.size + 1 + 1 + 1) 29 #[.int .i64 s, .int .i64 q] := by
    simpa using hasBlk_new (((w.alloc (.cells #[.slice A d.n c, .slice K d.m kc] 27)).alloc (.cells #[.int .i64 s, .int .i64 q] 29)).alloc (.cells #[.slice none 0 0, .slice none 0 0] 27)) 29 #[.int .i64 s, .int .i64 q]
  have hc := asked_any d _ hsm _ 1 1 _ _ _ (hok.below b2) (row_one hL) (by omega)
  rw [askv_congr one_iff] at hc
  have hlv : ∀ x, askv d (HeldA d.n d.g d.b s q) = x → unlinkE d s q at' = if x = 0 then (if at' < 0 ∨ (d.L s.toNat : Int) ≤ at' then 2 else 0) else x := fun x hx => by unfold unlinkE; rw [hx]
  obtain ⟨x, hx⟩ : ∃ x, askv d (HeldA d.n d.g d.b s q) = x := ⟨_, rfl⟩
  rw [hx] at hc
  replace hlv := hlv x hx
  clear b2 hL hsm
  by_cases hx0 : x = 0
  rotate_left
  · rw [if_neg hx0] at hlv
    have x1 : (x == 0) = false := by simpa using hx0
    have x2 : (x != 0) = true := by simpa using hx0
    have HC := Lib.hid hc
    have LV := Lib.hid hlv
    have X0 := Lib.hid hx0
    clear hx hx0 hc hok hlv
    go_enter Try.func23, Try.ntmps23
    go_wp2_with fail
    refine HC.out.mono ?_
    rintro e w1 ⟨rfl, bel⟩
    have B3 := Lib.hid (B2.out.trans (bel.mono B2.out.size))
    have R1 := Lib.hid (R0.out.below bel)
    clear bel
    have r0 := R1.out.cell 0
    have r1 := R1.out.cell 1
    have rf0 := R1.out.frozen 0
    have rf1 := R1.out.frozen 1
    have zr := R1.out.lt
    simp at r0 r1
    go_wp2
    refine bodyPost_ret (v := .tuple #[.agg #[.slice none 0 0, .slice none 0 0], .int .i64 x]) (by simp [results, Try.results23, go_sem, *]) rfl ⟨.inl ⟨?_, ?_⟩, ?_⟩
    · rw [LV.out]; exact X0.out
    · rw [LV.out]
    · have bb := B3.out
      exact Below.setCell (Below.setCell bb (by first | omega | (simp; done) | (simp; omega)) _) (by first | omega | (simp; done) | (simp; omega)) _
  subst hx0
  rw [if_pos rfl] at hlv
  obtain ⟨hmay, hheld⟩ := askv_zero hx
  obtain ⟨k, rfl⟩ := Int.eq_ofNat_of_zero_le hheld.1
  have hq1 := hheld.2.2.1
  have hi : k < d.n := by have := hheld.2.1; omega
  simp only [Int.toNat_natCast] at hq1 hlv
  subst hq1
  have hkm : k < d.m := by rw [hmay.2.1]; exact hi
  have LV := Lib.hid hlv
  have HC := Lib.hid hc
  have htw := Lib.hid (fun W (hb : Below w.heap.size w W) => twing_any d _ Sm.out W (hok.below hb))
  obtain ⟨gk, ok, hA, hgk, hck⟩ := hok.ks (by omega)
  dsimp only at hA
  subst hA
  have k0 := Lib.hid (hck k hkm 0 (by omega))
  have hlk := Sm.out.L k hkm
  have i1 : (k : Int) < (d.m : Int) := by omega
  have i0 : (0 : Int) ≤ (k : Int) := by omega
  have KI := Lib.hid (And.intro hi hkm)
  clear hlv hc hok hx hheld hmay hck hi
  go_enter Try.func23, Try.ntmps23
  go_wp2_with fail
  refine HC.out.mono ?_
  rintro e w1 ⟨rfl, bel⟩
  have B3 := Lib.hid (B2.out.trans (bel.mono B2.out.size))
  have P1 := Lib.hid (P0.out.below bel)
  have H1 := Lib.hid (H0.out.below bel)
  have R1 := Lib.hid (R0.out.below bel)
  clear bel P0 H0 R0 HC B2
  have p0 := P1.out.cell 0
  have p1 := P1.out.cell 1
  have h0 := H1.out.cell 0
  have h1 := H1.out.cell 1
  have r0 := R1.out.cell 0
  have r1 := R1.out.cell 1
  have rf0 := R1.out.frozen 0
  have rf1 := R1.out.frozen 1
  have zp := P1.out.lt
  have zh := H1.out.lt
  have zr := R1.out.lt
  simp at p0 p1 h0 h1 r0 r1
  have c0 := (B3.out.cell (p := ⟨gk, ok + k * 1 + 0, none⟩) hgk).trans k0.out
  simp only [Nat.add_zero, Nat.mul_one, kv] at c0
  by_cases ha1 : at' < 0
  · have a1 : decide (at' < 0) = true := decide_eq_true ha1
    rw [if_pos (.inl ha1)] at LV
    clear ha1
    go_wp2
    refine bodyPost_ret (v := .tuple #[.agg #[.slice none 0 0, .slice none 0 0], .int .i64 2]) (by simp [results, Try.results23, go_sem, *]) rfl ⟨.inl ⟨?_, ?_⟩, ?_⟩
    · rw [LV.out]; decide
    · rw [LV.out]
    · have bb := B3.out
      exact Below.setCell (Below.setCell bb (by first | omega | (simp; done) | (simp; omega)) _) (by first | omega | (simp; done) | (simp; omega)) _
  have a1 : decide (at' < 0) = false := decide_eq_false ha1
  by_cases ha2 : (d.L k : Int) ≤ at'
  · have a2 : decide ((d.L k : Int) ≤ at') = true := decide_eq_true ha2
    rw [if_pos (.inr ha2)] at LV
    clear ha1 ha2
    go_wp2
    refine bodyPost_ret (v := .tuple #[.agg #[.slice none 0 0, .slice none 0 0], .int .i64 2]) (by simp [results, Try.results23, go_sem, *]) rfl ⟨.inl ⟨?_, ?_⟩, ?_⟩
    · rw [LV.out]; decide
    · rw [LV.out]
    · have bb := B3.out
      exact Below.setCell (Below.setCell bb (by first | omega | (simp; done) | (simp; omega)) _) (by first | omega | (simp; done) | (simp; omega)) _
  rw [if_neg (by omega)] at LV
  obtain ⟨a, rfl⟩ := Int.eq_ofNat_of_zero_le (show 0 ≤ at' by omega)
  have hal : a < d.L k := by omega
  have ALt := Lib.hid hal
  have a2n : decide (d.L k ≤ a) = false := decide_eq_false (by omega)
  have a2m : ¬ d.L k ≤ a := by omega
  have a2 : decide ((d.L k : Int) ≤ (a : Int)) = false := decide_eq_false (by omega)
  clear hal ha1 ha2
  have KX := Lib.hid (htw.out w1 B3.out)
  clear htw
  go_wp2_with fail
  refine KX.out.mono ?_
  rintro e w3 ⟨⟨v, rfl, po, rfl, ho⟩, bel⟩
  have B5 := Lib.hid (B3.out.trans (bel.mono B3.out.size))
  clear p0 p1 h0 h1 r0 r1 rf0 rf1 zp zh zr
  have P3 := Lib.hid (P1.out.below bel)
  have H3 := Lib.hid (H1.out.below bel)
  have R3 := Lib.hid (R1.out.below bel)
  have GO := Lib.hid ho
  have zb4 : w.heap.size + 1 + 1 + 1 ≤ w1.heap.size := by have := R1.out.lt; omega
  clear bel P1 H1 R1 KX B3 ho c0 a1 a2 a2n a2m
  obtain ⟨tA, tc, tK, tkc, KA', KC'⟩ := po
  dsimp only
  have p0 := P3.out.cell 0
  have p1 := P3.out.cell 1
  have pf0 := P3.out.frozen 0
  have pf1 := P3.out.frozen 1
  have zp := P3.out.lt
  simp at p0 p1
  go_upto_region 7 with fail
  have P4 := Lib.hid (show HasBlk ((w3.setCell ⟨w.heap.size, 0, none⟩ (.slice tA d.n tc)).setCell ⟨w.heap.size, 1, none⟩ (.slice tK d.m tkc)) w.heap.size 27 #[.slice tA d.n tc, .slice tK d.m tkc] by simpa using (P3.out.set 0 (.slice tA d.n tc)).set 1 (.slice tK d.m tkc))
  have H4 := Lib.hid (show HasBlk ((w3.setCell ⟨w.heap.size, 0, none⟩ (.slice tA d.n tc)).setCell ⟨w.heap.size, 1, none⟩ (.slice tK d.m tkc)) _ _ _ from (H3.out.far (by simp) _).far (by simp) _)
  have R4 := Lib.hid (show HasBlk ((w3.setCell ⟨w.heap.size, 0, none⟩ (.slice tA d.n tc)).setCell ⟨w.heap.size, 1, none⟩ (.slice tK d.m tkc)) _ _ _ from (R3.out.far (by simp; omega) _).far (by simp; omega) _)
  have GO4 := Lib.hid (show GOwn (w.heap.size + 1 + 1 + 1) ((w3.setCell ⟨w.heap.size, 0, none⟩ (.slice tA d.n tc)).setCell ⟨w.heap.size, 1, none⟩ (.slice tK d.m tkc)) ⟨tA, tc, tK, tkc, KA', KC'⟩ d from ((GO.out.base zb4).lset (by omega) _).lset (by omega) _)
  have B6 := Lib.hid (show Below w.heap.size w ((w3.setCell ⟨w.heap.size, 0, none⟩ (.slice tA d.n tc)).setCell ⟨w.heap.size, 1, none⟩ (.slice tK d.m tkc)) from Below.setCell (Below.setCell B5.out (by simp) _) (by simp) _)
  have z5 : w.heap.size + 1 + 1 + 1 ≤ (((w3.setCell ⟨w.heap.size, 0, none⟩ (.slice tA d.n tc)).setCell ⟨w.heap.size, 1, none⟩ (.slice tK d.m tkc))).heap.size := by have := B5.out.size; have := R3.out.lt; simp; omega
  clear p0 p1 pf0 pf1 zp P3 H3 R3 GO B5 zb4
  generalize ((w3.setCell ⟨w.heap.size, 0, none⟩ (.slice tA d.n tc)).setCell ⟨w.heap.size, 1, none⟩ (.slice tK d.m tkc)) = v5 at *
  obtain ⟨gK, hK, hgB, hgl, hgf⟩ := own_some GO4.out.ks (show 0 < d.m by have := KI.out.2; omega)
  dsimp only at hK
  subst hK
  have hcK : v5.cell? ⟨gK, k, none⟩ = some (.slice (KA' k) (d.L k) (KC' k)) := by
    obtain ⟨g', o', hA', _, hc'⟩ := GO4.out.ok.ks (show 0 < d.m by have := KI.out.2; omega)
    cases hA'
    simpa [kv] using hc' k KI.out.2 0 (by omega)
  have gw : IntKind.i64.wrap ((a : Int) + 1) = (a : Int) + 1 := IntWalk.i64_in _ (by have := ALt.out; omega)
  have HS := Lib.hid (show HasBlk v5 w.heap.size 27 #[.slice tA d.n tc, .slice (some ⟨gK, 0, none⟩) d.m tkc] ∧ HasBlk v5 (w.heap.size + 1) 29 #[.int .i64 k, .int .i64 (d.g k)] ∧ v5.cell? ⟨gK, k, none⟩ = some (.slice (KA' k) (d.L k) (KC' k)) from ⟨P4.out, H4.out, hcK⟩)
  have hkS := Lib.hid hcK
  clear hcK
  refine wp_region_E (fun W => HasBlk W w.heap.size 27 #[.slice tA d.n tc, .slice (some ⟨gK, 0, none⟩) d.m tkc] ∧ HasBlk W (w.heap.size + 1) 29 #[.int .i64 k, .int .i64 (d.g k)] ∧ W.cell? ⟨gK, k, none⟩ = some (.slice (KA' k) (d.L k) (KC' k))) 15 (by kernel_rfl) ?_
  refine wpAnyE_take (i := 0) (v := .pointer (some ⟨w.heap.size, 1, none⟩)) rfl (by kernel_rfl) (fun _ _ _ h => h) (.inl ⟨by kernel_rfl, fun W hW => ?_⟩) HS.out ?_
  · obtain ⟨hWP, hWH, hWK⟩ := hW
    have q1 := hWP.cell 1
    have q2 := hWH.cell 0
    simp at q1 q2
    go_simp
  simp only [Act.put, List.setIfInBounds_toArray]
  refine wpAnyE_take (i := 1) (v := .slice (some ⟨gK, 0, none⟩) d.m tkc) rfl (by kernel_rfl) (fun _ _ _ h => h) (.inl ⟨by kernel_rfl, fun W hW => ?_⟩) HS.out ?_
  · obtain ⟨hWP, hWH, hWK⟩ := hW
    have q1 := hWP.cell 1
    have q2 := hWH.cell 0
    simp at q1 q2
    go_simp
  simp only [Act.put]
  refine wpAnyE_take (i := 2) (v := .pointer (some ⟨w.heap.size + 1, 0, none⟩)) rfl (by kernel_rfl) (fun _ _ _ h => h) (.inl ⟨by kernel_rfl, fun W hW => ?_⟩) HS.out ?_
  · obtain ⟨hWP, hWH, hWK⟩ := hW
    have q1 := hWP.cell 1
    have q2 := hWH.cell 0
    simp at q1 q2
    go_simp
  simp only [Act.put]
  refine wpAnyE_take (i := 3) (v := .int .i64 k) rfl (by kernel_rfl) (fun _ _ _ h => h) (.inl ⟨by kernel_rfl, fun W hW => ?_⟩) HS.out ?_
  · obtain ⟨hWP, hWH, hWK⟩ := hW
    have q1 := hWP.cell 1
    have q2 := hWH.cell 0
    simp at q1 q2
    go_simp
  simp only [Act.put]
  refine wpAnyE_take (i := 4) (v := .pointer (some ⟨w.heap.size, 1, none⟩)) rfl (by kernel_rfl) (fun _ _ _ h => h) (.inl ⟨by kernel_rfl, fun W hW => ?_⟩) HS.out ?_
  · obtain ⟨hWP, hWH, hWK⟩ := hW
    have q1 := hWP.cell 1
    have q2 := hWH.cell 0
    simp at q1 q2
    go_simp
  simp only [Act.put]
  refine wpAnyE_take (i := 5) (v := .slice (some ⟨gK, 0, none⟩) d.m tkc) rfl (by kernel_rfl) (fun _ _ _ h => h) (.inl ⟨by kernel_rfl, fun W hW => ?_⟩) HS.out ?_
  · obtain ⟨hWP, hWH, hWK⟩ := hW
    have q1 := hWP.cell 1
    have q2 := hWH.cell 0
    simp at q1 q2
    go_simp
  simp only [Act.put]
  refine wpAnyE_take (i := 6) (v := .pointer (some ⟨w.heap.size + 1, 0, none⟩)) rfl (by kernel_rfl) (fun _ _ _ h => h) (.inl ⟨by kernel_rfl, fun W hW => ?_⟩) HS.out ?_
  · obtain ⟨hWP, hWH, hWK⟩ := hW
    have q1 := hWP.cell 1
    have q2 := hWH.cell 0
    simp at q1 q2
    go_simp
  simp only [Act.put]
  refine wpAnyE_take (i := 7) (v := .int .i64 k) rfl (by kernel_rfl) (fun _ _ _ h => h) (.inl ⟨by kernel_rfl, fun W hW => ?_⟩) HS.out ?_
  · obtain ⟨hWP, hWH, hWK⟩ := hW
    have q1 := hWP.cell 1
    have q2 := hWH.cell 0
    simp at q1 q2
    go_simp
  simp only [Act.put]
  refine wpAnyE_take (i := 8) (v := .pointer (some ⟨gK, k, none⟩)) rfl (by kernel_rfl) (fun _ _ _ h => h) (.inl ⟨by kernel_rfl, fun W hW => ?_⟩) HS.out ?_
  · obtain ⟨hWP, hWH, hWK⟩ := hW
    have q1 := hWP.cell 1
    have q2 := hWH.cell 0
    simp at q1 q2
    go_simp
  simp only [Act.put]
  refine wpAnyE_take (i := 9) (v := .slice (KA' k) (d.L k) (KC' k)) rfl (by kernel_rfl) (fun _ _ _ h => h) (.inl ⟨by kernel_rfl, fun W hW => ?_⟩) HS.out ?_
  · obtain ⟨hWP, hWH, hWK⟩ := hW
    have q1 := hWP.cell 1
    have q2 := hWH.cell 0
    simp at q1 q2
    go_simp
  simp only [Act.put]
  refine wpAnyE_take (i := 10) (v := .int .i64 a) rfl (by kernel_rfl) (fun _ _ _ h => h) (.inl ⟨by kernel_rfl, fun W hW => ?_⟩) HS.out ?_
  · obtain ⟨hWP, hWH, hWK⟩ := hW
    have q1 := hWP.cell 1
    have q2 := hWH.cell 0
    simp at q1 q2
    go_simp
  simp only [Act.put]
  refine wpAnyE_take (i := 11) (v := .int .i64 a) rfl (by kernel_rfl) (fun _ _ _ h => h) (.inl ⟨by kernel_rfl, fun W hW => ?_⟩) HS.out ?_
  · obtain ⟨hWP, hWH, hWK⟩ := hW
    have q1 := hWP.cell 1
    have q2 := hWH.cell 0
    simp at q1 q2
    go_simp
  simp only [Act.put]
  refine wpAnyE_take (i := 12) (v := .int .i64 ((a : Int) + 1)) rfl (by kernel_rfl) (fun _ _ _ h => h) (.inl ⟨by kernel_rfl, fun W hW => ?_⟩) HS.out ?_
  · obtain ⟨hWP, hWH, hWK⟩ := hW
    have q1 := hWP.cell 1
    have q2 := hWH.cell 0
    simp at q1 q2
    go_simp
  simp only [Act.put]
  clear HS
  have KD4 := GO4.out.kd
  have hkdk := KD4.kd k KI.out.2
  have neP := P4.out.ne_own hkdk (by decide)
  have neH := own_low hkdk (show w.heap.size + 1 < w.heap.size + 1 + 1 + 1 by omega)
  have neR := own_low hkdk (show w.heap.size + 1 + 1 < w.heap.size + 1 + 1 + 1 by omega)
  dsimp only at neP neH neR
  refine wpAnyE_step (i := 13) rfl (by kernel_rfl) (fun KQ HK => ?_)
  go_wp2_with fail
  refine (del_any (w.heap.size + 1 + 1 + 1) (d.L k) (KC' k) a (KA' k) (d.S k) (d.Q k) v5.drew (own_drew hkdk) (by omega) ALt.out).mono ?_
  rintro e w7 ⟨A2, c2, rfl, hown7, hgr7, hat7⟩
  have hgr8 : v5.grownBy w7 (Value.slice (KA' k) (d.L k) (KC' k)).ownBlock := ⟨hgr7.os, hgr7.tape, hgr7.output, hgr7.size, hgr7.block⟩
  have neK : some gK ≠ (Value.slice (KA' k) (d.L k) (KC' k)).ownBlock := by
    intro e
    rcases own_types hkdk GO4.out.ks (by decide) with h1 | h1
    · rw [h1] at e; cases e
    · exact h1 e.symm
  have k7 := hgr8.cell hkS.out neK
  have P7 := Lib.hid (P4.out.grown hgr8 neP)
  have H7 := Lib.hid (H4.out.grown hgr8 neH)
  have R7 := Lib.hid (R4.out.grown hgr8 neR)
  have ks7 := own_keep GO4.out.ks hgr8 (own_types GO4.out.ks hkdk (by decide))
  obtain ⟨_, e7, _, _, hf7⟩ := own_some ks7 (show 0 < d.m by have := KI.out.2; omega)
  cases e7
  have f7 := hf7 k
  have lt7 : gK < w7.heap.size := Nat.lt_of_lt_of_le hgl hgr8.size
  have GO8 := Lib.hid (GO4.out.put (n' := d.L k - 1) (c' := c2) (A' := A2) KI.out.2 rfl hgr8 hown7 (hat7.elim (fun h => .inr (.inl h)) (fun ⟨q, h1, h2⟩ => .inr (.inr ⟨q, h1, h2⟩))))
  have BX := B6.out
  have B7 := Lib.hid (show Below w.heap.size w w7 from below_grown (v := .slice (KA' k) (d.L k) (KC' k)) BX hgr8 hkdk (by omega) BX.size)
  have K7 := Lib.hid k7
  clear hown7 hgr7 hat7 hgr8 ks7 hf7 neK hkdk KD4 neP neH neR BX hgl hgf
  go_wp2
  refine HK _ _ (fun _ => ⟨P7.out, H7.out, K7.out⟩) ?_
  clear HK
  refine wpAnyE_step (i := 14) rfl (by kernel_rfl) (fun KQ HK => ?_)
  go_wp2
  refine HK _ _ (fun _ => ⟨P7.out, H7.out, K7.out⟩) ?_
  clear HK
  refine wpAnyE_step (i := 15) rfl (by kernel_rfl) (fun KQ HK => ?_)
  go_wp2
  refine HK _ _ (fun h => absurd rfl h) ?_
  clear HK
  refine wpAnyE_done (by kernel_rfl) ?_
  have P9 := P7.out.far (p := ⟨gK, k, none⟩) (by simp; omega) (.slice A2 (d.L k - 1) c2)
  have R9 := R7.out.far (p := ⟨gK, k, none⟩) (by simp; omega) (.slice A2 (d.L k - 1) c2)
  have B9 := Lib.hid (Below.setCell (p := ⟨gK, k, none⟩) B7.out (by simp; omega) (.slice A2 (d.L k - 1) c2))
  have p0 := P9.cell 0
  have p1 := P9.cell 1
  have zp := P9.lt
  have r0 := R9.cell 0
  have r1 := R9.cell 1
  have rf0 := R9.frozen 0
  have rf1 := R9.frozen 1
  have zr := R9.lt
  simp at p0 p1 r0 r1
  clear P9 R9 P7 R7 k7 f7
  go_wp2
  refine bodyPost_ret (v := .tuple #[.agg #[.slice tA d.n tc, .slice (some ⟨gK, 0, none⟩) d.m tkc], .int .i64 0]) (by simp [results, Try.results23, go_sem, *]) rfl ⟨.inr ⟨LV.out, ⟨tA, tc, some ⟨gK, 0, none⟩, tkc, upd KA' k A2, upd KC' k c2⟩, rfl, ?_⟩, ?_⟩
  · exact ((GO8.out.lset (by omega) _).lset (by omega) _).base (by omega)
  · have bb := B9.out
    exact Below.setCell (Below.setCell bb (by first | omega | (simp; done) | (simp; omega)) _) (by first | omega | (simp; done) | (simp; omega)) _
end Go.Proofs.Ytgkeiaggldahnaa
