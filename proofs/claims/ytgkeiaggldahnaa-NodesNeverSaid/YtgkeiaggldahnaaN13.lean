/- nodes: Make. -/
import Derived.Test.YtgkeiaggldahnaaN12
namespace Go.Proofs.Ytgkeiaggldahnaa
open Go.RowKit
set_option linter.unusedVariables false
/-- A graph with another arena; new slots have no children. -/
def GD.made (d : GD) (n' : Nat) (g' : Nat → Int) (b' : Nat → Bool) : GD := ⟨n', g', b', n', fun i => if i < d.n then d.L i else 0, d.S, d.Q⟩
theorem own_pset {w : World} {g t B e s n j : Nat} {cs : Array Value} {v : Value} {xs : List Value} (h : w.ownsRow B e s v n xs) (hb : HasBlk w g t cs) (hne : e ≠ t) (u : Value) : (w.setCell ⟨g, j, none⟩ u).ownsRow B e s v n xs := ownsRow_setCell_other h (hb.ne_own h hne) u
theorem KOwn.pset {B m g t j : Nat} {w : World} {KA : Nat → Option Addr} {KC L : Nat → Nat} {S Q : Nat → Nat → Int} {cs : Array Value} (h : KOwn B w KA KC L S Q m) (hb : HasBlk w g t cs) (hne : 29 ≠ t) (u : Value) : KOwn B (w.setCell ⟨g, j, none⟩ u) KA KC L S Q m := h.set (a := ⟨g, j, none⟩) hb hne u
theorem own_lset {w : World} {g B e s n j : Nat} {v : Value} {xs : List Value} (h : w.ownsRow B e s v n xs) (hg : g < B) (u : Value) : (w.setCell ⟨g, j, none⟩ u).ownsRow B e s v n xs := ownsRow_setCell_other (a := ⟨g, j, none⟩) h (own_low h hg) u
theorem KOwn.lset {B m g j : Nat} {w : World} {KA : Nat → Option Addr} {KC L : Nat → Nat} {S Q : Nat → Nat → Int} (h : KOwn B w KA KC L S Q m) (hg : g < B) (u : Value) : KOwn B (w.setCell ⟨g, j, none⟩ u) KA KC L S Q m :=
  ⟨fun i hi => own_lset (h.kd i hi) hg u, h.ap⟩
theorem GOwn.lset {B g j : Nat} {w : World} {p : GP} {d : GD} (h : GOwn B w p d) (hg : g < B) (u : Value) : GOwn B (w.setCell ⟨g, j, none⟩ u) p d := ⟨own_lset h.ar hg u, own_lset h.ks hg u, h.kd.lset hg u⟩
/-- What Make answers. -/
def MakeGR (d : GD) (B : Nat) (e : Ending) (w' : World) : Prop :=
  (¬ d.May ∧ e = .returned (.tuple #[.agg #[.slice none 0 0, .slice none 0 0], .agg #[.int .i64 0, .int .i64 0], .int .i64 8])) ∨
  (d.May ∧ (∀ i, i < d.n → freeS (d.g i) (d.b i) = false) ∧ d.n = 128 ∧ e = .returned (.tuple #[.agg #[.slice none 0 0, .slice none 0 0], .agg #[.int .i64 0, .int .i64 0], .int .i64 9])) ∨
  (d.May ∧ ∃ (k n' : Nat) (g' : Nat → Int) (b' : Nat → Bool) (p : GP), Made d.n d.g d.b k n' g' b' ∧ e = .returned (.tuple #[.agg #[.slice p.A n' p.c, .slice p.K n' p.kc], hval (k : Nat) (g' k), .int .i64 0]) ∧ GOwn B w' p (d.made n' g' b'))
theorem none_iff {p : Nat → Prop} : (∀ j, j < 0 → p j) ↔ True := ⟨fun _ => trivial, fun _ j h => absurd h (by omega)⟩
theorem made_le {n k n' : Nat} {g g' : Nat → Int} {b b' : Nat → Bool} (hm : Made n g b k n' g' b') : n ≤ n' ∧ n' ≤ n + 1 ∧ k < n' := by
  rcases hm with ⟨h1, _, _, h2, _⟩ | ⟨h1, h2, _, h3, _⟩ <;> omega

theorem made_none {d : GD} {n' k : Nat} {g' : Nat → Int} {b' : Nat → Bool} (h : k = d.n) : (d.made n' g' b').L k = 0 := if_neg (by omega)
theorem made_L {d : GD} {n' i : Nat} {g' : Nat → Int} {b' : Nat → Bool} (h : i < d.n) : (d.made n' g' b').L i = d.L i := if_pos h
/-- One more list, of nothing. -/
theorem KOwn.push {B m : Nat} {w : World} {KA : Nat → Option Addr} {KC L : Nat → Nat} {S Q : Nat → Nat → Int} (h : KOwn B w KA KC L S Q m) (hL : L m = 0) : KOwn B w (upd KA m none) (upd KC m 0) L S Q (m + 1) := by
  refine ⟨fun i hi => ?_, fun i j hi hj hij => ?_⟩
  · by_cases e : i = m
    · subst e; rw [upd_at, upd_at, hL]; exact own_nil _ _ _ _
    · rw [upd_ne _ _ e, upd_ne _ _ e]; exact h.kd i (by omega)
  · by_cases e : i = m
    · subst e; rw [upd_at, upd_at]; exact .inl rfl
    · rw [upd_ne _ _ e, upd_ne _ _ e]
      by_cases e' : j = m
      · subst e'
        rw [upd_at, upd_at]
        cases hk : (Value.slice (KA i) (L i) (KC i)).ownBlock with
        | none => exact .inl rfl
        | some k => exact .inr (by simp [Value.ownBlock])
      · rw [upd_ne _ _ e', upd_ne _ _ e']
        exact h.ap i j (by omega) (by omega) hij
theorem KOwn.congr {B m : Nat} {w : World} {KA : Nat → Option Addr} {KC L L' : Nat → Nat} {S Q : Nat → Nat → Int} (h : KOwn B w KA KC L S Q m) (hL : ∀ i, i < m → L' i = L i) : KOwn B w KA KC L' S Q m :=
  ⟨fun i hi => by rw [hL i hi]; exact h.kd i hi, fun i j hi hj hij => by rw [hL i hi, hL j hj]; exact h.ap i j hi hj hij⟩

set_option maxRecDepth 100000 in
set_option maxHeartbeats 8000000 in
theorem makeg_any (d : GD) (p : GP) (hsm : d.Sm) (w : World) (hok : GOk w p d) :
    Calls Try.prog 27 #[.agg #[.slice p.A d.n p.c, .slice p.K d.m p.kc]] w fun e w' => MakeGR d w.heap.size e w' ∧ Below w.heap.size w w' := by
  obtain ⟨A, c, K, kc, KA, KC⟩ := p
  dsimp only
  obtain ⟨j0', hj0, hy0, hy1, hy2⟩ := info_parts list_info
  obtain ⟨j0, hj00⟩ : ∃ j0, j0 = j0' := ⟨_, rfl⟩
  rw [← hj00] at hj0 hy0 hy1 hy2
  clear hj00
  have b3 : Below w.heap.size w (((w.alloc (.cells #[.slice A d.n c, .slice K d.m kc] 27)).alloc (.cells #[.slice none 0 0, .slice none 0 0] 27)).alloc (.cells #[.int .i64 0, .int .i64 0] 29)) := by
    repeat' (first | exact Below.refl _ _ | assumption | apply Below.drew | refine Below.setCell ?_ (by first | omega | (simp; done) | (simp; omega)) _ | refine Below.alloc ?_ (by first | omega | (simp; done) | (simp; omega)) _)
  have hn := hsm.n
  have OK := Lib.hid hok
  have Sm := Lib.hid hsm
  have B3 := Lib.hid b3
  have P0 := Lib.hid (show HasBlk (((w.alloc (.cells #[.slice A d.n c, .slice K d.m kc] 27)).alloc (.cells #[.slice none 0 0, .slice none 0 0] 27)).alloc (.cells #[.int .i64 0, .int .i64 0] 29)) w.heap.size 27 #[.slice A d.n c, .slice K d.m kc] from ((hasBlk_new w 27 #[.slice A d.n c, .slice K d.m kc]).alloc _).alloc _)
  have Z0 := Lib.hid (show HasBlk (((w.alloc (.cells #[.slice A d.n c, .slice K d.m kc] 27)).alloc (.cells #[.slice none 0 0, .slice none 0 0] 27)).alloc (.cells #[.int .i64 0, .int .i64 0] 29)) (w.heap.size + 1) 27 #[.slice none 0 0, .slice none 0 0] by simpa using (hasBlk_new (w.alloc (.cells #[.slice A d.n c, .slice K d.m kc] 27)) 27 #[.slice none 0 0, .slice none 0 0]).alloc (.cells #[.int .i64 0, .int .i64 0] 29))
  have R0 := Lib.hid (show HasBlk (((w.alloc (.cells #[.slice A d.n c, .slice K d.m kc] 27)).alloc (.cells #[.slice none 0 0, .slice none 0 0] 27)).alloc (.cells #[.int .i64 0, .int .i64 0] 29)) (w.heap.size + 1 + 1) 29 #[.int .i64 0, .int .i64 0] by simpa using hasBlk_new ((w.alloc (.cells #[.slice A d.n c, .slice K d.m kc] 27)).alloc (.cells #[.slice none 0 0, .slice none 0 0] 27)) 29 #[.int .i64 0, .int .i64 0])
  have hc := asked_any d _ hsm none 0 0 (fun _ => 0) (fun _ => 0) _ (hok.below b3) (Row.zero _ _ _ _) (by omega)
  rw [askv_congr none_iff] at hc
  clear hok hsm b3
  by_cases hmay : d.May
  rotate_left
  · rw [askv_bad hmay] at hc
    have HC := Lib.hid hc
    have MN := Lib.hid hmay
    clear hc hmay
    go_enter Try.func27, Try.ntmps27
    go_wp2_with fail
    refine HC.out.mono ?_
    rintro e w1 ⟨rfl, bel⟩
    have B4 := Lib.hid (B3.out.trans (bel.mono B3.out.size))
    have Z1 := Lib.hid (Z0.out.below bel)
    have R1 := Lib.hid (R0.out.below bel)
    clear bel P0 Z0 R0
    have z0 := Z1.out.cell 0
    have z1 := Z1.out.cell 1
    have zf0 := Z1.out.frozen 0
    have zf1 := Z1.out.frozen 1
    have zz := Z1.out.lt
    have r0 := R1.out.cell 0
    have r1 := R1.out.cell 1
    have rf0 := R1.out.frozen 0
    have rf1 := R1.out.frozen 1
    have rz := R1.out.lt
    simp at z0 z1 r0 r1
    go_wp2
    refine bodyPost_ret (v := .tuple #[.agg #[.slice none 0 0, .slice none 0 0], .agg #[.int .i64 0, .int .i64 0], .int .i64 8]) (by simp [results, Try.results27, go_sem, *]) rfl ⟨?_, ?_⟩
    · exact .inl ⟨MN.out, rfl⟩
    · have bb := B4.out
      exact (Below.setCell (Below.setCell (Below.setCell (Below.setCell bb (by first | omega | (simp; done) | (simp; omega)) _) (by first | omega | (simp; done) | (simp; omega)) _) (by first | omega | (simp; done) | (simp; omega)) _) (by first | omega | (simp; done) | (simp; omega)) _)
  rw [askv_ok hmay trivial] at hc
  have HC := Lib.hid hc
  have MN := Lib.hid hmay
  clear hc hmay
  go_enter Try.func27, Try.ntmps27
  go_wp2_with fail
  refine HC.out.mono ?_
  rintro e w1 ⟨rfl, bel⟩
  have B4 := Lib.hid (B3.out.trans (bel.mono B3.out.size))
  have P1 := Lib.hid (P0.out.below bel)
  have Z1 := Lib.hid (Z0.out.below bel)
  have R1 := Lib.hid (R0.out.below bel)
  have p0 := P1.out.cell 0
  have zp := P1.out.lt
  simp at p0
  clear bel P0 Z0 R0
  have KX := Lib.hid (make_any A d.n c d.g d.b w1 (OK.out.below B4.out).ar (by omega))
  go_wp2_with fail
  refine KX.out.mono ?_
  rintro e w2 ⟨hx, bel⟩
  have B5 := Lib.hid (B4.out.trans (bel.mono B4.out.size))
  have P2 := Lib.hid (P1.out.below bel)
  have Z2 := Lib.hid (Z1.out.below bel)
  have R2 := Lib.hid (R1.out.below bel)
  have zb1 := B4.out.size
  have R1z := Lib.hid R1.out.lt
  clear p0 zp bel P1 Z1 R1 KX
  rcases hx with ⟨h, _⟩ | ⟨_, hfr, h128, rfl⟩ | ⟨_, k0, n', g', b', A1, c1, hmd, rfl, hown⟩
  · exact absurd MN.out.1 h
  · have HFR := Lib.hid hfr
    have H128 := Lib.hid h128
    clear hfr h128
    have z0 := Z2.out.cell 0
    have z1 := Z2.out.cell 1
    have zf0 := Z2.out.frozen 0
    have zf1 := Z2.out.frozen 1
    have zz := Z2.out.lt
    have r0 := R2.out.cell 0
    have r1 := R2.out.cell 1
    have rf0 := R2.out.frozen 0
    have rf1 := R2.out.frozen 1
    have rz := R2.out.lt
    simp at z0 z1 r0 r1
    have zz0 : w.heap.size < w2.heap.size := by omega
    go_wp2
    refine bodyPost_ret (v := .tuple #[.agg #[.slice none 0 0, .slice none 0 0], .agg #[.int .i64 0, .int .i64 0], .int .i64 9]) (by simp [results, Try.results27, go_sem, *]) rfl ⟨?_, ?_⟩
    · exact .inr (.inl ⟨MN.out, HFR.out, H128.out, rfl⟩)
    · have bb := B5.out
      exact Below.alloc (Below.alloc (Below.setCell (Below.setCell (Below.setCell (Below.setCell bb (by first | omega | (simp; done) | (simp; omega)) _) (by first | omega | (simp; done) | (simp; omega)) _) (by first | omega | (simp; done) | (simp; omega)) _) (by first | omega | (simp; done) | (simp; omega)) _) (by first | omega | (simp; done) | (simp; omega)) _) (by first | omega | (simp; done) | (simp; omega)) _
  · have HMD := Lib.hid hmd
    have hle := made_le hmd
    have p0 := P2.out.cell 0
    have p1 := P2.out.cell 1
    have zp := P2.out.lt
    simp at p0 p1
    have bA := (((Below.refl w2.heap.size w2).alloc (Nat.le_refl _) (.cells #[.slice A1 n' c1] 24)).alloc (by simp) (.cells #[.int .i64 k0, .int .i64 (g' k0)] 29))
    have A6 := Lib.hid (show HasBlk ((w2.alloc (.cells #[.slice A1 n' c1] 24)).alloc (.cells #[.int .i64 k0, .int .i64 (g' k0)] 29)) w2.heap.size 24 #[.slice A1 n' c1] from (hasBlk_new w2 24 #[.slice A1 n' c1]).alloc _)
    have H7 := Lib.hid (show HasBlk ((w2.alloc (.cells #[.slice A1 n' c1] 24)).alloc (.cells #[.int .i64 k0, .int .i64 (g' k0)] 29)) (w2.heap.size + 1) 29 #[.int .i64 k0, .int .i64 (g' k0)] by simpa using hasBlk_new (w2.alloc (.cells #[.slice A1 n' c1] 24)) 29 #[.int .i64 k0, .int .i64 (g' k0)])
    have P3 := Lib.hid (P2.out.below bA)
    have Z3 := Lib.hid (Z2.out.below bA)
    have R3 := Lib.hid (R2.out.below bA)
    have zb9 : (w.heap.size + 1 + 1 + 1) ≤ w1.heap.size := by have := R1z.out; omega
    have AO3 := Lib.hid (own_below (own_base hown zb9) bA)
    have B6 := Lib.hid (B5.out.trans (bA.mono B5.out.size))
    have KX := Lib.hid (twing_any d _ Sm.out _ (OK.out.below B6.out))
    clear hmd hown bA
    go_wp2_with fail
    refine KX.out.mono ?_
    rintro e w4 ⟨⟨v, rfl, po, rfl, ho⟩, bel⟩
    have zb2 := B6.out.size
    have B7 := Lib.hid (B6.out.trans (bel.mono zb2))
    have P4 := Lib.hid (P3.out.below bel)
    have Z4 := Lib.hid (Z3.out.below bel)
    have R4 := Lib.hid (R3.out.below bel)
    have A64 := Lib.hid (A6.out.below bel)
    have H74 := Lib.hid (H7.out.below bel)
    have AO4 := Lib.hid (own_below AO3.out bel)
    have GO := Lib.hid (ho.base (show (w.heap.size + 1 + 1 + 1) ≤ _ by have := R2.out.lt; simp; omega))
    obtain ⟨A6b, hA6b⟩ : ∃ A6b, A6b = w2.heap.size := ⟨_, rfl⟩
    have z6 : w.heap.size + 1 + 1 < A6b := by have := R2.out.lt; omega
    rw [← hA6b] at A64 H74 ⊢
    clear KX p0 p1 zp bel ho P2 Z2 R2 A6 H7 P3 Z3 R3 AO3 B6 zb2 hA6b
    obtain ⟨tA, tc, tK, tkc, KA', KC'⟩ := po
    dsimp only
    have p0 := P4.out.cell 0
    have p1 := P4.out.cell 1
    have pf0 := P4.out.frozen 0
    have pf1 := P4.out.frozen 1
    have zp := P4.out.lt
    have a0 := A64.out.cell 0
    have za := A64.out.lt
    simp at p0 p1 a0
    have nep : A6b ≠ w.heap.size := by omega
    go_upto_region 9 with fail
    have s1 := P4.out.set 0 (.slice tA d.n tc)
    have s2 := s1.set 1 (.slice tK d.m tkc)
    have P5 := Lib.hid (show HasBlk (((w4.setCell ⟨w.heap.size, 0, none⟩ (.slice tA d.n tc)).setCell ⟨w.heap.size, 1, none⟩ (.slice tK d.m tkc)).setCell ⟨w.heap.size, 0, none⟩ (.slice A1 n' c1)) w.heap.size 27 #[.slice A1 n' c1, .slice tK d.m tkc] by simpa using s2.set 0 (.slice A1 n' c1))
    have Z5 := Lib.hid (show HasBlk (((w4.setCell ⟨w.heap.size, 0, none⟩ (.slice tA d.n tc)).setCell ⟨w.heap.size, 1, none⟩ (.slice tK d.m tkc)).setCell ⟨w.heap.size, 0, none⟩ (.slice A1 n' c1)) _ _ _ from ((Z4.out.far (by simp) _).far (by simp) _).far (by simp) _)
    have R5 := Lib.hid (show HasBlk (((w4.setCell ⟨w.heap.size, 0, none⟩ (.slice tA d.n tc)).setCell ⟨w.heap.size, 1, none⟩ (.slice tK d.m tkc)).setCell ⟨w.heap.size, 0, none⟩ (.slice A1 n' c1)) _ _ _ from ((R4.out.far (by simp; omega) _).far (by simp; omega) _).far (by simp; omega) _)
    have A65 := Lib.hid (show HasBlk (((w4.setCell ⟨w.heap.size, 0, none⟩ (.slice tA d.n tc)).setCell ⟨w.heap.size, 1, none⟩ (.slice tK d.m tkc)).setCell ⟨w.heap.size, 0, none⟩ (.slice A1 n' c1)) _ _ _ from ((A64.out.far (by simp; omega) _).far (by simp; omega) _).far (by simp; omega) _)
    have H75 := Lib.hid (show HasBlk (((w4.setCell ⟨w.heap.size, 0, none⟩ (.slice tA d.n tc)).setCell ⟨w.heap.size, 1, none⟩ (.slice tK d.m tkc)).setCell ⟨w.heap.size, 0, none⟩ (.slice A1 n' c1)) _ _ _ from ((H74.out.far (by simp; omega) _).far (by simp; omega) _).far (by simp; omega) _)
    have AO5 := Lib.hid (show World.ownsRow (((w4.setCell ⟨w.heap.size, 0, none⟩ (.slice tA d.n tc)).setCell ⟨w.heap.size, 1, none⟩ (.slice tK d.m tkc)).setCell ⟨w.heap.size, 0, none⟩ (.slice A1 n' c1)) _ _ _ _ _ _ from own_lset (own_lset (own_lset AO4.out (by omega) _) (by omega) _) (by omega) _)
    have KS5 := Lib.hid (show World.ownsRow (((w4.setCell ⟨w.heap.size, 0, none⟩ (.slice tA d.n tc)).setCell ⟨w.heap.size, 1, none⟩ (.slice tK d.m tkc)).setCell ⟨w.heap.size, 0, none⟩ (.slice A1 n' c1)) _ _ _ _ _ _ from own_lset (own_lset (own_lset GO.out.ks (by omega) _) (by omega) _) (by omega) _)
    have KD5 := Lib.hid (show KOwn _ (((w4.setCell ⟨w.heap.size, 0, none⟩ (.slice tA d.n tc)).setCell ⟨w.heap.size, 1, none⟩ (.slice tK d.m tkc)).setCell ⟨w.heap.size, 0, none⟩ (.slice A1 n' c1)) _ _ _ _ _ _ from ((GO.out.kd.lset (by omega) _).lset (by omega) _).lset (by omega) _)
    have B8 := Lib.hid (show Below w.heap.size w (((w4.setCell ⟨w.heap.size, 0, none⟩ (.slice tA d.n tc)).setCell ⟨w.heap.size, 1, none⟩ (.slice tK d.m tkc)).setCell ⟨w.heap.size, 0, none⟩ (.slice A1 n' c1)) from Below.setCell (Below.setCell (Below.setCell B7.out (by simp) _) (by simp) _) (by simp) _)
    have hm0 := MN.out.2.1
    clear s1 s2 p0 p1 pf0 pf1 zp a0 za P4 Z4 R4 A64 H74 AO4 GO B7
    generalize gW : (((w4.setCell ⟨w.heap.size, 0, none⟩ (.slice tA d.n tc)).setCell ⟨w.heap.size, 1, none⟩ (.slice tK d.m tkc)).setCell ⟨w.heap.size, 0, none⟩ (.slice A1 n' c1)) = v5 at *
    clear gW
    have p0 := P5.out.cell 0
    have p1 := P5.out.cell 1
    have zp := P5.out.lt
    have a0 := A65.out.cell 0
    have za := A65.out.lt
    simp at p0 p1 a0
    rcases HMD.out with ⟨hk1, _, _, hn1, hg1, hb1⟩ | ⟨hk1, hk2, _, hn1, hg1, hb1⟩
    · obtain rfl : n' = d.m := by omega
      have i2 : decide (d.m < d.m) = false := decide_eq_false (by omega)
      have h0 := H75.out.cell 0
      have h1 := H75.out.cell 1
      have zh := H75.out.lt
      simp at h0 h1
      have FIN := Lib.hid (show GOwn (w.heap.size + 1 + 1 + 1) v5 ⟨A1, c1, tK, tkc, KA', KC'⟩ (d.made d.m g' b') from ⟨AO5.out, by
        have e : cellsR 1 (kv ⟨A1, c1, tK, tkc, KA', KC'⟩ (d.made d.m g' b')) d.m = cellsR 1 (kv ⟨tA, tc, tK, tkc, KA', KC'⟩ d) d.m := cellsR_congr fun i hi j hj => by
          show Value.slice (KA' i) ((d.made d.m g' b').L i) (KC' i) = Value.slice (KA' i) (d.L i) (KC' i)
          rw [made_L (show i < d.n by omega)]
        show World.ownsRow _ _ _ _ (.slice tK d.m tkc) d.m (cellsR 1 (kv ⟨A1, c1, tK, tkc, KA', KC'⟩ (d.made d.m g' b')) d.m)
        rw [e]
        exact KS5.out, KD5.out.congr fun i hi => made_L (by omega)⟩)
      clear hk1 hn1 hg1 hb1 hm0 KS5 KD5 AO5
      have z0 := Z5.out.cell 0
      have z1 := Z5.out.cell 1
      have zf0 := Z5.out.frozen 0
      have zf1 := Z5.out.frozen 1
      have zz := Z5.out.lt
      have r0 := R5.out.cell 0
      have r1 := R5.out.cell 1
      have rf0 := R5.out.frozen 0
      have rf1 := R5.out.frozen 1
      have rz := R5.out.lt
      simp at z0 z1 r0 r1
      refine wp_loop_rounds 1 ?_
      rw [rounds_succ]
      go_wp2
      go_region
      all_goals
        go_wp2
        refine bodyPost_ret (v := .tuple #[.agg #[.slice A1 d.m c1, .slice tK d.m tkc], hval (k0 : Nat) (g' k0), .int .i64 0]) (by simp [results, Try.results27, go_sem, *]) rfl ⟨.inr (.inr ⟨MN.out, k0, d.m, g', b', ⟨A1, c1, tK, tkc, KA', KC'⟩, HMD.out, rfl, ?_⟩), ?_⟩
        · exact (((((FIN.out.lset (by omega) _).lset (by omega) _).lset (by omega) _).lset (by omega) _).below (Below.refl _ _).drew).base (by omega)
        · have bb := B8.out
          exact Below.drew (Below.setCell (Below.setCell (Below.setCell (Below.setCell bb (by first | omega | (simp; done) | (simp; omega)) _) (by first | omega | (simp; done) | (simp; omega)) _) (by first | omega | (simp; done) | (simp; omega)) _) (by first | omega | (simp; done) | (simp; omega)) _)
    · obtain rfl : n' = d.m + 1 := by omega
      have i2 : decide (d.m < d.m + 1) = true := decide_eq_true (by omega)
      have i3 : decide (d.m + 1 < d.m + 1) = false := decide_eq_false (by omega)
      have h0 := H75.out.cell 0
      have h1 := H75.out.cell 1
      have zh := H75.out.lt
      simp at h0 h1
      have pf1 := P5.out.frozen 1
      have NEK := Lib.hid (own_low KS5.out (show w.heap.size < (w.heap.size + 1 + 1 + 1) by omega))
      have zv := B8.out.size
      have zv2 := R5.out.lt
      have hm1 := Sm.out.m
      have HM0 := Lib.hid hm0
      clear hk1 hn1 hg1 hb1 hm0
      refine wp_loop_rounds 2 ?_
      rw [rounds_succ]
      go_wp2_with (at_builtin; refine wpList_append_lies _ rfl (.tmp 40) (.tmp 41) 25 rfl (w.heap.size + 1 + 1 + 1) 32 j0 _ 1 24 Try.underlying25 hj0 hy0 hy1 hy2 rfl (by omega) (.slice tK d.m tkc) d.m (cellsR 1 (kv ⟨tA, tc, tK, tkc, KA', KC'⟩ d) d.m) rfl (KS5.out.alloc _) ⟨v5.heap.size, 0, none⟩ 1 1 [.slice none 0 0] (by rfl) rfl (World.news_of_block (cs := #[.slice none 0 0]) (t := 32) (fr := (0, 0)) (heap_alloc_new v5 _)) (by simp [Value.oneCell']) (by omega) (by unfold maxLen; omega) (by omega) (by simp; omega) (v5.heap.size + 1) (by simp) ?_; intro A2 c2 w6 hown6 hgr6 hat6 hlt6; have hP3 := (P5.out.alloc (.cells #[.slice none 0 0] 32)).grown hgr6 NEK.out; have p1 := hP3.cell 1; have f1 := hP3.frozen 1; have zp3 := hP3.lt; simp at p1)
      have hb6 : Below w.heap.size w w6 := below_grown (v := .slice tK d.m tkc) (B8.out.alloc zv _) hgr6 (KS5.out.alloc _) (by omega) (by simp; omega)
      have hz6 := ((Z5.out.alloc (.cells #[.slice none 0 0] 32)).grown hgr6 (own_low KS5.out (by omega))).far (p := ⟨w.heap.size, 1, none⟩) (by simp) (.slice (some ⟨A2, 0, none⟩) (d.m + 1) c2)
      have hr6 := ((R5.out.alloc (.cells #[.slice none 0 0] 32)).grown hgr6 (own_low KS5.out (by omega))).far (p := ⟨w.heap.size, 1, none⟩) (by simp; omega) (.slice (some ⟨A2, 0, none⟩) (d.m + 1) c2)
      have ha6 := ((A65.out.alloc (.cells #[.slice none 0 0] 32)).grown hgr6 (A65.out.ne_own KS5.out (by decide))).far (p := ⟨w.heap.size, 1, none⟩) (by simp; omega) (.slice (some ⟨A2, 0, none⟩) (d.m + 1) c2)
      have hh6 := ((H75.out.alloc (.cells #[.slice none 0 0] 32)).grown hgr6 (H75.out.ne_own KS5.out (by decide))).far (p := ⟨w.heap.size, 1, none⟩) (by simp; omega) (.slice (some ⟨A2, 0, none⟩) (d.m + 1) c2)
      have hp6 := hP3.set 1 (.slice (some ⟨A2, 0, none⟩) (d.m + 1) c2)
      have hkd6 := ((KD5.out.keep (World.grownBy_alloc v5 (.cells #[.slice none 0 0] 32) none) (fun i hi => by cases KA' i <;> simp [Value.ownBlock])).keep hgr6 (fun i hi => own_types (KD5.out.kd i hi) KS5.out (by decide))).lset (g := w.heap.size) (j := 1) (by omega) (.slice (some ⟨A2, 0, none⟩) (d.m + 1) c2)
      have hao6 := own_lset (g := w.heap.size) (j := 1) (own_keep (AO5.out.alloc (.cells #[.slice none 0 0] 32)) hgr6 (own_types AO5.out KS5.out (by decide))) (by omega) (.slice (some ⟨A2, 0, none⟩) (d.m + 1) c2)
      have hks6 := own_lset (g := w.heap.size) (j := 1) hown6 (by omega) (.slice (some ⟨A2, 0, none⟩) (d.m + 1) c2)
      have hb7 := Below.setCell (p := ⟨w.heap.size, 1, none⟩) hb6 (by simp) (.slice (some ⟨A2, 0, none⟩) (d.m + 1) c2)
      simp only [List.setIfInBounds_toArray, List.set_cons_zero, List.set_cons_succ] at hp6
      clear hb6 p0 p1 a0 pf1 f1 zp3 hP3 hown6 hgr6 hat6 hlt6 h0 h1 zh zv zv2 KS5 KD5 AO5 B8 P5 A65 H75 NEK za zp Z5 R5
      generalize w6.setCell ⟨w.heap.size, 1, none⟩ (.slice (some ⟨A2, 0, none⟩) (d.m + 1) c2) = v7 at *
      have FIN := Lib.hid (show GOwn (w.heap.size + 1 + 1 + 1) v7 ⟨A1, c1, some ⟨A2, 0, none⟩, c2, upd KA' d.m none, upd KC' d.m 0⟩ (d.made (d.m + 1) g' b') from ⟨hao6, by
        have e1 := kv_snoc (p := ⟨tA, tc, tK, tkc, KA', KC'⟩) (p' := ⟨A1, c1, some ⟨A2, 0, none⟩, c2, upd KA' d.m none, upd KC' d.m 0⟩) (d := d.made (d.m + 1) g' b') (k := d.m) (fun i hi => upd_ne _ _ (by omega)) (fun i hi => upd_ne _ _ (by omega))
        have e2 : cellsR 1 (kv ⟨tA, tc, tK, tkc, KA', KC'⟩ (d.made (d.m + 1) g' b')) d.m = cellsR 1 (kv ⟨tA, tc, tK, tkc, KA', KC'⟩ d) d.m := cellsR_congr fun i hi j hj => by
          show Value.slice (KA' i) ((d.made (d.m + 1) g' b').L i) (KC' i) = Value.slice (KA' i) (d.L i) (KC' i)
          rw [made_L (show i < d.n by have := HM0.out; omega)]
        dsimp only at e1
        rw [upd_at, upd_at, made_none HM0.out, e2] at e1
        show World.ownsRow _ _ _ _ (.slice (some ⟨A2, 0, none⟩) (d.m + 1) c2) (d.m + 1) (cellsR 1 (kv ⟨A1, c1, some ⟨A2, 0, none⟩, c2, upd KA' d.m none, upd KC' d.m 0⟩ (d.made (d.m + 1) g' b')) (d.m + 1))
        rw [e1]
        exact hks6, KOwn.push (hkd6.congr fun i hi => made_L (show i < d.n by have := HM0.out; omega)) (made_none HM0.out)⟩)
      have Z5 := Lib.hid hz6
      have R5 := Lib.hid hr6
      have B9 := Lib.hid hb7
      have p0 := hp6.cell 0
      have p1 := hp6.cell 1
      have zp := hp6.lt
      have a0 := ha6.cell 0
      have za := ha6.lt
      have h0 := hh6.cell 0
      have h1 := hh6.cell 1
      have zh := hh6.lt
      simp at p0 p1 a0 h0 h1
      clear hz6 hr6 ha6 hh6 hp6 hkd6 hao6 hks6 hb7
      have z0 := Z5.out.cell 0
      have z1 := Z5.out.cell 1
      have zf0 := Z5.out.frozen 0
      have zf1 := Z5.out.frozen 1
      have zz := Z5.out.lt
      have r0 := R5.out.cell 0
      have r1 := R5.out.cell 1
      have rf0 := R5.out.frozen 0
      have rf1 := R5.out.frozen 1
      have rz := R5.out.lt
      simp at z0 z1 r0 r1
      rw [rounds_succ]
      go_wp2
      go_region
      all_goals
        go_wp2
        refine bodyPost_ret (v := .tuple #[.agg #[.slice A1 (d.m + 1) c1, .slice (some ⟨A2, 0, none⟩) (d.m + 1) c2], hval (k0 : Nat) (g' k0), .int .i64 0]) (by simp [results, Try.results27, go_sem, *]) rfl ⟨.inr (.inr ⟨MN.out, k0, d.m + 1, g', b', ⟨A1, c1, some ⟨A2, 0, none⟩, c2, upd KA' d.m none, upd KC' d.m 0⟩, HMD.out, rfl, ?_⟩), ?_⟩
        · exact (((((FIN.out.lset (by omega) _).lset (by omega) _).lset (by omega) _).lset (by omega) _).below (Below.refl _ _).drew).base (by omega)
        · have bb := B9.out
          exact Below.drew (Below.setCell (Below.setCell (Below.setCell (Below.setCell bb (by first | omega | (simp; done) | (simp; omega)) _) (by first | omega | (simp; done) | (simp; omega)) _) (by first | omega | (simp; done) | (simp; omega)) _) (by first | omega | (simp; done) | (simp; omega)) _)
end Go.Proofs.Ytgkeiaggldahnaa
