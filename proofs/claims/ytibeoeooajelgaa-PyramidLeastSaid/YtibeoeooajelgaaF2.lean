/- frame: whether a frame may be. -/
import Derived.Test.YtibeoeooajelgaaF1
namespace Go.Proofs.Ytibeoeooajelgaa
open Go.RowKit
set_option linter.unusedVariables false

/-- Where a frame's lists lie. -/
structure FP where
  ac : Option Addr
  ad : Option Addr
  ai : Option Addr
  a4 : Option Addr
  kc : Nat
  kd : Nat
  ki : Nat
  kt : Nat
/-- A frame that reads as f. -/
def FOk (w : World) (p : FP) (f : FD) : Prop := Row w p.ac f.nc 4 (fun i j => .int .u8 (f.C i j)) ∧ IS w p.ad f.nd f.D ∧ IS w p.ai f.ni f.I ∧ IS w p.a4 f.nt f.T
theorem FOk.below {w w' : World} {p : FP} {f : FD} (h : FOk w p f) (hb : Below w.heap.size w w') : FOk w' p f := ⟨h.1.below hb, h.2.1.below hb, h.2.2.1.below hb, h.2.2.2.below hb⟩
theorem mul_bound {W H : Int} (h0 : 1 ≤ W) (h1 : W ≤ 64) (h2 : 1 ≤ H) (h3 : H ≤ 64) : 1 ≤ W * H ∧ W * H ≤ 4096 := by
  constructor
  · have := Int.mul_le_mul (a := 1) (b := 1) (c := W) (d := H) h0 h2 (by omega) (by omega)
    omega
  · have := Int.mul_le_mul (a := W) (b := H) (c := 64) (d := 64) h1 h3 (by omega) (by omega)
    omega

set_option maxRecDepth 100000 in
set_option maxHeartbeats 8000000 in
theorem check_any (p : FP) (f : FD) (w : World) (h : FOk w p f) : Calls Try.prog 24 #[.agg #[.int .i64 f.W, .int .i64 f.H, .slice p.ac f.nc p.kc, .slice p.ad f.nd p.kd, .slice p.ai f.ni p.ki, .slice p.a4 f.nt p.kt]] w fun e w' => (∃ x, e = .returned (.int .i64 x) ∧ ((f.May ∧ x = 0) ∨ (¬ f.May ∧ x = 8))) ∧ Below w.heap.size w w' := by
  obtain ⟨W, H, nc, nd, ni, nt, C, D, I, T⟩ := f
  obtain ⟨ac, ad, ai, a4, kc, kd, ki, kt⟩ := p
  obtain ⟨hC, hD, hI, hT⟩ := h
  dsimp only at hC hD hI hT ⊢
  rcases Int.lt_trichotomy W H with hWH | rfl | hWH
  · have hWH1 : W ≤ H := by omega
    have hWH2 : ¬ H ≤ W := by omega
    by_cases h0 : (W < 1)
    · have g0 : decide ((W < 1)) = true := decide_eq_true h0
      have Hk := Lib.hid h0
      clear h0 hC hD hI hT

      go_enter Try.func24, Try.ntmps24
      go_wp2
      go_ret
      exact ⟨⟨_, rfl, .inr ⟨fun h => by have := h.1.1; have := Hk.out; dsimp only at *; omega, rfl⟩⟩, by repeat' (first | exact Below.refl _ _ | assumption | apply Below.drew | refine Below.setCell ?_ (by first | omega | (simp; done) | (simp; omega)) _ | refine Below.alloc ?_ (by first | omega | (simp; done) | (simp; omega)) _)⟩
    have g0 : decide ((W < 1)) = false := decide_eq_false h0
    by_cases h1 : (64 < H)
    · have g1 : decide ((64 < H)) = true := decide_eq_true h1
      have Hk := Lib.hid h1
      clear h1 hC hD hI hT

      go_enter Try.func24, Try.ntmps24
      go_wp2
      go_ret
      exact ⟨⟨_, rfl, .inr ⟨fun h => by have := h.1.2.2.2; have := Hk.out; dsimp only at *; omega, rfl⟩⟩, by repeat' (first | exact Below.refl _ _ | assumption | apply Below.drew | refine Below.setCell ?_ (by first | omega | (simp; done) | (simp; omega)) _ | refine Below.alloc ?_ (by first | omega | (simp; done) | (simp; omega)) _)⟩
    have g1 : decide ((64 < H)) = false := decide_eq_false h1
    obtain ⟨b0, b1⟩ := mul_bound (W := W) (H := H) (by omega) (by omega) (by omega) (by omega)
    have w0 : 1 ≤ W ∧ W ≤ 64 ∧ 1 ≤ H ∧ H ≤ 64 := by omega
    have HW := Lib.hid w0
    obtain ⟨N, hN⟩ : ∃ N, W * H = N := ⟨_, rfl⟩
    rw [hN] at b0 b1
    have hwr : IntKind.i64.wrap N = N := IntWalk.i64_in _ (by omega)
    clear w0
    by_cases hl0 : (nc : Int) = N
    rotate_left
    · have gl0 : ((nc : Int) != N) = true := by simpa using hl0
      have Hl := Lib.hid hl0
      have HN := Lib.hid hN
      clear hC hD hI hT hl0
      go_enter Try.func24, Try.ntmps24
      go_wp2
      go_ret
      exact ⟨⟨_, rfl, .inr ⟨fun h => by have := h.2.1.1; have := Hl.out; have := HN.out; dsimp only at *; omega, rfl⟩⟩, by repeat' (first | exact Below.refl _ _ | assumption | apply Below.drew | refine Below.setCell ?_ (by first | omega | (simp; done) | (simp; omega)) _ | refine Below.alloc ?_ (by first | omega | (simp; done) | (simp; omega)) _)⟩
    have gl0 : ((nc : Int) != N) = false := by simpa using hl0
    by_cases hl1 : (nd : Int) = N
    rotate_left
    · have gl1 : ((nd : Int) != N) = true := by simpa using hl1
      have Hl := Lib.hid hl1
      have HN := Lib.hid hN
      clear hC hD hI hT hl1
      go_enter Try.func24, Try.ntmps24
      go_wp2
      go_ret
      exact ⟨⟨_, rfl, .inr ⟨fun h => by have := h.2.1.2.1; have := Hl.out; have := HN.out; dsimp only at *; omega, rfl⟩⟩, by repeat' (first | exact Below.refl _ _ | assumption | apply Below.drew | refine Below.setCell ?_ (by first | omega | (simp; done) | (simp; omega)) _ | refine Below.alloc ?_ (by first | omega | (simp; done) | (simp; omega)) _)⟩
    have gl1 : ((nd : Int) != N) = false := by simpa using hl1
    by_cases hl2 : (ni : Int) = N
    rotate_left
    · have gl2 : ((ni : Int) != N) = true := by simpa using hl2
      have Hl := Lib.hid hl2
      have HN := Lib.hid hN
      clear hC hD hI hT hl2
      go_enter Try.func24, Try.ntmps24
      go_wp2
      go_ret
      exact ⟨⟨_, rfl, .inr ⟨fun h => by have := h.2.1.2.2.1; have := Hl.out; have := HN.out; dsimp only at *; omega, rfl⟩⟩, by repeat' (first | exact Below.refl _ _ | assumption | apply Below.drew | refine Below.setCell ?_ (by first | omega | (simp; done) | (simp; omega)) _ | refine Below.alloc ?_ (by first | omega | (simp; done) | (simp; omega)) _)⟩
    have gl2 : ((ni : Int) != N) = false := by simpa using hl2
    by_cases hl3 : (nt : Int) = N
    rotate_left
    · have gl3 : ((nt : Int) != N) = true := by simpa using hl3
      have Hl := Lib.hid hl3
      have HN := Lib.hid hN
      clear hC hD hI hT hl3
      go_enter Try.func24, Try.ntmps24
      go_wp2
      go_ret
      exact ⟨⟨_, rfl, .inr ⟨fun h => by have := h.2.1.2.2.2; have := Hl.out; have := HN.out; dsimp only at *; omega, rfl⟩⟩, by repeat' (first | exact Below.refl _ _ | assumption | apply Below.drew | refine Below.setCell ?_ (by first | omega | (simp; done) | (simp; omega)) _ | refine Below.alloc ?_ (by first | omega | (simp; done) | (simp; omega)) _)⟩
    have gl3 : ((nt : Int) != N) = false := by simpa using hl3
    obtain rfl : (nd : Int) = N := hl1
    obtain rfl : nd = nc := by omega
    obtain rfl : nd = ni := by omega
    obtain rfl : nd = nt := by omega
    have HN := Lib.hid hN
    have hnd : (nd : Int) ≤ 4096 := b1
    have HD := Lib.hid (hD.below (show Below w.heap.size w (w.alloc (.cells #[.int .i64 W, .int .i64 H, .slice ac nd kc, .slice ad nd kd, .slice ai nd ki, .slice a4 nd kt] 29)) by repeat' (first | exact Below.refl _ _ | assumption | apply Below.drew | refine Below.setCell ?_ (by first | omega | (simp; done) | (simp; omega)) _ | refine Below.alloc ?_ (by first | omega | (simp; done) | (simp; omega)) _)))
    have HI := Lib.hid (hI.below (show Below w.heap.size w (w.alloc (.cells #[.int .i64 W, .int .i64 H, .slice ac nd kc, .slice ad nd kd, .slice ai nd ki, .slice a4 nd kt] 29)) by repeat' (first | exact Below.refl _ _ | assumption | apply Below.drew | refine Below.setCell ?_ (by first | omega | (simp; done) | (simp; omega)) _ | refine Below.alloc ?_ (by first | omega | (simp; done) | (simp; omega)) _)))
    have HT := Lib.hid (hT.below (show Below w.heap.size w (w.alloc (.cells #[.int .i64 W, .int .i64 H, .slice ac nd kc, .slice ad nd kd, .slice ai nd ki, .slice a4 nd kt] 29)) by repeat' (first | exact Below.refl _ _ | assumption | apply Below.drew | refine Below.setCell ?_ (by first | omega | (simp; done) | (simp; omega)) _ | refine Below.alloc ?_ (by first | omega | (simp; done) | (simp; omega)) _)))
    clear hC hD hI hT hl0 hl2 hl3 gl0 gl1 gl2 gl3 b0 b1
    go_enter Try.func24, Try.ntmps24
    go_wp2_with fail
    have s_P : HasBlk (w.alloc (.cells #[.int .i64 W, .int .i64 H, .slice ac nd kc, .slice ad nd kd, .slice ai nd ki, .slice a4 nd kt] 29)) (w.heap.size) 29 #[.int .i64 W, .int .i64 H, .slice ac nd kc, .slice ad nd kd, .slice ai nd ki, .slice a4 nd kt] := by simpa using hasBlk_new w 29 #[.int .i64 W, .int .i64 H, .slice ac nd kc, .slice ad nd kd, .slice ai nd ki, .slice a4 nd kt]
    have t_P : HasBlk (w.alloc (.cells #[.int .i64 W, .int .i64 H, .slice ac nd kc, .slice ad nd kd, .slice ai nd ki, .slice a4 nd kt] 29)) (w.heap.size) 29 #[.int .i64 W, .int .i64 H, .slice ac nd kc, .slice ad nd kd, .slice ai nd ki, .slice a4 nd kt] := by simpa using s_P
    clear s_P
    have SB1 : Below w.heap.size w (w.alloc (.cells #[.int .i64 W, .int .i64 H, .slice ac nd kc, .slice ad nd kd, .slice ai nd ki, .slice a4 nd kt] 29)) := by
      repeat' (first | exact Below.refl _ _ | assumption | apply Below.drew | refine Below.setCell ?_ (by first | omega | (simp; done) | (simp; omega)) _ | refine Below.alloc ?_ (by first | omega | (simp; done) | (simp; omega)) _)
    generalize gW_v0 : (w.alloc (.cells #[.int .i64 W, .int .i64 H, .slice ac nd kc, .slice ad nd kd, .slice ai nd ki, .slice a4 nd kt] 29)) = v0 at *
    clear gW_v0
    have P := Lib.hid t_P
    clear t_P
    have SB1h := Lib.hid SB1
    clear SB1
    have lt_P := P.out.lt
    have P_0 := P.out.cell 0
    have P_1 := P.out.cell 1
    have P_2 := P.out.cell 2
    have P_3 := P.out.cell 3
    have P_4 := P.out.cell 4
    have P_5 := P.out.cell 5
    simp at P_0 P_1 P_2 P_3 P_4 P_5
    have szB_v0 := SB1h.out.size
    go_wp2
    go_loopw [55] (fun i wr => ∃ k : Nat, k ≤ nd ∧ i = .int .i64 k ∧ (∃ q, wr = v0.drewN q) ∧ ∀ j, j < k → OkPix (D j) (I j) (T j)) (fun i wr => nd - (intOf i).toNat)
    case atStart => exact ⟨0, Nat.zero_le _, rfl, ⟨0, rfl⟩, fun j hj => absurd hj (by omega)⟩
    case round =>
      obtain ⟨k, hk, rfl, ⟨q, rfl⟩, hall⟩ := hrel
      have Hall := Lib.hid hall
      clear hall
      by_cases hkn : k < nd
      · obtain ⟨gd, od, rfl, hgd, hcd⟩ := HD.out (by omega)
        obtain ⟨gi, oi, rfl, hgi, hci⟩ := HI.out (by omega)
        obtain ⟨gt, ot, rfl, hgt, hct⟩ := HT.out (by omega)
        have d0 := hcd k hkn
        have i0 := hci k hkn
        have t0 := hct k hkn
        have hi : (k : Int) < (nd : Int) := by omega
        have hi0 : (0 : Int) ≤ (k : Int) := by omega
        clear hcd hci hct
        by_cases e0 : D k = -2048
        · have He0 := Lib.hid e0
          rw [e0] at d0
          by_cases e1 : I k = -1
          · have He1 := Lib.hid e1
            rw [e1] at i0
            by_cases e2 : T k = -1
            · have He := Lib.hid (And.intro e0 (And.intro e1 e2))
              rw [e2] at t0
              clear e0 e1 e2
              go_wp2_with fail
              go_quiet (fail)
              go_wp2
              go_roundw
              case rel =>
                refine ⟨k + 1, by omega, by go_num, ⟨_, rfl⟩, fun j hj => ?_⟩
                rcases Nat.lt_or_ge j k with h | h
                · exact Hall.out j h
                · obtain rfl : j = k := by omega
                  exact .inl He.out
              case measure => simp [intOf]; omega
            · have q2 : (T k == -1) = false := by simpa using e2
              have He := Lib.hid e2
              clear e0 e1 e2
              have hsb := fun W => somebody_any (-2048) (-1) (T k) W
              have hs : ¬ SomeP (-2048) (-1) (T k) := by unfold SomeP; omega
              rw [decide_eq_false hs] at hsb
              have Hs := Lib.hid (show ¬ SomeP (D k) (I k) (T k) by unfold SomeP; have := He0.out; omega)
              clear hs
              have hsc := Lib.hid hsb
              clear hsb
              go_wp2_with fail
              go_quiet ((go_at_call 55; exact (hsc.out _).mono (fun e w'' h => ⟨h.1, _, h.2⟩)))
              go_wp2
              go_ret
              exact ⟨⟨_, rfl, .inr ⟨fun h => by rcases h.2.2 k hkn with q | q; exact absurd q (fun z => He.out z.2.2); exact absurd q Hs.out, rfl⟩⟩, below_drewN (below_drewN SB1h.out _) _⟩
          · have q1 : (I k == -1) = false := by simpa using e1
            have He := Lib.hid e1
            clear e0 e1
            have hsb := fun W => somebody_any (-2048) (I k) (T k) W
            have hs : ¬ SomeP (-2048) (I k) (T k) := by unfold SomeP; omega
            rw [decide_eq_false hs] at hsb
            have Hs := Lib.hid (show ¬ SomeP (D k) (I k) (T k) by unfold SomeP; have := He0.out; omega)
            clear hs
            have hsc := Lib.hid hsb
            clear hsb
            go_wp2_with fail
            go_quiet ((go_at_call 55; exact (hsc.out _).mono (fun e w'' h => ⟨h.1, _, h.2⟩)))
            go_wp2
            go_ret
            exact ⟨⟨_, rfl, .inr ⟨fun h => by rcases h.2.2 k hkn with q | q; exact absurd q (fun z => He.out z.2.1); exact absurd q Hs.out, rfl⟩⟩, below_drewN (below_drewN SB1h.out _) _⟩
        · have q0 : (D k == -2048) = false := by simpa using e0
          have He := Lib.hid e0
          clear e0
          have hsb := fun W => somebody_any (D k) (I k) (T k) W
          by_cases hs : SomeP (D k) (I k) (T k)
          · rw [decide_eq_true hs] at hsb
            have Hs := Lib.hid hs
            clear hs
            have hsc := Lib.hid hsb
            clear hsb
            go_wp2_with fail
            go_quiet ((go_at_call 55; exact (hsc.out _).mono (fun e w'' h => ⟨h.1, _, h.2⟩)))
            go_wp2
            go_roundw
            case rel =>
              refine ⟨k + 1, by omega, by go_num, ⟨_, rfl⟩, fun j hj => ?_⟩
              rcases Nat.lt_or_ge j k with h | h
              · exact Hall.out j h
              · obtain rfl : j = k := by omega
                exact .inr Hs.out
            case measure => simp [intOf]; omega
          · rw [decide_eq_false hs] at hsb
            have Hs := Lib.hid hs
            clear hs
            have hsc := Lib.hid hsb
            clear hsb
            go_wp2_with fail
            go_quiet ((go_at_call 55; exact (hsc.out _).mono (fun e w'' h => ⟨h.1, _, h.2⟩)))
            go_wp2
            go_ret
            exact ⟨⟨_, rfl, .inr ⟨fun h => by rcases h.2.2 k hkn with q | q; exact absurd q (fun z => He.out z.1); exact absurd q Hs.out, rfl⟩⟩, below_drewN (below_drewN SB1h.out _) _⟩
      · obtain rfl : nd = k := by omega
        go_wp2
        go_ret
        exact ⟨⟨_, rfl, .inl ⟨⟨HW.out, ⟨HN.out.symm, HN.out.symm, HN.out.symm, HN.out.symm⟩, Hall.out⟩, rfl⟩⟩, below_drewN SB1h.out _⟩
  · by_cases h0 : (W < 1)
    · have g0 : decide ((W < 1)) = true := decide_eq_true h0
      have Hk := Lib.hid h0
      clear h0 hC hD hI hT

      go_enter Try.func24, Try.ntmps24
      go_wp2
      go_ret
      exact ⟨⟨_, rfl, .inr ⟨fun h => by have := h.1.1; have := Hk.out; dsimp only at *; omega, rfl⟩⟩, by repeat' (first | exact Below.refl _ _ | assumption | apply Below.drew | refine Below.setCell ?_ (by first | omega | (simp; done) | (simp; omega)) _ | refine Below.alloc ?_ (by first | omega | (simp; done) | (simp; omega)) _)⟩
    have g0 : decide ((W < 1)) = false := decide_eq_false h0
    by_cases h1 : (64 < W)
    · have g1 : decide ((64 < W)) = true := decide_eq_true h1
      have Hk := Lib.hid h1
      clear h1 hC hD hI hT

      go_enter Try.func24, Try.ntmps24
      go_wp2
      go_ret
      exact ⟨⟨_, rfl, .inr ⟨fun h => by have := h.1.2.2.2; have := Hk.out; dsimp only at *; omega, rfl⟩⟩, by repeat' (first | exact Below.refl _ _ | assumption | apply Below.drew | refine Below.setCell ?_ (by first | omega | (simp; done) | (simp; omega)) _ | refine Below.alloc ?_ (by first | omega | (simp; done) | (simp; omega)) _)⟩
    have g1 : decide ((64 < W)) = false := decide_eq_false h1
    obtain ⟨b0, b1⟩ := mul_bound (W := W) (H := W) (by omega) (by omega) (by omega) (by omega)
    have w0 : 1 ≤ W ∧ W ≤ 64 ∧ 1 ≤ W ∧ W ≤ 64 := by omega
    have HW := Lib.hid w0
    obtain ⟨N, hN⟩ : ∃ N, W * W = N := ⟨_, rfl⟩
    rw [hN] at b0 b1
    have hwr : IntKind.i64.wrap N = N := IntWalk.i64_in _ (by omega)
    clear w0
    by_cases hl0 : (nc : Int) = N
    rotate_left
    · have gl0 : ((nc : Int) != N) = true := by simpa using hl0
      have Hl := Lib.hid hl0
      have HN := Lib.hid hN
      clear hC hD hI hT hl0
      go_enter Try.func24, Try.ntmps24
      go_wp2
      go_ret
      exact ⟨⟨_, rfl, .inr ⟨fun h => by have := h.2.1.1; have := Hl.out; have := HN.out; dsimp only at *; omega, rfl⟩⟩, by repeat' (first | exact Below.refl _ _ | assumption | apply Below.drew | refine Below.setCell ?_ (by first | omega | (simp; done) | (simp; omega)) _ | refine Below.alloc ?_ (by first | omega | (simp; done) | (simp; omega)) _)⟩
    have gl0 : ((nc : Int) != N) = false := by simpa using hl0
    by_cases hl1 : (nd : Int) = N
    rotate_left
    · have gl1 : ((nd : Int) != N) = true := by simpa using hl1
      have Hl := Lib.hid hl1
      have HN := Lib.hid hN
      clear hC hD hI hT hl1
      go_enter Try.func24, Try.ntmps24
      go_wp2
      go_ret
      exact ⟨⟨_, rfl, .inr ⟨fun h => by have := h.2.1.2.1; have := Hl.out; have := HN.out; dsimp only at *; omega, rfl⟩⟩, by repeat' (first | exact Below.refl _ _ | assumption | apply Below.drew | refine Below.setCell ?_ (by first | omega | (simp; done) | (simp; omega)) _ | refine Below.alloc ?_ (by first | omega | (simp; done) | (simp; omega)) _)⟩
    have gl1 : ((nd : Int) != N) = false := by simpa using hl1
    by_cases hl2 : (ni : Int) = N
    rotate_left
    · have gl2 : ((ni : Int) != N) = true := by simpa using hl2
      have Hl := Lib.hid hl2
      have HN := Lib.hid hN
      clear hC hD hI hT hl2
      go_enter Try.func24, Try.ntmps24
      go_wp2
      go_ret
      exact ⟨⟨_, rfl, .inr ⟨fun h => by have := h.2.1.2.2.1; have := Hl.out; have := HN.out; dsimp only at *; omega, rfl⟩⟩, by repeat' (first | exact Below.refl _ _ | assumption | apply Below.drew | refine Below.setCell ?_ (by first | omega | (simp; done) | (simp; omega)) _ | refine Below.alloc ?_ (by first | omega | (simp; done) | (simp; omega)) _)⟩
    have gl2 : ((ni : Int) != N) = false := by simpa using hl2
    by_cases hl3 : (nt : Int) = N
    rotate_left
    · have gl3 : ((nt : Int) != N) = true := by simpa using hl3
      have Hl := Lib.hid hl3
      have HN := Lib.hid hN
      clear hC hD hI hT hl3
      go_enter Try.func24, Try.ntmps24
      go_wp2
      go_ret
      exact ⟨⟨_, rfl, .inr ⟨fun h => by have := h.2.1.2.2.2; have := Hl.out; have := HN.out; dsimp only at *; omega, rfl⟩⟩, by repeat' (first | exact Below.refl _ _ | assumption | apply Below.drew | refine Below.setCell ?_ (by first | omega | (simp; done) | (simp; omega)) _ | refine Below.alloc ?_ (by first | omega | (simp; done) | (simp; omega)) _)⟩
    have gl3 : ((nt : Int) != N) = false := by simpa using hl3
    obtain rfl : (nd : Int) = N := hl1
    obtain rfl : nd = nc := by omega
    obtain rfl : nd = ni := by omega
    obtain rfl : nd = nt := by omega
    have HN := Lib.hid hN
    have hnd : (nd : Int) ≤ 4096 := b1
    have HD := Lib.hid (hD.below (show Below w.heap.size w (w.alloc (.cells #[.int .i64 W, .int .i64 W, .slice ac nd kc, .slice ad nd kd, .slice ai nd ki, .slice a4 nd kt] 29)) by repeat' (first | exact Below.refl _ _ | assumption | apply Below.drew | refine Below.setCell ?_ (by first | omega | (simp; done) | (simp; omega)) _ | refine Below.alloc ?_ (by first | omega | (simp; done) | (simp; omega)) _)))
    have HI := Lib.hid (hI.below (show Below w.heap.size w (w.alloc (.cells #[.int .i64 W, .int .i64 W, .slice ac nd kc, .slice ad nd kd, .slice ai nd ki, .slice a4 nd kt] 29)) by repeat' (first | exact Below.refl _ _ | assumption | apply Below.drew | refine Below.setCell ?_ (by first | omega | (simp; done) | (simp; omega)) _ | refine Below.alloc ?_ (by first | omega | (simp; done) | (simp; omega)) _)))
    have HT := Lib.hid (hT.below (show Below w.heap.size w (w.alloc (.cells #[.int .i64 W, .int .i64 W, .slice ac nd kc, .slice ad nd kd, .slice ai nd ki, .slice a4 nd kt] 29)) by repeat' (first | exact Below.refl _ _ | assumption | apply Below.drew | refine Below.setCell ?_ (by first | omega | (simp; done) | (simp; omega)) _ | refine Below.alloc ?_ (by first | omega | (simp; done) | (simp; omega)) _)))
    clear hC hD hI hT hl0 hl2 hl3 gl0 gl1 gl2 gl3 b0 b1
    go_enter Try.func24, Try.ntmps24
    go_wp2_with fail
    have s_P : HasBlk (w.alloc (.cells #[.int .i64 W, .int .i64 W, .slice ac nd kc, .slice ad nd kd, .slice ai nd ki, .slice a4 nd kt] 29)) (w.heap.size) 29 #[.int .i64 W, .int .i64 W, .slice ac nd kc, .slice ad nd kd, .slice ai nd ki, .slice a4 nd kt] := by simpa using hasBlk_new w 29 #[.int .i64 W, .int .i64 W, .slice ac nd kc, .slice ad nd kd, .slice ai nd ki, .slice a4 nd kt]
    have t_P : HasBlk (w.alloc (.cells #[.int .i64 W, .int .i64 W, .slice ac nd kc, .slice ad nd kd, .slice ai nd ki, .slice a4 nd kt] 29)) (w.heap.size) 29 #[.int .i64 W, .int .i64 W, .slice ac nd kc, .slice ad nd kd, .slice ai nd ki, .slice a4 nd kt] := by simpa using s_P
    clear s_P
    have SB1 : Below w.heap.size w (w.alloc (.cells #[.int .i64 W, .int .i64 W, .slice ac nd kc, .slice ad nd kd, .slice ai nd ki, .slice a4 nd kt] 29)) := by
      repeat' (first | exact Below.refl _ _ | assumption | apply Below.drew | refine Below.setCell ?_ (by first | omega | (simp; done) | (simp; omega)) _ | refine Below.alloc ?_ (by first | omega | (simp; done) | (simp; omega)) _)
    generalize gW_v0 : (w.alloc (.cells #[.int .i64 W, .int .i64 W, .slice ac nd kc, .slice ad nd kd, .slice ai nd ki, .slice a4 nd kt] 29)) = v0 at *
    clear gW_v0
    have P := Lib.hid t_P
    clear t_P
    have SB1h := Lib.hid SB1
    clear SB1
    have lt_P := P.out.lt
    have P_0 := P.out.cell 0
    have P_1 := P.out.cell 1
    have P_2 := P.out.cell 2
    have P_3 := P.out.cell 3
    have P_4 := P.out.cell 4
    have P_5 := P.out.cell 5
    simp at P_0 P_1 P_2 P_3 P_4 P_5
    have szB_v0 := SB1h.out.size
    go_wp2
    go_loopw [55] (fun i wr => ∃ k : Nat, k ≤ nd ∧ i = .int .i64 k ∧ (∃ q, wr = v0.drewN q) ∧ ∀ j, j < k → OkPix (D j) (I j) (T j)) (fun i wr => nd - (intOf i).toNat)
    case atStart => exact ⟨0, Nat.zero_le _, rfl, ⟨0, rfl⟩, fun j hj => absurd hj (by omega)⟩
    case round =>
      obtain ⟨k, hk, rfl, ⟨q, rfl⟩, hall⟩ := hrel
      have Hall := Lib.hid hall
      clear hall
      by_cases hkn : k < nd
      · obtain ⟨gd, od, rfl, hgd, hcd⟩ := HD.out (by omega)
        obtain ⟨gi, oi, rfl, hgi, hci⟩ := HI.out (by omega)
        obtain ⟨gt, ot, rfl, hgt, hct⟩ := HT.out (by omega)
        have d0 := hcd k hkn
        have i0 := hci k hkn
        have t0 := hct k hkn
        have hi : (k : Int) < (nd : Int) := by omega
        have hi0 : (0 : Int) ≤ (k : Int) := by omega
        clear hcd hci hct
        by_cases e0 : D k = -2048
        · have He0 := Lib.hid e0
          rw [e0] at d0
          by_cases e1 : I k = -1
          · have He1 := Lib.hid e1
            rw [e1] at i0
            by_cases e2 : T k = -1
            · have He := Lib.hid (And.intro e0 (And.intro e1 e2))
              rw [e2] at t0
              clear e0 e1 e2
              go_wp2_with fail
              go_quiet (fail)
              go_wp2
              go_roundw
              case rel =>
                refine ⟨k + 1, by omega, by go_num, ⟨_, rfl⟩, fun j hj => ?_⟩
                rcases Nat.lt_or_ge j k with h | h
                · exact Hall.out j h
                · obtain rfl : j = k := by omega
                  exact .inl He.out
              case measure => simp [intOf]; omega
            · have q2 : (T k == -1) = false := by simpa using e2
              have He := Lib.hid e2
              clear e0 e1 e2
              have hsb := fun W => somebody_any (-2048) (-1) (T k) W
              have hs : ¬ SomeP (-2048) (-1) (T k) := by unfold SomeP; omega
              rw [decide_eq_false hs] at hsb
              have Hs := Lib.hid (show ¬ SomeP (D k) (I k) (T k) by unfold SomeP; have := He0.out; omega)
              clear hs
              have hsc := Lib.hid hsb
              clear hsb
              go_wp2_with fail
              go_quiet ((go_at_call 55; exact (hsc.out _).mono (fun e w'' h => ⟨h.1, _, h.2⟩)))
              go_wp2
              go_ret
              exact ⟨⟨_, rfl, .inr ⟨fun h => by rcases h.2.2 k hkn with q | q; exact absurd q (fun z => He.out z.2.2); exact absurd q Hs.out, rfl⟩⟩, below_drewN (below_drewN SB1h.out _) _⟩
          · have q1 : (I k == -1) = false := by simpa using e1
            have He := Lib.hid e1
            clear e0 e1
            have hsb := fun W => somebody_any (-2048) (I k) (T k) W
            have hs : ¬ SomeP (-2048) (I k) (T k) := by unfold SomeP; omega
            rw [decide_eq_false hs] at hsb
            have Hs := Lib.hid (show ¬ SomeP (D k) (I k) (T k) by unfold SomeP; have := He0.out; omega)
            clear hs
            have hsc := Lib.hid hsb
            clear hsb
            go_wp2_with fail
            go_quiet ((go_at_call 55; exact (hsc.out _).mono (fun e w'' h => ⟨h.1, _, h.2⟩)))
            go_wp2
            go_ret
            exact ⟨⟨_, rfl, .inr ⟨fun h => by rcases h.2.2 k hkn with q | q; exact absurd q (fun z => He.out z.2.1); exact absurd q Hs.out, rfl⟩⟩, below_drewN (below_drewN SB1h.out _) _⟩
        · have q0 : (D k == -2048) = false := by simpa using e0
          have He := Lib.hid e0
          clear e0
          have hsb := fun W => somebody_any (D k) (I k) (T k) W
          by_cases hs : SomeP (D k) (I k) (T k)
          · rw [decide_eq_true hs] at hsb
            have Hs := Lib.hid hs
            clear hs
            have hsc := Lib.hid hsb
            clear hsb
            go_wp2_with fail
            go_quiet ((go_at_call 55; exact (hsc.out _).mono (fun e w'' h => ⟨h.1, _, h.2⟩)))
            go_wp2
            go_roundw
            case rel =>
              refine ⟨k + 1, by omega, by go_num, ⟨_, rfl⟩, fun j hj => ?_⟩
              rcases Nat.lt_or_ge j k with h | h
              · exact Hall.out j h
              · obtain rfl : j = k := by omega
                exact .inr Hs.out
            case measure => simp [intOf]; omega
          · rw [decide_eq_false hs] at hsb
            have Hs := Lib.hid hs
            clear hs
            have hsc := Lib.hid hsb
            clear hsb
            go_wp2_with fail
            go_quiet ((go_at_call 55; exact (hsc.out _).mono (fun e w'' h => ⟨h.1, _, h.2⟩)))
            go_wp2
            go_ret
            exact ⟨⟨_, rfl, .inr ⟨fun h => by rcases h.2.2 k hkn with q | q; exact absurd q (fun z => He.out z.1); exact absurd q Hs.out, rfl⟩⟩, below_drewN (below_drewN SB1h.out _) _⟩
      · obtain rfl : nd = k := by omega
        go_wp2
        go_ret
        exact ⟨⟨_, rfl, .inl ⟨⟨HW.out, ⟨HN.out.symm, HN.out.symm, HN.out.symm, HN.out.symm⟩, Hall.out⟩, rfl⟩⟩, below_drewN SB1h.out _⟩
  · have hWH1 : ¬ W ≤ H := by omega
    have hWH2 : H ≤ W := by omega
    by_cases h0 : (H < 1)
    · have g0 : decide ((H < 1)) = true := decide_eq_true h0
      have Hk := Lib.hid h0
      clear h0 hC hD hI hT

      go_enter Try.func24, Try.ntmps24
      go_wp2
      go_ret
      exact ⟨⟨_, rfl, .inr ⟨fun h => by have := h.1.2.2.1; have := Hk.out; dsimp only at *; omega, rfl⟩⟩, by repeat' (first | exact Below.refl _ _ | assumption | apply Below.drew | refine Below.setCell ?_ (by first | omega | (simp; done) | (simp; omega)) _ | refine Below.alloc ?_ (by first | omega | (simp; done) | (simp; omega)) _)⟩
    have g0 : decide ((H < 1)) = false := decide_eq_false h0
    by_cases h1 : (64 < W)
    · have g1 : decide ((64 < W)) = true := decide_eq_true h1
      have Hk := Lib.hid h1
      clear h1 hC hD hI hT

      go_enter Try.func24, Try.ntmps24
      go_wp2
      go_ret
      exact ⟨⟨_, rfl, .inr ⟨fun h => by have := h.1.2.1; have := Hk.out; dsimp only at *; omega, rfl⟩⟩, by repeat' (first | exact Below.refl _ _ | assumption | apply Below.drew | refine Below.setCell ?_ (by first | omega | (simp; done) | (simp; omega)) _ | refine Below.alloc ?_ (by first | omega | (simp; done) | (simp; omega)) _)⟩
    have g1 : decide ((64 < W)) = false := decide_eq_false h1
    obtain ⟨b0, b1⟩ := mul_bound (W := W) (H := H) (by omega) (by omega) (by omega) (by omega)
    have w0 : 1 ≤ W ∧ W ≤ 64 ∧ 1 ≤ H ∧ H ≤ 64 := by omega
    have HW := Lib.hid w0
    obtain ⟨N, hN⟩ : ∃ N, W * H = N := ⟨_, rfl⟩
    rw [hN] at b0 b1
    have hwr : IntKind.i64.wrap N = N := IntWalk.i64_in _ (by omega)
    clear w0
    by_cases hl0 : (nc : Int) = N
    rotate_left
    · have gl0 : ((nc : Int) != N) = true := by simpa using hl0
      have Hl := Lib.hid hl0
      have HN := Lib.hid hN
      clear hC hD hI hT hl0
      go_enter Try.func24, Try.ntmps24
      go_wp2
      go_ret
      exact ⟨⟨_, rfl, .inr ⟨fun h => by have := h.2.1.1; have := Hl.out; have := HN.out; dsimp only at *; omega, rfl⟩⟩, by repeat' (first | exact Below.refl _ _ | assumption | apply Below.drew | refine Below.setCell ?_ (by first | omega | (simp; done) | (simp; omega)) _ | refine Below.alloc ?_ (by first | omega | (simp; done) | (simp; omega)) _)⟩
    have gl0 : ((nc : Int) != N) = false := by simpa using hl0
    by_cases hl1 : (nd : Int) = N
    rotate_left
    · have gl1 : ((nd : Int) != N) = true := by simpa using hl1
      have Hl := Lib.hid hl1
      have HN := Lib.hid hN
      clear hC hD hI hT hl1
      go_enter Try.func24, Try.ntmps24
      go_wp2
      go_ret
      exact ⟨⟨_, rfl, .inr ⟨fun h => by have := h.2.1.2.1; have := Hl.out; have := HN.out; dsimp only at *; omega, rfl⟩⟩, by repeat' (first | exact Below.refl _ _ | assumption | apply Below.drew | refine Below.setCell ?_ (by first | omega | (simp; done) | (simp; omega)) _ | refine Below.alloc ?_ (by first | omega | (simp; done) | (simp; omega)) _)⟩
    have gl1 : ((nd : Int) != N) = false := by simpa using hl1
    by_cases hl2 : (ni : Int) = N
    rotate_left
    · have gl2 : ((ni : Int) != N) = true := by simpa using hl2
      have Hl := Lib.hid hl2
      have HN := Lib.hid hN
      clear hC hD hI hT hl2
      go_enter Try.func24, Try.ntmps24
      go_wp2
      go_ret
      exact ⟨⟨_, rfl, .inr ⟨fun h => by have := h.2.1.2.2.1; have := Hl.out; have := HN.out; dsimp only at *; omega, rfl⟩⟩, by repeat' (first | exact Below.refl _ _ | assumption | apply Below.drew | refine Below.setCell ?_ (by first | omega | (simp; done) | (simp; omega)) _ | refine Below.alloc ?_ (by first | omega | (simp; done) | (simp; omega)) _)⟩
    have gl2 : ((ni : Int) != N) = false := by simpa using hl2
    by_cases hl3 : (nt : Int) = N
    rotate_left
    · have gl3 : ((nt : Int) != N) = true := by simpa using hl3
      have Hl := Lib.hid hl3
      have HN := Lib.hid hN
      clear hC hD hI hT hl3
      go_enter Try.func24, Try.ntmps24
      go_wp2
      go_ret
      exact ⟨⟨_, rfl, .inr ⟨fun h => by have := h.2.1.2.2.2; have := Hl.out; have := HN.out; dsimp only at *; omega, rfl⟩⟩, by repeat' (first | exact Below.refl _ _ | assumption | apply Below.drew | refine Below.setCell ?_ (by first | omega | (simp; done) | (simp; omega)) _ | refine Below.alloc ?_ (by first | omega | (simp; done) | (simp; omega)) _)⟩
    have gl3 : ((nt : Int) != N) = false := by simpa using hl3
    obtain rfl : (nd : Int) = N := hl1
    obtain rfl : nd = nc := by omega
    obtain rfl : nd = ni := by omega
    obtain rfl : nd = nt := by omega
    have HN := Lib.hid hN
    have hnd : (nd : Int) ≤ 4096 := b1
    have HD := Lib.hid (hD.below (show Below w.heap.size w (w.alloc (.cells #[.int .i64 W, .int .i64 H, .slice ac nd kc, .slice ad nd kd, .slice ai nd ki, .slice a4 nd kt] 29)) by repeat' (first | exact Below.refl _ _ | assumption | apply Below.drew | refine Below.setCell ?_ (by first | omega | (simp; done) | (simp; omega)) _ | refine Below.alloc ?_ (by first | omega | (simp; done) | (simp; omega)) _)))
    have HI := Lib.hid (hI.below (show Below w.heap.size w (w.alloc (.cells #[.int .i64 W, .int .i64 H, .slice ac nd kc, .slice ad nd kd, .slice ai nd ki, .slice a4 nd kt] 29)) by repeat' (first | exact Below.refl _ _ | assumption | apply Below.drew | refine Below.setCell ?_ (by first | omega | (simp; done) | (simp; omega)) _ | refine Below.alloc ?_ (by first | omega | (simp; done) | (simp; omega)) _)))
    have HT := Lib.hid (hT.below (show Below w.heap.size w (w.alloc (.cells #[.int .i64 W, .int .i64 H, .slice ac nd kc, .slice ad nd kd, .slice ai nd ki, .slice a4 nd kt] 29)) by repeat' (first | exact Below.refl _ _ | assumption | apply Below.drew | refine Below.setCell ?_ (by first | omega | (simp; done) | (simp; omega)) _ | refine Below.alloc ?_ (by first | omega | (simp; done) | (simp; omega)) _)))
    clear hC hD hI hT hl0 hl2 hl3 gl0 gl1 gl2 gl3 b0 b1
    go_enter Try.func24, Try.ntmps24
    go_wp2_with fail
    have s_P : HasBlk (w.alloc (.cells #[.int .i64 W, .int .i64 H, .slice ac nd kc, .slice ad nd kd, .slice ai nd ki, .slice a4 nd kt] 29)) (w.heap.size) 29 #[.int .i64 W, .int .i64 H, .slice ac nd kc, .slice ad nd kd, .slice ai nd ki, .slice a4 nd kt] := by simpa using hasBlk_new w 29 #[.int .i64 W, .int .i64 H, .slice ac nd kc, .slice ad nd kd, .slice ai nd ki, .slice a4 nd kt]
    have t_P : HasBlk (w.alloc (.cells #[.int .i64 W, .int .i64 H, .slice ac nd kc, .slice ad nd kd, .slice ai nd ki, .slice a4 nd kt] 29)) (w.heap.size) 29 #[.int .i64 W, .int .i64 H, .slice ac nd kc, .slice ad nd kd, .slice ai nd ki, .slice a4 nd kt] := by simpa using s_P
    clear s_P
    have SB1 : Below w.heap.size w (w.alloc (.cells #[.int .i64 W, .int .i64 H, .slice ac nd kc, .slice ad nd kd, .slice ai nd ki, .slice a4 nd kt] 29)) := by
      repeat' (first | exact Below.refl _ _ | assumption | apply Below.drew | refine Below.setCell ?_ (by first | omega | (simp; done) | (simp; omega)) _ | refine Below.alloc ?_ (by first | omega | (simp; done) | (simp; omega)) _)
    generalize gW_v0 : (w.alloc (.cells #[.int .i64 W, .int .i64 H, .slice ac nd kc, .slice ad nd kd, .slice ai nd ki, .slice a4 nd kt] 29)) = v0 at *
    clear gW_v0
    have P := Lib.hid t_P
    clear t_P
    have SB1h := Lib.hid SB1
    clear SB1
    have lt_P := P.out.lt
    have P_0 := P.out.cell 0
    have P_1 := P.out.cell 1
    have P_2 := P.out.cell 2
    have P_3 := P.out.cell 3
    have P_4 := P.out.cell 4
    have P_5 := P.out.cell 5
    simp at P_0 P_1 P_2 P_3 P_4 P_5
    have szB_v0 := SB1h.out.size
    go_wp2
    go_loopw [55] (fun i wr => ∃ k : Nat, k ≤ nd ∧ i = .int .i64 k ∧ (∃ q, wr = v0.drewN q) ∧ ∀ j, j < k → OkPix (D j) (I j) (T j)) (fun i wr => nd - (intOf i).toNat)
    case atStart => exact ⟨0, Nat.zero_le _, rfl, ⟨0, rfl⟩, fun j hj => absurd hj (by omega)⟩
    case round =>
      obtain ⟨k, hk, rfl, ⟨q, rfl⟩, hall⟩ := hrel
      have Hall := Lib.hid hall
      clear hall
      by_cases hkn : k < nd
      · obtain ⟨gd, od, rfl, hgd, hcd⟩ := HD.out (by omega)
        obtain ⟨gi, oi, rfl, hgi, hci⟩ := HI.out (by omega)
        obtain ⟨gt, ot, rfl, hgt, hct⟩ := HT.out (by omega)
        have d0 := hcd k hkn
        have i0 := hci k hkn
        have t0 := hct k hkn
        have hi : (k : Int) < (nd : Int) := by omega
        have hi0 : (0 : Int) ≤ (k : Int) := by omega
        clear hcd hci hct
        by_cases e0 : D k = -2048
        · have He0 := Lib.hid e0
          rw [e0] at d0
          by_cases e1 : I k = -1
          · have He1 := Lib.hid e1
            rw [e1] at i0
            by_cases e2 : T k = -1
            · have He := Lib.hid (And.intro e0 (And.intro e1 e2))
              rw [e2] at t0
              clear e0 e1 e2
              go_wp2_with fail
              go_quiet (fail)
              go_wp2
              go_roundw
              case rel =>
                refine ⟨k + 1, by omega, by go_num, ⟨_, rfl⟩, fun j hj => ?_⟩
                rcases Nat.lt_or_ge j k with h | h
                · exact Hall.out j h
                · obtain rfl : j = k := by omega
                  exact .inl He.out
              case measure => simp [intOf]; omega
            · have q2 : (T k == -1) = false := by simpa using e2
              have He := Lib.hid e2
              clear e0 e1 e2
              have hsb := fun W => somebody_any (-2048) (-1) (T k) W
              have hs : ¬ SomeP (-2048) (-1) (T k) := by unfold SomeP; omega
              rw [decide_eq_false hs] at hsb
              have Hs := Lib.hid (show ¬ SomeP (D k) (I k) (T k) by unfold SomeP; have := He0.out; omega)
              clear hs
              have hsc := Lib.hid hsb
              clear hsb
              go_wp2_with fail
              go_quiet ((go_at_call 55; exact (hsc.out _).mono (fun e w'' h => ⟨h.1, _, h.2⟩)))
              go_wp2
              go_ret
              exact ⟨⟨_, rfl, .inr ⟨fun h => by rcases h.2.2 k hkn with q | q; exact absurd q (fun z => He.out z.2.2); exact absurd q Hs.out, rfl⟩⟩, below_drewN (below_drewN SB1h.out _) _⟩
          · have q1 : (I k == -1) = false := by simpa using e1
            have He := Lib.hid e1
            clear e0 e1
            have hsb := fun W => somebody_any (-2048) (I k) (T k) W
            have hs : ¬ SomeP (-2048) (I k) (T k) := by unfold SomeP; omega
            rw [decide_eq_false hs] at hsb
            have Hs := Lib.hid (show ¬ SomeP (D k) (I k) (T k) by unfold SomeP; have := He0.out; omega)
            clear hs
            have hsc := Lib.hid hsb
            clear hsb
            go_wp2_with fail
            go_quiet ((go_at_call 55; exact (hsc.out _).mono (fun e w'' h => ⟨h.1, _, h.2⟩)))
            go_wp2
            go_ret
            exact ⟨⟨_, rfl, .inr ⟨fun h => by rcases h.2.2 k hkn with q | q; exact absurd q (fun z => He.out z.2.1); exact absurd q Hs.out, rfl⟩⟩, below_drewN (below_drewN SB1h.out _) _⟩
        · have q0 : (D k == -2048) = false := by simpa using e0
          have He := Lib.hid e0
          clear e0
          have hsb := fun W => somebody_any (D k) (I k) (T k) W
          by_cases hs : SomeP (D k) (I k) (T k)
          · rw [decide_eq_true hs] at hsb
            have Hs := Lib.hid hs
            clear hs
            have hsc := Lib.hid hsb
            clear hsb
            go_wp2_with fail
            go_quiet ((go_at_call 55; exact (hsc.out _).mono (fun e w'' h => ⟨h.1, _, h.2⟩)))
            go_wp2
            go_roundw
            case rel =>
              refine ⟨k + 1, by omega, by go_num, ⟨_, rfl⟩, fun j hj => ?_⟩
              rcases Nat.lt_or_ge j k with h | h
              · exact Hall.out j h
              · obtain rfl : j = k := by omega
                exact .inr Hs.out
            case measure => simp [intOf]; omega
          · rw [decide_eq_false hs] at hsb
            have Hs := Lib.hid hs
            clear hs
            have hsc := Lib.hid hsb
            clear hsb
            go_wp2_with fail
            go_quiet ((go_at_call 55; exact (hsc.out _).mono (fun e w'' h => ⟨h.1, _, h.2⟩)))
            go_wp2
            go_ret
            exact ⟨⟨_, rfl, .inr ⟨fun h => by rcases h.2.2 k hkn with q | q; exact absurd q (fun z => He.out z.1); exact absurd q Hs.out, rfl⟩⟩, below_drewN (below_drewN SB1h.out _) _⟩
      · obtain rfl : nd = k := by omega
        go_wp2
        go_ret
        exact ⟨⟨_, rfl, .inl ⟨⟨HW.out, ⟨HN.out.symm, HN.out.symm, HN.out.symm, HN.out.symm⟩, Hall.out⟩, rfl⟩⟩, below_drewN SB1h.out _⟩

set_option maxRecDepth 100000 in
set_option maxHeartbeats 8000000 in
theorem refmay_any (p : FP) (f : FD) (w : World) (h : FOk w p f) : Calls Try.prog 25 #[.agg #[.int .i64 f.W, .int .i64 f.H, .slice p.ac f.nc p.kc, .slice p.ad f.nd p.kd, .slice p.ai f.ni p.ki, .slice p.a4 f.nt p.kt]] w fun e w' => EqR f.May e ∧ Below w.heap.size w w' := by
  obtain ⟨W, H, nc, nd, ni, nt, C, D, I, T⟩ := f
  obtain ⟨ac, ad, ai, a4, kc, kd, ki, kt⟩ := p
  obtain ⟨hC, hD, hI, hT⟩ := h
  dsimp only at hC hD hI hT ⊢
  by_cases h0 : (W < 1)
  · have g0 : decide ((W < 1)) = true := decide_eq_true h0
    have Hk := Lib.hid h0
    clear h0 hC hD hI hT

    go_enter Try.func25, Try.ntmps25
    go_wp2
    go_ret
    exact ⟨⟨false, rfl, ⟨fun h => (by cases h), fun h => absurd h (fun h => by have := h.1.1; have := Hk.out; dsimp only at *; omega)⟩⟩, by repeat' (first | exact Below.refl _ _ | assumption | apply Below.drew | refine Below.setCell ?_ (by first | omega | (simp; done) | (simp; omega)) _ | refine Below.alloc ?_ (by first | omega | (simp; done) | (simp; omega)) _)⟩
  have g0 : decide ((W < 1)) = false := decide_eq_false h0
  by_cases h1 : (64 < W)
  · have g1 : decide ((64 < W)) = true := decide_eq_true h1
    have Hk := Lib.hid h1
    clear h1 hC hD hI hT

    go_enter Try.func25, Try.ntmps25
    go_wp2
    go_ret
    exact ⟨⟨false, rfl, ⟨fun h => (by cases h), fun h => absurd h (fun h => by have := h.1.2.1; have := Hk.out; dsimp only at *; omega)⟩⟩, by repeat' (first | exact Below.refl _ _ | assumption | apply Below.drew | refine Below.setCell ?_ (by first | omega | (simp; done) | (simp; omega)) _ | refine Below.alloc ?_ (by first | omega | (simp; done) | (simp; omega)) _)⟩
  have g1 : decide ((64 < W)) = false := decide_eq_false h1
  by_cases h2 : (H < 1)
  · have g2 : decide ((H < 1)) = true := decide_eq_true h2
    have Hk := Lib.hid h2
    clear h2 hC hD hI hT

    go_enter Try.func25, Try.ntmps25
    go_wp2
    go_ret
    exact ⟨⟨false, rfl, ⟨fun h => (by cases h), fun h => absurd h (fun h => by have := h.1.2.2.1; have := Hk.out; dsimp only at *; omega)⟩⟩, by repeat' (first | exact Below.refl _ _ | assumption | apply Below.drew | refine Below.setCell ?_ (by first | omega | (simp; done) | (simp; omega)) _ | refine Below.alloc ?_ (by first | omega | (simp; done) | (simp; omega)) _)⟩
  have g2 : decide ((H < 1)) = false := decide_eq_false h2
  by_cases h3 : (64 < H)
  · have g3 : decide ((64 < H)) = true := decide_eq_true h3
    have Hk := Lib.hid h3
    clear h3 hC hD hI hT

    go_enter Try.func25, Try.ntmps25
    go_wp2
    go_ret
    exact ⟨⟨false, rfl, ⟨fun h => (by cases h), fun h => absurd h (fun h => by have := h.1.2.2.2; have := Hk.out; dsimp only at *; omega)⟩⟩, by repeat' (first | exact Below.refl _ _ | assumption | apply Below.drew | refine Below.setCell ?_ (by first | omega | (simp; done) | (simp; omega)) _ | refine Below.alloc ?_ (by first | omega | (simp; done) | (simp; omega)) _)⟩
  have g3 : decide ((64 < H)) = false := decide_eq_false h3
  obtain ⟨b0, b1⟩ := mul_bound (W := W) (H := H) (by omega) (by omega) (by omega) (by omega)
  have w0 : 1 ≤ W ∧ W ≤ 64 ∧ 1 ≤ H ∧ H ≤ 64 := by omega
  have HW := Lib.hid w0
  obtain ⟨N, hN⟩ : ∃ N, W * H = N := ⟨_, rfl⟩
  rw [hN] at b0 b1
  have hwr : IntKind.i64.wrap N = N := IntWalk.i64_in _ (by omega)
  clear w0
  by_cases hl0 : (nc : Int) = N
  rotate_left
  · have gl0 : ((nc : Int) != N) = true := by simpa using hl0
    have Hl := Lib.hid hl0
    have HN := Lib.hid hN
    clear hC hD hI hT hl0
    go_enter Try.func25, Try.ntmps25
    go_wp2
    go_ret
    exact ⟨⟨false, rfl, ⟨fun h => (by cases h), fun h => absurd h (fun h => by have := h.2.1.1; have := Hl.out; have := HN.out; dsimp only at *; omega)⟩⟩, by repeat' (first | exact Below.refl _ _ | assumption | apply Below.drew | refine Below.setCell ?_ (by first | omega | (simp; done) | (simp; omega)) _ | refine Below.alloc ?_ (by first | omega | (simp; done) | (simp; omega)) _)⟩
  have gl0 : ((nc : Int) != N) = false := by simpa using hl0
  by_cases hl1 : (nd : Int) = N
  rotate_left
  · have gl1 : ((nd : Int) != N) = true := by simpa using hl1
    have Hl := Lib.hid hl1
    have HN := Lib.hid hN
    clear hC hD hI hT hl1
    go_enter Try.func25, Try.ntmps25
    go_wp2
    go_ret
    exact ⟨⟨false, rfl, ⟨fun h => (by cases h), fun h => absurd h (fun h => by have := h.2.1.2.1; have := Hl.out; have := HN.out; dsimp only at *; omega)⟩⟩, by repeat' (first | exact Below.refl _ _ | assumption | apply Below.drew | refine Below.setCell ?_ (by first | omega | (simp; done) | (simp; omega)) _ | refine Below.alloc ?_ (by first | omega | (simp; done) | (simp; omega)) _)⟩
  have gl1 : ((nd : Int) != N) = false := by simpa using hl1
  by_cases hl2 : (ni : Int) = N
  rotate_left
  · have gl2 : ((ni : Int) != N) = true := by simpa using hl2
    have Hl := Lib.hid hl2
    have HN := Lib.hid hN
    clear hC hD hI hT hl2
    go_enter Try.func25, Try.ntmps25
    go_wp2
    go_ret
    exact ⟨⟨false, rfl, ⟨fun h => (by cases h), fun h => absurd h (fun h => by have := h.2.1.2.2.1; have := Hl.out; have := HN.out; dsimp only at *; omega)⟩⟩, by repeat' (first | exact Below.refl _ _ | assumption | apply Below.drew | refine Below.setCell ?_ (by first | omega | (simp; done) | (simp; omega)) _ | refine Below.alloc ?_ (by first | omega | (simp; done) | (simp; omega)) _)⟩
  have gl2 : ((ni : Int) != N) = false := by simpa using hl2
  by_cases hl3 : (nt : Int) = N
  rotate_left
  · have gl3 : ((nt : Int) != N) = true := by simpa using hl3
    have Hl := Lib.hid hl3
    have HN := Lib.hid hN
    clear hC hD hI hT hl3
    go_enter Try.func25, Try.ntmps25
    go_wp2
    go_ret
    exact ⟨⟨false, rfl, ⟨fun h => (by cases h), fun h => absurd h (fun h => by have := h.2.1.2.2.2; have := Hl.out; have := HN.out; dsimp only at *; omega)⟩⟩, by repeat' (first | exact Below.refl _ _ | assumption | apply Below.drew | refine Below.setCell ?_ (by first | omega | (simp; done) | (simp; omega)) _ | refine Below.alloc ?_ (by first | omega | (simp; done) | (simp; omega)) _)⟩
  have gl3 : ((nt : Int) != N) = false := by simpa using hl3
  obtain rfl : (nd : Int) = N := hl1
  obtain rfl : nd = nc := by omega
  obtain rfl : nd = ni := by omega
  obtain rfl : nd = nt := by omega
  have HN := Lib.hid hN
  have hnd : (nd : Int) ≤ 4096 := b1
  have HD := Lib.hid (hD.below (show Below w.heap.size w (w.alloc (.cells #[.int .i64 W, .int .i64 H, .slice ac nd kc, .slice ad nd kd, .slice ai nd ki, .slice a4 nd kt] 29)) by repeat' (first | exact Below.refl _ _ | assumption | apply Below.drew | refine Below.setCell ?_ (by first | omega | (simp; done) | (simp; omega)) _ | refine Below.alloc ?_ (by first | omega | (simp; done) | (simp; omega)) _)))
  have HI := Lib.hid (hI.below (show Below w.heap.size w (w.alloc (.cells #[.int .i64 W, .int .i64 H, .slice ac nd kc, .slice ad nd kd, .slice ai nd ki, .slice a4 nd kt] 29)) by repeat' (first | exact Below.refl _ _ | assumption | apply Below.drew | refine Below.setCell ?_ (by first | omega | (simp; done) | (simp; omega)) _ | refine Below.alloc ?_ (by first | omega | (simp; done) | (simp; omega)) _)))
  have HT := Lib.hid (hT.below (show Below w.heap.size w (w.alloc (.cells #[.int .i64 W, .int .i64 H, .slice ac nd kc, .slice ad nd kd, .slice ai nd ki, .slice a4 nd kt] 29)) by repeat' (first | exact Below.refl _ _ | assumption | apply Below.drew | refine Below.setCell ?_ (by first | omega | (simp; done) | (simp; omega)) _ | refine Below.alloc ?_ (by first | omega | (simp; done) | (simp; omega)) _)))
  clear hC hD hI hT hl0 hl2 hl3 gl0 gl1 gl2 gl3 b0 b1
  go_enter Try.func25, Try.ntmps25
  go_wp2_with fail
  have s_P : HasBlk (w.alloc (.cells #[.int .i64 W, .int .i64 H, .slice ac nd kc, .slice ad nd kd, .slice ai nd ki, .slice a4 nd kt] 29)) (w.heap.size) 29 #[.int .i64 W, .int .i64 H, .slice ac nd kc, .slice ad nd kd, .slice ai nd ki, .slice a4 nd kt] := by simpa using hasBlk_new w 29 #[.int .i64 W, .int .i64 H, .slice ac nd kc, .slice ad nd kd, .slice ai nd ki, .slice a4 nd kt]
  have t_P : HasBlk (w.alloc (.cells #[.int .i64 W, .int .i64 H, .slice ac nd kc, .slice ad nd kd, .slice ai nd ki, .slice a4 nd kt] 29)) (w.heap.size) 29 #[.int .i64 W, .int .i64 H, .slice ac nd kc, .slice ad nd kd, .slice ai nd ki, .slice a4 nd kt] := by simpa using s_P
  clear s_P
  have SB1 : Below w.heap.size w (w.alloc (.cells #[.int .i64 W, .int .i64 H, .slice ac nd kc, .slice ad nd kd, .slice ai nd ki, .slice a4 nd kt] 29)) := by
    repeat' (first | exact Below.refl _ _ | assumption | apply Below.drew | refine Below.setCell ?_ (by first | omega | (simp; done) | (simp; omega)) _ | refine Below.alloc ?_ (by first | omega | (simp; done) | (simp; omega)) _)
  generalize gW_v0 : (w.alloc (.cells #[.int .i64 W, .int .i64 H, .slice ac nd kc, .slice ad nd kd, .slice ai nd ki, .slice a4 nd kt] 29)) = v0 at *
  clear gW_v0
  have P := Lib.hid t_P
  clear t_P
  have SB1h := Lib.hid SB1
  clear SB1
  have lt_P := P.out.lt
  have P_0 := P.out.cell 0
  have P_1 := P.out.cell 1
  have P_2 := P.out.cell 2
  have P_3 := P.out.cell 3
  have P_4 := P.out.cell 4
  have P_5 := P.out.cell 5
  simp at P_0 P_1 P_2 P_3 P_4 P_5
  have szB_v0 := SB1h.out.size
  go_wp2
  go_loopw [4] (fun i wr => ∃ k : Nat, k ≤ nd ∧ i = .int .i64 k ∧ (∃ q, wr = v0.drewN q) ∧ ∀ j, j < k → OkPix (D j) (I j) (T j)) (fun i wr => nd - (intOf i).toNat)
  case atStart => exact ⟨0, Nat.zero_le _, rfl, ⟨0, rfl⟩, fun j hj => absurd hj (by omega)⟩
  case round =>
    obtain ⟨k, hk, rfl, ⟨q, rfl⟩, hall⟩ := hrel
    have Hall := Lib.hid hall
    clear hall
    by_cases hkn : k < nd
    · obtain ⟨gd, od, rfl, hgd, hcd⟩ := HD.out (by omega)
      obtain ⟨gi, oi, rfl, hgi, hci⟩ := HI.out (by omega)
      obtain ⟨gt, ot, rfl, hgt, hct⟩ := HT.out (by omega)
      have d0 := hcd k hkn
      have i0 := hci k hkn
      have t0 := hct k hkn
      have hi : (k : Int) < (nd : Int) := by omega
      have hi0 : (0 : Int) ≤ (k : Int) := by omega
      clear hcd hci hct
      by_cases e0 : D k = -2048
      · have He0 := Lib.hid e0
        rw [e0] at d0
        by_cases e1 : I k = -1
        · have He1 := Lib.hid e1
          rw [e1] at i0
          by_cases e2 : T k = -1
          · have He := Lib.hid (And.intro e0 (And.intro e1 e2))
            rw [e2] at t0
            clear e0 e1 e2
            go_wp2_with fail
            go_quiet (fail)
            go_wp2
            go_roundw
            case rel =>
              refine ⟨k + 1, by omega, by go_num, ⟨_, rfl⟩, fun j hj => ?_⟩
              rcases Nat.lt_or_ge j k with h | h
              · exact Hall.out j h
              · obtain rfl : j = k := by omega
                exact .inl He.out
            case measure => simp [intOf]; omega
          · have q2 : (T k == -1) = false := by simpa using e2
            have He := Lib.hid e2
            clear e0 e1 e2
            have hsb := fun W => refsomebody_any (-2048) (-1) (T k) W
            have hs : ¬ SomeP (-2048) (-1) (T k) := by unfold SomeP; omega
            rw [decide_eq_false hs] at hsb
            have Hs := Lib.hid (show ¬ SomeP (D k) (I k) (T k) by unfold SomeP; have := He0.out; omega)
            clear hs
            have hsc := Lib.hid hsb
            clear hsb
            go_wp2_with fail
            go_quiet ((go_at_call 58; exact (hsc.out _).mono (fun e w'' h => ⟨h.1, _, h.2⟩)))
            go_wp2
            go_ret
            exact ⟨⟨false, rfl, ⟨fun h => (by cases h), fun h => absurd h (fun h => by rcases h.2.2 k hkn with q | q; exact absurd q (fun z => He.out z.2.2); exact absurd q Hs.out)⟩⟩, below_drewN (below_drewN SB1h.out _) _⟩
        · have q1 : (I k == -1) = false := by simpa using e1
          have He := Lib.hid e1
          clear e0 e1
          have hsb := fun W => refsomebody_any (-2048) (I k) (T k) W
          have hs : ¬ SomeP (-2048) (I k) (T k) := by unfold SomeP; omega
          rw [decide_eq_false hs] at hsb
          have Hs := Lib.hid (show ¬ SomeP (D k) (I k) (T k) by unfold SomeP; have := He0.out; omega)
          clear hs
          have hsc := Lib.hid hsb
          clear hsb
          go_wp2_with fail
          go_quiet ((go_at_call 58; exact (hsc.out _).mono (fun e w'' h => ⟨h.1, _, h.2⟩)))
          go_wp2
          go_ret
          exact ⟨⟨false, rfl, ⟨fun h => (by cases h), fun h => absurd h (fun h => by rcases h.2.2 k hkn with q | q; exact absurd q (fun z => He.out z.2.1); exact absurd q Hs.out)⟩⟩, below_drewN (below_drewN SB1h.out _) _⟩
      · have q0 : (D k == -2048) = false := by simpa using e0
        have He := Lib.hid e0
        clear e0
        have hsb := fun W => refsomebody_any (D k) (I k) (T k) W
        by_cases hs : SomeP (D k) (I k) (T k)
        · rw [decide_eq_true hs] at hsb
          have Hs := Lib.hid hs
          clear hs
          have hsc := Lib.hid hsb
          clear hsb
          go_wp2_with fail
          go_quiet ((go_at_call 58; exact (hsc.out _).mono (fun e w'' h => ⟨h.1, _, h.2⟩)))
          go_wp2
          go_roundw
          case rel =>
            refine ⟨k + 1, by omega, by go_num, ⟨_, rfl⟩, fun j hj => ?_⟩
            rcases Nat.lt_or_ge j k with h | h
            · exact Hall.out j h
            · obtain rfl : j = k := by omega
              exact .inr Hs.out
          case measure => simp [intOf]; omega
        · rw [decide_eq_false hs] at hsb
          have Hs := Lib.hid hs
          clear hs
          have hsc := Lib.hid hsb
          clear hsb
          go_wp2_with fail
          go_quiet ((go_at_call 58; exact (hsc.out _).mono (fun e w'' h => ⟨h.1, _, h.2⟩)))
          go_wp2
          go_ret
          exact ⟨⟨false, rfl, ⟨fun h => (by cases h), fun h => absurd h (fun h => by rcases h.2.2 k hkn with q | q; exact absurd q (fun z => He.out z.1); exact absurd q Hs.out)⟩⟩, below_drewN (below_drewN SB1h.out _) _⟩
    · obtain rfl : nd = k := by omega
      go_wp2
      go_ret
      exact ⟨⟨true, rfl, ⟨fun _ => ⟨HW.out, ⟨HN.out.symm, HN.out.symm, HN.out.symm, HN.out.symm⟩, Hall.out⟩, fun _ => rfl⟩⟩, below_drewN SB1h.out _⟩
end Go.Proofs.Ytibeoeooajelgaa
