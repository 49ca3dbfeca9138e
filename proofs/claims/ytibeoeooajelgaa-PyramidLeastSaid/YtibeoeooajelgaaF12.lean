/- two: a frame with two fragments put. -/
import Derived.Test.YtibeoeooajelgaaF11
import Derived.Deep.RegionWith
import Derived.Deep.CutRange
import Derived.Deep.DeepCutAuto
namespace Go.Proofs.Ytibeoeooajelgaa
open Go.RowKit
set_option linter.unusedVariables false
def cbk : Nat → Int | 3 => 255 | _ => 0
def crd : Nat → Int | 0 => 255 | 3 => 255 | _ => 0
def cbl : Nat → Int | 2 => 255 | 3 => 255 | _ => 0
theorem black_any (w : World) : Calls Try.prog 42 #[] w fun e w' => e = .returned (.agg #[.int .u8 (cbk 0), .int .u8 (cbk 1), .int .u8 (cbk 2), .int .u8 (cbk 3)]) ∧ Below w.heap.size w w' := by
  have hb : Below w.heap.size w (w.alloc (.cells #[.int .u8 (cbk 0), .int .u8 (cbk 1), .int .u8 (cbk 2), .int .u8 (cbk 3)] 23)) := (Below.refl _ _).alloc (Nat.le_refl _) _
  have HB := Lib.hid hb
  clear hb
  go_enter Try.func42, Try.ntmps42
  go_wp2
  refine bodyPost_ret (v := .agg #[.int .u8 (cbk 0), .int .u8 (cbk 1), .int .u8 (cbk 2), .int .u8 (cbk 3)]) (by simp [results, Try.results42, go_sem, *]; exact ⟨rfl, rfl, rfl, rfl⟩) rfl ⟨rfl, ?_⟩
  exact HB.out
theorem red_any (w : World) : Calls Try.prog 43 #[] w fun e w' => e = .returned (.agg #[.int .u8 (crd 0), .int .u8 (crd 1), .int .u8 (crd 2), .int .u8 (crd 3)]) ∧ Below w.heap.size w w' := by
  have hb : Below w.heap.size w (w.alloc (.cells #[.int .u8 (crd 0), .int .u8 (crd 1), .int .u8 (crd 2), .int .u8 (crd 3)] 23)) := (Below.refl _ _).alloc (Nat.le_refl _) _
  have HB := Lib.hid hb
  clear hb
  go_enter Try.func43, Try.ntmps43
  go_wp2
  refine bodyPost_ret (v := .agg #[.int .u8 (crd 0), .int .u8 (crd 1), .int .u8 (crd 2), .int .u8 (crd 3)]) (by simp [results, Try.results43, go_sem, *]; exact ⟨rfl, rfl, rfl, rfl⟩) rfl ⟨rfl, ?_⟩
  exact HB.out
theorem blue_any (w : World) : Calls Try.prog 66 #[] w fun e w' => e = .returned (.agg #[.int .u8 (cbl 0), .int .u8 (cbl 1), .int .u8 (cbl 2), .int .u8 (cbl 3)]) ∧ Below w.heap.size w w' := by
  have hb : Below w.heap.size w (w.alloc (.cells #[.int .u8 (cbl 0), .int .u8 (cbl 1), .int .u8 (cbl 2), .int .u8 (cbl 3)] 23)) := (Below.refl _ _).alloc (Nat.le_refl _) _
  have HB := Lib.hid hb
  clear hb
  go_enter Try.func66, Try.ntmps66
  go_wp2
  refine bodyPost_ret (v := .agg #[.int .u8 (cbl 0), .int .u8 (cbl 1), .int .u8 (cbl 2), .int .u8 (cbl 3)]) (by simp [results, Try.results66, go_sem, *]; exact ⟨rfl, rfl, rfl, rfl⟩) rfl ⟨rfl, ?_⟩
  exact HB.out
theorem st6F {W H : Int} {A1 A2 A3 A4 : Option Addr} {n1 n2 n3 n4 k1 k2 k3 k4 g : Nat} {w : World} {c0 c1 c2 c3 c4 c5 : Value} (h : HasBlk w g 29 #[c0, c1, c2, c3, c4, c5]) :
    (Instr.storeAt 29 (.pointer (some ⟨g, 0, none⟩)) (.agg #[.int .i64 W, .int .i64 H, .slice A1 n1 k1, .slice A2 n2 k2, .slice A3 n3 k3, .slice A4 n4 k4])).run Try.prog w =
      .ok () ((((((w.setCell ⟨g, 0, none⟩ (.int .i64 W)).setCell ⟨g, 1, none⟩ (.int .i64 H)).setCell ⟨g, 2, none⟩ (.slice A1 n1 k1)).setCell ⟨g, 3, none⟩ (.slice A2 n2 k2)).setCell ⟨g, 4, none⟩ (.slice A3 n3 k3)).setCell ⟨g, 5, none⟩ (.slice A4 n4 k4)) := by
  have r0 := h.cell 0
  have r1 := h.cell 1
  have r2 := h.cell 2
  have r3 := h.cell 3
  have r4 := h.cell 4
  have r5 := h.cell 5
  have f0 := h.frozen 0
  have f1 := h.frozen 1
  have f2 := h.frozen 2
  have f3 := h.frozen 3
  have f4 := h.frozen 4
  have f5 := h.frozen 5
  simp at r0 r1 r2 r3 r4 r5
  go_simp
theorem new_two {f : FD} {x : Int} {c : Nat → Int} (h : NewV 2 1 c f x) : x = 0 ∧ f = FDnew 2 1 2 c := by
  rcases h with ⟨_, rfl, n, hn, rfl⟩ | ⟨h, _, _⟩
  · have : n = 2 := by omega
    subst this
    exact ⟨rfl, rfl⟩
  · exact absurd ⟨by decide, by decide, by decide, by decide⟩ h
/-- A frame of two pixels that may be. -/
def Two (f : FD) : Prop := f.May ∧ f.W = 2 ∧ f.H = 1
theorem two_new (c : Nat → Int) : Two (FDnew 2 1 2 c) := ⟨⟨⟨by show (1 : Int) ≤ 2; decide, by show (2 : Int) ≤ 64; decide, by show (1 : Int) ≤ 1; decide, by show (1 : Int) ≤ 64; decide⟩, ⟨rfl, rfl, rfl, rfl⟩, fun k hk => .inl ⟨rfl, rfl, rfl⟩⟩, rfl, rfl⟩
theorem put_two {f g : FD} {d i t z : Int} {c : Nat → Int} (h : Two f) (hs : SomeP d i t) (hv : PutV f 1 0 d i t c g z) : z = 0 ∧ g = f.put 1 d i t c := by
  obtain ⟨h1, h2, h3⟩ := h
  have hi : f.In 1 0 := by unfold FD.In; omega
  rcases hv with ⟨a, _⟩ | ⟨_, a, _⟩ | ⟨_, _, _, rfl, k, hk, _, rfl⟩
  · exact absurd h1 a
  · exact absurd ⟨hi, hs⟩ a
  · have : k = 1 := by rw [Int.zero_mul] at hk; omega
    subst this
    exact ⟨rfl, rfl⟩
theorem Two.put {f : FD} (h : Two f) {d i t : Int} (hs : SomeP d i t) (c : Nat → Int) : Two (f.put 1 d i t c) :=
  ⟨h.1.put hs 1 c, (FD.put_W f 1 d i t c).1.trans h.2.1, (FD.put_W f 1 d i t c).2.1.trans h.2.2⟩
def twoF (b : Bool) : FD := if b then ((FDnew 2 1 2 cbk).put 1 600 2 0 cbl).put 1 600 3 0 crd else ((FDnew 2 1 2 cbk).put 1 600 3 0 crd).put 1 600 2 0 cbl

set_option maxRecDepth 100000 in
set_option maxHeartbeats 8000000 in
theorem two_false (w : World) : Calls Try.prog 41 #[.bool false] w fun e w' => (∃ p f, e = .returned (.tuple #[.agg #[.int .i64 f.W, .int .i64 f.H, .slice p.ac f.nc p.kc, .slice p.ad f.nd p.kd, .slice p.ai f.ni p.ki, .slice p.a4 f.nt p.kt], .bool true]) ∧ FOwn w.heap.size w' p f ∧ f = twoF false) ∧ Below w.heap.size w w' := by
  go_enter Try.func41, Try.ntmps41
  go_wp2_with fail
  have s_R : HasBlk (w.alloc (.cells #[.int .i64 0, .int .i64 0, .slice none 0 0, .slice none 0 0, .slice none 0 0, .slice none 0 0] 29)) (w.heap.size) 29 #[.int .i64 0, .int .i64 0, .slice none 0 0, .slice none 0 0, .slice none 0 0, .slice none 0 0] := by simpa using hasBlk_new w 29 #[.int .i64 0, .int .i64 0, .slice none 0 0, .slice none 0 0, .slice none 0 0, .slice none 0 0]
  have t_R : HasBlk (w.alloc (.cells #[.int .i64 0, .int .i64 0, .slice none 0 0, .slice none 0 0, .slice none 0 0, .slice none 0 0] 29)) (w.heap.size) 29 #[.int .i64 0, .int .i64 0, .slice none 0 0, .slice none 0 0, .slice none 0 0, .slice none 0 0] := by simpa using s_R
  clear s_R
  have SB1 : Below w.heap.size w (w.alloc (.cells #[.int .i64 0, .int .i64 0, .slice none 0 0, .slice none 0 0, .slice none 0 0, .slice none 0 0] 29)) := by
    repeat' (first | exact Below.refl _ _ | assumption | apply Below.drew | refine Below.setCell ?_ (by first | omega | (simp; done) | (simp; omega)) _ | refine Below.alloc ?_ (by first | omega | (simp; done) | (simp; omega)) _)
  generalize gW_v0 : (w.alloc (.cells #[.int .i64 0, .int .i64 0, .slice none 0 0, .slice none 0 0, .slice none 0 0, .slice none 0 0] 29)) = v0 at *
  clear gW_v0
  have R := Lib.hid t_R
  clear t_R
  have SB1h := Lib.hid SB1
  clear SB1
  refine (black_any _).mono ?_
  rintro e w1 ⟨rfl, bel1⟩
  have t_R := R.out.below bel1
  clear R
  have R := Lib.hid t_R
  clear t_R
  have SB2 : Below w.heap.size w w1 := SB1h.out.trans (bel1.mono SB1h.out.size)
  clear SB1h
  have SB2h := Lib.hid SB2
  clear SB2 bel1
  have lt_R := R.out.lt
  have R_0 := R.out.cell 0
  have R_1 := R.out.cell 1
  have R_2 := R.out.cell 2
  have R_3 := R.out.cell 3
  have R_4 := R.out.cell 4
  have R_5 := R.out.cell 5
  have R_f0 := R.out.frozen 0
  have R_f1 := R.out.frozen 1
  have R_f2 := R.out.frozen 2
  have R_f3 := R.out.frozen 3
  have R_f4 := R.out.frozen 4
  have R_f5 := R.out.frozen 5
  simp at R_0 R_1 R_2 R_3 R_4 R_5
  have szB_w1 := SB2h.out.size
  go_wp2_with fail
  refine (new_any 2 1 cbk _).mono ?_
  rintro e w2 ⟨⟨p0, f0, x0, rfl, hok, hv⟩, bel2⟩
  have LTh := Lib.hid (Nat.le_trans SB2h.out.size bel2.size)
  obtain ⟨rfl, hf⟩ := new_two hv
  have D0 := Lib.hid hf
  have F0 := Lib.hid hok
  clear hok hv hf
  have t_R := R.out.below bel2
  clear R
  have R := Lib.hid t_R
  clear t_R
  have SB3 : Below w.heap.size w w2 := SB2h.out.trans (bel2.mono SB2h.out.size)
  clear SB2h
  have SB3h := Lib.hid SB3
  clear SB3 bel2
  have lt_R := R.out.lt
  have R_0 := R.out.cell 0
  have R_1 := R.out.cell 1
  have R_2 := R.out.cell 2
  have R_3 := R.out.cell 3
  have R_4 := R.out.cell 4
  have R_5 := R.out.cell 5
  have R_f0 := R.out.frozen 0
  have R_f1 := R.out.frozen 1
  have R_f2 := R.out.frozen 2
  have R_f3 := R.out.frozen 3
  have R_f4 := R.out.frozen 4
  have R_f5 := R.out.frozen 5
  simp at R_0 R_1 R_2 R_3 R_4 R_5
  have szB_w2 := SB3h.out.size
  go_wp2_with fail
  have F0a := (((F0.out.below ((Below.refl w2.heap.size w2).alloc (Nat.le_refl _) (.cells #[.int .i64 f0.W, .int .i64 f0.H, .slice p0.ac f0.nc p0.kc, .slice p0.ad f0.nd p0.kd, .slice p0.ai f0.ni p0.ki, .slice p0.a4 f0.nt p0.kt] 29))).below ((Below.refl (w2.alloc (.cells #[.int .i64 f0.W, .int .i64 f0.H, .slice p0.ac f0.nc p0.kc, .slice p0.ad f0.nd p0.kd, .slice p0.ai f0.ni p0.ki, .slice p0.a4 f0.nt p0.kt] 29)).heap.size (w2.alloc (.cells #[.int .i64 f0.W, .int .i64 f0.H, .slice p0.ac f0.nc p0.kc, .slice p0.ad f0.nd p0.kd, .slice p0.ai f0.ni p0.ki, .slice p0.a4 f0.nt p0.kt] 29))).alloc (Nat.le_refl _) (.cells #[.int .i64 600, .int .i64 3, .int .i64 0, .int .i64 0, .int .i64 0, .int .i64 0] 25))).below ((Below.refl ((w2.alloc (.cells #[.int .i64 f0.W, .int .i64 f0.H, .slice p0.ac f0.nc p0.kc, .slice p0.ad f0.nd p0.kd, .slice p0.ai f0.ni p0.ki, .slice p0.a4 f0.nt p0.kt] 29)).alloc (.cells #[.int .i64 600, .int .i64 3, .int .i64 0, .int .i64 0, .int .i64 0, .int .i64 0] 25)).heap.size ((w2.alloc (.cells #[.int .i64 f0.W, .int .i64 f0.H, .slice p0.ac f0.nc p0.kc, .slice p0.ad f0.nd p0.kd, .slice p0.ai f0.ni p0.ki, .slice p0.a4 f0.nt p0.kt] 29)).alloc (.cells #[.int .i64 600, .int .i64 3, .int .i64 0, .int .i64 0, .int .i64 0, .int .i64 0] 25))).alloc (Nat.le_refl _) (.cells #[.int .i64 600, .int .i64 2, .int .i64 0, .int .i64 0, .int .i64 0, .int .i64 0] 25)))
  clear F0
  have NE_R_T := Lib.hid (show w.heap.size ≠ w2.heap.size by omega)
  have NE_R_A := Lib.hid (show w.heap.size ≠ w2.heap.size + 1 by omega)
  have NE_T_A := Lib.hid (show w2.heap.size ≠ w2.heap.size + 1 by omega)
  have NE_R_B := Lib.hid (show w.heap.size ≠ w2.heap.size + 1 + 1 by omega)
  have NE_T_B := Lib.hid (show w2.heap.size ≠ w2.heap.size + 1 + 1 by omega)
  have NE_A_B := Lib.hid (show w2.heap.size + 1 ≠ w2.heap.size + 1 + 1 by omega)
  have s_R := R.out
  replace s_R := s_R.alloc (.cells #[.int .i64 f0.W, .int .i64 f0.H, .slice p0.ac f0.nc p0.kc, .slice p0.ad f0.nd p0.kd, .slice p0.ai f0.ni p0.ki, .slice p0.a4 f0.nt p0.kt] 29)
  have s_T : HasBlk (w2.alloc (.cells #[.int .i64 f0.W, .int .i64 f0.H, .slice p0.ac f0.nc p0.kc, .slice p0.ad f0.nd p0.kd, .slice p0.ai f0.ni p0.ki, .slice p0.a4 f0.nt p0.kt] 29)) (w2.heap.size) 29 #[.int .i64 f0.W, .int .i64 f0.H, .slice p0.ac f0.nc p0.kc, .slice p0.ad f0.nd p0.kd, .slice p0.ai f0.ni p0.ki, .slice p0.a4 f0.nt p0.kt] := by simpa using hasBlk_new w2 29 #[.int .i64 f0.W, .int .i64 f0.H, .slice p0.ac f0.nc p0.kc, .slice p0.ad f0.nd p0.kd, .slice p0.ai f0.ni p0.ki, .slice p0.a4 f0.nt p0.kt]
  replace s_R := s_R.alloc (.cells #[.int .i64 600, .int .i64 3, .int .i64 0, .int .i64 0, .int .i64 0, .int .i64 0] 25)
  replace s_T := s_T.alloc (.cells #[.int .i64 600, .int .i64 3, .int .i64 0, .int .i64 0, .int .i64 0, .int .i64 0] 25)
  have s_A : HasBlk ((w2.alloc (.cells #[.int .i64 f0.W, .int .i64 f0.H, .slice p0.ac f0.nc p0.kc, .slice p0.ad f0.nd p0.kd, .slice p0.ai f0.ni p0.ki, .slice p0.a4 f0.nt p0.kt] 29)).alloc (.cells #[.int .i64 600, .int .i64 3, .int .i64 0, .int .i64 0, .int .i64 0, .int .i64 0] 25)) (w2.heap.size + 1) 25 #[.int .i64 600, .int .i64 3, .int .i64 0, .int .i64 0, .int .i64 0, .int .i64 0] := by simpa using hasBlk_new (w2.alloc (.cells #[.int .i64 f0.W, .int .i64 f0.H, .slice p0.ac f0.nc p0.kc, .slice p0.ad f0.nd p0.kd, .slice p0.ai f0.ni p0.ki, .slice p0.a4 f0.nt p0.kt] 29)) 25 #[.int .i64 600, .int .i64 3, .int .i64 0, .int .i64 0, .int .i64 0, .int .i64 0]
  replace s_R := s_R.alloc (.cells #[.int .i64 600, .int .i64 2, .int .i64 0, .int .i64 0, .int .i64 0, .int .i64 0] 25)
  replace s_T := s_T.alloc (.cells #[.int .i64 600, .int .i64 2, .int .i64 0, .int .i64 0, .int .i64 0, .int .i64 0] 25)
  replace s_A := s_A.alloc (.cells #[.int .i64 600, .int .i64 2, .int .i64 0, .int .i64 0, .int .i64 0, .int .i64 0] 25)
  have s_B : HasBlk (((w2.alloc (.cells #[.int .i64 f0.W, .int .i64 f0.H, .slice p0.ac f0.nc p0.kc, .slice p0.ad f0.nd p0.kd, .slice p0.ai f0.ni p0.ki, .slice p0.a4 f0.nt p0.kt] 29)).alloc (.cells #[.int .i64 600, .int .i64 3, .int .i64 0, .int .i64 0, .int .i64 0, .int .i64 0] 25)).alloc (.cells #[.int .i64 600, .int .i64 2, .int .i64 0, .int .i64 0, .int .i64 0, .int .i64 0] 25)) (w2.heap.size + 1 + 1) 25 #[.int .i64 600, .int .i64 2, .int .i64 0, .int .i64 0, .int .i64 0, .int .i64 0] := by simpa using hasBlk_new ((w2.alloc (.cells #[.int .i64 f0.W, .int .i64 f0.H, .slice p0.ac f0.nc p0.kc, .slice p0.ad f0.nd p0.kd, .slice p0.ai f0.ni p0.ki, .slice p0.a4 f0.nt p0.kt] 29)).alloc (.cells #[.int .i64 600, .int .i64 3, .int .i64 0, .int .i64 0, .int .i64 0, .int .i64 0] 25)) 25 #[.int .i64 600, .int .i64 2, .int .i64 0, .int .i64 0, .int .i64 0, .int .i64 0]
  have t_R : HasBlk (((w2.alloc (.cells #[.int .i64 f0.W, .int .i64 f0.H, .slice p0.ac f0.nc p0.kc, .slice p0.ad f0.nd p0.kd, .slice p0.ai f0.ni p0.ki, .slice p0.a4 f0.nt p0.kt] 29)).alloc (.cells #[.int .i64 600, .int .i64 3, .int .i64 0, .int .i64 0, .int .i64 0, .int .i64 0] 25)).alloc (.cells #[.int .i64 600, .int .i64 2, .int .i64 0, .int .i64 0, .int .i64 0, .int .i64 0] 25)) (w.heap.size) 29 #[.int .i64 0, .int .i64 0, .slice none 0 0, .slice none 0 0, .slice none 0 0, .slice none 0 0] := by simpa using s_R
  clear s_R R
  have t_T : HasBlk (((w2.alloc (.cells #[.int .i64 f0.W, .int .i64 f0.H, .slice p0.ac f0.nc p0.kc, .slice p0.ad f0.nd p0.kd, .slice p0.ai f0.ni p0.ki, .slice p0.a4 f0.nt p0.kt] 29)).alloc (.cells #[.int .i64 600, .int .i64 3, .int .i64 0, .int .i64 0, .int .i64 0, .int .i64 0] 25)).alloc (.cells #[.int .i64 600, .int .i64 2, .int .i64 0, .int .i64 0, .int .i64 0, .int .i64 0] 25)) (w2.heap.size) 29 #[.int .i64 f0.W, .int .i64 f0.H, .slice p0.ac f0.nc p0.kc, .slice p0.ad f0.nd p0.kd, .slice p0.ai f0.ni p0.ki, .slice p0.a4 f0.nt p0.kt] := by simpa using s_T
  clear s_T
  have t_A : HasBlk (((w2.alloc (.cells #[.int .i64 f0.W, .int .i64 f0.H, .slice p0.ac f0.nc p0.kc, .slice p0.ad f0.nd p0.kd, .slice p0.ai f0.ni p0.ki, .slice p0.a4 f0.nt p0.kt] 29)).alloc (.cells #[.int .i64 600, .int .i64 3, .int .i64 0, .int .i64 0, .int .i64 0, .int .i64 0] 25)).alloc (.cells #[.int .i64 600, .int .i64 2, .int .i64 0, .int .i64 0, .int .i64 0, .int .i64 0] 25)) (w2.heap.size + 1) 25 #[.int .i64 600, .int .i64 3, .int .i64 0, .int .i64 0, .int .i64 0, .int .i64 0] := by simpa using s_A
  clear s_A
  have t_B : HasBlk (((w2.alloc (.cells #[.int .i64 f0.W, .int .i64 f0.H, .slice p0.ac f0.nc p0.kc, .slice p0.ad f0.nd p0.kd, .slice p0.ai f0.ni p0.ki, .slice p0.a4 f0.nt p0.kt] 29)).alloc (.cells #[.int .i64 600, .int .i64 3, .int .i64 0, .int .i64 0, .int .i64 0, .int .i64 0] 25)).alloc (.cells #[.int .i64 600, .int .i64 2, .int .i64 0, .int .i64 0, .int .i64 0, .int .i64 0] 25)) (w2.heap.size + 1 + 1) 25 #[.int .i64 600, .int .i64 2, .int .i64 0, .int .i64 0, .int .i64 0, .int .i64 0] := by simpa using s_B
  clear s_B
  have SB4 : Below w.heap.size w (((w2.alloc (.cells #[.int .i64 f0.W, .int .i64 f0.H, .slice p0.ac f0.nc p0.kc, .slice p0.ad f0.nd p0.kd, .slice p0.ai f0.ni p0.ki, .slice p0.a4 f0.nt p0.kt] 29)).alloc (.cells #[.int .i64 600, .int .i64 3, .int .i64 0, .int .i64 0, .int .i64 0, .int .i64 0] 25)).alloc (.cells #[.int .i64 600, .int .i64 2, .int .i64 0, .int .i64 0, .int .i64 0, .int .i64 0] 25)) := by
    have bel0 := SB3h.out
    repeat' (first | exact Below.refl _ _ | assumption | apply Below.drew | refine Below.setCell ?_ (by first | omega | (simp; done) | (simp; omega)) _ | refine Below.alloc ?_ (by first | omega | (simp; done) | (simp; omega)) _)
  clear lt_R R_0 R_1 R_2 R_3 R_4 R_5 R_f0 R_f1 R_f2 R_f3 R_f4 R_f5
  generalize gW_v1 : (((w2.alloc (.cells #[.int .i64 f0.W, .int .i64 f0.H, .slice p0.ac f0.nc p0.kc, .slice p0.ad f0.nd p0.kd, .slice p0.ai f0.ni p0.ki, .slice p0.a4 f0.nt p0.kt] 29)).alloc (.cells #[.int .i64 600, .int .i64 3, .int .i64 0, .int .i64 0, .int .i64 0, .int .i64 0] 25)).alloc (.cells #[.int .i64 600, .int .i64 2, .int .i64 0, .int .i64 0, .int .i64 0, .int .i64 0] 25)) = v1 at *
  clear gW_v1
  have R := Lib.hid t_R
  clear t_R
  have T := Lib.hid t_T
  clear t_T
  have A := Lib.hid t_A
  clear t_A
  have B := Lib.hid t_B
  clear t_B
  clear SB3h
  have SB4h := Lib.hid SB4
  clear SB4
  have F0 := Lib.hid F0a
  clear F0a
  have lt_R := R.out.lt
  have R_0 := R.out.cell 0
  have R_1 := R.out.cell 1
  have R_2 := R.out.cell 2
  have R_3 := R.out.cell 3
  have R_4 := R.out.cell 4
  have R_5 := R.out.cell 5
  have R_f0 := R.out.frozen 0
  have R_f1 := R.out.frozen 1
  have R_f2 := R.out.frozen 2
  have R_f3 := R.out.frozen 3
  have R_f4 := R.out.frozen 4
  have R_f5 := R.out.frozen 5
  simp at R_0 R_1 R_2 R_3 R_4 R_5
  have lt_T := T.out.lt
  have T_0 := T.out.cell 0
  have T_1 := T.out.cell 1
  have T_2 := T.out.cell 2
  have T_3 := T.out.cell 3
  have T_4 := T.out.cell 4
  have T_5 := T.out.cell 5
  have T_f0 := T.out.frozen 0
  have T_f1 := T.out.frozen 1
  have T_f2 := T.out.frozen 2
  have T_f3 := T.out.frozen 3
  have T_f4 := T.out.frozen 4
  have T_f5 := T.out.frozen 5
  simp at T_0 T_1 T_2 T_3 T_4 T_5
  have lt_A := A.out.lt
  have A_0 := A.out.cell 0
  have A_1 := A.out.cell 1
  have A_2 := A.out.cell 2
  have A_3 := A.out.cell 3
  have A_4 := A.out.cell 4
  have A_5 := A.out.cell 5
  simp at A_0 A_1 A_2 A_3 A_4 A_5
  have lt_B := B.out.lt
  have B_0 := B.out.cell 0
  have B_1 := B.out.cell 1
  have B_2 := B.out.cell 2
  have B_3 := B.out.cell 3
  have B_4 := B.out.cell 4
  have B_5 := B.out.cell 5
  simp at B_0 B_1 B_2 B_3 B_4 B_5
  have szB_v1 := SB4h.out.size
  have Tw0 := Lib.hid (show Two f0 by rw [D0.out]; exact two_new cbk)
  go_upto_region 7 with fail
  go_cut [] from 40 to 46 (fun  wx => ∃ p1 f1, HasBlk wx (w.heap.size) 29 #[.int .i64 0, .int .i64 0, .slice none 0 0, .slice none 0 0, .slice none 0 0, .slice none 0 0] ∧ HasBlk wx (w2.heap.size) 29 #[.int .i64 f1.W, .int .i64 f1.H, .slice p1.ac f1.nc p1.kc, .slice p1.ad f1.nd p1.kd, .slice p1.ai f1.ni p1.ki, .slice p1.a4 f1.nt p1.kt] ∧ HasBlk wx (w2.heap.size + 1) 25 #[.int .i64 600, .int .i64 3, .int .i64 0, .int .i64 0, .int .i64 0, .int .i64 0] ∧ HasBlk wx (w2.heap.size + 1 + 1) 25 #[.int .i64 600, .int .i64 2, .int .i64 0, .int .i64 0, .int .i64 0, .int .i64 0] ∧ FOwn (w.heap.size + 1) wx p1 f1 ∧ f1 = f0.put 1 600 3 0 crd ∧ Below w.heap.size w wx)
  case first =>
    have hput := Lib.hid (fun W' (hb : Below v1.heap.size v1 W') => put_any p0 f0 1 0 600 3 0 0 0 0 crd W' (F0.out.below hb))
    go_region_with
      (first | (go_at_call 43; (with_reducible refine (red_any _).mono ?_); rintro e wa ⟨rfl, hba⟩; have ZT := T.out.drew.below hba; have ZA := A.out.drew.below hba; have cT0 : wa.cell? ⟨w2.heap.size, 0, none⟩ = some (.int .i64 f0.W) := ZT.cell 0; have cT1 : wa.cell? ⟨w2.heap.size, 1, none⟩ = some (.int .i64 f0.H) := ZT.cell 1; have cT2 : wa.cell? ⟨w2.heap.size, 2, none⟩ = some (.slice p0.ac f0.nc p0.kc) := ZT.cell 2; have cT3 : wa.cell? ⟨w2.heap.size, 3, none⟩ = some (.slice p0.ad f0.nd p0.kd) := ZT.cell 3; have cT4 : wa.cell? ⟨w2.heap.size, 4, none⟩ = some (.slice p0.ai f0.ni p0.ki) := ZT.cell 4; have cT5 : wa.cell? ⟨w2.heap.size, 5, none⟩ = some (.slice p0.a4 f0.nt p0.kt) := ZT.cell 5; have cA0 : wa.cell? ⟨w2.heap.size + 1, 0, none⟩ = some (.int .i64 600) := ZA.cell 0; have cA1 : wa.cell? ⟨w2.heap.size + 1, 1, none⟩ = some (.int .i64 3) := ZA.cell 1; have cA2 : wa.cell? ⟨w2.heap.size + 1, 2, none⟩ = some (.int .i64 0) := ZA.cell 2; have cA3 : wa.cell? ⟨w2.heap.size + 1, 3, none⟩ = some (.int .i64 0) := ZA.cell 3; have cA4 : wa.cell? ⟨w2.heap.size + 1, 4, none⟩ = some (.int .i64 0) := ZA.cell 4; have cA5 : wa.cell? ⟨w2.heap.size + 1, 5, none⟩ = some (.int .i64 0) := ZA.cell 5; have hbA := (Below.refl v1.heap.size v1).drew.trans hba)
             | (go_at_call 20; (with_reducible refine (hput.out _ hbA).mono ?_); rintro e wb ⟨⟨p1, f1, x1, rfl, ho, hv⟩, hbb⟩; obtain ⟨rfl, hf⟩ := put_two Tw0.out (by unfold SomeP; decide) hv; have HF := Lib.hid hf; have HO1 := Lib.hid ho; clear ho hv hf; have ZS := ZT.below hbb)
             | (have e := st6F (W := f1.W) (H := f1.H) (A1 := p1.ac) (A2 := p1.ad) (A3 := p1.ai) (A4 := p1.a4) (n1 := f1.nc) (n2 := f1.nd) (n3 := f1.ni) (n4 := f1.nt) (k1 := p1.kc) (k2 := p1.kd) (k3 := p1.ki) (k4 := p1.kt) ZS; simp [go_sem] at e; refine upon_store e ?_; clear e))
    all_goals (go_wp2_with fail; go_meet; have belb := hbA.trans (hbb.mono hbA.size); have ltT : w2.heap.size < wa.heap.size := Nat.lt_of_lt_of_le T.out.lt hbA.size; have hlT : w.heap.size ≤ w2.heap.size := LTh.out; have hlB : w.heap.size + 1 ≤ wa.heap.size := Nat.le_trans (Nat.lt_of_lt_of_le R.out.lt hbA.size) (Nat.le_refl _); exact ⟨p1, f1, (HasBlk.far (HasBlk.far (HasBlk.far (HasBlk.far (HasBlk.far (HasBlk.far (R.out.below belb) (p := ⟨w2.heap.size, 0, none⟩) (Ne.symm NE_R_T.out) _) (p := ⟨w2.heap.size, 1, none⟩) (Ne.symm NE_R_T.out) _) (p := ⟨w2.heap.size, 2, none⟩) (Ne.symm NE_R_T.out) _) (p := ⟨w2.heap.size, 3, none⟩) (Ne.symm NE_R_T.out) _) (p := ⟨w2.heap.size, 4, none⟩) (Ne.symm NE_R_T.out) _) (p := ⟨w2.heap.size, 5, none⟩) (Ne.symm NE_R_T.out) _), (by have := (HasBlk.set (HasBlk.set (HasBlk.set (HasBlk.set (HasBlk.set (HasBlk.set ZS 0 (.int .i64 f1.W)) 1 (.int .i64 f1.H)) 2 (.slice p1.ac f1.nc p1.kc)) 3 (.slice p1.ad f1.nd p1.kd)) 4 (.slice p1.ai f1.ni p1.ki)) 5 (.slice p1.a4 f1.nt p1.kt)); simpa using this), (HasBlk.far (HasBlk.far (HasBlk.far (HasBlk.far (HasBlk.far (HasBlk.far (A.out.below belb) (p := ⟨w2.heap.size, 0, none⟩) NE_T_A.out _) (p := ⟨w2.heap.size, 1, none⟩) NE_T_A.out _) (p := ⟨w2.heap.size, 2, none⟩) NE_T_A.out _) (p := ⟨w2.heap.size, 3, none⟩) NE_T_A.out _) (p := ⟨w2.heap.size, 4, none⟩) NE_T_A.out _) (p := ⟨w2.heap.size, 5, none⟩) NE_T_A.out _), (HasBlk.far (HasBlk.far (HasBlk.far (HasBlk.far (HasBlk.far (HasBlk.far (B.out.below belb) (p := ⟨w2.heap.size, 0, none⟩) NE_T_B.out _) (p := ⟨w2.heap.size, 1, none⟩) NE_T_B.out _) (p := ⟨w2.heap.size, 2, none⟩) NE_T_B.out _) (p := ⟨w2.heap.size, 3, none⟩) NE_T_B.out _) (p := ⟨w2.heap.size, 4, none⟩) NE_T_B.out _) (p := ⟨w2.heap.size, 5, none⟩) NE_T_B.out _), FOwn.base (FOwn.far (g := w2.heap.size) (j := 5) (FOwn.far (g := w2.heap.size) (j := 4) (FOwn.far (g := w2.heap.size) (j := 3) (FOwn.far (g := w2.heap.size) (j := 2) (FOwn.far (g := w2.heap.size) (j := 1) (FOwn.far (g := w2.heap.size) (j := 0) HO1.out ltT _) ltT _) ltT _) ltT _) ltT _) ltT _) hlB, HF.out, (Below.setCell (p := ⟨w2.heap.size, 5, none⟩) (Below.setCell (p := ⟨w2.heap.size, 4, none⟩) (Below.setCell (p := ⟨w2.heap.size, 3, none⟩) (Below.setCell (p := ⟨w2.heap.size, 2, none⟩) (Below.setCell (p := ⟨w2.heap.size, 1, none⟩) (Below.setCell (p := ⟨w2.heap.size, 0, none⟩) (SB4h.out.trans (belb.mono SB4h.out.size)) hlT _) hlT _) hlT _) hlT _) hlT _) hlT _)⟩)
  case rest =>
    obtain ⟨wz1, rfl⟩ : ∃ wz : World, wz = wc := ⟨wc, rfl⟩
    obtain ⟨p1, f1, hR, hT, hA, hB, hown, hf, hbel⟩ := hcut
    clear R T A B SB4h F0 lt_R R_0 R_1 R_2 R_3 R_4 R_5 R_f0 R_f1 R_f2 R_f3 R_f4 R_f5 lt_T T_0 T_1 T_2 T_3 T_4 T_5 T_f0 T_f1 T_f2 T_f3 T_f4 T_f5 lt_A A_0 A_1 A_2 A_3 A_4 A_5 lt_B B_0 B_1 B_2 B_3 B_4 B_5
    have R := Lib.hid hR
    have T := Lib.hid hT
    have A := Lib.hid hA
    have B := Lib.hid hB
    have SBk1h := Lib.hid hbel
    have O1 := Lib.hid hown
    have F1 := Lib.hid hown.ok
    have Tw1 := Lib.hid (show Two f1 by rw [hf]; exact Tw0.out.put (by unfold SomeP; decide) _)
    have D1 := Lib.hid hf
    clear hR hT hA hB hown hf hbel
    have lt_R := R.out.lt
    have R_0 := R.out.cell 0
    have R_1 := R.out.cell 1
    have R_2 := R.out.cell 2
    have R_3 := R.out.cell 3
    have R_4 := R.out.cell 4
    have R_5 := R.out.cell 5
    have R_f0 := R.out.frozen 0
    have R_f1 := R.out.frozen 1
    have R_f2 := R.out.frozen 2
    have R_f3 := R.out.frozen 3
    have R_f4 := R.out.frozen 4
    have R_f5 := R.out.frozen 5
    simp at R_0 R_1 R_2 R_3 R_4 R_5
    have lt_T := T.out.lt
    have T_0 := T.out.cell 0
    have T_1 := T.out.cell 1
    have T_2 := T.out.cell 2
    have T_3 := T.out.cell 3
    have T_4 := T.out.cell 4
    have T_5 := T.out.cell 5
    have T_f0 := T.out.frozen 0
    have T_f1 := T.out.frozen 1
    have T_f2 := T.out.frozen 2
    have T_f3 := T.out.frozen 3
    have T_f4 := T.out.frozen 4
    have T_f5 := T.out.frozen 5
    simp at T_0 T_1 T_2 T_3 T_4 T_5
    have lt_A := A.out.lt
    have A_0 := A.out.cell 0
    have A_1 := A.out.cell 1
    have A_2 := A.out.cell 2
    have A_3 := A.out.cell 3
    have A_4 := A.out.cell 4
    have A_5 := A.out.cell 5
    simp at A_0 A_1 A_2 A_3 A_4 A_5
    have lt_B := B.out.lt
    have B_0 := B.out.cell 0
    have B_1 := B.out.cell 1
    have B_2 := B.out.cell 2
    have B_3 := B.out.cell 3
    have B_4 := B.out.cell 4
    have B_5 := B.out.cell 5
    simp at B_0 B_1 B_2 B_3 B_4 B_5
    have szB_wz1 := SBk1h.out.size
    go_upto_region 8 with fail
    go_cut [10] from 47 to 53 (fun s10 wx => ∃ p2 f2, s10 = .int .i64 0 ∧ HasBlk wx (w.heap.size) 29 #[.int .i64 0, .int .i64 0, .slice none 0 0, .slice none 0 0, .slice none 0 0, .slice none 0 0] ∧ HasBlk wx (w2.heap.size) 29 #[.int .i64 f2.W, .int .i64 f2.H, .slice p2.ac f2.nc p2.kc, .slice p2.ad f2.nd p2.kd, .slice p2.ai f2.ni p2.ki, .slice p2.a4 f2.nt p2.kt] ∧ HasBlk wx (w2.heap.size + 1) 25 #[.int .i64 600, .int .i64 3, .int .i64 0, .int .i64 0, .int .i64 0, .int .i64 0] ∧ HasBlk wx (w2.heap.size + 1 + 1) 25 #[.int .i64 600, .int .i64 2, .int .i64 0, .int .i64 0, .int .i64 0, .int .i64 0] ∧ FOwn (w.heap.size + 1) wx p2 f2 ∧ f2 = f1.put 1 600 2 0 cbl ∧ Below w.heap.size w wx)
    case first =>
      have hput := Lib.hid (fun W' (hb : Below wz1.heap.size wz1 W') => put_any p1 f1 1 0 600 2 0 0 0 0 cbl W' (F1.out.below hb))
      go_region_with
        (first | (go_at_call 66; (with_reducible refine (blue_any _).mono ?_); rintro e wa ⟨rfl, hba⟩; have ZT := T.out.drew.below hba; have ZB := B.out.drew.below hba; have cT0 : wa.cell? ⟨w2.heap.size, 0, none⟩ = some (.int .i64 f1.W) := ZT.cell 0; have cT1 : wa.cell? ⟨w2.heap.size, 1, none⟩ = some (.int .i64 f1.H) := ZT.cell 1; have cT2 : wa.cell? ⟨w2.heap.size, 2, none⟩ = some (.slice p1.ac f1.nc p1.kc) := ZT.cell 2; have cT3 : wa.cell? ⟨w2.heap.size, 3, none⟩ = some (.slice p1.ad f1.nd p1.kd) := ZT.cell 3; have cT4 : wa.cell? ⟨w2.heap.size, 4, none⟩ = some (.slice p1.ai f1.ni p1.ki) := ZT.cell 4; have cT5 : wa.cell? ⟨w2.heap.size, 5, none⟩ = some (.slice p1.a4 f1.nt p1.kt) := ZT.cell 5; have cB0 : wa.cell? ⟨w2.heap.size + 1 + 1, 0, none⟩ = some (.int .i64 600) := ZB.cell 0; have cB1 : wa.cell? ⟨w2.heap.size + 1 + 1, 1, none⟩ = some (.int .i64 2) := ZB.cell 1; have cB2 : wa.cell? ⟨w2.heap.size + 1 + 1, 2, none⟩ = some (.int .i64 0) := ZB.cell 2; have cB3 : wa.cell? ⟨w2.heap.size + 1 + 1, 3, none⟩ = some (.int .i64 0) := ZB.cell 3; have cB4 : wa.cell? ⟨w2.heap.size + 1 + 1, 4, none⟩ = some (.int .i64 0) := ZB.cell 4; have cB5 : wa.cell? ⟨w2.heap.size + 1 + 1, 5, none⟩ = some (.int .i64 0) := ZB.cell 5; have hbA := (Below.refl wz1.heap.size wz1).drew.trans hba)
               | (go_at_call 20; (with_reducible refine (hput.out _ hbA).mono ?_); rintro e wb ⟨⟨p2, f2, x2, rfl, ho, hv⟩, hbb⟩; obtain ⟨rfl, hf⟩ := put_two Tw1.out (by unfold SomeP; decide) hv; have HF := Lib.hid hf; have HO2 := Lib.hid ho; clear ho hv hf; have ZS := ZT.below hbb)
               | (have e := st6F (W := f2.W) (H := f2.H) (A1 := p2.ac) (A2 := p2.ad) (A3 := p2.ai) (A4 := p2.a4) (n1 := f2.nc) (n2 := f2.nd) (n3 := f2.ni) (n4 := f2.nt) (k1 := p2.kc) (k2 := p2.kd) (k3 := p2.ki) (k4 := p2.kt) ZS; simp [go_sem] at e; refine upon_store e ?_; clear e))
      all_goals (go_wp2_with fail; go_meet; have belb := hbA.trans (hbb.mono hbA.size); have ltT : w2.heap.size < wa.heap.size := Nat.lt_of_lt_of_le T.out.lt hbA.size; have hlT : w.heap.size ≤ w2.heap.size := LTh.out; have hlB : w.heap.size + 1 ≤ wa.heap.size := Nat.le_trans (Nat.lt_of_lt_of_le R.out.lt hbA.size) (Nat.le_refl _); exact ⟨p2, f2, rfl, (HasBlk.far (HasBlk.far (HasBlk.far (HasBlk.far (HasBlk.far (HasBlk.far (R.out.below belb) (p := ⟨w2.heap.size, 0, none⟩) (Ne.symm NE_R_T.out) _) (p := ⟨w2.heap.size, 1, none⟩) (Ne.symm NE_R_T.out) _) (p := ⟨w2.heap.size, 2, none⟩) (Ne.symm NE_R_T.out) _) (p := ⟨w2.heap.size, 3, none⟩) (Ne.symm NE_R_T.out) _) (p := ⟨w2.heap.size, 4, none⟩) (Ne.symm NE_R_T.out) _) (p := ⟨w2.heap.size, 5, none⟩) (Ne.symm NE_R_T.out) _), (by have := (HasBlk.set (HasBlk.set (HasBlk.set (HasBlk.set (HasBlk.set (HasBlk.set ZS 0 (.int .i64 f2.W)) 1 (.int .i64 f2.H)) 2 (.slice p2.ac f2.nc p2.kc)) 3 (.slice p2.ad f2.nd p2.kd)) 4 (.slice p2.ai f2.ni p2.ki)) 5 (.slice p2.a4 f2.nt p2.kt)); simpa using this), (HasBlk.far (HasBlk.far (HasBlk.far (HasBlk.far (HasBlk.far (HasBlk.far (A.out.below belb) (p := ⟨w2.heap.size, 0, none⟩) NE_T_A.out _) (p := ⟨w2.heap.size, 1, none⟩) NE_T_A.out _) (p := ⟨w2.heap.size, 2, none⟩) NE_T_A.out _) (p := ⟨w2.heap.size, 3, none⟩) NE_T_A.out _) (p := ⟨w2.heap.size, 4, none⟩) NE_T_A.out _) (p := ⟨w2.heap.size, 5, none⟩) NE_T_A.out _), (HasBlk.far (HasBlk.far (HasBlk.far (HasBlk.far (HasBlk.far (HasBlk.far (B.out.below belb) (p := ⟨w2.heap.size, 0, none⟩) NE_T_B.out _) (p := ⟨w2.heap.size, 1, none⟩) NE_T_B.out _) (p := ⟨w2.heap.size, 2, none⟩) NE_T_B.out _) (p := ⟨w2.heap.size, 3, none⟩) NE_T_B.out _) (p := ⟨w2.heap.size, 4, none⟩) NE_T_B.out _) (p := ⟨w2.heap.size, 5, none⟩) NE_T_B.out _), FOwn.base (FOwn.far (g := w2.heap.size) (j := 5) (FOwn.far (g := w2.heap.size) (j := 4) (FOwn.far (g := w2.heap.size) (j := 3) (FOwn.far (g := w2.heap.size) (j := 2) (FOwn.far (g := w2.heap.size) (j := 1) (FOwn.far (g := w2.heap.size) (j := 0) HO2.out ltT _) ltT _) ltT _) ltT _) ltT _) ltT _) hlB, HF.out, (Below.setCell (p := ⟨w2.heap.size, 5, none⟩) (Below.setCell (p := ⟨w2.heap.size, 4, none⟩) (Below.setCell (p := ⟨w2.heap.size, 3, none⟩) (Below.setCell (p := ⟨w2.heap.size, 2, none⟩) (Below.setCell (p := ⟨w2.heap.size, 1, none⟩) (Below.setCell (p := ⟨w2.heap.size, 0, none⟩) (SBk1h.out.trans (belb.mono SBk1h.out.size)) hlT _) hlT _) hlT _) hlT _) hlT _) hlT _)⟩)
    case rest =>
      obtain ⟨wz2, rfl⟩ : ∃ wz : World, wz = wc := ⟨wc, rfl⟩
      obtain ⟨p2, f2, rfl, hR, hT, hA, hB, hown, hf, hbel⟩ := hcut
      clear R T A B SBk1h F1 lt_R R_0 R_1 R_2 R_3 R_4 R_5 R_f0 R_f1 R_f2 R_f3 R_f4 R_f5 lt_T T_0 T_1 T_2 T_3 T_4 T_5 T_f0 T_f1 T_f2 T_f3 T_f4 T_f5 lt_A A_0 A_1 A_2 A_3 A_4 A_5 lt_B B_0 B_1 B_2 B_3 B_4 B_5
      have R := Lib.hid hR
      have T := Lib.hid hT
      have A := Lib.hid hA
      have B := Lib.hid hB
      have SBk2h := Lib.hid hbel
      have O2 := Lib.hid hown
      have F2 := Lib.hid hown.ok
      have Tw2 := Lib.hid (show Two f2 by rw [hf]; exact Tw1.out.put (by unfold SomeP; decide) _)
      have D2 := Lib.hid hf
      clear hR hT hA hB hown hf hbel
      have lt_R := R.out.lt
      have R_0 := R.out.cell 0
      have R_1 := R.out.cell 1
      have R_2 := R.out.cell 2
      have R_3 := R.out.cell 3
      have R_4 := R.out.cell 4
      have R_5 := R.out.cell 5
      have R_f0 := R.out.frozen 0
      have R_f1 := R.out.frozen 1
      have R_f2 := R.out.frozen 2
      have R_f3 := R.out.frozen 3
      have R_f4 := R.out.frozen 4
      have R_f5 := R.out.frozen 5
      simp at R_0 R_1 R_2 R_3 R_4 R_5
      have lt_T := T.out.lt
      have T_0 := T.out.cell 0
      have T_1 := T.out.cell 1
      have T_2 := T.out.cell 2
      have T_3 := T.out.cell 3
      have T_4 := T.out.cell 4
      have T_5 := T.out.cell 5
      have T_f0 := T.out.frozen 0
      have T_f1 := T.out.frozen 1
      have T_f2 := T.out.frozen 2
      have T_f3 := T.out.frozen 3
      have T_f4 := T.out.frozen 4
      have T_f5 := T.out.frozen 5
      simp at T_0 T_1 T_2 T_3 T_4 T_5
      have lt_A := A.out.lt
      have A_0 := A.out.cell 0
      have A_1 := A.out.cell 1
      have A_2 := A.out.cell 2
      have A_3 := A.out.cell 3
      have A_4 := A.out.cell 4
      have A_5 := A.out.cell 5
      simp at A_0 A_1 A_2 A_3 A_4 A_5
      have lt_B := B.out.lt
      have B_0 := B.out.cell 0
      have B_1 := B.out.cell 1
      have B_2 := B.out.cell 2
      have B_3 := B.out.cell 3
      have B_4 := B.out.cell 4
      have B_5 := B.out.cell 5
      simp at B_0 B_1 B_2 B_3 B_4 B_5
      have szB_wz2 := SBk2h.out.size
      go_wp2
      refine bodyPost_ret (v := .tuple #[.agg #[.int .i64 f2.W, .int .i64 f2.H, .slice p2.ac f2.nc p2.kc, .slice p2.ad f2.nd p2.kd, .slice p2.ai f2.ni p2.ki, .slice p2.a4 f2.nt p2.kt], .bool true]) (by simp [results, Try.results41, go_sem, *]) rfl ⟨⟨p2, f2, rfl, FOwn.base (FOwn.far (g := w.heap.size) (j := 5) (FOwn.far (g := w.heap.size) (j := 4) (FOwn.far (g := w.heap.size) (j := 3) (FOwn.far (g := w.heap.size) (j := 2) (FOwn.far (g := w.heap.size) (j := 1) (FOwn.far (g := w.heap.size) (j := 0) O2.out (Nat.lt_succ_self _) _) (Nat.lt_succ_self _) _) (Nat.lt_succ_self _) _) (Nat.lt_succ_self _) _) (Nat.lt_succ_self _) _) (Nat.lt_succ_self _) _) (Nat.le_succ _), by rw [D2.out, D1.out, D0.out]; rfl⟩, ?_⟩
      exact (Below.setCell (p := ⟨w.heap.size, 5, none⟩) (Below.setCell (p := ⟨w.heap.size, 4, none⟩) (Below.setCell (p := ⟨w.heap.size, 3, none⟩) (Below.setCell (p := ⟨w.heap.size, 2, none⟩) (Below.setCell (p := ⟨w.heap.size, 1, none⟩) (Below.setCell (p := ⟨w.heap.size, 0, none⟩) SBk2h.out (Nat.le_refl _) _) (Nat.le_refl _) _) (Nat.le_refl _) _) (Nat.le_refl _) _) (Nat.le_refl _) _) (Nat.le_refl _) _)
end Go.Proofs.Ytibeoeooajelgaa
