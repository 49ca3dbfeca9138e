/- FrameOrder: the walk; how a frame reads. -/
import Derived.Test.YtibeoeooajelgaaF14
import Derived.Test.YtibeoeooajelgaaF15
namespace Go.Proofs.Ytibeoeooajelgaa
open Go.RowKit
set_option linter.unusedVariables false
theorem cells_ints : Try.prog.cellsOf 27 = 1 := by kernel_rfl
theorem cells_cols : Try.prog.cellsOf 26 = 1 := by kernel_rfl
theorem row_cols {w : World} {A : Option Addr} {n : Nat} {Fv : Nat → Nat → Value} (hr : Row w A n 4 Fv) (hF : ∀ i j, j < 4 → ∃ x : Int, Fv i j = .int .u8 x ∧ 0 ≤ x ∧ x ≤ 255) :
    ∃ C : Nat → Nat → Int, (∀ i j, 0 ≤ C i j ∧ C i j ≤ 255) ∧ Row w A n 4 (fun i j => .int .u8 (C i j)) := by
  have h : ∀ i, ∃ c : Nat → Int, ∀ j, (j < 4 → Fv i j = .int .u8 (c j)) ∧ 0 ≤ c j ∧ c j ≤ 255 := fun i =>
    Classical.axiomOfChoice (r := fun (j : Nat) (x : Int) => (j < 4 → Fv i j = .int .u8 x) ∧ 0 ≤ x ∧ x ≤ 255) fun j => by
      by_cases hj : j < 4
      · obtain ⟨x, e, b⟩ := hF i j hj
        exact ⟨x, fun _ => e, b⟩
      · exact ⟨0, fun z => absurd z hj, by decide⟩
  obtain ⟨C, hC⟩ := Classical.axiomOfChoice (r := fun (i : Nat) (c : Nat → Int) => ∀ j, (j < 4 → Fv i j = .int .u8 (c j)) ∧ 0 ≤ c j ∧ c j ≤ 255) h
  refine ⟨C, fun i j => (hC i j).2, fun hn => ?_⟩
  obtain ⟨g, off, hA, hg, hc⟩ := hr hn
  refine ⟨g, off, hA, hg, fun i hi j hj => ?_⟩
  show _ = some (Value.int .u8 (C i j))
  rw [← (hC i j).1 hj]
  exact hc i hi j hj
theorem rd_cols {w : World} {cs : List Value} (h : Rd Try.prog w 26 cs) : ∃ (A : Option Addr) (n c : Nat) (C : Nat → Nat → Int), cs = [.slice A n c] ∧ (n ≤ c ∧ c ≤ maxLen) ∧ (∀ i j, 0 ≤ C i j ∧ C i j ≤ 255) ∧ Row w A n 4 (fun i j => .int .u8 (C i j)) := by
  obtain ⟨A, n, c, Fv, rfl, hnc, hF, hr⟩ := rd_rows 4 (fun f => ∀ j, j < 4 → ∃ x : Int, f j = .int .u8 x ∧ 0 ≤ x ∧ x ≤ 255) Try.underlying26 cells_col (by omega) (fun cs hl hr j hj => by
    obtain ⟨hl2, hf⟩ := hr.array Try.underlying23
    rw [cells_u8] at hf
    match cs, hl with
    | [x, y, z, u], _ =>
      obtain ⟨a0, e0, b0⟩ := Rd.int Try.underlying5 (hf 0 (by omega))
      obtain ⟨a1, e1, b1⟩ := Rd.int Try.underlying5 (hf 1 (by omega))
      obtain ⟨a2, e2, b2⟩ := Rd.int Try.underlying5 (hf 2 (by omega))
      obtain ⟨a3, e3, b3⟩ := Rd.int Try.underlying5 (hf 3 (by omega))
      simp at e0 e1 e2 e3
      subst e0 e1 e2 e3
      obtain rfl | rfl | rfl | rfl : j = 0 ∨ j = 1 ∨ j = 2 ∨ j = 3 := by omega
      · exact ⟨_, rfl, u8_bounds b0⟩
      · exact ⟨_, rfl, u8_bounds b1⟩
      · exact ⟨_, rfl, u8_bounds b2⟩
      · exact ⟨_, rfl, u8_bounds b3⟩) ⟨fun _ => .int .u8 0, fun _ _ => ⟨0, rfl, by decide, by decide⟩⟩ h
  obtain ⟨C, hC, hr⟩ := row_cols hr hF
  exact ⟨A, n, c, C, rfl, hnc, hC, hr⟩
/-- What a frame holds is in its types' bounds. -/
def FD.Bd (f : FD) : Prop := ((f.nc : Int) ≤ 9223372036854775807 ∧ (f.nd : Int) ≤ 9223372036854775807 ∧ (f.ni : Int) ≤ 9223372036854775807 ∧ (f.nt : Int) ≤ 9223372036854775807) ∧
  (∀ i j, 0 ≤ f.C i j ∧ f.C i j ≤ 255) ∧ (∀ i, -9223372036854775808 ≤ f.D i ∧ f.D i ≤ 9223372036854775807) ∧ (∀ i, -9223372036854775808 ≤ f.I i ∧ f.I i ≤ 9223372036854775807) ∧ (∀ i, -9223372036854775808 ≤ f.T i ∧ f.T i ≤ 9223372036854775807)
set_option maxRecDepth 100000 in
theorem cells_fr : Try.prog.cellsOf 29 = 6 := by kernel_rfl
theorem maxLen_le : ((maxLen : Nat) : Int) ≤ 9223372036854775807 := by decide
set_option maxRecDepth 100000 in
theorem arg_frame {w : World} {v : Value} (h : Arg Try.prog w 29 v) : ∃ (p : FP) (f : FD), v = .agg #[.int .i64 f.W, .int .i64 f.H, .slice p.ac f.nc p.kc, .slice p.ad f.nd p.kd, .slice p.ai f.ni p.ki, .slice p.a4 f.nt p.kt] ∧ FOk w p f ∧ f.Bd := by
  obtain ⟨cs, rfl, _, hr⟩ := h.struct Try.underlying29
  obtain ⟨hl, hf⟩ := hr.struct Try.underlying29
  rw [cells_fr] at hl
  match cs, hl with
  | [a, b, c, d, e, f], _ =>
    obtain ⟨x0, e0, _⟩ := Rd.int Try.underlying3 (hf 0 _ rfl)
    obtain ⟨x1, e1, _⟩ := Rd.int Try.underlying3 (hf 1 _ rfl)
    obtain ⟨A2, n2, c2, C, e2, h2, b2, r2⟩ := rd_cols (hf 2 _ rfl)
    obtain ⟨A3, n3, c3, D, e3, h3, b3, r3⟩ := rd_ints Try.underlying27 Try.underlying3 cells_int (hf 3 _ rfl)
    obtain ⟨A4, n4, c4, I, e4, h4, b4, r4⟩ := rd_ints Try.underlying27 Try.underlying3 cells_int (hf 4 _ rfl)
    obtain ⟨A5, n5, c5, T, e5, h5, b5, r5⟩ := rd_ints Try.underlying27 Try.underlying3 cells_int (hf 5 _ rfl)
    simp [cells_int, cells_ints, cells_cols] at e0 e1 e2 e3 e4 e5
    subst e0 e1 e2 e3 e4 e5
    have hm := maxLen_le
    exact ⟨⟨A2, A3, A4, A5, c2, c3, c4, c5⟩, ⟨x0, x1, n2, n3, n4, n5, C, D, I, T⟩, rfl, ⟨r2, r3, r4, r5⟩, ⟨⟨by show (n2 : Int) ≤ _; omega, by show (n3 : Int) ≤ _; omega, by show (n4 : Int) ≤ _; omega, by show (n5 : Int) ≤ _; omega⟩, b2, b3, b4, b5⟩⟩
theorem order_law {f f1 f2 f3 f4 : FD} {x y z v d i t d' i' t' x3 x4 : Int} {c c' : Nat → Int} (hne : ¬ (d = d' ∧ i = i' ∧ t = t')) (h1 : PutV f x y d i t c f1 0) (h2 : PutV f z v d' i' t' c' f2 0)
    (h3 : PutV f1 z v d' i' t' c' f3 x3) (h4 : PutV f2 x y d i t c f4 x4) : x3 = 0 ∧ x4 = 0 ∧ f3 = f4 ∧ f3.nc = f.nc ∧ f3.nd = f.nd ∧ f3.ni = f.ni ∧ f3.nt = f.nt := by
  rcases h1 with ⟨_, q, _⟩ | ⟨_, _, q, _⟩ | ⟨m, i1, s1, _, k, hk, _, rfl⟩
  · cases q
  · cases q
  rcases h2 with ⟨_, q, _⟩ | ⟨_, _, q, _⟩ | ⟨_, i2, s2, _, l, hl, _, rfl⟩
  · cases q
  · cases q
  have w1 := FD.put_W f k d i t c
  have w2 := FD.put_W f l d' i' t' c'
  rcases h3 with ⟨q, _⟩ | ⟨_, q, _⟩ | ⟨_, _, _, rfl, l', hl', _, rfl⟩
  · exact absurd (m.put s1 k c) q
  · exact absurd ⟨by unfold FD.In at *; rw [w1.1, w1.2.1]; exact i2, s2⟩ q
  rcases h4 with ⟨q, _⟩ | ⟨_, q, _⟩ | ⟨_, _, _, rfl, k', hk', _, rfl⟩
  · exact absurd (m.put s2 l c') q
  · exact absurd ⟨by unfold FD.In at *; rw [w2.1, w2.2.1]; exact i1, s1⟩ q
  rw [w1.1] at hl'
  rw [w2.1] at hk'
  obtain rfl : l' = l := by omega
  obtain rfl : k' = k := by omega
  have w3 := FD.put_W (f.put k' d i t c) l' d' i' t' c'
  exact ⟨rfl, rfl, FD.put_comm f k' l' c c' s1 s2 hne, w3.2.2.1.trans w1.2.2.1, w3.2.2.2.1.trans w1.2.2.2.1, w3.2.2.2.2.1.trans w1.2.2.2.2.1, w3.2.2.2.2.2.trans w1.2.2.2.2.2⟩

set_option maxRecDepth 100000 in
set_option maxHeartbeats 16000000 in
theorem frameOrder_walk (p : FP) (f : FD) (x y z r d1 i1 t1 b1 u1 s1 d2 i2 t2 b2 u2 s2 : Int) (c c' : Nat → Int) (w : World) (h : FOk w p f) (hbd : (f.nc : Int) ≤ 9223372036854775807 ∧ (f.nd : Int) ≤ 9223372036854775807 ∧ (f.ni : Int) ≤ 9223372036854775807 ∧ (f.nt : Int) ≤ 9223372036854775807) :
    Calls Try.prog 7 #[.agg #[.int .i64 f.W, .int .i64 f.H, .slice p.ac f.nc p.kc, .slice p.ad f.nd p.kd, .slice p.ai f.ni p.ki, .slice p.a4 f.nt p.kt], .int .i64 x, .int .i64 y, .int .i64 z, .int .i64 r, .agg #[.int .i64 d1, .int .i64 i1, .int .i64 t1, .int .i64 b1, .int .i64 u1, .int .i64 s1], .agg #[.int .i64 d2, .int .i64 i2, .int .i64 t2, .int .i64 b2, .int .i64 u2, .int .i64 s2], .agg #[.int .u8 (c 0), .int .u8 (c 1), .int .u8 (c 2), .int .u8 (c 3)], .agg #[.int .u8 (c' 0), .int .u8 (c' 1), .int .u8 (c' 2), .int .u8 (c' 3)]] w fun e w' => e = .returned (.bool true) ∧ Below w.heap.size w w' := by
  have HF := Lib.hid h
  clear h
  go_enter Try.func7, Try.ntmps7
  go_wp2_with fail
  have NE_Fb_A := Lib.hid (show w.heap.size ≠ w.heap.size + 1 by omega)
  have NE_Fb_B := Lib.hid (show w.heap.size ≠ w.heap.size + 1 + 1 by omega)
  have NE_A_B := Lib.hid (show w.heap.size + 1 ≠ w.heap.size + 1 + 1 by omega)
  have NE_Fb_K := Lib.hid (show w.heap.size ≠ w.heap.size + 1 + 1 + 1 by omega)
  have NE_A_K := Lib.hid (show w.heap.size + 1 ≠ w.heap.size + 1 + 1 + 1 by omega)
  have NE_B_K := Lib.hid (show w.heap.size + 1 + 1 ≠ w.heap.size + 1 + 1 + 1 by omega)
  have NE_Fb_M := Lib.hid (show w.heap.size ≠ w.heap.size + 1 + 1 + 1 + 1 by omega)
  have NE_A_M := Lib.hid (show w.heap.size + 1 ≠ w.heap.size + 1 + 1 + 1 + 1 by omega)
  have NE_B_M := Lib.hid (show w.heap.size + 1 + 1 ≠ w.heap.size + 1 + 1 + 1 + 1 by omega)
  have NE_K_M := Lib.hid (show w.heap.size + 1 + 1 + 1 ≠ w.heap.size + 1 + 1 + 1 + 1 by omega)
  have s_Fb : HasBlk (w.alloc (.cells #[.int .i64 f.W, .int .i64 f.H, .slice p.ac f.nc p.kc, .slice p.ad f.nd p.kd, .slice p.ai f.ni p.ki, .slice p.a4 f.nt p.kt] 29)) (w.heap.size) 29 #[.int .i64 f.W, .int .i64 f.H, .slice p.ac f.nc p.kc, .slice p.ad f.nd p.kd, .slice p.ai f.ni p.ki, .slice p.a4 f.nt p.kt] := by simpa using hasBlk_new w 29 #[.int .i64 f.W, .int .i64 f.H, .slice p.ac f.nc p.kc, .slice p.ad f.nd p.kd, .slice p.ai f.ni p.ki, .slice p.a4 f.nt p.kt]
  replace s_Fb := s_Fb.alloc (.cells #[.int .i64 d1, .int .i64 i1, .int .i64 t1, .int .i64 b1, .int .i64 u1, .int .i64 s1] 25)
  have s_A : HasBlk ((w.alloc (.cells #[.int .i64 f.W, .int .i64 f.H, .slice p.ac f.nc p.kc, .slice p.ad f.nd p.kd, .slice p.ai f.ni p.ki, .slice p.a4 f.nt p.kt] 29)).alloc (.cells #[.int .i64 d1, .int .i64 i1, .int .i64 t1, .int .i64 b1, .int .i64 u1, .int .i64 s1] 25)) (w.heap.size + 1) 25 #[.int .i64 d1, .int .i64 i1, .int .i64 t1, .int .i64 b1, .int .i64 u1, .int .i64 s1] := by simpa using hasBlk_new (w.alloc (.cells #[.int .i64 f.W, .int .i64 f.H, .slice p.ac f.nc p.kc, .slice p.ad f.nd p.kd, .slice p.ai f.ni p.ki, .slice p.a4 f.nt p.kt] 29)) 25 #[.int .i64 d1, .int .i64 i1, .int .i64 t1, .int .i64 b1, .int .i64 u1, .int .i64 s1]
  replace s_Fb := s_Fb.alloc (.cells #[.int .i64 d2, .int .i64 i2, .int .i64 t2, .int .i64 b2, .int .i64 u2, .int .i64 s2] 25)
  replace s_A := s_A.alloc (.cells #[.int .i64 d2, .int .i64 i2, .int .i64 t2, .int .i64 b2, .int .i64 u2, .int .i64 s2] 25)
  have s_B : HasBlk (((w.alloc (.cells #[.int .i64 f.W, .int .i64 f.H, .slice p.ac f.nc p.kc, .slice p.ad f.nd p.kd, .slice p.ai f.ni p.ki, .slice p.a4 f.nt p.kt] 29)).alloc (.cells #[.int .i64 d1, .int .i64 i1, .int .i64 t1, .int .i64 b1, .int .i64 u1, .int .i64 s1] 25)).alloc (.cells #[.int .i64 d2, .int .i64 i2, .int .i64 t2, .int .i64 b2, .int .i64 u2, .int .i64 s2] 25)) (w.heap.size + 1 + 1) 25 #[.int .i64 d2, .int .i64 i2, .int .i64 t2, .int .i64 b2, .int .i64 u2, .int .i64 s2] := by simpa using hasBlk_new ((w.alloc (.cells #[.int .i64 f.W, .int .i64 f.H, .slice p.ac f.nc p.kc, .slice p.ad f.nd p.kd, .slice p.ai f.ni p.ki, .slice p.a4 f.nt p.kt] 29)).alloc (.cells #[.int .i64 d1, .int .i64 i1, .int .i64 t1, .int .i64 b1, .int .i64 u1, .int .i64 s1] 25)) 25 #[.int .i64 d2, .int .i64 i2, .int .i64 t2, .int .i64 b2, .int .i64 u2, .int .i64 s2]
  replace s_Fb := s_Fb.alloc (.cells #[.int .u8 (c 0), .int .u8 (c 1), .int .u8 (c 2), .int .u8 (c 3)] 23)
  replace s_A := s_A.alloc (.cells #[.int .u8 (c 0), .int .u8 (c 1), .int .u8 (c 2), .int .u8 (c 3)] 23)
  replace s_B := s_B.alloc (.cells #[.int .u8 (c 0), .int .u8 (c 1), .int .u8 (c 2), .int .u8 (c 3)] 23)
  have s_K : HasBlk ((((w.alloc (.cells #[.int .i64 f.W, .int .i64 f.H, .slice p.ac f.nc p.kc, .slice p.ad f.nd p.kd, .slice p.ai f.ni p.ki, .slice p.a4 f.nt p.kt] 29)).alloc (.cells #[.int .i64 d1, .int .i64 i1, .int .i64 t1, .int .i64 b1, .int .i64 u1, .int .i64 s1] 25)).alloc (.cells #[.int .i64 d2, .int .i64 i2, .int .i64 t2, .int .i64 b2, .int .i64 u2, .int .i64 s2] 25)).alloc (.cells #[.int .u8 (c 0), .int .u8 (c 1), .int .u8 (c 2), .int .u8 (c 3)] 23)) (w.heap.size + 1 + 1 + 1) 23 #[.int .u8 (c 0), .int .u8 (c 1), .int .u8 (c 2), .int .u8 (c 3)] := by simpa using hasBlk_new (((w.alloc (.cells #[.int .i64 f.W, .int .i64 f.H, .slice p.ac f.nc p.kc, .slice p.ad f.nd p.kd, .slice p.ai f.ni p.ki, .slice p.a4 f.nt p.kt] 29)).alloc (.cells #[.int .i64 d1, .int .i64 i1, .int .i64 t1, .int .i64 b1, .int .i64 u1, .int .i64 s1] 25)).alloc (.cells #[.int .i64 d2, .int .i64 i2, .int .i64 t2, .int .i64 b2, .int .i64 u2, .int .i64 s2] 25)) 23 #[.int .u8 (c 0), .int .u8 (c 1), .int .u8 (c 2), .int .u8 (c 3)]
  replace s_Fb := s_Fb.alloc (.cells #[.int .u8 (c' 0), .int .u8 (c' 1), .int .u8 (c' 2), .int .u8 (c' 3)] 23)
  replace s_A := s_A.alloc (.cells #[.int .u8 (c' 0), .int .u8 (c' 1), .int .u8 (c' 2), .int .u8 (c' 3)] 23)
  replace s_B := s_B.alloc (.cells #[.int .u8 (c' 0), .int .u8 (c' 1), .int .u8 (c' 2), .int .u8 (c' 3)] 23)
  replace s_K := s_K.alloc (.cells #[.int .u8 (c' 0), .int .u8 (c' 1), .int .u8 (c' 2), .int .u8 (c' 3)] 23)
  have s_M : HasBlk (((((w.alloc (.cells #[.int .i64 f.W, .int .i64 f.H, .slice p.ac f.nc p.kc, .slice p.ad f.nd p.kd, .slice p.ai f.ni p.ki, .slice p.a4 f.nt p.kt] 29)).alloc (.cells #[.int .i64 d1, .int .i64 i1, .int .i64 t1, .int .i64 b1, .int .i64 u1, .int .i64 s1] 25)).alloc (.cells #[.int .i64 d2, .int .i64 i2, .int .i64 t2, .int .i64 b2, .int .i64 u2, .int .i64 s2] 25)).alloc (.cells #[.int .u8 (c 0), .int .u8 (c 1), .int .u8 (c 2), .int .u8 (c 3)] 23)).alloc (.cells #[.int .u8 (c' 0), .int .u8 (c' 1), .int .u8 (c' 2), .int .u8 (c' 3)] 23)) (w.heap.size + 1 + 1 + 1 + 1) 23 #[.int .u8 (c' 0), .int .u8 (c' 1), .int .u8 (c' 2), .int .u8 (c' 3)] := by simpa using hasBlk_new ((((w.alloc (.cells #[.int .i64 f.W, .int .i64 f.H, .slice p.ac f.nc p.kc, .slice p.ad f.nd p.kd, .slice p.ai f.ni p.ki, .slice p.a4 f.nt p.kt] 29)).alloc (.cells #[.int .i64 d1, .int .i64 i1, .int .i64 t1, .int .i64 b1, .int .i64 u1, .int .i64 s1] 25)).alloc (.cells #[.int .i64 d2, .int .i64 i2, .int .i64 t2, .int .i64 b2, .int .i64 u2, .int .i64 s2] 25)).alloc (.cells #[.int .u8 (c 0), .int .u8 (c 1), .int .u8 (c 2), .int .u8 (c 3)] 23)) 23 #[.int .u8 (c' 0), .int .u8 (c' 1), .int .u8 (c' 2), .int .u8 (c' 3)]
  have t_Fb : HasBlk (((((w.alloc (.cells #[.int .i64 f.W, .int .i64 f.H, .slice p.ac f.nc p.kc, .slice p.ad f.nd p.kd, .slice p.ai f.ni p.ki, .slice p.a4 f.nt p.kt] 29)).alloc (.cells #[.int .i64 d1, .int .i64 i1, .int .i64 t1, .int .i64 b1, .int .i64 u1, .int .i64 s1] 25)).alloc (.cells #[.int .i64 d2, .int .i64 i2, .int .i64 t2, .int .i64 b2, .int .i64 u2, .int .i64 s2] 25)).alloc (.cells #[.int .u8 (c 0), .int .u8 (c 1), .int .u8 (c 2), .int .u8 (c 3)] 23)).alloc (.cells #[.int .u8 (c' 0), .int .u8 (c' 1), .int .u8 (c' 2), .int .u8 (c' 3)] 23)) (w.heap.size) 29 #[.int .i64 f.W, .int .i64 f.H, .slice p.ac f.nc p.kc, .slice p.ad f.nd p.kd, .slice p.ai f.ni p.ki, .slice p.a4 f.nt p.kt] := by simpa using s_Fb
  clear s_Fb
  have t_A : HasBlk (((((w.alloc (.cells #[.int .i64 f.W, .int .i64 f.H, .slice p.ac f.nc p.kc, .slice p.ad f.nd p.kd, .slice p.ai f.ni p.ki, .slice p.a4 f.nt p.kt] 29)).alloc (.cells #[.int .i64 d1, .int .i64 i1, .int .i64 t1, .int .i64 b1, .int .i64 u1, .int .i64 s1] 25)).alloc (.cells #[.int .i64 d2, .int .i64 i2, .int .i64 t2, .int .i64 b2, .int .i64 u2, .int .i64 s2] 25)).alloc (.cells #[.int .u8 (c 0), .int .u8 (c 1), .int .u8 (c 2), .int .u8 (c 3)] 23)).alloc (.cells #[.int .u8 (c' 0), .int .u8 (c' 1), .int .u8 (c' 2), .int .u8 (c' 3)] 23)) (w.heap.size + 1) 25 #[.int .i64 d1, .int .i64 i1, .int .i64 t1, .int .i64 b1, .int .i64 u1, .int .i64 s1] := by simpa using s_A
  clear s_A
  have t_B : HasBlk (((((w.alloc (.cells #[.int .i64 f.W, .int .i64 f.H, .slice p.ac f.nc p.kc, .slice p.ad f.nd p.kd, .slice p.ai f.ni p.ki, .slice p.a4 f.nt p.kt] 29)).alloc (.cells #[.int .i64 d1, .int .i64 i1, .int .i64 t1, .int .i64 b1, .int .i64 u1, .int .i64 s1] 25)).alloc (.cells #[.int .i64 d2, .int .i64 i2, .int .i64 t2, .int .i64 b2, .int .i64 u2, .int .i64 s2] 25)).alloc (.cells #[.int .u8 (c 0), .int .u8 (c 1), .int .u8 (c 2), .int .u8 (c 3)] 23)).alloc (.cells #[.int .u8 (c' 0), .int .u8 (c' 1), .int .u8 (c' 2), .int .u8 (c' 3)] 23)) (w.heap.size + 1 + 1) 25 #[.int .i64 d2, .int .i64 i2, .int .i64 t2, .int .i64 b2, .int .i64 u2, .int .i64 s2] := by simpa using s_B
  clear s_B
  have t_K : HasBlk (((((w.alloc (.cells #[.int .i64 f.W, .int .i64 f.H, .slice p.ac f.nc p.kc, .slice p.ad f.nd p.kd, .slice p.ai f.ni p.ki, .slice p.a4 f.nt p.kt] 29)).alloc (.cells #[.int .i64 d1, .int .i64 i1, .int .i64 t1, .int .i64 b1, .int .i64 u1, .int .i64 s1] 25)).alloc (.cells #[.int .i64 d2, .int .i64 i2, .int .i64 t2, .int .i64 b2, .int .i64 u2, .int .i64 s2] 25)).alloc (.cells #[.int .u8 (c 0), .int .u8 (c 1), .int .u8 (c 2), .int .u8 (c 3)] 23)).alloc (.cells #[.int .u8 (c' 0), .int .u8 (c' 1), .int .u8 (c' 2), .int .u8 (c' 3)] 23)) (w.heap.size + 1 + 1 + 1) 23 #[.int .u8 (c 0), .int .u8 (c 1), .int .u8 (c 2), .int .u8 (c 3)] := by simpa using s_K
  clear s_K
  have t_M : HasBlk (((((w.alloc (.cells #[.int .i64 f.W, .int .i64 f.H, .slice p.ac f.nc p.kc, .slice p.ad f.nd p.kd, .slice p.ai f.ni p.ki, .slice p.a4 f.nt p.kt] 29)).alloc (.cells #[.int .i64 d1, .int .i64 i1, .int .i64 t1, .int .i64 b1, .int .i64 u1, .int .i64 s1] 25)).alloc (.cells #[.int .i64 d2, .int .i64 i2, .int .i64 t2, .int .i64 b2, .int .i64 u2, .int .i64 s2] 25)).alloc (.cells #[.int .u8 (c 0), .int .u8 (c 1), .int .u8 (c 2), .int .u8 (c 3)] 23)).alloc (.cells #[.int .u8 (c' 0), .int .u8 (c' 1), .int .u8 (c' 2), .int .u8 (c' 3)] 23)) (w.heap.size + 1 + 1 + 1 + 1) 23 #[.int .u8 (c' 0), .int .u8 (c' 1), .int .u8 (c' 2), .int .u8 (c' 3)] := by simpa using s_M
  clear s_M
  have SB1 : Below w.heap.size w (((((w.alloc (.cells #[.int .i64 f.W, .int .i64 f.H, .slice p.ac f.nc p.kc, .slice p.ad f.nd p.kd, .slice p.ai f.ni p.ki, .slice p.a4 f.nt p.kt] 29)).alloc (.cells #[.int .i64 d1, .int .i64 i1, .int .i64 t1, .int .i64 b1, .int .i64 u1, .int .i64 s1] 25)).alloc (.cells #[.int .i64 d2, .int .i64 i2, .int .i64 t2, .int .i64 b2, .int .i64 u2, .int .i64 s2] 25)).alloc (.cells #[.int .u8 (c 0), .int .u8 (c 1), .int .u8 (c 2), .int .u8 (c 3)] 23)).alloc (.cells #[.int .u8 (c' 0), .int .u8 (c' 1), .int .u8 (c' 2), .int .u8 (c' 3)] 23)) := by
    repeat' (first | exact Below.refl _ _ | assumption | apply Below.drew | refine Below.setCell ?_ (by first | omega | (simp; done) | (simp; omega)) _ | refine Below.alloc ?_ (by first | omega | (simp; done) | (simp; omega)) _)
  generalize gW_v0 : (((((w.alloc (.cells #[.int .i64 f.W, .int .i64 f.H, .slice p.ac f.nc p.kc, .slice p.ad f.nd p.kd, .slice p.ai f.ni p.ki, .slice p.a4 f.nt p.kt] 29)).alloc (.cells #[.int .i64 d1, .int .i64 i1, .int .i64 t1, .int .i64 b1, .int .i64 u1, .int .i64 s1] 25)).alloc (.cells #[.int .i64 d2, .int .i64 i2, .int .i64 t2, .int .i64 b2, .int .i64 u2, .int .i64 s2] 25)).alloc (.cells #[.int .u8 (c 0), .int .u8 (c 1), .int .u8 (c 2), .int .u8 (c 3)] 23)).alloc (.cells #[.int .u8 (c' 0), .int .u8 (c' 1), .int .u8 (c' 2), .int .u8 (c' 3)] 23)) = v0 at *
  clear gW_v0
  have Fb := Lib.hid t_Fb
  clear t_Fb
  have A := Lib.hid t_A
  clear t_A
  have B := Lib.hid t_B
  clear t_B
  have K := Lib.hid t_K
  clear t_K
  have M := Lib.hid t_M
  clear t_M
  have SB1h := Lib.hid SB1
  clear SB1
  refine (alive_any _).mono ?_
  rintro e w1 ⟨rfl, bel1⟩
  have t_Fb := Fb.out.below bel1
  clear Fb
  have Fb := Lib.hid t_Fb
  clear t_Fb
  have t_A := A.out.below bel1
  clear A
  have A := Lib.hid t_A
  clear t_A
  have t_B := B.out.below bel1
  clear B
  have B := Lib.hid t_B
  clear t_B
  have t_K := K.out.below bel1
  clear K
  have K := Lib.hid t_K
  clear t_K
  have t_M := M.out.below bel1
  clear M
  have M := Lib.hid t_M
  clear t_M
  have SB2 : Below w.heap.size w w1 := SB1h.out.trans (bel1.mono SB1h.out.size)
  clear SB1h
  have SB2h := Lib.hid SB2
  clear SB2 bel1
  have lt_Fb := Fb.out.lt
  have Fb_0 := Fb.out.cell 0
  have Fb_1 := Fb.out.cell 1
  have Fb_2 := Fb.out.cell 2
  have Fb_3 := Fb.out.cell 3
  have Fb_4 := Fb.out.cell 4
  have Fb_5 := Fb.out.cell 5
  simp at Fb_0 Fb_1 Fb_2 Fb_3 Fb_4 Fb_5
  have lt_A := A.out.lt
  have A_0 := A.out.cell 0
  have A_1 := A.out.cell 1
  have A_2 := A.out.cell 2
  have A_3 := A.out.cell 3
  have A_4 := A.out.cell 4
  have A_5 := A.out.cell 5
  simp at A_0 A_1 A_2 A_3 A_4 A_5
  have lt_B := B.out.lt
  have B_0 := B.out.cell 0
  have B_1 := B.out.cell 1
  have B_2 := B.out.cell 2
  have B_3 := B.out.cell 3
  have B_4 := B.out.cell 4
  have B_5 := B.out.cell 5
  simp at B_0 B_1 B_2 B_3 B_4 B_5
  have lt_K := K.out.lt
  have K_0 := K.out.cell 0
  have K_1 := K.out.cell 1
  have K_2 := K.out.cell 2
  have K_3 := K.out.cell 3
  simp at K_0 K_1 K_2 K_3
  have lt_M := M.out.lt
  have M_0 := M.out.cell 0
  have M_1 := M.out.cell 1
  have M_2 := M.out.cell 2
  have M_3 := M.out.cell 3
  simp at M_0 M_1 M_2 M_3
  have szB_w1 := SB2h.out.size
  go_wp2_with fail
  refine (great_any p f _).mono ?_
  rintro e w2 ⟨⟨bg, rfl, hg⟩, bel2⟩
  have Hg := Lib.hid hg
  clear hg
  clear lt_Fb Fb_0 Fb_1 Fb_2 Fb_3 Fb_4 Fb_5 lt_A A_0 A_1 A_2 A_3 A_4 A_5 lt_B B_0 B_1 B_2 B_3 B_4 B_5 lt_K K_0 K_1 K_2 K_3 lt_M M_0 M_1 M_2 M_3
  have t_Fb := Fb.out.below bel2
  clear Fb
  have Fb := Lib.hid t_Fb
  clear t_Fb
  have t_A := A.out.below bel2
  clear A
  have A := Lib.hid t_A
  clear t_A
  have t_B := B.out.below bel2
  clear B
  have B := Lib.hid t_B
  clear t_B
  have t_K := K.out.below bel2
  clear K
  have K := Lib.hid t_K
  clear t_K
  have t_M := M.out.below bel2
  clear M
  have M := Lib.hid t_M
  clear t_M
  have SB3 : Below w.heap.size w w2 := SB2h.out.trans (bel2.mono SB2h.out.size)
  clear SB2h
  have SB3h := Lib.hid SB3
  clear SB3 bel2
  have lt_Fb := Fb.out.lt
  have Fb_0 := Fb.out.cell 0
  have Fb_1 := Fb.out.cell 1
  have Fb_2 := Fb.out.cell 2
  have Fb_3 := Fb.out.cell 3
  have Fb_4 := Fb.out.cell 4
  have Fb_5 := Fb.out.cell 5
  simp at Fb_0 Fb_1 Fb_2 Fb_3 Fb_4 Fb_5
  have lt_A := A.out.lt
  have A_0 := A.out.cell 0
  have A_1 := A.out.cell 1
  have A_2 := A.out.cell 2
  have A_3 := A.out.cell 3
  have A_4 := A.out.cell 4
  have A_5 := A.out.cell 5
  simp at A_0 A_1 A_2 A_3 A_4 A_5
  have lt_B := B.out.lt
  have B_0 := B.out.cell 0
  have B_1 := B.out.cell 1
  have B_2 := B.out.cell 2
  have B_3 := B.out.cell 3
  have B_4 := B.out.cell 4
  have B_5 := B.out.cell 5
  simp at B_0 B_1 B_2 B_3 B_4 B_5
  have lt_K := K.out.lt
  have K_0 := K.out.cell 0
  have K_1 := K.out.cell 1
  have K_2 := K.out.cell 2
  have K_3 := K.out.cell 3
  simp at K_0 K_1 K_2 K_3
  have lt_M := M.out.lt
  have M_0 := M.out.cell 0
  have M_1 := M.out.cell 1
  have M_2 := M.out.cell 2
  have M_3 := M.out.cell 3
  simp at M_0 M_1 M_2 M_3
  have szB_w2 := SB3h.out.size
  by_cases hx : bg = true
  · subst hx
    go_wp2
    go_ret
    exact ⟨rfl, SB3h.out⟩
  have hx' : bg = false := by simpa using hx
  subst hx'
  clear hx
  by_cases hlk : d1 = d2 ∧ i1 = i2 ∧ t1 = t2
  · have hl := fun W => like_any d1 i1 t1 b1 u1 s1 d2 i2 t2 b2 u2 s2 W
    rw [decide_eq_true hlk] at hl
    clear hlk
    go_wp2_with fail
    refine (hl _).mono ?_
    rintro e w3 ⟨rfl, bel3⟩
    clear lt_Fb Fb_0 Fb_1 Fb_2 Fb_3 Fb_4 Fb_5 lt_A A_0 A_1 A_2 A_3 A_4 A_5 lt_B B_0 B_1 B_2 B_3 B_4 B_5 lt_K K_0 K_1 K_2 K_3 lt_M M_0 M_1 M_2 M_3
    have t_Fb := Fb.out.below bel3
    clear Fb
    have Fb := Lib.hid t_Fb
    clear t_Fb
    have t_A := A.out.below bel3
    clear A
    have A := Lib.hid t_A
    clear t_A
    have t_B := B.out.below bel3
    clear B
    have B := Lib.hid t_B
    clear t_B
    have t_K := K.out.below bel3
    clear K
    have K := Lib.hid t_K
    clear t_K
    have t_M := M.out.below bel3
    clear M
    have M := Lib.hid t_M
    clear t_M
    have SB4 : Below w.heap.size w w3 := SB3h.out.trans (bel3.mono SB3h.out.size)
    clear SB3h
    have SB4h := Lib.hid SB4
    clear SB4 bel3
    have lt_Fb := Fb.out.lt
    have Fb_0 := Fb.out.cell 0
    have Fb_1 := Fb.out.cell 1
    have Fb_2 := Fb.out.cell 2
    have Fb_3 := Fb.out.cell 3
    have Fb_4 := Fb.out.cell 4
    have Fb_5 := Fb.out.cell 5
    simp at Fb_0 Fb_1 Fb_2 Fb_3 Fb_4 Fb_5
    have lt_A := A.out.lt
    have A_0 := A.out.cell 0
    have A_1 := A.out.cell 1
    have A_2 := A.out.cell 2
    have A_3 := A.out.cell 3
    have A_4 := A.out.cell 4
    have A_5 := A.out.cell 5
    simp at A_0 A_1 A_2 A_3 A_4 A_5
    have lt_B := B.out.lt
    have B_0 := B.out.cell 0
    have B_1 := B.out.cell 1
    have B_2 := B.out.cell 2
    have B_3 := B.out.cell 3
    have B_4 := B.out.cell 4
    have B_5 := B.out.cell 5
    simp at B_0 B_1 B_2 B_3 B_4 B_5
    have lt_K := K.out.lt
    have K_0 := K.out.cell 0
    have K_1 := K.out.cell 1
    have K_2 := K.out.cell 2
    have K_3 := K.out.cell 3
    simp at K_0 K_1 K_2 K_3
    have lt_M := M.out.lt
    have M_0 := M.out.cell 0
    have M_1 := M.out.cell 1
    have M_2 := M.out.cell 2
    have M_3 := M.out.cell 3
    simp at M_0 M_1 M_2 M_3
    have szB_w3 := SB4h.out.size
    go_wp2
    go_ret
    exact ⟨rfl, SB4h.out⟩
  have hl := fun W => like_any d1 i1 t1 b1 u1 s1 d2 i2 t2 b2 u2 s2 W
  rw [decide_eq_false hlk] at hl
  have Hlk := Lib.hid hlk
  clear hlk
  go_wp2_with fail
  refine (hl _).mono ?_
  rintro e w3 ⟨rfl, bel3⟩
  clear hl
  clear lt_Fb Fb_0 Fb_1 Fb_2 Fb_3 Fb_4 Fb_5 lt_A A_0 A_1 A_2 A_3 A_4 A_5 lt_B B_0 B_1 B_2 B_3 B_4 B_5 lt_K K_0 K_1 K_2 K_3 lt_M M_0 M_1 M_2 M_3
  have t_Fb := Fb.out.below bel3
  clear Fb
  have Fb := Lib.hid t_Fb
  clear t_Fb
  have t_A := A.out.below bel3
  clear A
  have A := Lib.hid t_A
  clear t_A
  have t_B := B.out.below bel3
  clear B
  have B := Lib.hid t_B
  clear t_B
  have t_K := K.out.below bel3
  clear K
  have K := Lib.hid t_K
  clear t_K
  have t_M := M.out.below bel3
  clear M
  have M := Lib.hid t_M
  clear t_M
  have SB4 : Below w.heap.size w w3 := SB3h.out.trans (bel3.mono SB3h.out.size)
  clear SB3h
  have SB4h := Lib.hid SB4
  clear SB4 bel3
  have lt_Fb := Fb.out.lt
  have Fb_0 := Fb.out.cell 0
  have Fb_1 := Fb.out.cell 1
  have Fb_2 := Fb.out.cell 2
  have Fb_3 := Fb.out.cell 3
  have Fb_4 := Fb.out.cell 4
  have Fb_5 := Fb.out.cell 5
  simp at Fb_0 Fb_1 Fb_2 Fb_3 Fb_4 Fb_5
  have lt_A := A.out.lt
  have A_0 := A.out.cell 0
  have A_1 := A.out.cell 1
  have A_2 := A.out.cell 2
  have A_3 := A.out.cell 3
  have A_4 := A.out.cell 4
  have A_5 := A.out.cell 5
  simp at A_0 A_1 A_2 A_3 A_4 A_5
  have lt_B := B.out.lt
  have B_0 := B.out.cell 0
  have B_1 := B.out.cell 1
  have B_2 := B.out.cell 2
  have B_3 := B.out.cell 3
  have B_4 := B.out.cell 4
  have B_5 := B.out.cell 5
  simp at B_0 B_1 B_2 B_3 B_4 B_5
  have lt_K := K.out.lt
  have K_0 := K.out.cell 0
  have K_1 := K.out.cell 1
  have K_2 := K.out.cell 2
  have K_3 := K.out.cell 3
  simp at K_0 K_1 K_2 K_3
  have lt_M := M.out.lt
  have M_0 := M.out.cell 0
  have M_1 := M.out.cell 1
  have M_2 := M.out.cell 2
  have M_3 := M.out.cell 3
  simp at M_0 M_1 M_2 M_3
  have szB_w3 := SB4h.out.size
  go_wp2_with fail
  refine (put_any p f x y d1 i1 t1 b1 u1 s1 c _ (HF.out.below SB4h.out)).mono ?_
  rintro e w4 ⟨⟨p1, f1, x1, rfl, ho1, hv1⟩, belp1⟩
  have O1 := Lib.hid ho1
  have V1 := Lib.hid hv1
  clear ho1 hv1
  clear lt_Fb Fb_0 Fb_1 Fb_2 Fb_3 Fb_4 Fb_5 lt_A A_0 A_1 A_2 A_3 A_4 A_5 lt_B B_0 B_1 B_2 B_3 B_4 B_5 lt_K K_0 K_1 K_2 K_3 lt_M M_0 M_1 M_2 M_3
  have t_Fb := Fb.out.below belp1
  clear Fb
  have Fb := Lib.hid t_Fb
  clear t_Fb
  have t_A := A.out.below belp1
  clear A
  have A := Lib.hid t_A
  clear t_A
  have t_B := B.out.below belp1
  clear B
  have B := Lib.hid t_B
  clear t_B
  have t_K := K.out.below belp1
  clear K
  have K := Lib.hid t_K
  clear t_K
  have t_M := M.out.below belp1
  clear M
  have M := Lib.hid t_M
  clear t_M
  have SB5 : Below w.heap.size w w4 := SB4h.out.trans (belp1.mono SB4h.out.size)
  clear SB4h
  have SB5h := Lib.hid SB5
  clear SB5 belp1
  have lt_Fb := Fb.out.lt
  have Fb_0 := Fb.out.cell 0
  have Fb_1 := Fb.out.cell 1
  have Fb_2 := Fb.out.cell 2
  have Fb_3 := Fb.out.cell 3
  have Fb_4 := Fb.out.cell 4
  have Fb_5 := Fb.out.cell 5
  simp at Fb_0 Fb_1 Fb_2 Fb_3 Fb_4 Fb_5
  have lt_A := A.out.lt
  have A_0 := A.out.cell 0
  have A_1 := A.out.cell 1
  have A_2 := A.out.cell 2
  have A_3 := A.out.cell 3
  have A_4 := A.out.cell 4
  have A_5 := A.out.cell 5
  simp at A_0 A_1 A_2 A_3 A_4 A_5
  have lt_B := B.out.lt
  have B_0 := B.out.cell 0
  have B_1 := B.out.cell 1
  have B_2 := B.out.cell 2
  have B_3 := B.out.cell 3
  have B_4 := B.out.cell 4
  have B_5 := B.out.cell 5
  simp at B_0 B_1 B_2 B_3 B_4 B_5
  have lt_K := K.out.lt
  have K_0 := K.out.cell 0
  have K_1 := K.out.cell 1
  have K_2 := K.out.cell 2
  have K_3 := K.out.cell 3
  simp at K_0 K_1 K_2 K_3
  have lt_M := M.out.lt
  have M_0 := M.out.cell 0
  have M_1 := M.out.cell 1
  have M_2 := M.out.cell 2
  have M_3 := M.out.cell 3
  simp at M_0 M_1 M_2 M_3
  have szB_w4 := SB5h.out.size
  go_wp2_with fail
  have O1a := (O1.out.below ((Below.refl w4.heap.size w4).alloc (Nat.le_refl _) (.cells #[.int .i64 f1.W, .int .i64 f1.H, .slice p1.ac f1.nc p1.kc, .slice p1.ad f1.nd p1.kd, .slice p1.ai f1.ni p1.ki, .slice p1.a4 f1.nt p1.kt] 29)))
  clear O1
  have NE_Fb_X := Lib.hid (show w.heap.size ≠ w4.heap.size by omega)
  have NE_A_X := Lib.hid (show w.heap.size + 1 ≠ w4.heap.size by omega)
  have NE_B_X := Lib.hid (show w.heap.size + 1 + 1 ≠ w4.heap.size by omega)
  have NE_K_X := Lib.hid (show w.heap.size + 1 + 1 + 1 ≠ w4.heap.size by omega)
  have NE_M_X := Lib.hid (show w.heap.size + 1 + 1 + 1 + 1 ≠ w4.heap.size by omega)
  have s_Fb := Fb.out
  have s_A := A.out
  have s_B := B.out
  have s_K := K.out
  have s_M := M.out
  replace s_Fb := s_Fb.alloc (.cells #[.int .i64 f1.W, .int .i64 f1.H, .slice p1.ac f1.nc p1.kc, .slice p1.ad f1.nd p1.kd, .slice p1.ai f1.ni p1.ki, .slice p1.a4 f1.nt p1.kt] 29)
  replace s_A := s_A.alloc (.cells #[.int .i64 f1.W, .int .i64 f1.H, .slice p1.ac f1.nc p1.kc, .slice p1.ad f1.nd p1.kd, .slice p1.ai f1.ni p1.ki, .slice p1.a4 f1.nt p1.kt] 29)
  replace s_B := s_B.alloc (.cells #[.int .i64 f1.W, .int .i64 f1.H, .slice p1.ac f1.nc p1.kc, .slice p1.ad f1.nd p1.kd, .slice p1.ai f1.ni p1.ki, .slice p1.a4 f1.nt p1.kt] 29)
  replace s_K := s_K.alloc (.cells #[.int .i64 f1.W, .int .i64 f1.H, .slice p1.ac f1.nc p1.kc, .slice p1.ad f1.nd p1.kd, .slice p1.ai f1.ni p1.ki, .slice p1.a4 f1.nt p1.kt] 29)
  replace s_M := s_M.alloc (.cells #[.int .i64 f1.W, .int .i64 f1.H, .slice p1.ac f1.nc p1.kc, .slice p1.ad f1.nd p1.kd, .slice p1.ai f1.ni p1.ki, .slice p1.a4 f1.nt p1.kt] 29)
  have s_X : HasBlk (w4.alloc (.cells #[.int .i64 f1.W, .int .i64 f1.H, .slice p1.ac f1.nc p1.kc, .slice p1.ad f1.nd p1.kd, .slice p1.ai f1.ni p1.ki, .slice p1.a4 f1.nt p1.kt] 29)) (w4.heap.size) 29 #[.int .i64 f1.W, .int .i64 f1.H, .slice p1.ac f1.nc p1.kc, .slice p1.ad f1.nd p1.kd, .slice p1.ai f1.ni p1.ki, .slice p1.a4 f1.nt p1.kt] := by simpa using hasBlk_new w4 29 #[.int .i64 f1.W, .int .i64 f1.H, .slice p1.ac f1.nc p1.kc, .slice p1.ad f1.nd p1.kd, .slice p1.ai f1.ni p1.ki, .slice p1.a4 f1.nt p1.kt]
  have t_Fb : HasBlk (w4.alloc (.cells #[.int .i64 f1.W, .int .i64 f1.H, .slice p1.ac f1.nc p1.kc, .slice p1.ad f1.nd p1.kd, .slice p1.ai f1.ni p1.ki, .slice p1.a4 f1.nt p1.kt] 29)) (w.heap.size) 29 #[.int .i64 f.W, .int .i64 f.H, .slice p.ac f.nc p.kc, .slice p.ad f.nd p.kd, .slice p.ai f.ni p.ki, .slice p.a4 f.nt p.kt] := by simpa using s_Fb
  clear s_Fb Fb
  have t_A : HasBlk (w4.alloc (.cells #[.int .i64 f1.W, .int .i64 f1.H, .slice p1.ac f1.nc p1.kc, .slice p1.ad f1.nd p1.kd, .slice p1.ai f1.ni p1.ki, .slice p1.a4 f1.nt p1.kt] 29)) (w.heap.size + 1) 25 #[.int .i64 d1, .int .i64 i1, .int .i64 t1, .int .i64 b1, .int .i64 u1, .int .i64 s1] := by simpa using s_A
  clear s_A A
  have t_B : HasBlk (w4.alloc (.cells #[.int .i64 f1.W, .int .i64 f1.H, .slice p1.ac f1.nc p1.kc, .slice p1.ad f1.nd p1.kd, .slice p1.ai f1.ni p1.ki, .slice p1.a4 f1.nt p1.kt] 29)) (w.heap.size + 1 + 1) 25 #[.int .i64 d2, .int .i64 i2, .int .i64 t2, .int .i64 b2, .int .i64 u2, .int .i64 s2] := by simpa using s_B
  clear s_B B
  have t_K : HasBlk (w4.alloc (.cells #[.int .i64 f1.W, .int .i64 f1.H, .slice p1.ac f1.nc p1.kc, .slice p1.ad f1.nd p1.kd, .slice p1.ai f1.ni p1.ki, .slice p1.a4 f1.nt p1.kt] 29)) (w.heap.size + 1 + 1 + 1) 23 #[.int .u8 (c 0), .int .u8 (c 1), .int .u8 (c 2), .int .u8 (c 3)] := by simpa using s_K
  clear s_K K
  have t_M : HasBlk (w4.alloc (.cells #[.int .i64 f1.W, .int .i64 f1.H, .slice p1.ac f1.nc p1.kc, .slice p1.ad f1.nd p1.kd, .slice p1.ai f1.ni p1.ki, .slice p1.a4 f1.nt p1.kt] 29)) (w.heap.size + 1 + 1 + 1 + 1) 23 #[.int .u8 (c' 0), .int .u8 (c' 1), .int .u8 (c' 2), .int .u8 (c' 3)] := by simpa using s_M
  clear s_M M
  have t_X : HasBlk (w4.alloc (.cells #[.int .i64 f1.W, .int .i64 f1.H, .slice p1.ac f1.nc p1.kc, .slice p1.ad f1.nd p1.kd, .slice p1.ai f1.ni p1.ki, .slice p1.a4 f1.nt p1.kt] 29)) (w4.heap.size) 29 #[.int .i64 f1.W, .int .i64 f1.H, .slice p1.ac f1.nc p1.kc, .slice p1.ad f1.nd p1.kd, .slice p1.ai f1.ni p1.ki, .slice p1.a4 f1.nt p1.kt] := by simpa using s_X
  clear s_X
  have SB6 : Below w.heap.size w (w4.alloc (.cells #[.int .i64 f1.W, .int .i64 f1.H, .slice p1.ac f1.nc p1.kc, .slice p1.ad f1.nd p1.kd, .slice p1.ai f1.ni p1.ki, .slice p1.a4 f1.nt p1.kt] 29)) := by
    have bel0 := SB5h.out
    repeat' (first | exact Below.refl _ _ | assumption | apply Below.drew | refine Below.setCell ?_ (by first | omega | (simp; done) | (simp; omega)) _ | refine Below.alloc ?_ (by first | omega | (simp; done) | (simp; omega)) _)
  clear lt_Fb Fb_0 Fb_1 Fb_2 Fb_3 Fb_4 Fb_5 lt_A A_0 A_1 A_2 A_3 A_4 A_5 lt_B B_0 B_1 B_2 B_3 B_4 B_5 lt_K K_0 K_1 K_2 K_3 lt_M M_0 M_1 M_2 M_3
  generalize gW_v1 : (w4.alloc (.cells #[.int .i64 f1.W, .int .i64 f1.H, .slice p1.ac f1.nc p1.kc, .slice p1.ad f1.nd p1.kd, .slice p1.ai f1.ni p1.ki, .slice p1.a4 f1.nt p1.kt] 29)) = v1 at *
  clear gW_v1
  have Fb := Lib.hid t_Fb
  clear t_Fb
  have A := Lib.hid t_A
  clear t_A
  have B := Lib.hid t_B
  clear t_B
  have K := Lib.hid t_K
  clear t_K
  have M := Lib.hid t_M
  clear t_M
  have X := Lib.hid t_X
  clear t_X
  clear SB5h
  have SB6h := Lib.hid SB6
  clear SB6
  have O1 := Lib.hid O1a
  clear O1a
  have lt_Fb := Fb.out.lt
  have Fb_0 := Fb.out.cell 0
  have Fb_1 := Fb.out.cell 1
  have Fb_2 := Fb.out.cell 2
  have Fb_3 := Fb.out.cell 3
  have Fb_4 := Fb.out.cell 4
  have Fb_5 := Fb.out.cell 5
  simp at Fb_0 Fb_1 Fb_2 Fb_3 Fb_4 Fb_5
  have lt_A := A.out.lt
  have A_0 := A.out.cell 0
  have A_1 := A.out.cell 1
  have A_2 := A.out.cell 2
  have A_3 := A.out.cell 3
  have A_4 := A.out.cell 4
  have A_5 := A.out.cell 5
  simp at A_0 A_1 A_2 A_3 A_4 A_5
  have lt_B := B.out.lt
  have B_0 := B.out.cell 0
  have B_1 := B.out.cell 1
  have B_2 := B.out.cell 2
  have B_3 := B.out.cell 3
  have B_4 := B.out.cell 4
  have B_5 := B.out.cell 5
  simp at B_0 B_1 B_2 B_3 B_4 B_5
  have lt_K := K.out.lt
  have K_0 := K.out.cell 0
  have K_1 := K.out.cell 1
  have K_2 := K.out.cell 2
  have K_3 := K.out.cell 3
  simp at K_0 K_1 K_2 K_3
  have lt_M := M.out.lt
  have M_0 := M.out.cell 0
  have M_1 := M.out.cell 1
  have M_2 := M.out.cell 2
  have M_3 := M.out.cell 3
  simp at M_0 M_1 M_2 M_3
  have lt_X := X.out.lt
  have X_0 := X.out.cell 0
  have X_1 := X.out.cell 1
  have X_2 := X.out.cell 2
  have X_3 := X.out.cell 3
  have X_4 := X.out.cell 4
  have X_5 := X.out.cell 5
  have X_f0 := X.out.frozen 0
  have X_f1 := X.out.frozen 1
  have X_f2 := X.out.frozen 2
  have X_f3 := X.out.frozen 3
  have X_f4 := X.out.frozen 4
  have X_f5 := X.out.frozen 5
  simp at X_0 X_1 X_2 X_3 X_4 X_5
  have szB_v1 := SB6h.out.size
  have ltX := Lib.hid X.out.lt
  refine (put_any p f z r d2 i2 t2 b2 u2 s2 c' _ (HF.out.below SB6h.out)).mono ?_
  rintro e w5 ⟨⟨p2, f2, x2, rfl, ho2, hv2⟩, belp2⟩
  have O2 := Lib.hid ho2
  have t_O1 := O1.out.below belp2
  clear O1
  have O1 := Lib.hid t_O1
  clear t_O1
  have V2 := Lib.hid hv2
  clear ho2 hv2
  clear lt_Fb Fb_0 Fb_1 Fb_2 Fb_3 Fb_4 Fb_5 lt_A A_0 A_1 A_2 A_3 A_4 A_5 lt_B B_0 B_1 B_2 B_3 B_4 B_5 lt_K K_0 K_1 K_2 K_3 lt_M M_0 M_1 M_2 M_3 lt_X X_0 X_1 X_2 X_3 X_4 X_5 X_f0 X_f1 X_f2 X_f3 X_f4 X_f5
  have t_Fb := Fb.out.below belp2
  clear Fb
  have Fb := Lib.hid t_Fb
  clear t_Fb
  have t_A := A.out.below belp2
  clear A
  have A := Lib.hid t_A
  clear t_A
  have t_B := B.out.below belp2
  clear B
  have B := Lib.hid t_B
  clear t_B
  have t_K := K.out.below belp2
  clear K
  have K := Lib.hid t_K
  clear t_K
  have t_M := M.out.below belp2
  clear M
  have M := Lib.hid t_M
  clear t_M
  have t_X := X.out.below belp2
  clear X
  have X := Lib.hid t_X
  clear t_X
  have SB7 : Below w.heap.size w w5 := SB6h.out.trans (belp2.mono SB6h.out.size)
  clear SB6h
  have SB7h := Lib.hid SB7
  clear SB7 belp2
  have lt_Fb := Fb.out.lt
  have Fb_0 := Fb.out.cell 0
  have Fb_1 := Fb.out.cell 1
  have Fb_2 := Fb.out.cell 2
  have Fb_3 := Fb.out.cell 3
  have Fb_4 := Fb.out.cell 4
  have Fb_5 := Fb.out.cell 5
  simp at Fb_0 Fb_1 Fb_2 Fb_3 Fb_4 Fb_5
  have lt_A := A.out.lt
  have A_0 := A.out.cell 0
  have A_1 := A.out.cell 1
  have A_2 := A.out.cell 2
  have A_3 := A.out.cell 3
  have A_4 := A.out.cell 4
  have A_5 := A.out.cell 5
  simp at A_0 A_1 A_2 A_3 A_4 A_5
  have lt_B := B.out.lt
  have B_0 := B.out.cell 0
  have B_1 := B.out.cell 1
  have B_2 := B.out.cell 2
  have B_3 := B.out.cell 3
  have B_4 := B.out.cell 4
  have B_5 := B.out.cell 5
  simp at B_0 B_1 B_2 B_3 B_4 B_5
  have lt_K := K.out.lt
  have K_0 := K.out.cell 0
  have K_1 := K.out.cell 1
  have K_2 := K.out.cell 2
  have K_3 := K.out.cell 3
  simp at K_0 K_1 K_2 K_3
  have lt_M := M.out.lt
  have M_0 := M.out.cell 0
  have M_1 := M.out.cell 1
  have M_2 := M.out.cell 2
  have M_3 := M.out.cell 3
  simp at M_0 M_1 M_2 M_3
  have lt_X := X.out.lt
  have X_0 := X.out.cell 0
  have X_1 := X.out.cell 1
  have X_2 := X.out.cell 2
  have X_3 := X.out.cell 3
  have X_4 := X.out.cell 4
  have X_5 := X.out.cell 5
  have X_f0 := X.out.frozen 0
  have X_f1 := X.out.frozen 1
  have X_f2 := X.out.frozen 2
  have X_f3 := X.out.frozen 3
  have X_f4 := X.out.frozen 4
  have X_f5 := X.out.frozen 5
  simp at X_0 X_1 X_2 X_3 X_4 X_5
  have szB_w5 := SB7h.out.size
  by_cases hx1 : x1 = 0
  rotate_left
  · have g1 : (x1 != 0) = true := by simpa using hx1
    have g1' : decide (x1 = 0) = false := decide_eq_false hx1
    clear hx1
    have HZ := SB7h.out
    go_wp2
    go_ret
    exact ⟨rfl, HZ.alloc HZ.size _⟩
  have g1 : (x1 != 0) = false := by simpa using hx1
  by_cases hx2 : x2 = 0
  rotate_left
  · have g2 : (x2 != 0) = true := by simpa using hx2
    have g2' : decide (x2 = 0) = false := decide_eq_false hx2
    clear hx1 hx2
    have HZ := SB7h.out
    go_wp2
    go_ret
    exact ⟨rfl, HZ.alloc HZ.size _⟩
  subst hx1 hx2
  clear g1
  go_wp2_with fail
  have O1a := (O1.out.below ((Below.refl w5.heap.size w5).alloc (Nat.le_refl _) (.cells #[.int .i64 f2.W, .int .i64 f2.H, .slice p2.ac f2.nc p2.kc, .slice p2.ad f2.nd p2.kd, .slice p2.ai f2.ni p2.ki, .slice p2.a4 f2.nt p2.kt] 29)))
  clear O1
  have O2a := (O2.out.below ((Below.refl w5.heap.size w5).alloc (Nat.le_refl _) (.cells #[.int .i64 f2.W, .int .i64 f2.H, .slice p2.ac f2.nc p2.kc, .slice p2.ad f2.nd p2.kd, .slice p2.ai f2.ni p2.ki, .slice p2.a4 f2.nt p2.kt] 29)))
  clear O2
  have NE_Fb_Y := Lib.hid (show w.heap.size ≠ w5.heap.size by omega)
  have NE_A_Y := Lib.hid (show w.heap.size + 1 ≠ w5.heap.size by omega)
  have NE_B_Y := Lib.hid (show w.heap.size + 1 + 1 ≠ w5.heap.size by omega)
  have NE_K_Y := Lib.hid (show w.heap.size + 1 + 1 + 1 ≠ w5.heap.size by omega)
  have NE_M_Y := Lib.hid (show w.heap.size + 1 + 1 + 1 + 1 ≠ w5.heap.size by omega)
  have NE_X_Y := Lib.hid (show w4.heap.size ≠ w5.heap.size by omega)
  have s_Fb := Fb.out
  have s_A := A.out
  have s_B := B.out
  have s_K := K.out
  have s_M := M.out
  have s_X := X.out
  replace s_Fb := s_Fb.alloc (.cells #[.int .i64 f2.W, .int .i64 f2.H, .slice p2.ac f2.nc p2.kc, .slice p2.ad f2.nd p2.kd, .slice p2.ai f2.ni p2.ki, .slice p2.a4 f2.nt p2.kt] 29)
  replace s_A := s_A.alloc (.cells #[.int .i64 f2.W, .int .i64 f2.H, .slice p2.ac f2.nc p2.kc, .slice p2.ad f2.nd p2.kd, .slice p2.ai f2.ni p2.ki, .slice p2.a4 f2.nt p2.kt] 29)
  replace s_B := s_B.alloc (.cells #[.int .i64 f2.W, .int .i64 f2.H, .slice p2.ac f2.nc p2.kc, .slice p2.ad f2.nd p2.kd, .slice p2.ai f2.ni p2.ki, .slice p2.a4 f2.nt p2.kt] 29)
  replace s_K := s_K.alloc (.cells #[.int .i64 f2.W, .int .i64 f2.H, .slice p2.ac f2.nc p2.kc, .slice p2.ad f2.nd p2.kd, .slice p2.ai f2.ni p2.ki, .slice p2.a4 f2.nt p2.kt] 29)
  replace s_M := s_M.alloc (.cells #[.int .i64 f2.W, .int .i64 f2.H, .slice p2.ac f2.nc p2.kc, .slice p2.ad f2.nd p2.kd, .slice p2.ai f2.ni p2.ki, .slice p2.a4 f2.nt p2.kt] 29)
  replace s_X := s_X.alloc (.cells #[.int .i64 f2.W, .int .i64 f2.H, .slice p2.ac f2.nc p2.kc, .slice p2.ad f2.nd p2.kd, .slice p2.ai f2.ni p2.ki, .slice p2.a4 f2.nt p2.kt] 29)
  have s_Y : HasBlk (w5.alloc (.cells #[.int .i64 f2.W, .int .i64 f2.H, .slice p2.ac f2.nc p2.kc, .slice p2.ad f2.nd p2.kd, .slice p2.ai f2.ni p2.ki, .slice p2.a4 f2.nt p2.kt] 29)) (w5.heap.size) 29 #[.int .i64 f2.W, .int .i64 f2.H, .slice p2.ac f2.nc p2.kc, .slice p2.ad f2.nd p2.kd, .slice p2.ai f2.ni p2.ki, .slice p2.a4 f2.nt p2.kt] := by simpa using hasBlk_new w5 29 #[.int .i64 f2.W, .int .i64 f2.H, .slice p2.ac f2.nc p2.kc, .slice p2.ad f2.nd p2.kd, .slice p2.ai f2.ni p2.ki, .slice p2.a4 f2.nt p2.kt]
  have t_Fb : HasBlk (w5.alloc (.cells #[.int .i64 f2.W, .int .i64 f2.H, .slice p2.ac f2.nc p2.kc, .slice p2.ad f2.nd p2.kd, .slice p2.ai f2.ni p2.ki, .slice p2.a4 f2.nt p2.kt] 29)) (w.heap.size) 29 #[.int .i64 f.W, .int .i64 f.H, .slice p.ac f.nc p.kc, .slice p.ad f.nd p.kd, .slice p.ai f.ni p.ki, .slice p.a4 f.nt p.kt] := by simpa using s_Fb
  clear s_Fb Fb
  have t_A : HasBlk (w5.alloc (.cells #[.int .i64 f2.W, .int .i64 f2.H, .slice p2.ac f2.nc p2.kc, .slice p2.ad f2.nd p2.kd, .slice p2.ai f2.ni p2.ki, .slice p2.a4 f2.nt p2.kt] 29)) (w.heap.size + 1) 25 #[.int .i64 d1, .int .i64 i1, .int .i64 t1, .int .i64 b1, .int .i64 u1, .int .i64 s1] := by simpa using s_A
  clear s_A A
  have t_B : HasBlk (w5.alloc (.cells #[.int .i64 f2.W, .int .i64 f2.H, .slice p2.ac f2.nc p2.kc, .slice p2.ad f2.nd p2.kd, .slice p2.ai f2.ni p2.ki, .slice p2.a4 f2.nt p2.kt] 29)) (w.heap.size + 1 + 1) 25 #[.int .i64 d2, .int .i64 i2, .int .i64 t2, .int .i64 b2, .int .i64 u2, .int .i64 s2] := by simpa using s_B
  clear s_B B
  have t_K : HasBlk (w5.alloc (.cells #[.int .i64 f2.W, .int .i64 f2.H, .slice p2.ac f2.nc p2.kc, .slice p2.ad f2.nd p2.kd, .slice p2.ai f2.ni p2.ki, .slice p2.a4 f2.nt p2.kt] 29)) (w.heap.size + 1 + 1 + 1) 23 #[.int .u8 (c 0), .int .u8 (c 1), .int .u8 (c 2), .int .u8 (c 3)] := by simpa using s_K
  clear s_K K
  have t_M : HasBlk (w5.alloc (.cells #[.int .i64 f2.W, .int .i64 f2.H, .slice p2.ac f2.nc p2.kc, .slice p2.ad f2.nd p2.kd, .slice p2.ai f2.ni p2.ki, .slice p2.a4 f2.nt p2.kt] 29)) (w.heap.size + 1 + 1 + 1 + 1) 23 #[.int .u8 (c' 0), .int .u8 (c' 1), .int .u8 (c' 2), .int .u8 (c' 3)] := by simpa using s_M
  clear s_M M
  have t_X : HasBlk (w5.alloc (.cells #[.int .i64 f2.W, .int .i64 f2.H, .slice p2.ac f2.nc p2.kc, .slice p2.ad f2.nd p2.kd, .slice p2.ai f2.ni p2.ki, .slice p2.a4 f2.nt p2.kt] 29)) (w4.heap.size) 29 #[.int .i64 f1.W, .int .i64 f1.H, .slice p1.ac f1.nc p1.kc, .slice p1.ad f1.nd p1.kd, .slice p1.ai f1.ni p1.ki, .slice p1.a4 f1.nt p1.kt] := by simpa using s_X
  clear s_X X
  have t_Y : HasBlk (w5.alloc (.cells #[.int .i64 f2.W, .int .i64 f2.H, .slice p2.ac f2.nc p2.kc, .slice p2.ad f2.nd p2.kd, .slice p2.ai f2.ni p2.ki, .slice p2.a4 f2.nt p2.kt] 29)) (w5.heap.size) 29 #[.int .i64 f2.W, .int .i64 f2.H, .slice p2.ac f2.nc p2.kc, .slice p2.ad f2.nd p2.kd, .slice p2.ai f2.ni p2.ki, .slice p2.a4 f2.nt p2.kt] := by simpa using s_Y
  clear s_Y
  have SB8 : Below w.heap.size w (w5.alloc (.cells #[.int .i64 f2.W, .int .i64 f2.H, .slice p2.ac f2.nc p2.kc, .slice p2.ad f2.nd p2.kd, .slice p2.ai f2.ni p2.ki, .slice p2.a4 f2.nt p2.kt] 29)) := by
    have bel0 := SB7h.out
    repeat' (first | exact Below.refl _ _ | assumption | apply Below.drew | refine Below.setCell ?_ (by first | omega | (simp; done) | (simp; omega)) _ | refine Below.alloc ?_ (by first | omega | (simp; done) | (simp; omega)) _)
  clear lt_Fb Fb_0 Fb_1 Fb_2 Fb_3 Fb_4 Fb_5 lt_A A_0 A_1 A_2 A_3 A_4 A_5 lt_B B_0 B_1 B_2 B_3 B_4 B_5 lt_K K_0 K_1 K_2 K_3 lt_M M_0 M_1 M_2 M_3 lt_X X_0 X_1 X_2 X_3 X_4 X_5 X_f0 X_f1 X_f2 X_f3 X_f4 X_f5
  generalize gW_v2 : (w5.alloc (.cells #[.int .i64 f2.W, .int .i64 f2.H, .slice p2.ac f2.nc p2.kc, .slice p2.ad f2.nd p2.kd, .slice p2.ai f2.ni p2.ki, .slice p2.a4 f2.nt p2.kt] 29)) = v2 at *
  clear gW_v2
  have Fb := Lib.hid t_Fb
  clear t_Fb
  have A := Lib.hid t_A
  clear t_A
  have B := Lib.hid t_B
  clear t_B
  have K := Lib.hid t_K
  clear t_K
  have M := Lib.hid t_M
  clear t_M
  have X := Lib.hid t_X
  clear t_X
  have Y := Lib.hid t_Y
  clear t_Y
  clear SB7h
  have SB8h := Lib.hid SB8
  clear SB8
  have O1 := Lib.hid O1a
  clear O1a
  have O2 := Lib.hid O2a
  clear O2a
  have lt_Fb := Fb.out.lt
  have Fb_0 := Fb.out.cell 0
  have Fb_1 := Fb.out.cell 1
  have Fb_2 := Fb.out.cell 2
  have Fb_3 := Fb.out.cell 3
  have Fb_4 := Fb.out.cell 4
  have Fb_5 := Fb.out.cell 5
  simp at Fb_0 Fb_1 Fb_2 Fb_3 Fb_4 Fb_5
  have lt_A := A.out.lt
  have A_0 := A.out.cell 0
  have A_1 := A.out.cell 1
  have A_2 := A.out.cell 2
  have A_3 := A.out.cell 3
  have A_4 := A.out.cell 4
  have A_5 := A.out.cell 5
  simp at A_0 A_1 A_2 A_3 A_4 A_5
  have lt_B := B.out.lt
  have B_0 := B.out.cell 0
  have B_1 := B.out.cell 1
  have B_2 := B.out.cell 2
  have B_3 := B.out.cell 3
  have B_4 := B.out.cell 4
  have B_5 := B.out.cell 5
  simp at B_0 B_1 B_2 B_3 B_4 B_5
  have lt_K := K.out.lt
  have K_0 := K.out.cell 0
  have K_1 := K.out.cell 1
  have K_2 := K.out.cell 2
  have K_3 := K.out.cell 3
  simp at K_0 K_1 K_2 K_3
  have lt_M := M.out.lt
  have M_0 := M.out.cell 0
  have M_1 := M.out.cell 1
  have M_2 := M.out.cell 2
  have M_3 := M.out.cell 3
  simp at M_0 M_1 M_2 M_3
  have lt_X := X.out.lt
  have X_0 := X.out.cell 0
  have X_1 := X.out.cell 1
  have X_2 := X.out.cell 2
  have X_3 := X.out.cell 3
  have X_4 := X.out.cell 4
  have X_5 := X.out.cell 5
  have X_f0 := X.out.frozen 0
  have X_f1 := X.out.frozen 1
  have X_f2 := X.out.frozen 2
  have X_f3 := X.out.frozen 3
  have X_f4 := X.out.frozen 4
  have X_f5 := X.out.frozen 5
  simp at X_0 X_1 X_2 X_3 X_4 X_5
  have lt_Y := Y.out.lt
  have Y_0 := Y.out.cell 0
  have Y_1 := Y.out.cell 1
  have Y_2 := Y.out.cell 2
  have Y_3 := Y.out.cell 3
  have Y_4 := Y.out.cell 4
  have Y_5 := Y.out.cell 5
  have Y_f0 := Y.out.frozen 0
  have Y_f1 := Y.out.frozen 1
  have Y_f2 := Y.out.frozen 2
  have Y_f3 := Y.out.frozen 3
  have Y_f4 := Y.out.frozen 4
  have Y_f5 := Y.out.frozen 5
  simp at Y_0 Y_1 Y_2 Y_3 Y_4 Y_5
  have szB_v2 := SB8h.out.size
  have ltY := Lib.hid Y.out.lt
  have ltX2 := Lib.hid X.out.lt
  refine (put_any p1 f1 z r d2 i2 t2 b2 u2 s2 c' _ (O1.out.ok)).mono ?_
  rintro e w6 ⟨⟨p3, f3, x3, rfl, ho3, hv3⟩, belp3⟩
  have O3 := Lib.hid ho3
  clear O1
  have t_O2 := O2.out.below belp3
  clear O2
  have O2 := Lib.hid t_O2
  clear t_O2
  have V3 := Lib.hid hv3
  clear ho3 hv3
  clear lt_Fb Fb_0 Fb_1 Fb_2 Fb_3 Fb_4 Fb_5 lt_A A_0 A_1 A_2 A_3 A_4 A_5 lt_B B_0 B_1 B_2 B_3 B_4 B_5 lt_K K_0 K_1 K_2 K_3 lt_M M_0 M_1 M_2 M_3 lt_X X_0 X_1 X_2 X_3 X_4 X_5 X_f0 X_f1 X_f2 X_f3 X_f4 X_f5 lt_Y Y_0 Y_1 Y_2 Y_3 Y_4 Y_5 Y_f0 Y_f1 Y_f2 Y_f3 Y_f4 Y_f5
  have t_Fb := Fb.out.below belp3
  clear Fb
  have Fb := Lib.hid t_Fb
  clear t_Fb
  have t_A := A.out.below belp3
  clear A
  have A := Lib.hid t_A
  clear t_A
  have t_B := B.out.below belp3
  clear B
  have B := Lib.hid t_B
  clear t_B
  have t_K := K.out.below belp3
  clear K
  have K := Lib.hid t_K
  clear t_K
  have t_M := M.out.below belp3
  clear M
  have M := Lib.hid t_M
  clear t_M
  have t_X := X.out.below belp3
  clear X
  have X := Lib.hid t_X
  clear t_X
  have t_Y := Y.out.below belp3
  clear Y
  have Y := Lib.hid t_Y
  clear t_Y
  have SB9 : Below w.heap.size w w6 := SB8h.out.trans (belp3.mono SB8h.out.size)
  clear SB8h
  have SB9h := Lib.hid SB9
  clear SB9 belp3
  have lt_Fb := Fb.out.lt
  have Fb_0 := Fb.out.cell 0
  have Fb_1 := Fb.out.cell 1
  have Fb_2 := Fb.out.cell 2
  have Fb_3 := Fb.out.cell 3
  have Fb_4 := Fb.out.cell 4
  have Fb_5 := Fb.out.cell 5
  simp at Fb_0 Fb_1 Fb_2 Fb_3 Fb_4 Fb_5
  have lt_A := A.out.lt
  have A_0 := A.out.cell 0
  have A_1 := A.out.cell 1
  have A_2 := A.out.cell 2
  have A_3 := A.out.cell 3
  have A_4 := A.out.cell 4
  have A_5 := A.out.cell 5
  simp at A_0 A_1 A_2 A_3 A_4 A_5
  have lt_B := B.out.lt
  have B_0 := B.out.cell 0
  have B_1 := B.out.cell 1
  have B_2 := B.out.cell 2
  have B_3 := B.out.cell 3
  have B_4 := B.out.cell 4
  have B_5 := B.out.cell 5
  simp at B_0 B_1 B_2 B_3 B_4 B_5
  have lt_K := K.out.lt
  have K_0 := K.out.cell 0
  have K_1 := K.out.cell 1
  have K_2 := K.out.cell 2
  have K_3 := K.out.cell 3
  simp at K_0 K_1 K_2 K_3
  have lt_M := M.out.lt
  have M_0 := M.out.cell 0
  have M_1 := M.out.cell 1
  have M_2 := M.out.cell 2
  have M_3 := M.out.cell 3
  simp at M_0 M_1 M_2 M_3
  have lt_X := X.out.lt
  have X_0 := X.out.cell 0
  have X_1 := X.out.cell 1
  have X_2 := X.out.cell 2
  have X_3 := X.out.cell 3
  have X_4 := X.out.cell 4
  have X_5 := X.out.cell 5
  have X_f0 := X.out.frozen 0
  have X_f1 := X.out.frozen 1
  have X_f2 := X.out.frozen 2
  have X_f3 := X.out.frozen 3
  have X_f4 := X.out.frozen 4
  have X_f5 := X.out.frozen 5
  simp at X_0 X_1 X_2 X_3 X_4 X_5
  have lt_Y := Y.out.lt
  have Y_0 := Y.out.cell 0
  have Y_1 := Y.out.cell 1
  have Y_2 := Y.out.cell 2
  have Y_3 := Y.out.cell 3
  have Y_4 := Y.out.cell 4
  have Y_5 := Y.out.cell 5
  have Y_f0 := Y.out.frozen 0
  have Y_f1 := Y.out.frozen 1
  have Y_f2 := Y.out.frozen 2
  have Y_f3 := Y.out.frozen 3
  have Y_f4 := Y.out.frozen 4
  have Y_f5 := Y.out.frozen 5
  simp at Y_0 Y_1 Y_2 Y_3 Y_4 Y_5
  have szB_w6 := SB9h.out.size
  have lNE_Fb_X := NE_Fb_X.out
  have rNE_Fb_X := Ne.symm NE_Fb_X.out
  have lNE_A_X := NE_A_X.out
  have rNE_A_X := Ne.symm NE_A_X.out
  have lNE_B_X := NE_B_X.out
  have rNE_B_X := Ne.symm NE_B_X.out
  have lNE_K_X := NE_K_X.out
  have rNE_K_X := Ne.symm NE_K_X.out
  have lNE_M_X := NE_M_X.out
  have rNE_M_X := Ne.symm NE_M_X.out
  have lNE_X_Y := NE_X_Y.out
  have rNE_X_Y := Ne.symm NE_X_Y.out
  go_wp2_with fail
  clear lNE_Fb_X rNE_Fb_X lNE_A_X rNE_A_X lNE_B_X rNE_B_X lNE_K_X rNE_K_X lNE_M_X rNE_M_X lNE_X_Y rNE_X_Y
  have O2a := (FOwn.far (g := w4.heap.size) (j := 5) (FOwn.far (g := w4.heap.size) (j := 4) (FOwn.far (g := w4.heap.size) (j := 3) (FOwn.far (g := w4.heap.size) (j := 2) (FOwn.far (g := w4.heap.size) (j := 1) (FOwn.far (g := w4.heap.size) (j := 0) O2.out ltX.out (.int .i64 f3.W)) ltX.out (.int .i64 f3.H)) ltX.out (.slice p3.ac f3.nc p3.kc)) ltX.out (.slice p3.ad f3.nd p3.kd)) ltX.out (.slice p3.ai f3.ni p3.ki)) ltX.out (.slice p3.a4 f3.nt p3.kt))
  clear O2
  have O3a := (FOwn.far (g := w4.heap.size) (j := 5) (FOwn.far (g := w4.heap.size) (j := 4) (FOwn.far (g := w4.heap.size) (j := 3) (FOwn.far (g := w4.heap.size) (j := 2) (FOwn.far (g := w4.heap.size) (j := 1) (FOwn.far (g := w4.heap.size) (j := 0) O3.out ltX2.out (.int .i64 f3.W)) ltX2.out (.int .i64 f3.H)) ltX2.out (.slice p3.ac f3.nc p3.kc)) ltX2.out (.slice p3.ad f3.nd p3.kd)) ltX2.out (.slice p3.ai f3.ni p3.ki)) ltX2.out (.slice p3.a4 f3.nt p3.kt))
  clear O3
  have s_Fb := Fb.out
  have s_A := A.out
  have s_B := B.out
  have s_K := K.out
  have s_M := M.out
  have s_X := X.out
  have s_Y := Y.out
  replace s_X := s_X.set 0 (.int .i64 f3.W)
  replace s_Fb := s_Fb.far (p := ⟨w4.heap.size, 0, none⟩) (by first | exact NE_Fb_X.out | exact Ne.symm NE_Fb_X.out | (simp; done) | (simp; omega) | omega) (.int .i64 f3.W)
  replace s_A := s_A.far (p := ⟨w4.heap.size, 0, none⟩) (by first | exact NE_A_X.out | exact Ne.symm NE_A_X.out | (simp; done) | (simp; omega) | omega) (.int .i64 f3.W)
  replace s_B := s_B.far (p := ⟨w4.heap.size, 0, none⟩) (by first | exact NE_B_X.out | exact Ne.symm NE_B_X.out | (simp; done) | (simp; omega) | omega) (.int .i64 f3.W)
  replace s_K := s_K.far (p := ⟨w4.heap.size, 0, none⟩) (by first | exact NE_K_X.out | exact Ne.symm NE_K_X.out | (simp; done) | (simp; omega) | omega) (.int .i64 f3.W)
  replace s_M := s_M.far (p := ⟨w4.heap.size, 0, none⟩) (by first | exact NE_M_X.out | exact Ne.symm NE_M_X.out | (simp; done) | (simp; omega) | omega) (.int .i64 f3.W)
  replace s_Y := s_Y.far (p := ⟨w4.heap.size, 0, none⟩) (by first | exact NE_X_Y.out | exact Ne.symm NE_X_Y.out | (simp; done) | (simp; omega) | omega) (.int .i64 f3.W)
  replace s_X := s_X.set 1 (.int .i64 f3.H)
  replace s_Fb := s_Fb.far (p := ⟨w4.heap.size, 1, none⟩) (by first | exact NE_Fb_X.out | exact Ne.symm NE_Fb_X.out | (simp; done) | (simp; omega) | omega) (.int .i64 f3.H)
  replace s_A := s_A.far (p := ⟨w4.heap.size, 1, none⟩) (by first | exact NE_A_X.out | exact Ne.symm NE_A_X.out | (simp; done) | (simp; omega) | omega) (.int .i64 f3.H)
  replace s_B := s_B.far (p := ⟨w4.heap.size, 1, none⟩) (by first | exact NE_B_X.out | exact Ne.symm NE_B_X.out | (simp; done) | (simp; omega) | omega) (.int .i64 f3.H)
  replace s_K := s_K.far (p := ⟨w4.heap.size, 1, none⟩) (by first | exact NE_K_X.out | exact Ne.symm NE_K_X.out | (simp; done) | (simp; omega) | omega) (.int .i64 f3.H)
  replace s_M := s_M.far (p := ⟨w4.heap.size, 1, none⟩) (by first | exact NE_M_X.out | exact Ne.symm NE_M_X.out | (simp; done) | (simp; omega) | omega) (.int .i64 f3.H)
  replace s_Y := s_Y.far (p := ⟨w4.heap.size, 1, none⟩) (by first | exact NE_X_Y.out | exact Ne.symm NE_X_Y.out | (simp; done) | (simp; omega) | omega) (.int .i64 f3.H)
  replace s_X := s_X.set 2 (.slice p3.ac f3.nc p3.kc)
  replace s_Fb := s_Fb.far (p := ⟨w4.heap.size, 2, none⟩) (by first | exact NE_Fb_X.out | exact Ne.symm NE_Fb_X.out | (simp; done) | (simp; omega) | omega) (.slice p3.ac f3.nc p3.kc)
  replace s_A := s_A.far (p := ⟨w4.heap.size, 2, none⟩) (by first | exact NE_A_X.out | exact Ne.symm NE_A_X.out | (simp; done) | (simp; omega) | omega) (.slice p3.ac f3.nc p3.kc)
  replace s_B := s_B.far (p := ⟨w4.heap.size, 2, none⟩) (by first | exact NE_B_X.out | exact Ne.symm NE_B_X.out | (simp; done) | (simp; omega) | omega) (.slice p3.ac f3.nc p3.kc)
  replace s_K := s_K.far (p := ⟨w4.heap.size, 2, none⟩) (by first | exact NE_K_X.out | exact Ne.symm NE_K_X.out | (simp; done) | (simp; omega) | omega) (.slice p3.ac f3.nc p3.kc)
  replace s_M := s_M.far (p := ⟨w4.heap.size, 2, none⟩) (by first | exact NE_M_X.out | exact Ne.symm NE_M_X.out | (simp; done) | (simp; omega) | omega) (.slice p3.ac f3.nc p3.kc)
  replace s_Y := s_Y.far (p := ⟨w4.heap.size, 2, none⟩) (by first | exact NE_X_Y.out | exact Ne.symm NE_X_Y.out | (simp; done) | (simp; omega) | omega) (.slice p3.ac f3.nc p3.kc)
  replace s_X := s_X.set 3 (.slice p3.ad f3.nd p3.kd)
  replace s_Fb := s_Fb.far (p := ⟨w4.heap.size, 3, none⟩) (by first | exact NE_Fb_X.out | exact Ne.symm NE_Fb_X.out | (simp; done) | (simp; omega) | omega) (.slice p3.ad f3.nd p3.kd)
  replace s_A := s_A.far (p := ⟨w4.heap.size, 3, none⟩) (by first | exact NE_A_X.out | exact Ne.symm NE_A_X.out | (simp; done) | (simp; omega) | omega) (.slice p3.ad f3.nd p3.kd)
  replace s_B := s_B.far (p := ⟨w4.heap.size, 3, none⟩) (by first | exact NE_B_X.out | exact Ne.symm NE_B_X.out | (simp; done) | (simp; omega) | omega) (.slice p3.ad f3.nd p3.kd)
  replace s_K := s_K.far (p := ⟨w4.heap.size, 3, none⟩) (by first | exact NE_K_X.out | exact Ne.symm NE_K_X.out | (simp; done) | (simp; omega) | omega) (.slice p3.ad f3.nd p3.kd)
  replace s_M := s_M.far (p := ⟨w4.heap.size, 3, none⟩) (by first | exact NE_M_X.out | exact Ne.symm NE_M_X.out | (simp; done) | (simp; omega) | omega) (.slice p3.ad f3.nd p3.kd)
  replace s_Y := s_Y.far (p := ⟨w4.heap.size, 3, none⟩) (by first | exact NE_X_Y.out | exact Ne.symm NE_X_Y.out | (simp; done) | (simp; omega) | omega) (.slice p3.ad f3.nd p3.kd)
  replace s_X := s_X.set 4 (.slice p3.ai f3.ni p3.ki)
  replace s_Fb := s_Fb.far (p := ⟨w4.heap.size, 4, none⟩) (by first | exact NE_Fb_X.out | exact Ne.symm NE_Fb_X.out | (simp; done) | (simp; omega) | omega) (.slice p3.ai f3.ni p3.ki)
  replace s_A := s_A.far (p := ⟨w4.heap.size, 4, none⟩) (by first | exact NE_A_X.out | exact Ne.symm NE_A_X.out | (simp; done) | (simp; omega) | omega) (.slice p3.ai f3.ni p3.ki)
  replace s_B := s_B.far (p := ⟨w4.heap.size, 4, none⟩) (by first | exact NE_B_X.out | exact Ne.symm NE_B_X.out | (simp; done) | (simp; omega) | omega) (.slice p3.ai f3.ni p3.ki)
  replace s_K := s_K.far (p := ⟨w4.heap.size, 4, none⟩) (by first | exact NE_K_X.out | exact Ne.symm NE_K_X.out | (simp; done) | (simp; omega) | omega) (.slice p3.ai f3.ni p3.ki)
  replace s_M := s_M.far (p := ⟨w4.heap.size, 4, none⟩) (by first | exact NE_M_X.out | exact Ne.symm NE_M_X.out | (simp; done) | (simp; omega) | omega) (.slice p3.ai f3.ni p3.ki)
  replace s_Y := s_Y.far (p := ⟨w4.heap.size, 4, none⟩) (by first | exact NE_X_Y.out | exact Ne.symm NE_X_Y.out | (simp; done) | (simp; omega) | omega) (.slice p3.ai f3.ni p3.ki)
  replace s_X := s_X.set 5 (.slice p3.a4 f3.nt p3.kt)
  replace s_Fb := s_Fb.far (p := ⟨w4.heap.size, 5, none⟩) (by first | exact NE_Fb_X.out | exact Ne.symm NE_Fb_X.out | (simp; done) | (simp; omega) | omega) (.slice p3.a4 f3.nt p3.kt)
  replace s_A := s_A.far (p := ⟨w4.heap.size, 5, none⟩) (by first | exact NE_A_X.out | exact Ne.symm NE_A_X.out | (simp; done) | (simp; omega) | omega) (.slice p3.a4 f3.nt p3.kt)
  replace s_B := s_B.far (p := ⟨w4.heap.size, 5, none⟩) (by first | exact NE_B_X.out | exact Ne.symm NE_B_X.out | (simp; done) | (simp; omega) | omega) (.slice p3.a4 f3.nt p3.kt)
  replace s_K := s_K.far (p := ⟨w4.heap.size, 5, none⟩) (by first | exact NE_K_X.out | exact Ne.symm NE_K_X.out | (simp; done) | (simp; omega) | omega) (.slice p3.a4 f3.nt p3.kt)
  replace s_M := s_M.far (p := ⟨w4.heap.size, 5, none⟩) (by first | exact NE_M_X.out | exact Ne.symm NE_M_X.out | (simp; done) | (simp; omega) | omega) (.slice p3.a4 f3.nt p3.kt)
  replace s_Y := s_Y.far (p := ⟨w4.heap.size, 5, none⟩) (by first | exact NE_X_Y.out | exact Ne.symm NE_X_Y.out | (simp; done) | (simp; omega) | omega) (.slice p3.a4 f3.nt p3.kt)
  have t_Fb : HasBlk ((((((w6.setCell ⟨w4.heap.size, 0, none⟩ (.int .i64 f3.W)).setCell ⟨w4.heap.size, 1, none⟩ (.int .i64 f3.H)).setCell ⟨w4.heap.size, 2, none⟩ (.slice p3.ac f3.nc p3.kc)).setCell ⟨w4.heap.size, 3, none⟩ (.slice p3.ad f3.nd p3.kd)).setCell ⟨w4.heap.size, 4, none⟩ (.slice p3.ai f3.ni p3.ki)).setCell ⟨w4.heap.size, 5, none⟩ (.slice p3.a4 f3.nt p3.kt)) (w.heap.size) 29 #[.int .i64 f.W, .int .i64 f.H, .slice p.ac f.nc p.kc, .slice p.ad f.nd p.kd, .slice p.ai f.ni p.ki, .slice p.a4 f.nt p.kt] := s_Fb
  clear s_Fb Fb
  have t_A : HasBlk ((((((w6.setCell ⟨w4.heap.size, 0, none⟩ (.int .i64 f3.W)).setCell ⟨w4.heap.size, 1, none⟩ (.int .i64 f3.H)).setCell ⟨w4.heap.size, 2, none⟩ (.slice p3.ac f3.nc p3.kc)).setCell ⟨w4.heap.size, 3, none⟩ (.slice p3.ad f3.nd p3.kd)).setCell ⟨w4.heap.size, 4, none⟩ (.slice p3.ai f3.ni p3.ki)).setCell ⟨w4.heap.size, 5, none⟩ (.slice p3.a4 f3.nt p3.kt)) (w.heap.size + 1) 25 #[.int .i64 d1, .int .i64 i1, .int .i64 t1, .int .i64 b1, .int .i64 u1, .int .i64 s1] := s_A
  clear s_A A
  have t_B : HasBlk ((((((w6.setCell ⟨w4.heap.size, 0, none⟩ (.int .i64 f3.W)).setCell ⟨w4.heap.size, 1, none⟩ (.int .i64 f3.H)).setCell ⟨w4.heap.size, 2, none⟩ (.slice p3.ac f3.nc p3.kc)).setCell ⟨w4.heap.size, 3, none⟩ (.slice p3.ad f3.nd p3.kd)).setCell ⟨w4.heap.size, 4, none⟩ (.slice p3.ai f3.ni p3.ki)).setCell ⟨w4.heap.size, 5, none⟩ (.slice p3.a4 f3.nt p3.kt)) (w.heap.size + 1 + 1) 25 #[.int .i64 d2, .int .i64 i2, .int .i64 t2, .int .i64 b2, .int .i64 u2, .int .i64 s2] := s_B
  clear s_B B
  have t_K : HasBlk ((((((w6.setCell ⟨w4.heap.size, 0, none⟩ (.int .i64 f3.W)).setCell ⟨w4.heap.size, 1, none⟩ (.int .i64 f3.H)).setCell ⟨w4.heap.size, 2, none⟩ (.slice p3.ac f3.nc p3.kc)).setCell ⟨w4.heap.size, 3, none⟩ (.slice p3.ad f3.nd p3.kd)).setCell ⟨w4.heap.size, 4, none⟩ (.slice p3.ai f3.ni p3.ki)).setCell ⟨w4.heap.size, 5, none⟩ (.slice p3.a4 f3.nt p3.kt)) (w.heap.size + 1 + 1 + 1) 23 #[.int .u8 (c 0), .int .u8 (c 1), .int .u8 (c 2), .int .u8 (c 3)] := s_K
  clear s_K K
  have t_M : HasBlk ((((((w6.setCell ⟨w4.heap.size, 0, none⟩ (.int .i64 f3.W)).setCell ⟨w4.heap.size, 1, none⟩ (.int .i64 f3.H)).setCell ⟨w4.heap.size, 2, none⟩ (.slice p3.ac f3.nc p3.kc)).setCell ⟨w4.heap.size, 3, none⟩ (.slice p3.ad f3.nd p3.kd)).setCell ⟨w4.heap.size, 4, none⟩ (.slice p3.ai f3.ni p3.ki)).setCell ⟨w4.heap.size, 5, none⟩ (.slice p3.a4 f3.nt p3.kt)) (w.heap.size + 1 + 1 + 1 + 1) 23 #[.int .u8 (c' 0), .int .u8 (c' 1), .int .u8 (c' 2), .int .u8 (c' 3)] := s_M
  clear s_M M
  have t_X : HasBlk ((((((w6.setCell ⟨w4.heap.size, 0, none⟩ (.int .i64 f3.W)).setCell ⟨w4.heap.size, 1, none⟩ (.int .i64 f3.H)).setCell ⟨w4.heap.size, 2, none⟩ (.slice p3.ac f3.nc p3.kc)).setCell ⟨w4.heap.size, 3, none⟩ (.slice p3.ad f3.nd p3.kd)).setCell ⟨w4.heap.size, 4, none⟩ (.slice p3.ai f3.ni p3.ki)).setCell ⟨w4.heap.size, 5, none⟩ (.slice p3.a4 f3.nt p3.kt)) (w4.heap.size) 29 #[.int .i64 f3.W, .int .i64 f3.H, .slice p3.ac f3.nc p3.kc, .slice p3.ad f3.nd p3.kd, .slice p3.ai f3.ni p3.ki, .slice p3.a4 f3.nt p3.kt] := by simp only [List.setIfInBounds_toArray, List.set_cons_zero, List.set_cons_succ] at s_X; exact s_X
  clear s_X X
  have t_Y : HasBlk ((((((w6.setCell ⟨w4.heap.size, 0, none⟩ (.int .i64 f3.W)).setCell ⟨w4.heap.size, 1, none⟩ (.int .i64 f3.H)).setCell ⟨w4.heap.size, 2, none⟩ (.slice p3.ac f3.nc p3.kc)).setCell ⟨w4.heap.size, 3, none⟩ (.slice p3.ad f3.nd p3.kd)).setCell ⟨w4.heap.size, 4, none⟩ (.slice p3.ai f3.ni p3.ki)).setCell ⟨w4.heap.size, 5, none⟩ (.slice p3.a4 f3.nt p3.kt)) (w5.heap.size) 29 #[.int .i64 f2.W, .int .i64 f2.H, .slice p2.ac f2.nc p2.kc, .slice p2.ad f2.nd p2.kd, .slice p2.ai f2.ni p2.ki, .slice p2.a4 f2.nt p2.kt] := s_Y
  clear s_Y Y
  have LE_X : w.heap.size ≤ w4.heap.size := by omega
  have SB10 : Below w.heap.size w ((((((w6.setCell ⟨w4.heap.size, 0, none⟩ (.int .i64 f3.W)).setCell ⟨w4.heap.size, 1, none⟩ (.int .i64 f3.H)).setCell ⟨w4.heap.size, 2, none⟩ (.slice p3.ac f3.nc p3.kc)).setCell ⟨w4.heap.size, 3, none⟩ (.slice p3.ad f3.nd p3.kd)).setCell ⟨w4.heap.size, 4, none⟩ (.slice p3.ai f3.ni p3.ki)).setCell ⟨w4.heap.size, 5, none⟩ (.slice p3.a4 f3.nt p3.kt)) := (Below.setCell (p := ⟨w4.heap.size, 5, none⟩) (Below.setCell (p := ⟨w4.heap.size, 4, none⟩) (Below.setCell (p := ⟨w4.heap.size, 3, none⟩) (Below.setCell (p := ⟨w4.heap.size, 2, none⟩) (Below.setCell (p := ⟨w4.heap.size, 1, none⟩) (Below.setCell (p := ⟨w4.heap.size, 0, none⟩) SB9h.out LE_X _) LE_X _) LE_X _) LE_X _) LE_X _) LE_X _)
  clear lt_Fb Fb_0 Fb_1 Fb_2 Fb_3 Fb_4 Fb_5 lt_A A_0 A_1 A_2 A_3 A_4 A_5 lt_B B_0 B_1 B_2 B_3 B_4 B_5 lt_K K_0 K_1 K_2 K_3 lt_M M_0 M_1 M_2 M_3 lt_X X_0 X_1 X_2 X_3 X_4 X_5 X_f0 X_f1 X_f2 X_f3 X_f4 X_f5 lt_Y Y_0 Y_1 Y_2 Y_3 Y_4 Y_5 Y_f0 Y_f1 Y_f2 Y_f3 Y_f4 Y_f5
  generalize gW_v3 : ((((((w6.setCell ⟨w4.heap.size, 0, none⟩ (.int .i64 f3.W)).setCell ⟨w4.heap.size, 1, none⟩ (.int .i64 f3.H)).setCell ⟨w4.heap.size, 2, none⟩ (.slice p3.ac f3.nc p3.kc)).setCell ⟨w4.heap.size, 3, none⟩ (.slice p3.ad f3.nd p3.kd)).setCell ⟨w4.heap.size, 4, none⟩ (.slice p3.ai f3.ni p3.ki)).setCell ⟨w4.heap.size, 5, none⟩ (.slice p3.a4 f3.nt p3.kt)) = v3 at *
  clear gW_v3
  have Fb := Lib.hid t_Fb
  clear t_Fb
  have A := Lib.hid t_A
  clear t_A
  have B := Lib.hid t_B
  clear t_B
  have K := Lib.hid t_K
  clear t_K
  have M := Lib.hid t_M
  clear t_M
  have X := Lib.hid t_X
  clear t_X
  have Y := Lib.hid t_Y
  clear t_Y
  clear SB9h
  have SB10h := Lib.hid SB10
  clear SB10
  have O2 := Lib.hid O2a
  clear O2a
  have O3 := Lib.hid O3a
  clear O3a
  have lt_Fb := Fb.out.lt
  have Fb_0 := Fb.out.cell 0
  have Fb_1 := Fb.out.cell 1
  have Fb_2 := Fb.out.cell 2
  have Fb_3 := Fb.out.cell 3
  have Fb_4 := Fb.out.cell 4
  have Fb_5 := Fb.out.cell 5
  simp at Fb_0 Fb_1 Fb_2 Fb_3 Fb_4 Fb_5
  have lt_A := A.out.lt
  have A_0 := A.out.cell 0
  have A_1 := A.out.cell 1
  have A_2 := A.out.cell 2
  have A_3 := A.out.cell 3
  have A_4 := A.out.cell 4
  have A_5 := A.out.cell 5
  simp at A_0 A_1 A_2 A_3 A_4 A_5
  have lt_B := B.out.lt
  have B_0 := B.out.cell 0
  have B_1 := B.out.cell 1
  have B_2 := B.out.cell 2
  have B_3 := B.out.cell 3
  have B_4 := B.out.cell 4
  have B_5 := B.out.cell 5
  simp at B_0 B_1 B_2 B_3 B_4 B_5
  have lt_K := K.out.lt
  have K_0 := K.out.cell 0
  have K_1 := K.out.cell 1
  have K_2 := K.out.cell 2
  have K_3 := K.out.cell 3
  simp at K_0 K_1 K_2 K_3
  have lt_M := M.out.lt
  have M_0 := M.out.cell 0
  have M_1 := M.out.cell 1
  have M_2 := M.out.cell 2
  have M_3 := M.out.cell 3
  simp at M_0 M_1 M_2 M_3
  have lt_X := X.out.lt
  have X_0 := X.out.cell 0
  have X_1 := X.out.cell 1
  have X_2 := X.out.cell 2
  have X_3 := X.out.cell 3
  have X_4 := X.out.cell 4
  have X_5 := X.out.cell 5
  have X_f0 := X.out.frozen 0
  have X_f1 := X.out.frozen 1
  have X_f2 := X.out.frozen 2
  have X_f3 := X.out.frozen 3
  have X_f4 := X.out.frozen 4
  have X_f5 := X.out.frozen 5
  simp at X_0 X_1 X_2 X_3 X_4 X_5
  have lt_Y := Y.out.lt
  have Y_0 := Y.out.cell 0
  have Y_1 := Y.out.cell 1
  have Y_2 := Y.out.cell 2
  have Y_3 := Y.out.cell 3
  have Y_4 := Y.out.cell 4
  have Y_5 := Y.out.cell 5
  have Y_f0 := Y.out.frozen 0
  have Y_f1 := Y.out.frozen 1
  have Y_f2 := Y.out.frozen 2
  have Y_f3 := Y.out.frozen 3
  have Y_f4 := Y.out.frozen 4
  have Y_f5 := Y.out.frozen 5
  simp at Y_0 Y_1 Y_2 Y_3 Y_4 Y_5
  have szB_v3 := SB10h.out.size
  have ltY3 := Lib.hid Y.out.lt
  refine (put_any p2 f2 x y d1 i1 t1 b1 u1 s1 c _ (O2.out.ok)).mono ?_
  rintro e w7 ⟨⟨p4, f4, x4, rfl, ho4, hv4⟩, belp4⟩
  have O4 := Lib.hid ho4
  clear O2
  have t_O3 := O3.out.below belp4
  clear O3
  have O3 := Lib.hid t_O3
  clear t_O3
  have V4 := Lib.hid hv4
  clear ho4 hv4
  clear lt_Fb Fb_0 Fb_1 Fb_2 Fb_3 Fb_4 Fb_5 lt_A A_0 A_1 A_2 A_3 A_4 A_5 lt_B B_0 B_1 B_2 B_3 B_4 B_5 lt_K K_0 K_1 K_2 K_3 lt_M M_0 M_1 M_2 M_3 lt_X X_0 X_1 X_2 X_3 X_4 X_5 X_f0 X_f1 X_f2 X_f3 X_f4 X_f5 lt_Y Y_0 Y_1 Y_2 Y_3 Y_4 Y_5 Y_f0 Y_f1 Y_f2 Y_f3 Y_f4 Y_f5
  have t_Fb := Fb.out.below belp4
  clear Fb
  have Fb := Lib.hid t_Fb
  clear t_Fb
  have t_A := A.out.below belp4
  clear A
  have A := Lib.hid t_A
  clear t_A
  have t_B := B.out.below belp4
  clear B
  have B := Lib.hid t_B
  clear t_B
  have t_K := K.out.below belp4
  clear K
  have K := Lib.hid t_K
  clear t_K
  have t_M := M.out.below belp4
  clear M
  have M := Lib.hid t_M
  clear t_M
  have t_X := X.out.below belp4
  clear X
  have X := Lib.hid t_X
  clear t_X
  have t_Y := Y.out.below belp4
  clear Y
  have Y := Lib.hid t_Y
  clear t_Y
  have SB11 : Below w.heap.size w w7 := SB10h.out.trans (belp4.mono SB10h.out.size)
  clear SB10h
  have SB11h := Lib.hid SB11
  clear SB11 belp4
  have lt_Fb := Fb.out.lt
  have Fb_0 := Fb.out.cell 0
  have Fb_1 := Fb.out.cell 1
  have Fb_2 := Fb.out.cell 2
  have Fb_3 := Fb.out.cell 3
  have Fb_4 := Fb.out.cell 4
  have Fb_5 := Fb.out.cell 5
  simp at Fb_0 Fb_1 Fb_2 Fb_3 Fb_4 Fb_5
  have lt_A := A.out.lt
  have A_0 := A.out.cell 0
  have A_1 := A.out.cell 1
  have A_2 := A.out.cell 2
  have A_3 := A.out.cell 3
  have A_4 := A.out.cell 4
  have A_5 := A.out.cell 5
  simp at A_0 A_1 A_2 A_3 A_4 A_5
  have lt_B := B.out.lt
  have B_0 := B.out.cell 0
  have B_1 := B.out.cell 1
  have B_2 := B.out.cell 2
  have B_3 := B.out.cell 3
  have B_4 := B.out.cell 4
  have B_5 := B.out.cell 5
  simp at B_0 B_1 B_2 B_3 B_4 B_5
  have lt_K := K.out.lt
  have K_0 := K.out.cell 0
  have K_1 := K.out.cell 1
  have K_2 := K.out.cell 2
  have K_3 := K.out.cell 3
  simp at K_0 K_1 K_2 K_3
  have lt_M := M.out.lt
  have M_0 := M.out.cell 0
  have M_1 := M.out.cell 1
  have M_2 := M.out.cell 2
  have M_3 := M.out.cell 3
  simp at M_0 M_1 M_2 M_3
  have lt_X := X.out.lt
  have X_0 := X.out.cell 0
  have X_1 := X.out.cell 1
  have X_2 := X.out.cell 2
  have X_3 := X.out.cell 3
  have X_4 := X.out.cell 4
  have X_5 := X.out.cell 5
  have X_f0 := X.out.frozen 0
  have X_f1 := X.out.frozen 1
  have X_f2 := X.out.frozen 2
  have X_f3 := X.out.frozen 3
  have X_f4 := X.out.frozen 4
  have X_f5 := X.out.frozen 5
  simp at X_0 X_1 X_2 X_3 X_4 X_5
  have lt_Y := Y.out.lt
  have Y_0 := Y.out.cell 0
  have Y_1 := Y.out.cell 1
  have Y_2 := Y.out.cell 2
  have Y_3 := Y.out.cell 3
  have Y_4 := Y.out.cell 4
  have Y_5 := Y.out.cell 5
  have Y_f0 := Y.out.frozen 0
  have Y_f1 := Y.out.frozen 1
  have Y_f2 := Y.out.frozen 2
  have Y_f3 := Y.out.frozen 3
  have Y_f4 := Y.out.frozen 4
  have Y_f5 := Y.out.frozen 5
  simp at Y_0 Y_1 Y_2 Y_3 Y_4 Y_5
  have szB_w7 := SB11h.out.size
  obtain ⟨rfl, rfl, e34, n1, n2, n3, n4⟩ := order_law Hlk.out V1.out V2.out V3.out V4.out
  have He := Lib.hid e34
  have Hn := Lib.hid (And.intro n1 (And.intro n2 (And.intro n3 n4)))
  clear e34 n1 n2 n3 n4
  have lNE_Fb_Y := NE_Fb_Y.out
  have rNE_Fb_Y := Ne.symm NE_Fb_Y.out
  have lNE_A_Y := NE_A_Y.out
  have rNE_A_Y := Ne.symm NE_A_Y.out
  have lNE_B_Y := NE_B_Y.out
  have rNE_B_Y := Ne.symm NE_B_Y.out
  have lNE_K_Y := NE_K_Y.out
  have rNE_K_Y := Ne.symm NE_K_Y.out
  have lNE_M_Y := NE_M_Y.out
  have rNE_M_Y := Ne.symm NE_M_Y.out
  have lNE_X_Y := NE_X_Y.out
  have rNE_X_Y := Ne.symm NE_X_Y.out
  go_wp2_with fail
  clear lNE_Fb_Y rNE_Fb_Y lNE_A_Y rNE_A_Y lNE_B_Y rNE_B_Y lNE_K_Y rNE_K_Y lNE_M_Y rNE_M_Y lNE_X_Y rNE_X_Y
  have O3a := (FOwn.far (g := w5.heap.size) (j := 5) (FOwn.far (g := w5.heap.size) (j := 4) (FOwn.far (g := w5.heap.size) (j := 3) (FOwn.far (g := w5.heap.size) (j := 2) (FOwn.far (g := w5.heap.size) (j := 1) (FOwn.far (g := w5.heap.size) (j := 0) O3.out ltY.out (.int .i64 f4.W)) ltY.out (.int .i64 f4.H)) ltY.out (.slice p4.ac f4.nc p4.kc)) ltY.out (.slice p4.ad f4.nd p4.kd)) ltY.out (.slice p4.ai f4.ni p4.ki)) ltY.out (.slice p4.a4 f4.nt p4.kt))
  clear O3
  have O4a := (FOwn.far (g := w5.heap.size) (j := 5) (FOwn.far (g := w5.heap.size) (j := 4) (FOwn.far (g := w5.heap.size) (j := 3) (FOwn.far (g := w5.heap.size) (j := 2) (FOwn.far (g := w5.heap.size) (j := 1) (FOwn.far (g := w5.heap.size) (j := 0) O4.out ltY3.out (.int .i64 f4.W)) ltY3.out (.int .i64 f4.H)) ltY3.out (.slice p4.ac f4.nc p4.kc)) ltY3.out (.slice p4.ad f4.nd p4.kd)) ltY3.out (.slice p4.ai f4.ni p4.ki)) ltY3.out (.slice p4.a4 f4.nt p4.kt))
  clear O4
  have s_Fb := Fb.out
  have s_A := A.out
  have s_B := B.out
  have s_K := K.out
  have s_M := M.out
  have s_X := X.out
  have s_Y := Y.out
  replace s_Y := s_Y.set 0 (.int .i64 f4.W)
  replace s_Fb := s_Fb.far (p := ⟨w5.heap.size, 0, none⟩) (by first | exact NE_Fb_Y.out | exact Ne.symm NE_Fb_Y.out | (simp; done) | (simp; omega) | omega) (.int .i64 f4.W)
  replace s_A := s_A.far (p := ⟨w5.heap.size, 0, none⟩) (by first | exact NE_A_Y.out | exact Ne.symm NE_A_Y.out | (simp; done) | (simp; omega) | omega) (.int .i64 f4.W)
  replace s_B := s_B.far (p := ⟨w5.heap.size, 0, none⟩) (by first | exact NE_B_Y.out | exact Ne.symm NE_B_Y.out | (simp; done) | (simp; omega) | omega) (.int .i64 f4.W)
  replace s_K := s_K.far (p := ⟨w5.heap.size, 0, none⟩) (by first | exact NE_K_Y.out | exact Ne.symm NE_K_Y.out | (simp; done) | (simp; omega) | omega) (.int .i64 f4.W)
  replace s_M := s_M.far (p := ⟨w5.heap.size, 0, none⟩) (by first | exact NE_M_Y.out | exact Ne.symm NE_M_Y.out | (simp; done) | (simp; omega) | omega) (.int .i64 f4.W)
  replace s_X := s_X.far (p := ⟨w5.heap.size, 0, none⟩) (by first | exact NE_X_Y.out | exact Ne.symm NE_X_Y.out | (simp; done) | (simp; omega) | omega) (.int .i64 f4.W)
  replace s_Y := s_Y.set 1 (.int .i64 f4.H)
  replace s_Fb := s_Fb.far (p := ⟨w5.heap.size, 1, none⟩) (by first | exact NE_Fb_Y.out | exact Ne.symm NE_Fb_Y.out | (simp; done) | (simp; omega) | omega) (.int .i64 f4.H)
  replace s_A := s_A.far (p := ⟨w5.heap.size, 1, none⟩) (by first | exact NE_A_Y.out | exact Ne.symm NE_A_Y.out | (simp; done) | (simp; omega) | omega) (.int .i64 f4.H)
  replace s_B := s_B.far (p := ⟨w5.heap.size, 1, none⟩) (by first | exact NE_B_Y.out | exact Ne.symm NE_B_Y.out | (simp; done) | (simp; omega) | omega) (.int .i64 f4.H)
  replace s_K := s_K.far (p := ⟨w5.heap.size, 1, none⟩) (by first | exact NE_K_Y.out | exact Ne.symm NE_K_Y.out | (simp; done) | (simp; omega) | omega) (.int .i64 f4.H)
  replace s_M := s_M.far (p := ⟨w5.heap.size, 1, none⟩) (by first | exact NE_M_Y.out | exact Ne.symm NE_M_Y.out | (simp; done) | (simp; omega) | omega) (.int .i64 f4.H)
  replace s_X := s_X.far (p := ⟨w5.heap.size, 1, none⟩) (by first | exact NE_X_Y.out | exact Ne.symm NE_X_Y.out | (simp; done) | (simp; omega) | omega) (.int .i64 f4.H)
  replace s_Y := s_Y.set 2 (.slice p4.ac f4.nc p4.kc)
  replace s_Fb := s_Fb.far (p := ⟨w5.heap.size, 2, none⟩) (by first | exact NE_Fb_Y.out | exact Ne.symm NE_Fb_Y.out | (simp; done) | (simp; omega) | omega) (.slice p4.ac f4.nc p4.kc)
  replace s_A := s_A.far (p := ⟨w5.heap.size, 2, none⟩) (by first | exact NE_A_Y.out | exact Ne.symm NE_A_Y.out | (simp; done) | (simp; omega) | omega) (.slice p4.ac f4.nc p4.kc)
  replace s_B := s_B.far (p := ⟨w5.heap.size, 2, none⟩) (by first | exact NE_B_Y.out | exact Ne.symm NE_B_Y.out | (simp; done) | (simp; omega) | omega) (.slice p4.ac f4.nc p4.kc)
  replace s_K := s_K.far (p := ⟨w5.heap.size, 2, none⟩) (by first | exact NE_K_Y.out | exact Ne.symm NE_K_Y.out | (simp; done) | (simp; omega) | omega) (.slice p4.ac f4.nc p4.kc)
  replace s_M := s_M.far (p := ⟨w5.heap.size, 2, none⟩) (by first | exact NE_M_Y.out | exact Ne.symm NE_M_Y.out | (simp; done) | (simp; omega) | omega) (.slice p4.ac f4.nc p4.kc)
  replace s_X := s_X.far (p := ⟨w5.heap.size, 2, none⟩) (by first | exact NE_X_Y.out | exact Ne.symm NE_X_Y.out | (simp; done) | (simp; omega) | omega) (.slice p4.ac f4.nc p4.kc)
  replace s_Y := s_Y.set 3 (.slice p4.ad f4.nd p4.kd)
  replace s_Fb := s_Fb.far (p := ⟨w5.heap.size, 3, none⟩) (by first | exact NE_Fb_Y.out | exact Ne.symm NE_Fb_Y.out | (simp; done) | (simp; omega) | omega) (.slice p4.ad f4.nd p4.kd)
  replace s_A := s_A.far (p := ⟨w5.heap.size, 3, none⟩) (by first | exact NE_A_Y.out | exact Ne.symm NE_A_Y.out | (simp; done) | (simp; omega) | omega) (.slice p4.ad f4.nd p4.kd)
  replace s_B := s_B.far (p := ⟨w5.heap.size, 3, none⟩) (by first | exact NE_B_Y.out | exact Ne.symm NE_B_Y.out | (simp; done) | (simp; omega) | omega) (.slice p4.ad f4.nd p4.kd)
  replace s_K := s_K.far (p := ⟨w5.heap.size, 3, none⟩) (by first | exact NE_K_Y.out | exact Ne.symm NE_K_Y.out | (simp; done) | (simp; omega) | omega) (.slice p4.ad f4.nd p4.kd)
  replace s_M := s_M.far (p := ⟨w5.heap.size, 3, none⟩) (by first | exact NE_M_Y.out | exact Ne.symm NE_M_Y.out | (simp; done) | (simp; omega) | omega) (.slice p4.ad f4.nd p4.kd)
  replace s_X := s_X.far (p := ⟨w5.heap.size, 3, none⟩) (by first | exact NE_X_Y.out | exact Ne.symm NE_X_Y.out | (simp; done) | (simp; omega) | omega) (.slice p4.ad f4.nd p4.kd)
  replace s_Y := s_Y.set 4 (.slice p4.ai f4.ni p4.ki)
  replace s_Fb := s_Fb.far (p := ⟨w5.heap.size, 4, none⟩) (by first | exact NE_Fb_Y.out | exact Ne.symm NE_Fb_Y.out | (simp; done) | (simp; omega) | omega) (.slice p4.ai f4.ni p4.ki)
  replace s_A := s_A.far (p := ⟨w5.heap.size, 4, none⟩) (by first | exact NE_A_Y.out | exact Ne.symm NE_A_Y.out | (simp; done) | (simp; omega) | omega) (.slice p4.ai f4.ni p4.ki)
  replace s_B := s_B.far (p := ⟨w5.heap.size, 4, none⟩) (by first | exact NE_B_Y.out | exact Ne.symm NE_B_Y.out | (simp; done) | (simp; omega) | omega) (.slice p4.ai f4.ni p4.ki)
  replace s_K := s_K.far (p := ⟨w5.heap.size, 4, none⟩) (by first | exact NE_K_Y.out | exact Ne.symm NE_K_Y.out | (simp; done) | (simp; omega) | omega) (.slice p4.ai f4.ni p4.ki)
  replace s_M := s_M.far (p := ⟨w5.heap.size, 4, none⟩) (by first | exact NE_M_Y.out | exact Ne.symm NE_M_Y.out | (simp; done) | (simp; omega) | omega) (.slice p4.ai f4.ni p4.ki)
  replace s_X := s_X.far (p := ⟨w5.heap.size, 4, none⟩) (by first | exact NE_X_Y.out | exact Ne.symm NE_X_Y.out | (simp; done) | (simp; omega) | omega) (.slice p4.ai f4.ni p4.ki)
  replace s_Y := s_Y.set 5 (.slice p4.a4 f4.nt p4.kt)
  replace s_Fb := s_Fb.far (p := ⟨w5.heap.size, 5, none⟩) (by first | exact NE_Fb_Y.out | exact Ne.symm NE_Fb_Y.out | (simp; done) | (simp; omega) | omega) (.slice p4.a4 f4.nt p4.kt)
  replace s_A := s_A.far (p := ⟨w5.heap.size, 5, none⟩) (by first | exact NE_A_Y.out | exact Ne.symm NE_A_Y.out | (simp; done) | (simp; omega) | omega) (.slice p4.a4 f4.nt p4.kt)
  replace s_B := s_B.far (p := ⟨w5.heap.size, 5, none⟩) (by first | exact NE_B_Y.out | exact Ne.symm NE_B_Y.out | (simp; done) | (simp; omega) | omega) (.slice p4.a4 f4.nt p4.kt)
  replace s_K := s_K.far (p := ⟨w5.heap.size, 5, none⟩) (by first | exact NE_K_Y.out | exact Ne.symm NE_K_Y.out | (simp; done) | (simp; omega) | omega) (.slice p4.a4 f4.nt p4.kt)
  replace s_M := s_M.far (p := ⟨w5.heap.size, 5, none⟩) (by first | exact NE_M_Y.out | exact Ne.symm NE_M_Y.out | (simp; done) | (simp; omega) | omega) (.slice p4.a4 f4.nt p4.kt)
  replace s_X := s_X.far (p := ⟨w5.heap.size, 5, none⟩) (by first | exact NE_X_Y.out | exact Ne.symm NE_X_Y.out | (simp; done) | (simp; omega) | omega) (.slice p4.a4 f4.nt p4.kt)
  have t_Fb : HasBlk ((((((w7.setCell ⟨w5.heap.size, 0, none⟩ (.int .i64 f4.W)).setCell ⟨w5.heap.size, 1, none⟩ (.int .i64 f4.H)).setCell ⟨w5.heap.size, 2, none⟩ (.slice p4.ac f4.nc p4.kc)).setCell ⟨w5.heap.size, 3, none⟩ (.slice p4.ad f4.nd p4.kd)).setCell ⟨w5.heap.size, 4, none⟩ (.slice p4.ai f4.ni p4.ki)).setCell ⟨w5.heap.size, 5, none⟩ (.slice p4.a4 f4.nt p4.kt)) (w.heap.size) 29 #[.int .i64 f.W, .int .i64 f.H, .slice p.ac f.nc p.kc, .slice p.ad f.nd p.kd, .slice p.ai f.ni p.ki, .slice p.a4 f.nt p.kt] := s_Fb
  clear s_Fb Fb
  have t_A : HasBlk ((((((w7.setCell ⟨w5.heap.size, 0, none⟩ (.int .i64 f4.W)).setCell ⟨w5.heap.size, 1, none⟩ (.int .i64 f4.H)).setCell ⟨w5.heap.size, 2, none⟩ (.slice p4.ac f4.nc p4.kc)).setCell ⟨w5.heap.size, 3, none⟩ (.slice p4.ad f4.nd p4.kd)).setCell ⟨w5.heap.size, 4, none⟩ (.slice p4.ai f4.ni p4.ki)).setCell ⟨w5.heap.size, 5, none⟩ (.slice p4.a4 f4.nt p4.kt)) (w.heap.size + 1) 25 #[.int .i64 d1, .int .i64 i1, .int .i64 t1, .int .i64 b1, .int .i64 u1, .int .i64 s1] := s_A
  clear s_A A
  have t_B : HasBlk ((((((w7.setCell ⟨w5.heap.size, 0, none⟩ (.int .i64 f4.W)).setCell ⟨w5.heap.size, 1, none⟩ (.int .i64 f4.H)).setCell ⟨w5.heap.size, 2, none⟩ (.slice p4.ac f4.nc p4.kc)).setCell ⟨w5.heap.size, 3, none⟩ (.slice p4.ad f4.nd p4.kd)).setCell ⟨w5.heap.size, 4, none⟩ (.slice p4.ai f4.ni p4.ki)).setCell ⟨w5.heap.size, 5, none⟩ (.slice p4.a4 f4.nt p4.kt)) (w.heap.size + 1 + 1) 25 #[.int .i64 d2, .int .i64 i2, .int .i64 t2, .int .i64 b2, .int .i64 u2, .int .i64 s2] := s_B
  clear s_B B
  have t_K : HasBlk ((((((w7.setCell ⟨w5.heap.size, 0, none⟩ (.int .i64 f4.W)).setCell ⟨w5.heap.size, 1, none⟩ (.int .i64 f4.H)).setCell ⟨w5.heap.size, 2, none⟩ (.slice p4.ac f4.nc p4.kc)).setCell ⟨w5.heap.size, 3, none⟩ (.slice p4.ad f4.nd p4.kd)).setCell ⟨w5.heap.size, 4, none⟩ (.slice p4.ai f4.ni p4.ki)).setCell ⟨w5.heap.size, 5, none⟩ (.slice p4.a4 f4.nt p4.kt)) (w.heap.size + 1 + 1 + 1) 23 #[.int .u8 (c 0), .int .u8 (c 1), .int .u8 (c 2), .int .u8 (c 3)] := s_K
  clear s_K K
  have t_M : HasBlk ((((((w7.setCell ⟨w5.heap.size, 0, none⟩ (.int .i64 f4.W)).setCell ⟨w5.heap.size, 1, none⟩ (.int .i64 f4.H)).setCell ⟨w5.heap.size, 2, none⟩ (.slice p4.ac f4.nc p4.kc)).setCell ⟨w5.heap.size, 3, none⟩ (.slice p4.ad f4.nd p4.kd)).setCell ⟨w5.heap.size, 4, none⟩ (.slice p4.ai f4.ni p4.ki)).setCell ⟨w5.heap.size, 5, none⟩ (.slice p4.a4 f4.nt p4.kt)) (w.heap.size + 1 + 1 + 1 + 1) 23 #[.int .u8 (c' 0), .int .u8 (c' 1), .int .u8 (c' 2), .int .u8 (c' 3)] := s_M
  clear s_M M
  have t_X : HasBlk ((((((w7.setCell ⟨w5.heap.size, 0, none⟩ (.int .i64 f4.W)).setCell ⟨w5.heap.size, 1, none⟩ (.int .i64 f4.H)).setCell ⟨w5.heap.size, 2, none⟩ (.slice p4.ac f4.nc p4.kc)).setCell ⟨w5.heap.size, 3, none⟩ (.slice p4.ad f4.nd p4.kd)).setCell ⟨w5.heap.size, 4, none⟩ (.slice p4.ai f4.ni p4.ki)).setCell ⟨w5.heap.size, 5, none⟩ (.slice p4.a4 f4.nt p4.kt)) (w4.heap.size) 29 #[.int .i64 f3.W, .int .i64 f3.H, .slice p3.ac f3.nc p3.kc, .slice p3.ad f3.nd p3.kd, .slice p3.ai f3.ni p3.ki, .slice p3.a4 f3.nt p3.kt] := s_X
  clear s_X X
  have t_Y : HasBlk ((((((w7.setCell ⟨w5.heap.size, 0, none⟩ (.int .i64 f4.W)).setCell ⟨w5.heap.size, 1, none⟩ (.int .i64 f4.H)).setCell ⟨w5.heap.size, 2, none⟩ (.slice p4.ac f4.nc p4.kc)).setCell ⟨w5.heap.size, 3, none⟩ (.slice p4.ad f4.nd p4.kd)).setCell ⟨w5.heap.size, 4, none⟩ (.slice p4.ai f4.ni p4.ki)).setCell ⟨w5.heap.size, 5, none⟩ (.slice p4.a4 f4.nt p4.kt)) (w5.heap.size) 29 #[.int .i64 f4.W, .int .i64 f4.H, .slice p4.ac f4.nc p4.kc, .slice p4.ad f4.nd p4.kd, .slice p4.ai f4.ni p4.ki, .slice p4.a4 f4.nt p4.kt] := by simp only [List.setIfInBounds_toArray, List.set_cons_zero, List.set_cons_succ] at s_Y; exact s_Y
  clear s_Y Y
  have LE_Y : w.heap.size ≤ w5.heap.size := by omega
  have SB12 : Below w.heap.size w ((((((w7.setCell ⟨w5.heap.size, 0, none⟩ (.int .i64 f4.W)).setCell ⟨w5.heap.size, 1, none⟩ (.int .i64 f4.H)).setCell ⟨w5.heap.size, 2, none⟩ (.slice p4.ac f4.nc p4.kc)).setCell ⟨w5.heap.size, 3, none⟩ (.slice p4.ad f4.nd p4.kd)).setCell ⟨w5.heap.size, 4, none⟩ (.slice p4.ai f4.ni p4.ki)).setCell ⟨w5.heap.size, 5, none⟩ (.slice p4.a4 f4.nt p4.kt)) := (Below.setCell (p := ⟨w5.heap.size, 5, none⟩) (Below.setCell (p := ⟨w5.heap.size, 4, none⟩) (Below.setCell (p := ⟨w5.heap.size, 3, none⟩) (Below.setCell (p := ⟨w5.heap.size, 2, none⟩) (Below.setCell (p := ⟨w5.heap.size, 1, none⟩) (Below.setCell (p := ⟨w5.heap.size, 0, none⟩) SB11h.out LE_Y _) LE_Y _) LE_Y _) LE_Y _) LE_Y _) LE_Y _)
  clear lt_Fb Fb_0 Fb_1 Fb_2 Fb_3 Fb_4 Fb_5 lt_A A_0 A_1 A_2 A_3 A_4 A_5 lt_B B_0 B_1 B_2 B_3 B_4 B_5 lt_K K_0 K_1 K_2 K_3 lt_M M_0 M_1 M_2 M_3 lt_X X_0 X_1 X_2 X_3 X_4 X_5 X_f0 X_f1 X_f2 X_f3 X_f4 X_f5 lt_Y Y_0 Y_1 Y_2 Y_3 Y_4 Y_5 Y_f0 Y_f1 Y_f2 Y_f3 Y_f4 Y_f5
  generalize gW_v4 : ((((((w7.setCell ⟨w5.heap.size, 0, none⟩ (.int .i64 f4.W)).setCell ⟨w5.heap.size, 1, none⟩ (.int .i64 f4.H)).setCell ⟨w5.heap.size, 2, none⟩ (.slice p4.ac f4.nc p4.kc)).setCell ⟨w5.heap.size, 3, none⟩ (.slice p4.ad f4.nd p4.kd)).setCell ⟨w5.heap.size, 4, none⟩ (.slice p4.ai f4.ni p4.ki)).setCell ⟨w5.heap.size, 5, none⟩ (.slice p4.a4 f4.nt p4.kt)) = v4 at *
  clear gW_v4
  have Fb := Lib.hid t_Fb
  clear t_Fb
  have A := Lib.hid t_A
  clear t_A
  have B := Lib.hid t_B
  clear t_B
  have K := Lib.hid t_K
  clear t_K
  have M := Lib.hid t_M
  clear t_M
  have X := Lib.hid t_X
  clear t_X
  have Y := Lib.hid t_Y
  clear t_Y
  clear SB11h
  have SB12h := Lib.hid SB12
  clear SB12
  have O3 := Lib.hid O3a
  clear O3a
  have O4 := Lib.hid O4a
  clear O4a
  have lt_Fb := Fb.out.lt
  have Fb_0 := Fb.out.cell 0
  have Fb_1 := Fb.out.cell 1
  have Fb_2 := Fb.out.cell 2
  have Fb_3 := Fb.out.cell 3
  have Fb_4 := Fb.out.cell 4
  have Fb_5 := Fb.out.cell 5
  simp at Fb_0 Fb_1 Fb_2 Fb_3 Fb_4 Fb_5
  have lt_A := A.out.lt
  have A_0 := A.out.cell 0
  have A_1 := A.out.cell 1
  have A_2 := A.out.cell 2
  have A_3 := A.out.cell 3
  have A_4 := A.out.cell 4
  have A_5 := A.out.cell 5
  simp at A_0 A_1 A_2 A_3 A_4 A_5
  have lt_B := B.out.lt
  have B_0 := B.out.cell 0
  have B_1 := B.out.cell 1
  have B_2 := B.out.cell 2
  have B_3 := B.out.cell 3
  have B_4 := B.out.cell 4
  have B_5 := B.out.cell 5
  simp at B_0 B_1 B_2 B_3 B_4 B_5
  have lt_K := K.out.lt
  have K_0 := K.out.cell 0
  have K_1 := K.out.cell 1
  have K_2 := K.out.cell 2
  have K_3 := K.out.cell 3
  simp at K_0 K_1 K_2 K_3
  have lt_M := M.out.lt
  have M_0 := M.out.cell 0
  have M_1 := M.out.cell 1
  have M_2 := M.out.cell 2
  have M_3 := M.out.cell 3
  simp at M_0 M_1 M_2 M_3
  have lt_X := X.out.lt
  have X_0 := X.out.cell 0
  have X_1 := X.out.cell 1
  have X_2 := X.out.cell 2
  have X_3 := X.out.cell 3
  have X_4 := X.out.cell 4
  have X_5 := X.out.cell 5
  have X_f0 := X.out.frozen 0
  have X_f1 := X.out.frozen 1
  have X_f2 := X.out.frozen 2
  have X_f3 := X.out.frozen 3
  have X_f4 := X.out.frozen 4
  have X_f5 := X.out.frozen 5
  simp at X_0 X_1 X_2 X_3 X_4 X_5
  have lt_Y := Y.out.lt
  have Y_0 := Y.out.cell 0
  have Y_1 := Y.out.cell 1
  have Y_2 := Y.out.cell 2
  have Y_3 := Y.out.cell 3
  have Y_4 := Y.out.cell 4
  have Y_5 := Y.out.cell 5
  have Y_f0 := Y.out.frozen 0
  have Y_f1 := Y.out.frozen 1
  have Y_f2 := Y.out.frozen 2
  have Y_f3 := Y.out.frozen 3
  have Y_f4 := Y.out.frozen 4
  have Y_f5 := Y.out.frozen 5
  simp at Y_0 Y_1 Y_2 Y_3 Y_4 Y_5
  have szB_v4 := SB12h.out.size
  refine (same_any p3 p4 f3 f4 _ O3.out.ok O4.out.ok (by rw [Hn.out.1, Hn.out.2.1, Hn.out.2.2.1, Hn.out.2.2.2]; exact hbd)).mono ?_
  rintro e w8 ⟨hr, bel8⟩
  obtain rfl := hr.tt (by rw [He.out]; exact FD.Same.refl _)
  have HZ := SB12h.out
  clear lt_Fb Fb_0 Fb_1 Fb_2 Fb_3 Fb_4 Fb_5 lt_A A_0 A_1 A_2 A_3 A_4 A_5 lt_B B_0 B_1 B_2 B_3 B_4 B_5 lt_K K_0 K_1 K_2 K_3 lt_M M_0 M_1 M_2 M_3 lt_X X_0 X_1 X_2 X_3 X_4 X_5 X_f0 X_f1 X_f2 X_f3 X_f4 X_f5 lt_Y Y_0 Y_1 Y_2 Y_3 Y_4 Y_5 Y_f0 Y_f1 Y_f2 Y_f3 Y_f4 Y_f5
  go_wp2
  go_ret
  exact ⟨rfl, HZ.trans (bel8.mono HZ.size)⟩

theorem frameOrder_arg (v0 v1 v2 v3 v4 v5 v6 v7 v8 : Value) (w : World) (h0 : Arg Try.prog w 29 v0) (h1 : Arg Try.prog w 3 v1) (h2 : Arg Try.prog w 3 v2) (h3 : Arg Try.prog w 3 v3) (h4 : Arg Try.prog w 3 v4) (h5 : Arg Try.prog w 25 v5) (h6 : Arg Try.prog w 25 v6) (h7 : Arg Try.prog w 23 v7) (h8 : Arg Try.prog w 23 v8) :
    Calls Try.prog 7 #[v0, v1, v2, v3, v4, v5, v6, v7, v8] w fun e w' => e = .returned (.bool true) ∧ Below w.heap.size w w' := by
  obtain ⟨p, f, rfl, hok, hbd⟩ := arg_frame h0
  obtain ⟨x, rfl⟩ := arg_int h1
  obtain ⟨y, rfl⟩ := arg_int h2
  obtain ⟨z, rfl⟩ := arg_int h3
  obtain ⟨r, rfl⟩ := arg_int h4
  obtain ⟨d1, i1, t1, p1, u1, x1, rfl⟩ := arg_fg h5
  obtain ⟨d2, i2, t2, p2, u2, x2, rfl⟩ := arg_fg h6
  obtain ⟨c, rfl⟩ := arg_col h7
  obtain ⟨c', rfl⟩ := arg_col h8
  exact frameOrder_walk p f x y z r _ _ _ _ _ _ _ _ _ _ _ _ c c' w hok hbd.1
end Go.Proofs.Ytibeoeooajelgaa
