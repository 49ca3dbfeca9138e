/- FramePuts: the walk. -/
import Derived.Test.YtibeoeooajelgaaF36
import Derived.Test.YtibeoeooajelgaaF37
import Derived.Test.YtibeoeooajelgaaF16
namespace Go.Proofs.Ytibeoeooajelgaa
open Go.RowKit
set_option linter.unusedVariables false
theorem PutV.fn {f g g' : FD} {x y d i t z z' : Int} {c : Nat → Int} (h : PutV f x y d i t c g z) (h' : PutV f x y d i t c g' z') : g' = g ∧ z' = z := by
  rcases h with ⟨a, rfl, rfl⟩ | ⟨m, a, rfl, rfl⟩ | ⟨m, a, s, rfl, k, hk, _, rfl⟩ <;> rcases h' with ⟨a', rfl, rfl⟩ | ⟨m', a', rfl, rfl⟩ | ⟨m', a', s', rfl, k', hk', _, rfl⟩
  · exact ⟨rfl, rfl⟩
  · exact absurd m' a
  · exact absurd m' a
  · exact absurd m a'
  · exact ⟨rfl, rfl⟩
  · exact absurd ⟨a', s'⟩ a
  · exact absurd m a'
  · exact absurd ⟨a, s⟩ a'
  · obtain rfl : k' = k := by omega
    exact ⟨rfl, rfl⟩
theorem LayV.fn {f g g' : FD} {x y d z z' : Int} {c : Nat → Int} (h : LayV f x y d c g z) (h' : LayV f x y d c g' z') : g' = g ∧ z' = z := by
  rcases h with ⟨a, rfl, rfl⟩ | ⟨m, a, rfl, rfl⟩ | ⟨m, a, s, rfl, k, hk, _, rfl⟩ <;> rcases h' with ⟨a', rfl, rfl⟩ | ⟨m', a', rfl, rfl⟩ | ⟨m', a', s', rfl, k', hk', _, rfl⟩
  · exact ⟨rfl, rfl⟩
  · exact absurd m' a
  · exact absurd m' a
  · exact absurd m a'
  · exact ⟨rfl, rfl⟩
  · exact absurd ⟨a', s'⟩ a
  · exact absurd m a'
  · exact absurd ⟨a, s⟩ a'
  · obtain rfl : k' = k := by omega
    exact ⟨rfl, rfl⟩
def FD.Even (f : FD) : Prop := f.nc ≤ 5000 ∧ f.nd = f.nc ∧ f.ni = f.nc ∧ f.nt = f.nc
theorem FD.Even.bd {f : FD} (h : f.Even) : (f.nc : Int) ≤ 9223372036854775807 ∧ (f.nd : Int) ≤ 9223372036854775807 ∧ (f.ni : Int) ≤ 9223372036854775807 ∧ (f.nt : Int) ≤ 9223372036854775807 := by
  unfold FD.Even at h; omega
theorem PutV.even {f g : FD} {x y d i t z : Int} {c : Nat → Int} (hf : f.Fits) (h : PutV f x y d i t c g z) : g.Even := by
  rcases h with ⟨a, rfl, rfl⟩ | ⟨m, a, rfl, rfl⟩ | ⟨m, a, s, rfl, k, hk, _, rfl⟩
  · exact ⟨Nat.zero_le _, rfl, rfl, rfl⟩
  · exact ⟨Nat.zero_le _, rfl, rfl, rfl⟩
  · have w := FD.put_W f k d i t c
    have e := m.2.1
    unfold FD.Fits at hf
    unfold FD.Even
    omega
theorem LayV.even {f g : FD} {x y d z : Int} {c : Nat → Int} (hf : f.Fits) (h : LayV f x y d c g z) : g.Even := by
  rcases h with ⟨a, rfl, rfl⟩ | ⟨m, a, rfl, rfl⟩ | ⟨m, a, s, rfl, k, hk, _, rfl⟩
  · exact ⟨Nat.zero_le _, rfl, rfl, rfl⟩
  · exact ⟨Nat.zero_le _, rfl, rfl, rfl⟩
  · have w := lay_W f k d c
    have e := m.2.1
    unfold FD.Fits at hf
    unfold FD.Even
    omega
theorem eqr_fix {p : Prop} {b : Bool} {P : Program} {f : Nat} {a : Array Value} {w : World} {Q : World → Prop} (h : Calls P f a w fun e w' => EqR p e ∧ Q w') (hb : b = true ↔ p) : Calls P f a w fun e w' => e = .returned (.bool b) ∧ Q w' :=
  h.mono fun e w' ⟨⟨b', he, hb'⟩, hq⟩ => ⟨by
    rw [he]
    have : b' = b := by
      cases b <;> cases b' <;> simp_all
    rw [this], hq⟩
theorem check_fix {x : Int} {P : Program} {f : Nat} {a : Array Value} {w : World} {p : Prop} {Q : World → Prop} (h : Calls P f a w fun e w' => (∃ x, e = .returned (.int .i64 x) ∧ ((p ∧ x = 0) ∨ (¬ p ∧ x = 8))) ∧ Q w') (hx : (p ∧ x = 0) ∨ (¬ p ∧ x = 8)) : Calls P f a w fun e w' => e = .returned (.int .i64 x) ∧ Q w' :=
  h.mono fun e w' ⟨⟨x', he, hx'⟩, hq⟩ => ⟨by
    rw [he]
    have : x' = x := by
      rcases hx with ⟨a, b⟩ | ⟨a, b⟩ <;> rcases hx' with ⟨a', b'⟩ | ⟨a', b'⟩
      · omega
      · exact absurd a a'
      · exact absurd a' a
      · omega
    rw [this], hq⟩

set_option maxRecDepth 100000 in
set_option maxHeartbeats 16000000 in
theorem framePuts_walk (p : FP) (f : FD) (x y d i t p9 u9 v9 e9 : Int) (c : Nat → Int) (w : World) (h : FOk w p f) (hc : Byte (c 3)) (hu : ∀ j, Byte (f.C j 3)) (hbd : (f.nc : Int) ≤ 9223372036854775807 ∧ (f.nd : Int) ≤ 9223372036854775807 ∧ (f.ni : Int) ≤ 9223372036854775807 ∧ (f.nt : Int) ≤ 9223372036854775807) :
    Calls Try.prog 4 #[.agg #[.int .i64 f.W, .int .i64 f.H, .slice p.ac f.nc p.kc, .slice p.ad f.nd p.kd, .slice p.ai f.ni p.ki, .slice p.a4 f.nt p.kt], .int .i64 x, .int .i64 y, .agg #[.int .i64 d, .int .i64 i, .int .i64 t, .int .i64 p9, .int .i64 u9, .int .i64 v9], .int .i64 e9, .agg #[.int .u8 (c 0), .int .u8 (c 1), .int .u8 (c 2), .int .u8 (c 3)]] w fun e w' => e = .returned (.bool true) ∧ Below w.heap.size w w' := by
  have HF := Lib.hid h
  clear h
  go_enter Try.func4, Try.ntmps4
  go_wp2_with fail
  have NE_Fb_G := Lib.hid (show w.heap.size ≠ w.heap.size + 1 by omega)
  have NE_Fb_K := Lib.hid (show w.heap.size ≠ w.heap.size + 1 + 1 by omega)
  have NE_G_K := Lib.hid (show w.heap.size + 1 ≠ w.heap.size + 1 + 1 by omega)
  have s_Fb : HasBlk (w.alloc (.cells #[.int .i64 f.W, .int .i64 f.H, .slice p.ac f.nc p.kc, .slice p.ad f.nd p.kd, .slice p.ai f.ni p.ki, .slice p.a4 f.nt p.kt] 29)) (w.heap.size) 29 #[.int .i64 f.W, .int .i64 f.H, .slice p.ac f.nc p.kc, .slice p.ad f.nd p.kd, .slice p.ai f.ni p.ki, .slice p.a4 f.nt p.kt] := by simpa using hasBlk_new w 29 #[.int .i64 f.W, .int .i64 f.H, .slice p.ac f.nc p.kc, .slice p.ad f.nd p.kd, .slice p.ai f.ni p.ki, .slice p.a4 f.nt p.kt]
  replace s_Fb := s_Fb.alloc (.cells #[.int .i64 d, .int .i64 i, .int .i64 t, .int .i64 p9, .int .i64 u9, .int .i64 v9] 25)
  have s_G : HasBlk ((w.alloc (.cells #[.int .i64 f.W, .int .i64 f.H, .slice p.ac f.nc p.kc, .slice p.ad f.nd p.kd, .slice p.ai f.ni p.ki, .slice p.a4 f.nt p.kt] 29)).alloc (.cells #[.int .i64 d, .int .i64 i, .int .i64 t, .int .i64 p9, .int .i64 u9, .int .i64 v9] 25)) (w.heap.size + 1) 25 #[.int .i64 d, .int .i64 i, .int .i64 t, .int .i64 p9, .int .i64 u9, .int .i64 v9] := by simpa using hasBlk_new (w.alloc (.cells #[.int .i64 f.W, .int .i64 f.H, .slice p.ac f.nc p.kc, .slice p.ad f.nd p.kd, .slice p.ai f.ni p.ki, .slice p.a4 f.nt p.kt] 29)) 25 #[.int .i64 d, .int .i64 i, .int .i64 t, .int .i64 p9, .int .i64 u9, .int .i64 v9]
  replace s_Fb := s_Fb.alloc (.cells #[.int .u8 (c 0), .int .u8 (c 1), .int .u8 (c 2), .int .u8 (c 3)] 23)
  replace s_G := s_G.alloc (.cells #[.int .u8 (c 0), .int .u8 (c 1), .int .u8 (c 2), .int .u8 (c 3)] 23)
  have s_K : HasBlk (((w.alloc (.cells #[.int .i64 f.W, .int .i64 f.H, .slice p.ac f.nc p.kc, .slice p.ad f.nd p.kd, .slice p.ai f.ni p.ki, .slice p.a4 f.nt p.kt] 29)).alloc (.cells #[.int .i64 d, .int .i64 i, .int .i64 t, .int .i64 p9, .int .i64 u9, .int .i64 v9] 25)).alloc (.cells #[.int .u8 (c 0), .int .u8 (c 1), .int .u8 (c 2), .int .u8 (c 3)] 23)) (w.heap.size + 1 + 1) 23 #[.int .u8 (c 0), .int .u8 (c 1), .int .u8 (c 2), .int .u8 (c 3)] := by simpa using hasBlk_new ((w.alloc (.cells #[.int .i64 f.W, .int .i64 f.H, .slice p.ac f.nc p.kc, .slice p.ad f.nd p.kd, .slice p.ai f.ni p.ki, .slice p.a4 f.nt p.kt] 29)).alloc (.cells #[.int .i64 d, .int .i64 i, .int .i64 t, .int .i64 p9, .int .i64 u9, .int .i64 v9] 25)) 23 #[.int .u8 (c 0), .int .u8 (c 1), .int .u8 (c 2), .int .u8 (c 3)]
  have t_Fb : HasBlk (((w.alloc (.cells #[.int .i64 f.W, .int .i64 f.H, .slice p.ac f.nc p.kc, .slice p.ad f.nd p.kd, .slice p.ai f.ni p.ki, .slice p.a4 f.nt p.kt] 29)).alloc (.cells #[.int .i64 d, .int .i64 i, .int .i64 t, .int .i64 p9, .int .i64 u9, .int .i64 v9] 25)).alloc (.cells #[.int .u8 (c 0), .int .u8 (c 1), .int .u8 (c 2), .int .u8 (c 3)] 23)) (w.heap.size) 29 #[.int .i64 f.W, .int .i64 f.H, .slice p.ac f.nc p.kc, .slice p.ad f.nd p.kd, .slice p.ai f.ni p.ki, .slice p.a4 f.nt p.kt] := by simpa using s_Fb
  clear s_Fb
  have t_G : HasBlk (((w.alloc (.cells #[.int .i64 f.W, .int .i64 f.H, .slice p.ac f.nc p.kc, .slice p.ad f.nd p.kd, .slice p.ai f.ni p.ki, .slice p.a4 f.nt p.kt] 29)).alloc (.cells #[.int .i64 d, .int .i64 i, .int .i64 t, .int .i64 p9, .int .i64 u9, .int .i64 v9] 25)).alloc (.cells #[.int .u8 (c 0), .int .u8 (c 1), .int .u8 (c 2), .int .u8 (c 3)] 23)) (w.heap.size + 1) 25 #[.int .i64 d, .int .i64 i, .int .i64 t, .int .i64 p9, .int .i64 u9, .int .i64 v9] := by simpa using s_G
  clear s_G
  have t_K : HasBlk (((w.alloc (.cells #[.int .i64 f.W, .int .i64 f.H, .slice p.ac f.nc p.kc, .slice p.ad f.nd p.kd, .slice p.ai f.ni p.ki, .slice p.a4 f.nt p.kt] 29)).alloc (.cells #[.int .i64 d, .int .i64 i, .int .i64 t, .int .i64 p9, .int .i64 u9, .int .i64 v9] 25)).alloc (.cells #[.int .u8 (c 0), .int .u8 (c 1), .int .u8 (c 2), .int .u8 (c 3)] 23)) (w.heap.size + 1 + 1) 23 #[.int .u8 (c 0), .int .u8 (c 1), .int .u8 (c 2), .int .u8 (c 3)] := by simpa using s_K
  clear s_K
  have SB1 : Below w.heap.size w (((w.alloc (.cells #[.int .i64 f.W, .int .i64 f.H, .slice p.ac f.nc p.kc, .slice p.ad f.nd p.kd, .slice p.ai f.ni p.ki, .slice p.a4 f.nt p.kt] 29)).alloc (.cells #[.int .i64 d, .int .i64 i, .int .i64 t, .int .i64 p9, .int .i64 u9, .int .i64 v9] 25)).alloc (.cells #[.int .u8 (c 0), .int .u8 (c 1), .int .u8 (c 2), .int .u8 (c 3)] 23)) := by
    repeat' (first | exact Below.refl _ _ | assumption | apply Below.drew | refine Below.setCell ?_ (by first | omega | (simp; done) | (simp; omega)) _ | refine Below.alloc ?_ (by first | omega | (simp; done) | (simp; omega)) _)
  generalize gW_v0 : (((w.alloc (.cells #[.int .i64 f.W, .int .i64 f.H, .slice p.ac f.nc p.kc, .slice p.ad f.nd p.kd, .slice p.ai f.ni p.ki, .slice p.a4 f.nt p.kt] 29)).alloc (.cells #[.int .i64 d, .int .i64 i, .int .i64 t, .int .i64 p9, .int .i64 u9, .int .i64 v9] 25)).alloc (.cells #[.int .u8 (c 0), .int .u8 (c 1), .int .u8 (c 2), .int .u8 (c 3)] 23)) = v0 at *
  clear gW_v0
  have Fb := Lib.hid t_Fb
  clear t_Fb
  have G := Lib.hid t_G
  clear t_G
  have K := Lib.hid t_K
  clear t_K
  have SB1h := Lib.hid SB1
  clear SB1
  refine (great_any p f _).mono ?_
  rintro e w1 ⟨⟨bg, rfl, hg⟩, bel1⟩
  have Hg := Lib.hid hg
  clear hg
  have t_Fb := Fb.out.below bel1
  clear Fb
  have Fb := Lib.hid t_Fb
  clear t_Fb
  have t_G := G.out.below bel1
  clear G
  have G := Lib.hid t_G
  clear t_G
  have t_K := K.out.below bel1
  clear K
  have K := Lib.hid t_K
  clear t_K
  have SB2 : Below w.heap.size w w1 := SB1h.out.trans (bel1.mono SB1h.out.size)
  clear SB1h
  have SB2h := Lib.hid SB2
  clear SB2 bel1
  have lt_Fb := Fb.out.lt
  have Fb_0 := Fb.out.cell 0
  have Fb_1 := Fb.out.cell 1
  have Fb_2 := Fb.out.cell 2
  have Fb_3 := Fb.out.cell 3
  have Fb_4 := Fb.out.cell 4
  have Fb_5 := Fb.out.cell 5
  simp at Fb_0 Fb_1 Fb_2 Fb_3 Fb_4 Fb_5
  have lt_G := G.out.lt
  have G_0 := G.out.cell 0
  have G_1 := G.out.cell 1
  have G_2 := G.out.cell 2
  have G_3 := G.out.cell 3
  have G_4 := G.out.cell 4
  have G_5 := G.out.cell 5
  simp at G_0 G_1 G_2 G_3 G_4 G_5
  have lt_K := K.out.lt
  have K_0 := K.out.cell 0
  have K_1 := K.out.cell 1
  have K_2 := K.out.cell 2
  have K_3 := K.out.cell 3
  simp at K_0 K_1 K_2 K_3
  have szB_w1 := SB2h.out.size
  by_cases hx : bg = true
  · subst hx
    go_wp2
    go_ret
    exact ⟨rfl, SB2h.out⟩
  have hx' : bg = false := by simpa using hx
  subst hx'
  clear hx
  have Hft := Lib.hid (show f.Fits from by
    have h := Hg.out
    unfold FD.Great at h
    unfold FD.Fits
    simp at h
    omega)
  clear Hg
  go_wp2_with fail
  refine (reftwin_any p f _ (HF.out.below SB2h.out) Hft.out).mono ?_
  rintro e w2 ⟨⟨q, rfl, ho⟩, bel2⟩
  clear lt_Fb Fb_0 Fb_1 Fb_2 Fb_3 Fb_4 Fb_5 lt_G G_0 G_1 G_2 G_3 G_4 G_5 lt_K K_0 K_1 K_2 K_3
  have OQ := Lib.hid ho.ok
  clear ho
  have t_Fb := Fb.out.below bel2
  clear Fb
  have Fb := Lib.hid t_Fb
  clear t_Fb
  have t_G := G.out.below bel2
  clear G
  have G := Lib.hid t_G
  clear t_G
  have t_K := K.out.below bel2
  clear K
  have K := Lib.hid t_K
  clear t_K
  have SB3 : Below w.heap.size w w2 := SB2h.out.trans (bel2.mono SB2h.out.size)
  clear SB2h
  have SB3h := Lib.hid SB3
  clear SB3 bel2
  have lt_Fb := Fb.out.lt
  have Fb_0 := Fb.out.cell 0
  have Fb_1 := Fb.out.cell 1
  have Fb_2 := Fb.out.cell 2
  have Fb_3 := Fb.out.cell 3
  have Fb_4 := Fb.out.cell 4
  have Fb_5 := Fb.out.cell 5
  simp at Fb_0 Fb_1 Fb_2 Fb_3 Fb_4 Fb_5
  have lt_G := G.out.lt
  have G_0 := G.out.cell 0
  have G_1 := G.out.cell 1
  have G_2 := G.out.cell 2
  have G_3 := G.out.cell 3
  have G_4 := G.out.cell 4
  have G_5 := G.out.cell 5
  simp at G_0 G_1 G_2 G_3 G_4 G_5
  have lt_K := K.out.lt
  have K_0 := K.out.cell 0
  have K_1 := K.out.cell 1
  have K_2 := K.out.cell 2
  have K_3 := K.out.cell 3
  simp at K_0 K_1 K_2 K_3
  have szB_w2 := SB3h.out.size
  go_wp2_with fail
  have OQa := (OQ.out.below ((Below.refl w2.heap.size w2).alloc (Nat.le_refl _) (.cells #[.int .i64 f.W, .int .i64 f.H, .slice q.ac f.nc q.kc, .slice q.ad f.nd q.kd, .slice q.ai f.ni q.ki, .slice q.a4 f.nt q.kt] 29)))
  clear OQ
  have NE_Fb_O := Lib.hid (show w.heap.size ≠ w2.heap.size by omega)
  have NE_G_O := Lib.hid (show w.heap.size + 1 ≠ w2.heap.size by omega)
  have NE_K_O := Lib.hid (show w.heap.size + 1 + 1 ≠ w2.heap.size by omega)
  have s_Fb := Fb.out
  have s_G := G.out
  have s_K := K.out
  replace s_Fb := s_Fb.alloc (.cells #[.int .i64 f.W, .int .i64 f.H, .slice q.ac f.nc q.kc, .slice q.ad f.nd q.kd, .slice q.ai f.ni q.ki, .slice q.a4 f.nt q.kt] 29)
  replace s_G := s_G.alloc (.cells #[.int .i64 f.W, .int .i64 f.H, .slice q.ac f.nc q.kc, .slice q.ad f.nd q.kd, .slice q.ai f.ni q.ki, .slice q.a4 f.nt q.kt] 29)
  replace s_K := s_K.alloc (.cells #[.int .i64 f.W, .int .i64 f.H, .slice q.ac f.nc q.kc, .slice q.ad f.nd q.kd, .slice q.ai f.ni q.ki, .slice q.a4 f.nt q.kt] 29)
  have s_O : HasBlk (w2.alloc (.cells #[.int .i64 f.W, .int .i64 f.H, .slice q.ac f.nc q.kc, .slice q.ad f.nd q.kd, .slice q.ai f.ni q.ki, .slice q.a4 f.nt q.kt] 29)) (w2.heap.size) 29 #[.int .i64 f.W, .int .i64 f.H, .slice q.ac f.nc q.kc, .slice q.ad f.nd q.kd, .slice q.ai f.ni q.ki, .slice q.a4 f.nt q.kt] := by simpa using hasBlk_new w2 29 #[.int .i64 f.W, .int .i64 f.H, .slice q.ac f.nc q.kc, .slice q.ad f.nd q.kd, .slice q.ai f.ni q.ki, .slice q.a4 f.nt q.kt]
  have t_Fb : HasBlk (w2.alloc (.cells #[.int .i64 f.W, .int .i64 f.H, .slice q.ac f.nc q.kc, .slice q.ad f.nd q.kd, .slice q.ai f.ni q.ki, .slice q.a4 f.nt q.kt] 29)) (w.heap.size) 29 #[.int .i64 f.W, .int .i64 f.H, .slice p.ac f.nc p.kc, .slice p.ad f.nd p.kd, .slice p.ai f.ni p.ki, .slice p.a4 f.nt p.kt] := by simpa using s_Fb
  clear s_Fb Fb
  have t_G : HasBlk (w2.alloc (.cells #[.int .i64 f.W, .int .i64 f.H, .slice q.ac f.nc q.kc, .slice q.ad f.nd q.kd, .slice q.ai f.ni q.ki, .slice q.a4 f.nt q.kt] 29)) (w.heap.size + 1) 25 #[.int .i64 d, .int .i64 i, .int .i64 t, .int .i64 p9, .int .i64 u9, .int .i64 v9] := by simpa using s_G
  clear s_G G
  have t_K : HasBlk (w2.alloc (.cells #[.int .i64 f.W, .int .i64 f.H, .slice q.ac f.nc q.kc, .slice q.ad f.nd q.kd, .slice q.ai f.ni q.ki, .slice q.a4 f.nt q.kt] 29)) (w.heap.size + 1 + 1) 23 #[.int .u8 (c 0), .int .u8 (c 1), .int .u8 (c 2), .int .u8 (c 3)] := by simpa using s_K
  clear s_K K
  have t_O : HasBlk (w2.alloc (.cells #[.int .i64 f.W, .int .i64 f.H, .slice q.ac f.nc q.kc, .slice q.ad f.nd q.kd, .slice q.ai f.ni q.ki, .slice q.a4 f.nt q.kt] 29)) (w2.heap.size) 29 #[.int .i64 f.W, .int .i64 f.H, .slice q.ac f.nc q.kc, .slice q.ad f.nd q.kd, .slice q.ai f.ni q.ki, .slice q.a4 f.nt q.kt] := by simpa using s_O
  clear s_O
  have SB4 : Below w.heap.size w (w2.alloc (.cells #[.int .i64 f.W, .int .i64 f.H, .slice q.ac f.nc q.kc, .slice q.ad f.nd q.kd, .slice q.ai f.ni q.ki, .slice q.a4 f.nt q.kt] 29)) := by
    have bel0 := SB3h.out
    repeat' (first | exact Below.refl _ _ | assumption | apply Below.drew | refine Below.setCell ?_ (by first | omega | (simp; done) | (simp; omega)) _ | refine Below.alloc ?_ (by first | omega | (simp; done) | (simp; omega)) _)
  clear lt_Fb Fb_0 Fb_1 Fb_2 Fb_3 Fb_4 Fb_5 lt_G G_0 G_1 G_2 G_3 G_4 G_5 lt_K K_0 K_1 K_2 K_3
  generalize gW_v1 : (w2.alloc (.cells #[.int .i64 f.W, .int .i64 f.H, .slice q.ac f.nc q.kc, .slice q.ad f.nd q.kd, .slice q.ai f.ni q.ki, .slice q.a4 f.nt q.kt] 29)) = v1 at *
  clear gW_v1
  have Fb := Lib.hid t_Fb
  clear t_Fb
  have G := Lib.hid t_G
  clear t_G
  have K := Lib.hid t_K
  clear t_K
  have O := Lib.hid t_O
  clear t_O
  clear SB3h
  have SB4h := Lib.hid SB4
  clear SB4
  have OQ := Lib.hid OQa
  clear OQa
  have lt_Fb := Fb.out.lt
  have Fb_0 := Fb.out.cell 0
  have Fb_1 := Fb.out.cell 1
  have Fb_2 := Fb.out.cell 2
  have Fb_3 := Fb.out.cell 3
  have Fb_4 := Fb.out.cell 4
  have Fb_5 := Fb.out.cell 5
  simp at Fb_0 Fb_1 Fb_2 Fb_3 Fb_4 Fb_5
  have lt_G := G.out.lt
  have G_0 := G.out.cell 0
  have G_1 := G.out.cell 1
  have G_2 := G.out.cell 2
  have G_3 := G.out.cell 3
  have G_4 := G.out.cell 4
  have G_5 := G.out.cell 5
  simp at G_0 G_1 G_2 G_3 G_4 G_5
  have lt_K := K.out.lt
  have K_0 := K.out.cell 0
  have K_1 := K.out.cell 1
  have K_2 := K.out.cell 2
  have K_3 := K.out.cell 3
  simp at K_0 K_1 K_2 K_3
  have lt_O := O.out.lt
  have O_0 := O.out.cell 0
  have O_1 := O.out.cell 1
  have O_2 := O.out.cell 2
  have O_3 := O.out.cell 3
  have O_4 := O.out.cell 4
  have O_5 := O.out.cell 5
  simp at O_0 O_1 O_2 O_3 O_4 O_5
  have szB_v1 := SB4h.out.size
  have KF0 := Lib.hid (HF.out.below SB4h.out)
  have KQ0 := Lib.hid OQ.out
  have HB0 := Lib.hid SB4h.out
  clear HF OQ SB4h
  have SB0h := Lib.hid (Below.refl v1.heap.size v1)
  refine (put_any q f x y d i t p9 u9 v9 c _ (KQ0.out.below SB0h.out)).mono ?_
  rintro e w3 ⟨⟨pa, fa, xa, rfl, ho, hv⟩, bel3⟩
  clear lt_Fb Fb_0 Fb_1 Fb_2 Fb_3 Fb_4 Fb_5 lt_G G_0 G_1 G_2 G_3 G_4 G_5 lt_K K_0 K_1 K_2 K_3 lt_O O_0 O_1 O_2 O_3 O_4 O_5
  have sz_w3 := bel3.size
  have OA0 := Lib.hid ho
  have OA := Lib.hid ho
  have VA := Lib.hid hv
  clear ho hv
  have t_Fb := Fb.out.below bel3
  clear Fb
  have Fb := Lib.hid t_Fb
  clear t_Fb
  have t_G := G.out.below bel3
  clear G
  have G := Lib.hid t_G
  clear t_G
  have t_K := K.out.below bel3
  clear K
  have K := Lib.hid t_K
  clear t_K
  have t_O := O.out.below bel3
  clear O
  have O := Lib.hid t_O
  clear t_O
  have SB5 : Below v1.heap.size v1 w3 := SB0h.out.trans (bel3.mono SB0h.out.size)
  clear SB0h
  have SB5h := Lib.hid SB5
  clear SB5 bel3
  have lt_Fb := Fb.out.lt
  have Fb_0 := Fb.out.cell 0
  have Fb_1 := Fb.out.cell 1
  have Fb_2 := Fb.out.cell 2
  have Fb_3 := Fb.out.cell 3
  have Fb_4 := Fb.out.cell 4
  have Fb_5 := Fb.out.cell 5
  simp at Fb_0 Fb_1 Fb_2 Fb_3 Fb_4 Fb_5
  have lt_G := G.out.lt
  have G_0 := G.out.cell 0
  have G_1 := G.out.cell 1
  have G_2 := G.out.cell 2
  have G_3 := G.out.cell 3
  have G_4 := G.out.cell 4
  have G_5 := G.out.cell 5
  simp at G_0 G_1 G_2 G_3 G_4 G_5
  have lt_K := K.out.lt
  have K_0 := K.out.cell 0
  have K_1 := K.out.cell 1
  have K_2 := K.out.cell 2
  have K_3 := K.out.cell 3
  simp at K_0 K_1 K_2 K_3
  have lt_O := O.out.lt
  have O_0 := O.out.cell 0
  have O_1 := O.out.cell 1
  have O_2 := O.out.cell 2
  have O_3 := O.out.cell 3
  have O_4 := O.out.cell 4
  have O_5 := O.out.cell 5
  simp at O_0 O_1 O_2 O_3 O_4 O_5
  have szB_w3 := SB5h.out.size
  go_wp2_with fail
  have OAa := (OA.out.below ((Below.refl w3.heap.size w3).alloc (Nat.le_refl _) (.cells #[.int .i64 fa.W, .int .i64 fa.H, .slice pa.ac fa.nc pa.kc, .slice pa.ad fa.nd pa.kd, .slice pa.ai fa.ni pa.ki, .slice pa.a4 fa.nt pa.kt] 29)))
  clear OA
  have sz_v2 : w3.heap.size ≤ (w3.alloc (.cells #[.int .i64 fa.W, .int .i64 fa.H, .slice pa.ac fa.nc pa.kc, .slice pa.ad fa.nd pa.kd, .slice pa.ai fa.ni pa.ki, .slice pa.a4 fa.nt pa.kt] 29)).heap.size := by simp
  have NE_Fb_A := Lib.hid (show w.heap.size ≠ w3.heap.size by omega)
  have NE_G_A := Lib.hid (show w.heap.size + 1 ≠ w3.heap.size by omega)
  have NE_K_A := Lib.hid (show w.heap.size + 1 + 1 ≠ w3.heap.size by omega)
  have NE_O_A := Lib.hid (show w2.heap.size ≠ w3.heap.size by omega)
  have s_Fb := Fb.out
  have s_G := G.out
  have s_K := K.out
  have s_O := O.out
  replace s_Fb := s_Fb.alloc (.cells #[.int .i64 fa.W, .int .i64 fa.H, .slice pa.ac fa.nc pa.kc, .slice pa.ad fa.nd pa.kd, .slice pa.ai fa.ni pa.ki, .slice pa.a4 fa.nt pa.kt] 29)
  replace s_G := s_G.alloc (.cells #[.int .i64 fa.W, .int .i64 fa.H, .slice pa.ac fa.nc pa.kc, .slice pa.ad fa.nd pa.kd, .slice pa.ai fa.ni pa.ki, .slice pa.a4 fa.nt pa.kt] 29)
  replace s_K := s_K.alloc (.cells #[.int .i64 fa.W, .int .i64 fa.H, .slice pa.ac fa.nc pa.kc, .slice pa.ad fa.nd pa.kd, .slice pa.ai fa.ni pa.ki, .slice pa.a4 fa.nt pa.kt] 29)
  replace s_O := s_O.alloc (.cells #[.int .i64 fa.W, .int .i64 fa.H, .slice pa.ac fa.nc pa.kc, .slice pa.ad fa.nd pa.kd, .slice pa.ai fa.ni pa.ki, .slice pa.a4 fa.nt pa.kt] 29)
  have s_A : HasBlk (w3.alloc (.cells #[.int .i64 fa.W, .int .i64 fa.H, .slice pa.ac fa.nc pa.kc, .slice pa.ad fa.nd pa.kd, .slice pa.ai fa.ni pa.ki, .slice pa.a4 fa.nt pa.kt] 29)) (w3.heap.size) 29 #[.int .i64 fa.W, .int .i64 fa.H, .slice pa.ac fa.nc pa.kc, .slice pa.ad fa.nd pa.kd, .slice pa.ai fa.ni pa.ki, .slice pa.a4 fa.nt pa.kt] := by simpa using hasBlk_new w3 29 #[.int .i64 fa.W, .int .i64 fa.H, .slice pa.ac fa.nc pa.kc, .slice pa.ad fa.nd pa.kd, .slice pa.ai fa.ni pa.ki, .slice pa.a4 fa.nt pa.kt]
  have t_Fb : HasBlk (w3.alloc (.cells #[.int .i64 fa.W, .int .i64 fa.H, .slice pa.ac fa.nc pa.kc, .slice pa.ad fa.nd pa.kd, .slice pa.ai fa.ni pa.ki, .slice pa.a4 fa.nt pa.kt] 29)) (w.heap.size) 29 #[.int .i64 f.W, .int .i64 f.H, .slice p.ac f.nc p.kc, .slice p.ad f.nd p.kd, .slice p.ai f.ni p.ki, .slice p.a4 f.nt p.kt] := by simpa using s_Fb
  clear s_Fb Fb
  have t_G : HasBlk (w3.alloc (.cells #[.int .i64 fa.W, .int .i64 fa.H, .slice pa.ac fa.nc pa.kc, .slice pa.ad fa.nd pa.kd, .slice pa.ai fa.ni pa.ki, .slice pa.a4 fa.nt pa.kt] 29)) (w.heap.size + 1) 25 #[.int .i64 d, .int .i64 i, .int .i64 t, .int .i64 p9, .int .i64 u9, .int .i64 v9] := by simpa using s_G
  clear s_G G
  have t_K : HasBlk (w3.alloc (.cells #[.int .i64 fa.W, .int .i64 fa.H, .slice pa.ac fa.nc pa.kc, .slice pa.ad fa.nd pa.kd, .slice pa.ai fa.ni pa.ki, .slice pa.a4 fa.nt pa.kt] 29)) (w.heap.size + 1 + 1) 23 #[.int .u8 (c 0), .int .u8 (c 1), .int .u8 (c 2), .int .u8 (c 3)] := by simpa using s_K
  clear s_K K
  have t_O : HasBlk (w3.alloc (.cells #[.int .i64 fa.W, .int .i64 fa.H, .slice pa.ac fa.nc pa.kc, .slice pa.ad fa.nd pa.kd, .slice pa.ai fa.ni pa.ki, .slice pa.a4 fa.nt pa.kt] 29)) (w2.heap.size) 29 #[.int .i64 f.W, .int .i64 f.H, .slice q.ac f.nc q.kc, .slice q.ad f.nd q.kd, .slice q.ai f.ni q.ki, .slice q.a4 f.nt q.kt] := by simpa using s_O
  clear s_O O
  have t_A : HasBlk (w3.alloc (.cells #[.int .i64 fa.W, .int .i64 fa.H, .slice pa.ac fa.nc pa.kc, .slice pa.ad fa.nd pa.kd, .slice pa.ai fa.ni pa.ki, .slice pa.a4 fa.nt pa.kt] 29)) (w3.heap.size) 29 #[.int .i64 fa.W, .int .i64 fa.H, .slice pa.ac fa.nc pa.kc, .slice pa.ad fa.nd pa.kd, .slice pa.ai fa.ni pa.ki, .slice pa.a4 fa.nt pa.kt] := by simpa using s_A
  clear s_A
  have SB6 : Below v1.heap.size v1 (w3.alloc (.cells #[.int .i64 fa.W, .int .i64 fa.H, .slice pa.ac fa.nc pa.kc, .slice pa.ad fa.nd pa.kd, .slice pa.ai fa.ni pa.ki, .slice pa.a4 fa.nt pa.kt] 29)) := by
    have bel0 := SB5h.out
    repeat' (first | exact Below.refl _ _ | assumption | apply Below.drew | refine Below.setCell ?_ (by first | omega | (simp; done) | (simp; omega)) _ | refine Below.alloc ?_ (by first | omega | (simp; done) | (simp; omega)) _)
  clear lt_Fb Fb_0 Fb_1 Fb_2 Fb_3 Fb_4 Fb_5 lt_G G_0 G_1 G_2 G_3 G_4 G_5 lt_K K_0 K_1 K_2 K_3 lt_O O_0 O_1 O_2 O_3 O_4 O_5
  generalize gW_v2 : (w3.alloc (.cells #[.int .i64 fa.W, .int .i64 fa.H, .slice pa.ac fa.nc pa.kc, .slice pa.ad fa.nd pa.kd, .slice pa.ai fa.ni pa.ki, .slice pa.a4 fa.nt pa.kt] 29)) = v2 at *
  clear gW_v2
  have Fb := Lib.hid t_Fb
  clear t_Fb
  have G := Lib.hid t_G
  clear t_G
  have K := Lib.hid t_K
  clear t_K
  have O := Lib.hid t_O
  clear t_O
  have A := Lib.hid t_A
  clear t_A
  clear SB5h
  have SB6h := Lib.hid SB6
  clear SB6
  have OA := Lib.hid OAa
  clear OAa
  have lt_Fb := Fb.out.lt
  have Fb_0 := Fb.out.cell 0
  have Fb_1 := Fb.out.cell 1
  have Fb_2 := Fb.out.cell 2
  have Fb_3 := Fb.out.cell 3
  have Fb_4 := Fb.out.cell 4
  have Fb_5 := Fb.out.cell 5
  simp at Fb_0 Fb_1 Fb_2 Fb_3 Fb_4 Fb_5
  have lt_G := G.out.lt
  have G_0 := G.out.cell 0
  have G_1 := G.out.cell 1
  have G_2 := G.out.cell 2
  have G_3 := G.out.cell 3
  have G_4 := G.out.cell 4
  have G_5 := G.out.cell 5
  simp at G_0 G_1 G_2 G_3 G_4 G_5
  have lt_K := K.out.lt
  have K_0 := K.out.cell 0
  have K_1 := K.out.cell 1
  have K_2 := K.out.cell 2
  have K_3 := K.out.cell 3
  simp at K_0 K_1 K_2 K_3
  have lt_O := O.out.lt
  have O_0 := O.out.cell 0
  have O_1 := O.out.cell 1
  have O_2 := O.out.cell 2
  have O_3 := O.out.cell 3
  have O_4 := O.out.cell 4
  have O_5 := O.out.cell 5
  simp at O_0 O_1 O_2 O_3 O_4 O_5
  have lt_A := A.out.lt
  have A_0 := A.out.cell 0
  have A_1 := A.out.cell 1
  have A_2 := A.out.cell 2
  have A_3 := A.out.cell 3
  have A_4 := A.out.cell 4
  have A_5 := A.out.cell 5
  simp at A_0 A_1 A_2 A_3 A_4 A_5
  have szB_v2 := SB6h.out.size
  refine (refput_any p f x y d i t p9 u9 v9 c _ (KF0.out.below SB6h.out) Hft.out).mono ?_
  rintro e w4 ⟨⟨pb, fb, xb, rfl, ho, hv⟩, bel4⟩
  clear lt_Fb Fb_0 Fb_1 Fb_2 Fb_3 Fb_4 Fb_5 lt_G G_0 G_1 G_2 G_3 G_4 G_5 lt_K K_0 K_1 K_2 K_3 lt_O O_0 O_1 O_2 O_3 O_4 O_5 lt_A A_0 A_1 A_2 A_3 A_4 A_5
  have OAa := OA.out.below bel4
  clear OA
  have OA := Lib.hid OAa
  clear OAa
  have sz_w4 := bel4.size
  obtain ⟨rfl, rfl⟩ := VA.out.fn hv
  have OB := Lib.hid ho.ok
  clear ho hv
  have t_Fb := Fb.out.below bel4
  clear Fb
  have Fb := Lib.hid t_Fb
  clear t_Fb
  have t_G := G.out.below bel4
  clear G
  have G := Lib.hid t_G
  clear t_G
  have t_K := K.out.below bel4
  clear K
  have K := Lib.hid t_K
  clear t_K
  have t_O := O.out.below bel4
  clear O
  have O := Lib.hid t_O
  clear t_O
  have t_A := A.out.below bel4
  clear A
  have A := Lib.hid t_A
  clear t_A
  have SB7 : Below v1.heap.size v1 w4 := SB6h.out.trans (bel4.mono SB6h.out.size)
  clear SB6h
  have SB7h := Lib.hid SB7
  clear SB7 bel4
  have lt_Fb := Fb.out.lt
  have Fb_0 := Fb.out.cell 0
  have Fb_1 := Fb.out.cell 1
  have Fb_2 := Fb.out.cell 2
  have Fb_3 := Fb.out.cell 3
  have Fb_4 := Fb.out.cell 4
  have Fb_5 := Fb.out.cell 5
  simp at Fb_0 Fb_1 Fb_2 Fb_3 Fb_4 Fb_5
  have lt_G := G.out.lt
  have G_0 := G.out.cell 0
  have G_1 := G.out.cell 1
  have G_2 := G.out.cell 2
  have G_3 := G.out.cell 3
  have G_4 := G.out.cell 4
  have G_5 := G.out.cell 5
  simp at G_0 G_1 G_2 G_3 G_4 G_5
  have lt_K := K.out.lt
  have K_0 := K.out.cell 0
  have K_1 := K.out.cell 1
  have K_2 := K.out.cell 2
  have K_3 := K.out.cell 3
  simp at K_0 K_1 K_2 K_3
  have lt_O := O.out.lt
  have O_0 := O.out.cell 0
  have O_1 := O.out.cell 1
  have O_2 := O.out.cell 2
  have O_3 := O.out.cell 3
  have O_4 := O.out.cell 4
  have O_5 := O.out.cell 5
  simp at O_0 O_1 O_2 O_3 O_4 O_5
  have lt_A := A.out.lt
  have A_0 := A.out.cell 0
  have A_1 := A.out.cell 1
  have A_2 := A.out.cell 2
  have A_3 := A.out.cell 3
  have A_4 := A.out.cell 4
  have A_5 := A.out.cell 5
  simp at A_0 A_1 A_2 A_3 A_4 A_5
  have szB_w4 := SB7h.out.size
  go_wp2_with fail
  have OAa := (OA.out.below ((Below.refl w4.heap.size w4).alloc (Nat.le_refl _) (.cells #[.int .i64 fb.W, .int .i64 fb.H, .slice pb.ac fb.nc pb.kc, .slice pb.ad fb.nd pb.kd, .slice pb.ai fb.ni pb.ki, .slice pb.a4 fb.nt pb.kt] 29)))
  clear OA
  have OBa := (OB.out.below ((Below.refl w4.heap.size w4).alloc (Nat.le_refl _) (.cells #[.int .i64 fb.W, .int .i64 fb.H, .slice pb.ac fb.nc pb.kc, .slice pb.ad fb.nd pb.kd, .slice pb.ai fb.ni pb.ki, .slice pb.a4 fb.nt pb.kt] 29)))
  clear OB
  have sz_v3 : w4.heap.size ≤ (w4.alloc (.cells #[.int .i64 fb.W, .int .i64 fb.H, .slice pb.ac fb.nc pb.kc, .slice pb.ad fb.nd pb.kd, .slice pb.ai fb.ni pb.ki, .slice pb.a4 fb.nt pb.kt] 29)).heap.size := by simp
  have NE_Fb_Bb := Lib.hid (show w.heap.size ≠ w4.heap.size by omega)
  have NE_G_Bb := Lib.hid (show w.heap.size + 1 ≠ w4.heap.size by omega)
  have NE_K_Bb := Lib.hid (show w.heap.size + 1 + 1 ≠ w4.heap.size by omega)
  have NE_O_Bb := Lib.hid (show w2.heap.size ≠ w4.heap.size by omega)
  have NE_A_Bb := Lib.hid (show w3.heap.size ≠ w4.heap.size by omega)
  have s_Fb := Fb.out
  have s_G := G.out
  have s_K := K.out
  have s_O := O.out
  have s_A := A.out
  replace s_Fb := s_Fb.alloc (.cells #[.int .i64 fb.W, .int .i64 fb.H, .slice pb.ac fb.nc pb.kc, .slice pb.ad fb.nd pb.kd, .slice pb.ai fb.ni pb.ki, .slice pb.a4 fb.nt pb.kt] 29)
  replace s_G := s_G.alloc (.cells #[.int .i64 fb.W, .int .i64 fb.H, .slice pb.ac fb.nc pb.kc, .slice pb.ad fb.nd pb.kd, .slice pb.ai fb.ni pb.ki, .slice pb.a4 fb.nt pb.kt] 29)
  replace s_K := s_K.alloc (.cells #[.int .i64 fb.W, .int .i64 fb.H, .slice pb.ac fb.nc pb.kc, .slice pb.ad fb.nd pb.kd, .slice pb.ai fb.ni pb.ki, .slice pb.a4 fb.nt pb.kt] 29)
  replace s_O := s_O.alloc (.cells #[.int .i64 fb.W, .int .i64 fb.H, .slice pb.ac fb.nc pb.kc, .slice pb.ad fb.nd pb.kd, .slice pb.ai fb.ni pb.ki, .slice pb.a4 fb.nt pb.kt] 29)
  replace s_A := s_A.alloc (.cells #[.int .i64 fb.W, .int .i64 fb.H, .slice pb.ac fb.nc pb.kc, .slice pb.ad fb.nd pb.kd, .slice pb.ai fb.ni pb.ki, .slice pb.a4 fb.nt pb.kt] 29)
  have s_Bb : HasBlk (w4.alloc (.cells #[.int .i64 fb.W, .int .i64 fb.H, .slice pb.ac fb.nc pb.kc, .slice pb.ad fb.nd pb.kd, .slice pb.ai fb.ni pb.ki, .slice pb.a4 fb.nt pb.kt] 29)) (w4.heap.size) 29 #[.int .i64 fb.W, .int .i64 fb.H, .slice pb.ac fb.nc pb.kc, .slice pb.ad fb.nd pb.kd, .slice pb.ai fb.ni pb.ki, .slice pb.a4 fb.nt pb.kt] := by simpa using hasBlk_new w4 29 #[.int .i64 fb.W, .int .i64 fb.H, .slice pb.ac fb.nc pb.kc, .slice pb.ad fb.nd pb.kd, .slice pb.ai fb.ni pb.ki, .slice pb.a4 fb.nt pb.kt]
  have t_Fb : HasBlk (w4.alloc (.cells #[.int .i64 fb.W, .int .i64 fb.H, .slice pb.ac fb.nc pb.kc, .slice pb.ad fb.nd pb.kd, .slice pb.ai fb.ni pb.ki, .slice pb.a4 fb.nt pb.kt] 29)) (w.heap.size) 29 #[.int .i64 f.W, .int .i64 f.H, .slice p.ac f.nc p.kc, .slice p.ad f.nd p.kd, .slice p.ai f.ni p.ki, .slice p.a4 f.nt p.kt] := by simpa using s_Fb
  clear s_Fb Fb
  have t_G : HasBlk (w4.alloc (.cells #[.int .i64 fb.W, .int .i64 fb.H, .slice pb.ac fb.nc pb.kc, .slice pb.ad fb.nd pb.kd, .slice pb.ai fb.ni pb.ki, .slice pb.a4 fb.nt pb.kt] 29)) (w.heap.size + 1) 25 #[.int .i64 d, .int .i64 i, .int .i64 t, .int .i64 p9, .int .i64 u9, .int .i64 v9] := by simpa using s_G
  clear s_G G
  have t_K : HasBlk (w4.alloc (.cells #[.int .i64 fb.W, .int .i64 fb.H, .slice pb.ac fb.nc pb.kc, .slice pb.ad fb.nd pb.kd, .slice pb.ai fb.ni pb.ki, .slice pb.a4 fb.nt pb.kt] 29)) (w.heap.size + 1 + 1) 23 #[.int .u8 (c 0), .int .u8 (c 1), .int .u8 (c 2), .int .u8 (c 3)] := by simpa using s_K
  clear s_K K
  have t_O : HasBlk (w4.alloc (.cells #[.int .i64 fb.W, .int .i64 fb.H, .slice pb.ac fb.nc pb.kc, .slice pb.ad fb.nd pb.kd, .slice pb.ai fb.ni pb.ki, .slice pb.a4 fb.nt pb.kt] 29)) (w2.heap.size) 29 #[.int .i64 f.W, .int .i64 f.H, .slice q.ac f.nc q.kc, .slice q.ad f.nd q.kd, .slice q.ai f.ni q.ki, .slice q.a4 f.nt q.kt] := by simpa using s_O
  clear s_O O
  have t_A : HasBlk (w4.alloc (.cells #[.int .i64 fb.W, .int .i64 fb.H, .slice pb.ac fb.nc pb.kc, .slice pb.ad fb.nd pb.kd, .slice pb.ai fb.ni pb.ki, .slice pb.a4 fb.nt pb.kt] 29)) (w3.heap.size) 29 #[.int .i64 fb.W, .int .i64 fb.H, .slice pa.ac fb.nc pa.kc, .slice pa.ad fb.nd pa.kd, .slice pa.ai fb.ni pa.ki, .slice pa.a4 fb.nt pa.kt] := by simpa using s_A
  clear s_A A
  have t_Bb : HasBlk (w4.alloc (.cells #[.int .i64 fb.W, .int .i64 fb.H, .slice pb.ac fb.nc pb.kc, .slice pb.ad fb.nd pb.kd, .slice pb.ai fb.ni pb.ki, .slice pb.a4 fb.nt pb.kt] 29)) (w4.heap.size) 29 #[.int .i64 fb.W, .int .i64 fb.H, .slice pb.ac fb.nc pb.kc, .slice pb.ad fb.nd pb.kd, .slice pb.ai fb.ni pb.ki, .slice pb.a4 fb.nt pb.kt] := by simpa using s_Bb
  clear s_Bb
  have SB8 : Below v1.heap.size v1 (w4.alloc (.cells #[.int .i64 fb.W, .int .i64 fb.H, .slice pb.ac fb.nc pb.kc, .slice pb.ad fb.nd pb.kd, .slice pb.ai fb.ni pb.ki, .slice pb.a4 fb.nt pb.kt] 29)) := by
    have bel0 := SB7h.out
    repeat' (first | exact Below.refl _ _ | assumption | apply Below.drew | refine Below.setCell ?_ (by first | omega | (simp; done) | (simp; omega)) _ | refine Below.alloc ?_ (by first | omega | (simp; done) | (simp; omega)) _)
  clear lt_Fb Fb_0 Fb_1 Fb_2 Fb_3 Fb_4 Fb_5 lt_G G_0 G_1 G_2 G_3 G_4 G_5 lt_K K_0 K_1 K_2 K_3 lt_O O_0 O_1 O_2 O_3 O_4 O_5 lt_A A_0 A_1 A_2 A_3 A_4 A_5
  generalize gW_v3 : (w4.alloc (.cells #[.int .i64 fb.W, .int .i64 fb.H, .slice pb.ac fb.nc pb.kc, .slice pb.ad fb.nd pb.kd, .slice pb.ai fb.ni pb.ki, .slice pb.a4 fb.nt pb.kt] 29)) = v3 at *
  clear gW_v3
  have Fb := Lib.hid t_Fb
  clear t_Fb
  have G := Lib.hid t_G
  clear t_G
  have K := Lib.hid t_K
  clear t_K
  have O := Lib.hid t_O
  clear t_O
  have A := Lib.hid t_A
  clear t_A
  have Bb := Lib.hid t_Bb
  clear t_Bb
  clear SB7h
  have SB8h := Lib.hid SB8
  clear SB8
  have OA := Lib.hid OAa
  clear OAa
  have OB := Lib.hid OBa
  clear OBa
  have lt_Fb := Fb.out.lt
  have Fb_0 := Fb.out.cell 0
  have Fb_1 := Fb.out.cell 1
  have Fb_2 := Fb.out.cell 2
  have Fb_3 := Fb.out.cell 3
  have Fb_4 := Fb.out.cell 4
  have Fb_5 := Fb.out.cell 5
  simp at Fb_0 Fb_1 Fb_2 Fb_3 Fb_4 Fb_5
  have lt_G := G.out.lt
  have G_0 := G.out.cell 0
  have G_1 := G.out.cell 1
  have G_2 := G.out.cell 2
  have G_3 := G.out.cell 3
  have G_4 := G.out.cell 4
  have G_5 := G.out.cell 5
  simp at G_0 G_1 G_2 G_3 G_4 G_5
  have lt_K := K.out.lt
  have K_0 := K.out.cell 0
  have K_1 := K.out.cell 1
  have K_2 := K.out.cell 2
  have K_3 := K.out.cell 3
  simp at K_0 K_1 K_2 K_3
  have lt_O := O.out.lt
  have O_0 := O.out.cell 0
  have O_1 := O.out.cell 1
  have O_2 := O.out.cell 2
  have O_3 := O.out.cell 3
  have O_4 := O.out.cell 4
  have O_5 := O.out.cell 5
  simp at O_0 O_1 O_2 O_3 O_4 O_5
  have lt_A := A.out.lt
  have A_0 := A.out.cell 0
  have A_1 := A.out.cell 1
  have A_2 := A.out.cell 2
  have A_3 := A.out.cell 3
  have A_4 := A.out.cell 4
  have A_5 := A.out.cell 5
  simp at A_0 A_1 A_2 A_3 A_4 A_5
  have lt_Bb := Bb.out.lt
  have Bb_0 := Bb.out.cell 0
  have Bb_1 := Bb.out.cell 1
  have Bb_2 := Bb.out.cell 2
  have Bb_3 := Bb.out.cell 3
  have Bb_4 := Bb.out.cell 4
  have Bb_5 := Bb.out.cell 5
  simp at Bb_0 Bb_1 Bb_2 Bb_3 Bb_4 Bb_5
  have szB_v3 := SB8h.out.size
  refine (lay_frame q f x y e9 c _ (KQ0.out.below SB8h.out)).mono ?_
  rintro e w5 ⟨⟨pu, fu, xu, rfl, ho, hv⟩, bel5⟩
  clear lt_Fb Fb_0 Fb_1 Fb_2 Fb_3 Fb_4 Fb_5 lt_G G_0 G_1 G_2 G_3 G_4 G_5 lt_K K_0 K_1 K_2 K_3 lt_O O_0 O_1 O_2 O_3 O_4 O_5 lt_A A_0 A_1 A_2 A_3 A_4 A_5 lt_Bb Bb_0 Bb_1 Bb_2 Bb_3 Bb_4 Bb_5
  have OAa := OA.out.below bel5
  clear OA
  have OA := Lib.hid OAa
  clear OAa
  have OBa := OB.out.below bel5
  clear OB
  have OB := Lib.hid OBa
  clear OBa
  have sz_w5 := bel5.size
  have OU0 := Lib.hid ho
  have OU := Lib.hid ho
  have VU := Lib.hid hv
  clear ho hv
  have t_Fb := Fb.out.below bel5
  clear Fb
  have Fb := Lib.hid t_Fb
  clear t_Fb
  have t_G := G.out.below bel5
  clear G
  have G := Lib.hid t_G
  clear t_G
  have t_K := K.out.below bel5
  clear K
  have K := Lib.hid t_K
  clear t_K
  have t_O := O.out.below bel5
  clear O
  have O := Lib.hid t_O
  clear t_O
  have t_A := A.out.below bel5
  clear A
  have A := Lib.hid t_A
  clear t_A
  have t_Bb := Bb.out.below bel5
  clear Bb
  have Bb := Lib.hid t_Bb
  clear t_Bb
  have SB9 : Below v1.heap.size v1 w5 := SB8h.out.trans (bel5.mono SB8h.out.size)
  clear SB8h
  have SB9h := Lib.hid SB9
  clear SB9 bel5
  have lt_Fb := Fb.out.lt
  have Fb_0 := Fb.out.cell 0
  have Fb_1 := Fb.out.cell 1
  have Fb_2 := Fb.out.cell 2
  have Fb_3 := Fb.out.cell 3
  have Fb_4 := Fb.out.cell 4
  have Fb_5 := Fb.out.cell 5
  simp at Fb_0 Fb_1 Fb_2 Fb_3 Fb_4 Fb_5
  have lt_G := G.out.lt
  have G_0 := G.out.cell 0
  have G_1 := G.out.cell 1
  have G_2 := G.out.cell 2
  have G_3 := G.out.cell 3
  have G_4 := G.out.cell 4
  have G_5 := G.out.cell 5
  simp at G_0 G_1 G_2 G_3 G_4 G_5
  have lt_K := K.out.lt
  have K_0 := K.out.cell 0
  have K_1 := K.out.cell 1
  have K_2 := K.out.cell 2
  have K_3 := K.out.cell 3
  simp at K_0 K_1 K_2 K_3
  have lt_O := O.out.lt
  have O_0 := O.out.cell 0
  have O_1 := O.out.cell 1
  have O_2 := O.out.cell 2
  have O_3 := O.out.cell 3
  have O_4 := O.out.cell 4
  have O_5 := O.out.cell 5
  simp at O_0 O_1 O_2 O_3 O_4 O_5
  have lt_A := A.out.lt
  have A_0 := A.out.cell 0
  have A_1 := A.out.cell 1
  have A_2 := A.out.cell 2
  have A_3 := A.out.cell 3
  have A_4 := A.out.cell 4
  have A_5 := A.out.cell 5
  simp at A_0 A_1 A_2 A_3 A_4 A_5
  have lt_Bb := Bb.out.lt
  have Bb_0 := Bb.out.cell 0
  have Bb_1 := Bb.out.cell 1
  have Bb_2 := Bb.out.cell 2
  have Bb_3 := Bb.out.cell 3
  have Bb_4 := Bb.out.cell 4
  have Bb_5 := Bb.out.cell 5
  simp at Bb_0 Bb_1 Bb_2 Bb_3 Bb_4 Bb_5
  have szB_w5 := SB9h.out.size
  go_wp2_with fail
  have OAa := (OA.out.below ((Below.refl w5.heap.size w5).alloc (Nat.le_refl _) (.cells #[.int .i64 fu.W, .int .i64 fu.H, .slice pu.ac fu.nc pu.kc, .slice pu.ad fu.nd pu.kd, .slice pu.ai fu.ni pu.ki, .slice pu.a4 fu.nt pu.kt] 29)))
  clear OA
  have OBa := (OB.out.below ((Below.refl w5.heap.size w5).alloc (Nat.le_refl _) (.cells #[.int .i64 fu.W, .int .i64 fu.H, .slice pu.ac fu.nc pu.kc, .slice pu.ad fu.nd pu.kd, .slice pu.ai fu.ni pu.ki, .slice pu.a4 fu.nt pu.kt] 29)))
  clear OB
  have OUa := (OU.out.below ((Below.refl w5.heap.size w5).alloc (Nat.le_refl _) (.cells #[.int .i64 fu.W, .int .i64 fu.H, .slice pu.ac fu.nc pu.kc, .slice pu.ad fu.nd pu.kd, .slice pu.ai fu.ni pu.ki, .slice pu.a4 fu.nt pu.kt] 29)))
  clear OU
  have sz_v4 : w5.heap.size ≤ (w5.alloc (.cells #[.int .i64 fu.W, .int .i64 fu.H, .slice pu.ac fu.nc pu.kc, .slice pu.ad fu.nd pu.kd, .slice pu.ai fu.ni pu.ki, .slice pu.a4 fu.nt pu.kt] 29)).heap.size := by simp
  have NE_Fb_U := Lib.hid (show w.heap.size ≠ w5.heap.size by omega)
  have NE_G_U := Lib.hid (show w.heap.size + 1 ≠ w5.heap.size by omega)
  have NE_K_U := Lib.hid (show w.heap.size + 1 + 1 ≠ w5.heap.size by omega)
  have NE_O_U := Lib.hid (show w2.heap.size ≠ w5.heap.size by omega)
  have NE_A_U := Lib.hid (show w3.heap.size ≠ w5.heap.size by omega)
  have NE_Bb_U := Lib.hid (show w4.heap.size ≠ w5.heap.size by omega)
  have s_Fb := Fb.out
  have s_G := G.out
  have s_K := K.out
  have s_O := O.out
  have s_A := A.out
  have s_Bb := Bb.out
  replace s_Fb := s_Fb.alloc (.cells #[.int .i64 fu.W, .int .i64 fu.H, .slice pu.ac fu.nc pu.kc, .slice pu.ad fu.nd pu.kd, .slice pu.ai fu.ni pu.ki, .slice pu.a4 fu.nt pu.kt] 29)
  replace s_G := s_G.alloc (.cells #[.int .i64 fu.W, .int .i64 fu.H, .slice pu.ac fu.nc pu.kc, .slice pu.ad fu.nd pu.kd, .slice pu.ai fu.ni pu.ki, .slice pu.a4 fu.nt pu.kt] 29)
  replace s_K := s_K.alloc (.cells #[.int .i64 fu.W, .int .i64 fu.H, .slice pu.ac fu.nc pu.kc, .slice pu.ad fu.nd pu.kd, .slice pu.ai fu.ni pu.ki, .slice pu.a4 fu.nt pu.kt] 29)
  replace s_O := s_O.alloc (.cells #[.int .i64 fu.W, .int .i64 fu.H, .slice pu.ac fu.nc pu.kc, .slice pu.ad fu.nd pu.kd, .slice pu.ai fu.ni pu.ki, .slice pu.a4 fu.nt pu.kt] 29)
  replace s_A := s_A.alloc (.cells #[.int .i64 fu.W, .int .i64 fu.H, .slice pu.ac fu.nc pu.kc, .slice pu.ad fu.nd pu.kd, .slice pu.ai fu.ni pu.ki, .slice pu.a4 fu.nt pu.kt] 29)
  replace s_Bb := s_Bb.alloc (.cells #[.int .i64 fu.W, .int .i64 fu.H, .slice pu.ac fu.nc pu.kc, .slice pu.ad fu.nd pu.kd, .slice pu.ai fu.ni pu.ki, .slice pu.a4 fu.nt pu.kt] 29)
  have s_U : HasBlk (w5.alloc (.cells #[.int .i64 fu.W, .int .i64 fu.H, .slice pu.ac fu.nc pu.kc, .slice pu.ad fu.nd pu.kd, .slice pu.ai fu.ni pu.ki, .slice pu.a4 fu.nt pu.kt] 29)) (w5.heap.size) 29 #[.int .i64 fu.W, .int .i64 fu.H, .slice pu.ac fu.nc pu.kc, .slice pu.ad fu.nd pu.kd, .slice pu.ai fu.ni pu.ki, .slice pu.a4 fu.nt pu.kt] := by simpa using hasBlk_new w5 29 #[.int .i64 fu.W, .int .i64 fu.H, .slice pu.ac fu.nc pu.kc, .slice pu.ad fu.nd pu.kd, .slice pu.ai fu.ni pu.ki, .slice pu.a4 fu.nt pu.kt]
  have t_Fb : HasBlk (w5.alloc (.cells #[.int .i64 fu.W, .int .i64 fu.H, .slice pu.ac fu.nc pu.kc, .slice pu.ad fu.nd pu.kd, .slice pu.ai fu.ni pu.ki, .slice pu.a4 fu.nt pu.kt] 29)) (w.heap.size) 29 #[.int .i64 f.W, .int .i64 f.H, .slice p.ac f.nc p.kc, .slice p.ad f.nd p.kd, .slice p.ai f.ni p.ki, .slice p.a4 f.nt p.kt] := by simpa using s_Fb
  clear s_Fb Fb
  have t_G : HasBlk (w5.alloc (.cells #[.int .i64 fu.W, .int .i64 fu.H, .slice pu.ac fu.nc pu.kc, .slice pu.ad fu.nd pu.kd, .slice pu.ai fu.ni pu.ki, .slice pu.a4 fu.nt pu.kt] 29)) (w.heap.size + 1) 25 #[.int .i64 d, .int .i64 i, .int .i64 t, .int .i64 p9, .int .i64 u9, .int .i64 v9] := by simpa using s_G
  clear s_G G
  have t_K : HasBlk (w5.alloc (.cells #[.int .i64 fu.W, .int .i64 fu.H, .slice pu.ac fu.nc pu.kc, .slice pu.ad fu.nd pu.kd, .slice pu.ai fu.ni pu.ki, .slice pu.a4 fu.nt pu.kt] 29)) (w.heap.size + 1 + 1) 23 #[.int .u8 (c 0), .int .u8 (c 1), .int .u8 (c 2), .int .u8 (c 3)] := by simpa using s_K
  clear s_K K
  have t_O : HasBlk (w5.alloc (.cells #[.int .i64 fu.W, .int .i64 fu.H, .slice pu.ac fu.nc pu.kc, .slice pu.ad fu.nd pu.kd, .slice pu.ai fu.ni pu.ki, .slice pu.a4 fu.nt pu.kt] 29)) (w2.heap.size) 29 #[.int .i64 f.W, .int .i64 f.H, .slice q.ac f.nc q.kc, .slice q.ad f.nd q.kd, .slice q.ai f.ni q.ki, .slice q.a4 f.nt q.kt] := by simpa using s_O
  clear s_O O
  have t_A : HasBlk (w5.alloc (.cells #[.int .i64 fu.W, .int .i64 fu.H, .slice pu.ac fu.nc pu.kc, .slice pu.ad fu.nd pu.kd, .slice pu.ai fu.ni pu.ki, .slice pu.a4 fu.nt pu.kt] 29)) (w3.heap.size) 29 #[.int .i64 fb.W, .int .i64 fb.H, .slice pa.ac fb.nc pa.kc, .slice pa.ad fb.nd pa.kd, .slice pa.ai fb.ni pa.ki, .slice pa.a4 fb.nt pa.kt] := by simpa using s_A
  clear s_A A
  have t_Bb : HasBlk (w5.alloc (.cells #[.int .i64 fu.W, .int .i64 fu.H, .slice pu.ac fu.nc pu.kc, .slice pu.ad fu.nd pu.kd, .slice pu.ai fu.ni pu.ki, .slice pu.a4 fu.nt pu.kt] 29)) (w4.heap.size) 29 #[.int .i64 fb.W, .int .i64 fb.H, .slice pb.ac fb.nc pb.kc, .slice pb.ad fb.nd pb.kd, .slice pb.ai fb.ni pb.ki, .slice pb.a4 fb.nt pb.kt] := by simpa using s_Bb
  clear s_Bb Bb
  have t_U : HasBlk (w5.alloc (.cells #[.int .i64 fu.W, .int .i64 fu.H, .slice pu.ac fu.nc pu.kc, .slice pu.ad fu.nd pu.kd, .slice pu.ai fu.ni pu.ki, .slice pu.a4 fu.nt pu.kt] 29)) (w5.heap.size) 29 #[.int .i64 fu.W, .int .i64 fu.H, .slice pu.ac fu.nc pu.kc, .slice pu.ad fu.nd pu.kd, .slice pu.ai fu.ni pu.ki, .slice pu.a4 fu.nt pu.kt] := by simpa using s_U
  clear s_U
  have SB10 : Below v1.heap.size v1 (w5.alloc (.cells #[.int .i64 fu.W, .int .i64 fu.H, .slice pu.ac fu.nc pu.kc, .slice pu.ad fu.nd pu.kd, .slice pu.ai fu.ni pu.ki, .slice pu.a4 fu.nt pu.kt] 29)) := by
    have bel0 := SB9h.out
    repeat' (first | exact Below.refl _ _ | assumption | apply Below.drew | refine Below.setCell ?_ (by first | omega | (simp; done) | (simp; omega)) _ | refine Below.alloc ?_ (by first | omega | (simp; done) | (simp; omega)) _)
  clear lt_Fb Fb_0 Fb_1 Fb_2 Fb_3 Fb_4 Fb_5 lt_G G_0 G_1 G_2 G_3 G_4 G_5 lt_K K_0 K_1 K_2 K_3 lt_O O_0 O_1 O_2 O_3 O_4 O_5 lt_A A_0 A_1 A_2 A_3 A_4 A_5 lt_Bb Bb_0 Bb_1 Bb_2 Bb_3 Bb_4 Bb_5
  generalize gW_v4 : (w5.alloc (.cells #[.int .i64 fu.W, .int .i64 fu.H, .slice pu.ac fu.nc pu.kc, .slice pu.ad fu.nd pu.kd, .slice pu.ai fu.ni pu.ki, .slice pu.a4 fu.nt pu.kt] 29)) = v4 at *
  clear gW_v4
  have Fb := Lib.hid t_Fb
  clear t_Fb
  have G := Lib.hid t_G
  clear t_G
  have K := Lib.hid t_K
  clear t_K
  have O := Lib.hid t_O
  clear t_O
  have A := Lib.hid t_A
  clear t_A
  have Bb := Lib.hid t_Bb
  clear t_Bb
  have U := Lib.hid t_U
  clear t_U
  clear SB9h
  have SB10h := Lib.hid SB10
  clear SB10
  have OA := Lib.hid OAa
  clear OAa
  have OB := Lib.hid OBa
  clear OBa
  have OU := Lib.hid OUa
  clear OUa
  have lt_Fb := Fb.out.lt
  have Fb_0 := Fb.out.cell 0
  have Fb_1 := Fb.out.cell 1
  have Fb_2 := Fb.out.cell 2
  have Fb_3 := Fb.out.cell 3
  have Fb_4 := Fb.out.cell 4
  have Fb_5 := Fb.out.cell 5
  simp at Fb_0 Fb_1 Fb_2 Fb_3 Fb_4 Fb_5
  have lt_G := G.out.lt
  have G_0 := G.out.cell 0
  have G_1 := G.out.cell 1
  have G_2 := G.out.cell 2
  have G_3 := G.out.cell 3
  have G_4 := G.out.cell 4
  have G_5 := G.out.cell 5
  simp at G_0 G_1 G_2 G_3 G_4 G_5
  have lt_K := K.out.lt
  have K_0 := K.out.cell 0
  have K_1 := K.out.cell 1
  have K_2 := K.out.cell 2
  have K_3 := K.out.cell 3
  simp at K_0 K_1 K_2 K_3
  have lt_O := O.out.lt
  have O_0 := O.out.cell 0
  have O_1 := O.out.cell 1
  have O_2 := O.out.cell 2
  have O_3 := O.out.cell 3
  have O_4 := O.out.cell 4
  have O_5 := O.out.cell 5
  simp at O_0 O_1 O_2 O_3 O_4 O_5
  have lt_A := A.out.lt
  have A_0 := A.out.cell 0
  have A_1 := A.out.cell 1
  have A_2 := A.out.cell 2
  have A_3 := A.out.cell 3
  have A_4 := A.out.cell 4
  have A_5 := A.out.cell 5
  simp at A_0 A_1 A_2 A_3 A_4 A_5
  have lt_Bb := Bb.out.lt
  have Bb_0 := Bb.out.cell 0
  have Bb_1 := Bb.out.cell 1
  have Bb_2 := Bb.out.cell 2
  have Bb_3 := Bb.out.cell 3
  have Bb_4 := Bb.out.cell 4
  have Bb_5 := Bb.out.cell 5
  simp at Bb_0 Bb_1 Bb_2 Bb_3 Bb_4 Bb_5
  have lt_U := U.out.lt
  have U_0 := U.out.cell 0
  have U_1 := U.out.cell 1
  have U_2 := U.out.cell 2
  have U_3 := U.out.cell 3
  have U_4 := U.out.cell 4
  have U_5 := U.out.cell 5
  simp at U_0 U_1 U_2 U_3 U_4 U_5
  have szB_v4 := SB10h.out.size
  refine (reflay_any p f x y e9 c _ (KF0.out.below SB10h.out) Hft.out hc hu).mono ?_
  rintro e w6 ⟨⟨pv, fv, xv, rfl, ho, hv⟩, bel6⟩
  clear lt_Fb Fb_0 Fb_1 Fb_2 Fb_3 Fb_4 Fb_5 lt_G G_0 G_1 G_2 G_3 G_4 G_5 lt_K K_0 K_1 K_2 K_3 lt_O O_0 O_1 O_2 O_3 O_4 O_5 lt_A A_0 A_1 A_2 A_3 A_4 A_5 lt_Bb Bb_0 Bb_1 Bb_2 Bb_3 Bb_4 Bb_5 lt_U U_0 U_1 U_2 U_3 U_4 U_5
  have OAa := OA.out.below bel6
  clear OA
  have OA := Lib.hid OAa
  clear OAa
  have OBa := OB.out.below bel6
  clear OB
  have OB := Lib.hid OBa
  clear OBa
  have OUa := OU.out.below bel6
  clear OU
  have OU := Lib.hid OUa
  clear OUa
  have sz_w6 := bel6.size
  obtain ⟨rfl, rfl⟩ := VU.out.fn hv
  have OV := Lib.hid ho.ok
  clear ho hv
  have t_Fb := Fb.out.below bel6
  clear Fb
  have Fb := Lib.hid t_Fb
  clear t_Fb
  have t_G := G.out.below bel6
  clear G
  have G := Lib.hid t_G
  clear t_G
  have t_K := K.out.below bel6
  clear K
  have K := Lib.hid t_K
  clear t_K
  have t_O := O.out.below bel6
  clear O
  have O := Lib.hid t_O
  clear t_O
  have t_A := A.out.below bel6
  clear A
  have A := Lib.hid t_A
  clear t_A
  have t_Bb := Bb.out.below bel6
  clear Bb
  have Bb := Lib.hid t_Bb
  clear t_Bb
  have t_U := U.out.below bel6
  clear U
  have U := Lib.hid t_U
  clear t_U
  have SB11 : Below v1.heap.size v1 w6 := SB10h.out.trans (bel6.mono SB10h.out.size)
  clear SB10h
  have SB11h := Lib.hid SB11
  clear SB11 bel6
  have lt_Fb := Fb.out.lt
  have Fb_0 := Fb.out.cell 0
  have Fb_1 := Fb.out.cell 1
  have Fb_2 := Fb.out.cell 2
  have Fb_3 := Fb.out.cell 3
  have Fb_4 := Fb.out.cell 4
  have Fb_5 := Fb.out.cell 5
  simp at Fb_0 Fb_1 Fb_2 Fb_3 Fb_4 Fb_5
  have lt_G := G.out.lt
  have G_0 := G.out.cell 0
  have G_1 := G.out.cell 1
  have G_2 := G.out.cell 2
  have G_3 := G.out.cell 3
  have G_4 := G.out.cell 4
  have G_5 := G.out.cell 5
  simp at G_0 G_1 G_2 G_3 G_4 G_5
  have lt_K := K.out.lt
  have K_0 := K.out.cell 0
  have K_1 := K.out.cell 1
  have K_2 := K.out.cell 2
  have K_3 := K.out.cell 3
  simp at K_0 K_1 K_2 K_3
  have lt_O := O.out.lt
  have O_0 := O.out.cell 0
  have O_1 := O.out.cell 1
  have O_2 := O.out.cell 2
  have O_3 := O.out.cell 3
  have O_4 := O.out.cell 4
  have O_5 := O.out.cell 5
  simp at O_0 O_1 O_2 O_3 O_4 O_5
  have lt_A := A.out.lt
  have A_0 := A.out.cell 0
  have A_1 := A.out.cell 1
  have A_2 := A.out.cell 2
  have A_3 := A.out.cell 3
  have A_4 := A.out.cell 4
  have A_5 := A.out.cell 5
  simp at A_0 A_1 A_2 A_3 A_4 A_5
  have lt_Bb := Bb.out.lt
  have Bb_0 := Bb.out.cell 0
  have Bb_1 := Bb.out.cell 1
  have Bb_2 := Bb.out.cell 2
  have Bb_3 := Bb.out.cell 3
  have Bb_4 := Bb.out.cell 4
  have Bb_5 := Bb.out.cell 5
  simp at Bb_0 Bb_1 Bb_2 Bb_3 Bb_4 Bb_5
  have lt_U := U.out.lt
  have U_0 := U.out.cell 0
  have U_1 := U.out.cell 1
  have U_2 := U.out.cell 2
  have U_3 := U.out.cell 3
  have U_4 := U.out.cell 4
  have U_5 := U.out.cell 5
  simp at U_0 U_1 U_2 U_3 U_4 U_5
  have szB_w6 := SB11h.out.size
  go_wp2_with fail
  have OAa := (OA.out.below ((Below.refl w6.heap.size w6).alloc (Nat.le_refl _) (.cells #[.int .i64 fv.W, .int .i64 fv.H, .slice pv.ac fv.nc pv.kc, .slice pv.ad fv.nd pv.kd, .slice pv.ai fv.ni pv.ki, .slice pv.a4 fv.nt pv.kt] 29)))
  clear OA
  have OBa := (OB.out.below ((Below.refl w6.heap.size w6).alloc (Nat.le_refl _) (.cells #[.int .i64 fv.W, .int .i64 fv.H, .slice pv.ac fv.nc pv.kc, .slice pv.ad fv.nd pv.kd, .slice pv.ai fv.ni pv.ki, .slice pv.a4 fv.nt pv.kt] 29)))
  clear OB
  have OUa := (OU.out.below ((Below.refl w6.heap.size w6).alloc (Nat.le_refl _) (.cells #[.int .i64 fv.W, .int .i64 fv.H, .slice pv.ac fv.nc pv.kc, .slice pv.ad fv.nd pv.kd, .slice pv.ai fv.ni pv.ki, .slice pv.a4 fv.nt pv.kt] 29)))
  clear OU
  have OVa := (OV.out.below ((Below.refl w6.heap.size w6).alloc (Nat.le_refl _) (.cells #[.int .i64 fv.W, .int .i64 fv.H, .slice pv.ac fv.nc pv.kc, .slice pv.ad fv.nd pv.kd, .slice pv.ai fv.ni pv.ki, .slice pv.a4 fv.nt pv.kt] 29)))
  clear OV
  have sz_v5 : w6.heap.size ≤ (w6.alloc (.cells #[.int .i64 fv.W, .int .i64 fv.H, .slice pv.ac fv.nc pv.kc, .slice pv.ad fv.nd pv.kd, .slice pv.ai fv.ni pv.ki, .slice pv.a4 fv.nt pv.kt] 29)).heap.size := by simp
  have NE_Fb_V := Lib.hid (show w.heap.size ≠ w6.heap.size by omega)
  have NE_G_V := Lib.hid (show w.heap.size + 1 ≠ w6.heap.size by omega)
  have NE_K_V := Lib.hid (show w.heap.size + 1 + 1 ≠ w6.heap.size by omega)
  have NE_O_V := Lib.hid (show w2.heap.size ≠ w6.heap.size by omega)
  have NE_A_V := Lib.hid (show w3.heap.size ≠ w6.heap.size by omega)
  have NE_Bb_V := Lib.hid (show w4.heap.size ≠ w6.heap.size by omega)
  have NE_U_V := Lib.hid (show w5.heap.size ≠ w6.heap.size by omega)
  have s_Fb := Fb.out
  have s_G := G.out
  have s_K := K.out
  have s_O := O.out
  have s_A := A.out
  have s_Bb := Bb.out
  have s_U := U.out
  replace s_Fb := s_Fb.alloc (.cells #[.int .i64 fv.W, .int .i64 fv.H, .slice pv.ac fv.nc pv.kc, .slice pv.ad fv.nd pv.kd, .slice pv.ai fv.ni pv.ki, .slice pv.a4 fv.nt pv.kt] 29)
  replace s_G := s_G.alloc (.cells #[.int .i64 fv.W, .int .i64 fv.H, .slice pv.ac fv.nc pv.kc, .slice pv.ad fv.nd pv.kd, .slice pv.ai fv.ni pv.ki, .slice pv.a4 fv.nt pv.kt] 29)
  replace s_K := s_K.alloc (.cells #[.int .i64 fv.W, .int .i64 fv.H, .slice pv.ac fv.nc pv.kc, .slice pv.ad fv.nd pv.kd, .slice pv.ai fv.ni pv.ki, .slice pv.a4 fv.nt pv.kt] 29)
  replace s_O := s_O.alloc (.cells #[.int .i64 fv.W, .int .i64 fv.H, .slice pv.ac fv.nc pv.kc, .slice pv.ad fv.nd pv.kd, .slice pv.ai fv.ni pv.ki, .slice pv.a4 fv.nt pv.kt] 29)
  replace s_A := s_A.alloc (.cells #[.int .i64 fv.W, .int .i64 fv.H, .slice pv.ac fv.nc pv.kc, .slice pv.ad fv.nd pv.kd, .slice pv.ai fv.ni pv.ki, .slice pv.a4 fv.nt pv.kt] 29)
  replace s_Bb := s_Bb.alloc (.cells #[.int .i64 fv.W, .int .i64 fv.H, .slice pv.ac fv.nc pv.kc, .slice pv.ad fv.nd pv.kd, .slice pv.ai fv.ni pv.ki, .slice pv.a4 fv.nt pv.kt] 29)
  replace s_U := s_U.alloc (.cells #[.int .i64 fv.W, .int .i64 fv.H, .slice pv.ac fv.nc pv.kc, .slice pv.ad fv.nd pv.kd, .slice pv.ai fv.ni pv.ki, .slice pv.a4 fv.nt pv.kt] 29)
  have s_V : HasBlk (w6.alloc (.cells #[.int .i64 fv.W, .int .i64 fv.H, .slice pv.ac fv.nc pv.kc, .slice pv.ad fv.nd pv.kd, .slice pv.ai fv.ni pv.ki, .slice pv.a4 fv.nt pv.kt] 29)) (w6.heap.size) 29 #[.int .i64 fv.W, .int .i64 fv.H, .slice pv.ac fv.nc pv.kc, .slice pv.ad fv.nd pv.kd, .slice pv.ai fv.ni pv.ki, .slice pv.a4 fv.nt pv.kt] := by simpa using hasBlk_new w6 29 #[.int .i64 fv.W, .int .i64 fv.H, .slice pv.ac fv.nc pv.kc, .slice pv.ad fv.nd pv.kd, .slice pv.ai fv.ni pv.ki, .slice pv.a4 fv.nt pv.kt]
  have t_Fb : HasBlk (w6.alloc (.cells #[.int .i64 fv.W, .int .i64 fv.H, .slice pv.ac fv.nc pv.kc, .slice pv.ad fv.nd pv.kd, .slice pv.ai fv.ni pv.ki, .slice pv.a4 fv.nt pv.kt] 29)) (w.heap.size) 29 #[.int .i64 f.W, .int .i64 f.H, .slice p.ac f.nc p.kc, .slice p.ad f.nd p.kd, .slice p.ai f.ni p.ki, .slice p.a4 f.nt p.kt] := by simpa using s_Fb
  clear s_Fb Fb
  have t_G : HasBlk (w6.alloc (.cells #[.int .i64 fv.W, .int .i64 fv.H, .slice pv.ac fv.nc pv.kc, .slice pv.ad fv.nd pv.kd, .slice pv.ai fv.ni pv.ki, .slice pv.a4 fv.nt pv.kt] 29)) (w.heap.size + 1) 25 #[.int .i64 d, .int .i64 i, .int .i64 t, .int .i64 p9, .int .i64 u9, .int .i64 v9] := by simpa using s_G
  clear s_G G
  have t_K : HasBlk (w6.alloc (.cells #[.int .i64 fv.W, .int .i64 fv.H, .slice pv.ac fv.nc pv.kc, .slice pv.ad fv.nd pv.kd, .slice pv.ai fv.ni pv.ki, .slice pv.a4 fv.nt pv.kt] 29)) (w.heap.size + 1 + 1) 23 #[.int .u8 (c 0), .int .u8 (c 1), .int .u8 (c 2), .int .u8 (c 3)] := by simpa using s_K
  clear s_K K
  have t_O : HasBlk (w6.alloc (.cells #[.int .i64 fv.W, .int .i64 fv.H, .slice pv.ac fv.nc pv.kc, .slice pv.ad fv.nd pv.kd, .slice pv.ai fv.ni pv.ki, .slice pv.a4 fv.nt pv.kt] 29)) (w2.heap.size) 29 #[.int .i64 f.W, .int .i64 f.H, .slice q.ac f.nc q.kc, .slice q.ad f.nd q.kd, .slice q.ai f.ni q.ki, .slice q.a4 f.nt q.kt] := by simpa using s_O
  clear s_O O
  have t_A : HasBlk (w6.alloc (.cells #[.int .i64 fv.W, .int .i64 fv.H, .slice pv.ac fv.nc pv.kc, .slice pv.ad fv.nd pv.kd, .slice pv.ai fv.ni pv.ki, .slice pv.a4 fv.nt pv.kt] 29)) (w3.heap.size) 29 #[.int .i64 fb.W, .int .i64 fb.H, .slice pa.ac fb.nc pa.kc, .slice pa.ad fb.nd pa.kd, .slice pa.ai fb.ni pa.ki, .slice pa.a4 fb.nt pa.kt] := by simpa using s_A
  clear s_A A
  have t_Bb : HasBlk (w6.alloc (.cells #[.int .i64 fv.W, .int .i64 fv.H, .slice pv.ac fv.nc pv.kc, .slice pv.ad fv.nd pv.kd, .slice pv.ai fv.ni pv.ki, .slice pv.a4 fv.nt pv.kt] 29)) (w4.heap.size) 29 #[.int .i64 fb.W, .int .i64 fb.H, .slice pb.ac fb.nc pb.kc, .slice pb.ad fb.nd pb.kd, .slice pb.ai fb.ni pb.ki, .slice pb.a4 fb.nt pb.kt] := by simpa using s_Bb
  clear s_Bb Bb
  have t_U : HasBlk (w6.alloc (.cells #[.int .i64 fv.W, .int .i64 fv.H, .slice pv.ac fv.nc pv.kc, .slice pv.ad fv.nd pv.kd, .slice pv.ai fv.ni pv.ki, .slice pv.a4 fv.nt pv.kt] 29)) (w5.heap.size) 29 #[.int .i64 fv.W, .int .i64 fv.H, .slice pu.ac fv.nc pu.kc, .slice pu.ad fv.nd pu.kd, .slice pu.ai fv.ni pu.ki, .slice pu.a4 fv.nt pu.kt] := by simpa using s_U
  clear s_U U
  have t_V : HasBlk (w6.alloc (.cells #[.int .i64 fv.W, .int .i64 fv.H, .slice pv.ac fv.nc pv.kc, .slice pv.ad fv.nd pv.kd, .slice pv.ai fv.ni pv.ki, .slice pv.a4 fv.nt pv.kt] 29)) (w6.heap.size) 29 #[.int .i64 fv.W, .int .i64 fv.H, .slice pv.ac fv.nc pv.kc, .slice pv.ad fv.nd pv.kd, .slice pv.ai fv.ni pv.ki, .slice pv.a4 fv.nt pv.kt] := by simpa using s_V
  clear s_V
  have SB12 : Below v1.heap.size v1 (w6.alloc (.cells #[.int .i64 fv.W, .int .i64 fv.H, .slice pv.ac fv.nc pv.kc, .slice pv.ad fv.nd pv.kd, .slice pv.ai fv.ni pv.ki, .slice pv.a4 fv.nt pv.kt] 29)) := by
    have bel0 := SB11h.out
    repeat' (first | exact Below.refl _ _ | assumption | apply Below.drew | refine Below.setCell ?_ (by first | omega | (simp; done) | (simp; omega)) _ | refine Below.alloc ?_ (by first | omega | (simp; done) | (simp; omega)) _)
  clear lt_Fb Fb_0 Fb_1 Fb_2 Fb_3 Fb_4 Fb_5 lt_G G_0 G_1 G_2 G_3 G_4 G_5 lt_K K_0 K_1 K_2 K_3 lt_O O_0 O_1 O_2 O_3 O_4 O_5 lt_A A_0 A_1 A_2 A_3 A_4 A_5 lt_Bb Bb_0 Bb_1 Bb_2 Bb_3 Bb_4 Bb_5 lt_U U_0 U_1 U_2 U_3 U_4 U_5
  generalize gW_v5 : (w6.alloc (.cells #[.int .i64 fv.W, .int .i64 fv.H, .slice pv.ac fv.nc pv.kc, .slice pv.ad fv.nd pv.kd, .slice pv.ai fv.ni pv.ki, .slice pv.a4 fv.nt pv.kt] 29)) = v5 at *
  clear gW_v5
  have Fb := Lib.hid t_Fb
  clear t_Fb
  have G := Lib.hid t_G
  clear t_G
  have K := Lib.hid t_K
  clear t_K
  have O := Lib.hid t_O
  clear t_O
  have A := Lib.hid t_A
  clear t_A
  have Bb := Lib.hid t_Bb
  clear t_Bb
  have U := Lib.hid t_U
  clear t_U
  have V := Lib.hid t_V
  clear t_V
  clear SB11h
  have SB12h := Lib.hid SB12
  clear SB12
  have OA := Lib.hid OAa
  clear OAa
  have OB := Lib.hid OBa
  clear OBa
  have OU := Lib.hid OUa
  clear OUa
  have OV := Lib.hid OVa
  clear OVa
  have lt_Fb := Fb.out.lt
  have Fb_0 := Fb.out.cell 0
  have Fb_1 := Fb.out.cell 1
  have Fb_2 := Fb.out.cell 2
  have Fb_3 := Fb.out.cell 3
  have Fb_4 := Fb.out.cell 4
  have Fb_5 := Fb.out.cell 5
  simp at Fb_0 Fb_1 Fb_2 Fb_3 Fb_4 Fb_5
  have lt_G := G.out.lt
  have G_0 := G.out.cell 0
  have G_1 := G.out.cell 1
  have G_2 := G.out.cell 2
  have G_3 := G.out.cell 3
  have G_4 := G.out.cell 4
  have G_5 := G.out.cell 5
  simp at G_0 G_1 G_2 G_3 G_4 G_5
  have lt_K := K.out.lt
  have K_0 := K.out.cell 0
  have K_1 := K.out.cell 1
  have K_2 := K.out.cell 2
  have K_3 := K.out.cell 3
  simp at K_0 K_1 K_2 K_3
  have lt_O := O.out.lt
  have O_0 := O.out.cell 0
  have O_1 := O.out.cell 1
  have O_2 := O.out.cell 2
  have O_3 := O.out.cell 3
  have O_4 := O.out.cell 4
  have O_5 := O.out.cell 5
  simp at O_0 O_1 O_2 O_3 O_4 O_5
  have lt_A := A.out.lt
  have A_0 := A.out.cell 0
  have A_1 := A.out.cell 1
  have A_2 := A.out.cell 2
  have A_3 := A.out.cell 3
  have A_4 := A.out.cell 4
  have A_5 := A.out.cell 5
  simp at A_0 A_1 A_2 A_3 A_4 A_5
  have lt_Bb := Bb.out.lt
  have Bb_0 := Bb.out.cell 0
  have Bb_1 := Bb.out.cell 1
  have Bb_2 := Bb.out.cell 2
  have Bb_3 := Bb.out.cell 3
  have Bb_4 := Bb.out.cell 4
  have Bb_5 := Bb.out.cell 5
  simp at Bb_0 Bb_1 Bb_2 Bb_3 Bb_4 Bb_5
  have lt_U := U.out.lt
  have U_0 := U.out.cell 0
  have U_1 := U.out.cell 1
  have U_2 := U.out.cell 2
  have U_3 := U.out.cell 3
  have U_4 := U.out.cell 4
  have U_5 := U.out.cell 5
  simp at U_0 U_1 U_2 U_3 U_4 U_5
  have lt_V := V.out.lt
  have V_0 := V.out.cell 0
  have V_1 := V.out.cell 1
  have V_2 := V.out.cell 2
  have V_3 := V.out.cell 3
  have V_4 := V.out.cell 4
  have V_5 := V.out.cell 5
  simp at V_0 V_1 V_2 V_3 V_4 V_5
  have szB_v5 := SB12h.out.size
  have szA := Lib.hid (Nat.le_trans sz_v2 (Nat.le_trans sz_w4 sz_v3))
  have sz13 := Lib.hid (Nat.le_trans sz_w3 szA.out)
  have sz35 := Lib.hid (Nat.le_trans sz_w5 (Nat.le_trans sz_v4 (Nat.le_trans sz_w6 sz_v5)))
  clear sz_v2 sz_v3 sz_v4 sz_v5 sz_w3 sz_w4 sz_w5 sz_w6
  have EA := Lib.hid (VA.out.even Hft.out)
  have EU := Lib.hid (VU.out.even Hft.out)
  by_cases hm : f.May
  · have Hm := Lib.hid hm
    clear hm
    by_cases hs : FD.Same fb fv
    · have Hs := Lib.hid hs
      clear hs
      have k1 := Lib.hid (fun b : BW v5 => BW.call (v := .bool true) (fun W' (h : Below v5.heap.size v5 W') => eqr_fix (refsame_any pa pb fb fb W' (OA.out.ok.below h) (OB.out.below h) EA.out.bd) ⟨fun _ => FD.Same.refl _, fun _ => rfl⟩) b)
      have k2 := Lib.hid (fun b : BW v5 => BW.call (v := .bool true) (fun W' (h : Below v5.heap.size v5 W') => eqr_fix (refsame_any pu pv fv fv W' (OU.out.ok.below h) (OV.out.below h) EU.out.bd) ⟨fun _ => FD.Same.refl _, fun _ => rfl⟩) b)
      have k3 := Lib.hid (fun b : BW v5 => BW.call (v := .int .i64 0) (fun W' (h : Below v5.heap.size v5 W') => check_fix (check_any q f W' (KQ0.out.below (SB12h.out.trans (h.mono SB12h.out.size)))) (.inl ⟨Hm.out, rfl⟩)) b)
      have k4 := Lib.hid (fun b : BW v5 => BW.call (v := .bool true) (fun W' (h : Below v5.heap.size v5 W') => eqr_fix (refmay_any p f W' (KF0.out.below (SB12h.out.trans (h.mono SB12h.out.size)))) ⟨fun _ => Hm.out, fun _ => rfl⟩) b)
      have k5 := Lib.hid (fun b : BW v5 => BW.call (v := .bool true) (fun W' (h : Below v5.heap.size v5 W') => eqr_fix (same_any pa pu fb fv W' (OA.out.ok.below h) (OU.out.ok.below h) EA.out.bd) ⟨fun _ => Hs.out, fun _ => rfl⟩) b)
      have k6 := Lib.hid (fun b : BW v5 => BW.call (v := .bool true) (fun W' (h : Below v5.heap.size v5 W') => eqr_fix (refsame_any pb pv fb fv W' (OB.out.below h) (OV.out.below h) EA.out.bd) ⟨fun _ => Hs.out, fun _ => rfl⟩) b)
      have p_Fb_0 := fun b : BW v5 => BW.cell Fb_0 lt_Fb b
      have p_Fb_1 := fun b : BW v5 => BW.cell Fb_1 lt_Fb b
      have p_Fb_2 := fun b : BW v5 => BW.cell Fb_2 lt_Fb b
      have p_Fb_3 := fun b : BW v5 => BW.cell Fb_3 lt_Fb b
      have p_Fb_4 := fun b : BW v5 => BW.cell Fb_4 lt_Fb b
      have p_Fb_5 := fun b : BW v5 => BW.cell Fb_5 lt_Fb b
      have p_O_0 := fun b : BW v5 => BW.cell O_0 lt_O b
      have p_O_1 := fun b : BW v5 => BW.cell O_1 lt_O b
      have p_O_2 := fun b : BW v5 => BW.cell O_2 lt_O b
      have p_O_3 := fun b : BW v5 => BW.cell O_3 lt_O b
      have p_O_4 := fun b : BW v5 => BW.cell O_4 lt_O b
      have p_O_5 := fun b : BW v5 => BW.cell O_5 lt_O b
      have p_A_0 := fun b : BW v5 => BW.cell A_0 lt_A b
      have p_A_1 := fun b : BW v5 => BW.cell A_1 lt_A b
      have p_A_2 := fun b : BW v5 => BW.cell A_2 lt_A b
      have p_A_3 := fun b : BW v5 => BW.cell A_3 lt_A b
      have p_A_4 := fun b : BW v5 => BW.cell A_4 lt_A b
      have p_A_5 := fun b : BW v5 => BW.cell A_5 lt_A b
      have p_Bb_0 := fun b : BW v5 => BW.cell Bb_0 lt_Bb b
      have p_Bb_1 := fun b : BW v5 => BW.cell Bb_1 lt_Bb b
      have p_Bb_2 := fun b : BW v5 => BW.cell Bb_2 lt_Bb b
      have p_Bb_3 := fun b : BW v5 => BW.cell Bb_3 lt_Bb b
      have p_Bb_4 := fun b : BW v5 => BW.cell Bb_4 lt_Bb b
      have p_Bb_5 := fun b : BW v5 => BW.cell Bb_5 lt_Bb b
      have p_U_0 := fun b : BW v5 => BW.cell U_0 lt_U b
      have p_U_1 := fun b : BW v5 => BW.cell U_1 lt_U b
      have p_U_2 := fun b : BW v5 => BW.cell U_2 lt_U b
      have p_U_3 := fun b : BW v5 => BW.cell U_3 lt_U b
      have p_U_4 := fun b : BW v5 => BW.cell U_4 lt_U b
      have p_U_5 := fun b : BW v5 => BW.cell U_5 lt_U b
      have p_V_0 := fun b : BW v5 => BW.cell V_0 lt_V b
      have p_V_1 := fun b : BW v5 => BW.cell V_1 lt_V b
      have p_V_2 := fun b : BW v5 => BW.cell V_2 lt_V b
      have p_V_3 := fun b : BW v5 => BW.cell V_3 lt_V b
      have p_V_4 := fun b : BW v5 => BW.cell V_4 lt_V b
      have p_V_5 := fun b : BW v5 => BW.cell V_5 lt_V b
      clear lt_Fb Fb_0 Fb_1 Fb_2 Fb_3 Fb_4 Fb_5 lt_G G_0 G_1 G_2 G_3 G_4 G_5 lt_K K_0 K_1 K_2 K_3 lt_O O_0 O_1 O_2 O_3 O_4 O_5 lt_A A_0 A_1 A_2 A_3 A_4 A_5 lt_Bb Bb_0 Bb_1 Bb_2 Bb_3 Bb_4 Bb_5 lt_U U_0 U_1 U_2 U_3 U_4 U_5 lt_V V_0 V_1 V_2 V_3 V_4 V_5
      refine wp_region_quiet_bw (by kernel_rfl) (by kernel_rfl) ?_
      repeat (go_big_quiet_step ((first | (go_at_call 15; first | with_reducible exact k1.out _ | with_reducible exact k2.out _ | with_reducible exact k6.out _) | (go_at_call 24; with_reducible exact k3.out _) | (go_at_call 25; with_reducible exact k4.out _) | (go_at_call 26; with_reducible exact k5.out _))))
      refine wpQuiet_nil ?_
      intro _ hw'
      obtain ⟨pq, hw''⟩ := hw'
      subst hw''
      have belq := pq.h
      have sz7 := Lib.hid (Nat.le_trans sz35.out belq.size)
      clear p_Fb_0 p_Fb_1 p_Fb_2 p_Fb_3 p_Fb_4 p_Fb_5 p_O_0 p_O_1 p_O_2 p_O_3 p_O_4 p_O_5 p_A_0 p_A_1 p_A_2 p_A_3 p_A_4 p_A_5 p_Bb_0 p_Bb_1 p_Bb_2 p_Bb_3 p_Bb_4 p_Bb_5 p_U_0 p_U_1 p_U_2 p_U_3 p_U_4 p_U_5 p_V_0 p_V_1 p_V_2 p_V_3 p_V_4 p_V_5 k1 k2 k3 k4 k5 k6
      generalize pq.W = w7 at *
      clear pq
      clear Bb V G K OB OV
      have OAa := OA.out.below belq
      clear OA
      have OA := Lib.hid OAa
      clear OAa
      have OUa := OU.out.below belq
      clear OU
      have OU := Lib.hid OUa
      clear OUa
      have t_Fb := Fb.out.below belq
      clear Fb
      have Fb := Lib.hid t_Fb
      clear t_Fb
      have t_O := O.out.below belq
      clear O
      have O := Lib.hid t_O
      clear t_O
      have t_A := A.out.below belq
      clear A
      have A := Lib.hid t_A
      clear t_A
      have t_U := U.out.below belq
      clear U
      have U := Lib.hid t_U
      clear t_U
      have SB13 : Below v1.heap.size v1 w7 := SB12h.out.trans (belq.mono SB12h.out.size)
      clear SB12h belq
      have SB13h := Lib.hid SB13
      clear SB13
      have lt_Fb := Fb.out.lt
      have lt_O := O.out.lt
      have lt_A := A.out.lt
      have A_0 := A.out.cell 0
      have A_1 := A.out.cell 1
      have A_2 := A.out.cell 2
      have A_3 := A.out.cell 3
      have A_4 := A.out.cell 4
      have A_5 := A.out.cell 5
      simp at A_0 A_1 A_2 A_3 A_4 A_5
      have lt_U := U.out.lt
      have szB_w7 := SB13h.out.size
      go_wp2_with fail
      refine (turn_any pa fb v1.heap.size w3 _ OA.out OA0.out (Nat.le_trans (Nat.le_refl _) SB13h.out.size) EA.out.1 EA.out.2).mono ?_
      rintro e w8 ⟨rfl, bel8, hkf, hko⟩
      have OUa := hko _ _ _ szA.out OU.out
      have sz8 := Lib.hid (Nat.le_trans sz7.out bel8.size)
      have SB90h := Lib.hid (SB13h.out.trans bel8)
      have t_Fb := hkf _ _ Fb.out
      clear Fb
      have Fb := Lib.hid t_Fb
      clear t_Fb
      have t_O := hkf _ _ O.out
      clear O
      have O := Lib.hid t_O
      clear t_O
      have t_U := hkf _ _ U.out
      clear U
      have U := Lib.hid t_U
      clear t_U
      clear lt_Fb lt_O lt_A A_0 A_1 A_2 A_3 A_4 A_5 lt_U OU OA A SB13h bel8 hkf hko
      have OU := Lib.hid OUa
      clear OUa
      have lt_Fb := Fb.out.lt
      have lt_O := O.out.lt
      have lt_U := U.out.lt
      have U_0 := U.out.cell 0
      have U_1 := U.out.cell 1
      have U_2 := U.out.cell 2
      have U_3 := U.out.cell 3
      have U_4 := U.out.cell 4
      have U_5 := U.out.cell 5
      simp at U_0 U_1 U_2 U_3 U_4 U_5
      have szB_w8 := SB90h.out.size
      go_wp2_with fail
      refine (turn_any pu fv v3.heap.size w5 _ OU.out OU0.out sz8.out EU.out.1 EU.out.2).mono ?_
      rintro e w9 ⟨rfl, bel9, hkf, hko⟩
      have SB91h := Lib.hid (SB90h.out.trans (bel9.mono sz13.out))
      have t_Fb := hkf _ _ Fb.out
      clear Fb
      have Fb := Lib.hid t_Fb
      clear t_Fb
      have t_O := hkf _ _ O.out
      clear O
      have O := Lib.hid t_O
      clear t_O
      clear lt_Fb lt_O lt_U U_0 U_1 U_2 U_3 U_4 U_5 OU U SB90h bel9 hkf hko
      have lt_Fb := Fb.out.lt
      have Fb_0 := Fb.out.cell 0
      have Fb_1 := Fb.out.cell 1
      have Fb_2 := Fb.out.cell 2
      have Fb_3 := Fb.out.cell 3
      have Fb_4 := Fb.out.cell 4
      have Fb_5 := Fb.out.cell 5
      simp at Fb_0 Fb_1 Fb_2 Fb_3 Fb_4 Fb_5
      have lt_O := O.out.lt
      have O_0 := O.out.cell 0
      have O_1 := O.out.cell 1
      have O_2 := O.out.cell 2
      have O_3 := O.out.cell 3
      have O_4 := O.out.cell 4
      have O_5 := O.out.cell 5
      simp at O_0 O_1 O_2 O_3 O_4 O_5
      have szB_w9 := SB91h.out.size
      go_wp2_with fail
      refine (refsame_any q p f f _ (KQ0.out.below SB91h.out) (KF0.out.below SB91h.out) hbd).mono ?_
      rintro e w10 ⟨⟨b, rfl, hb⟩, bel10⟩
      obtain rfl : b = true := hb.mpr (FD.Same.refl _)
      clear hb lt_Fb Fb_0 Fb_1 Fb_2 Fb_3 Fb_4 Fb_5 lt_O O_0 O_1 O_2 O_3 O_4 O_5
      go_wp2
      go_ret
      exact ⟨rfl, HB0.out.trans ((SB91h.out.trans (bel10.mono SB91h.out.size)).mono HB0.out.size)⟩
    have Hs := Lib.hid hs
    clear hs
    have k1 := Lib.hid (fun b : BW v5 => BW.call (v := .bool true) (fun W' (h : Below v5.heap.size v5 W') => eqr_fix (refsame_any pa pb fb fb W' (OA.out.ok.below h) (OB.out.below h) EA.out.bd) ⟨fun _ => FD.Same.refl _, fun _ => rfl⟩) b)
    have k2 := Lib.hid (fun b : BW v5 => BW.call (v := .bool true) (fun W' (h : Below v5.heap.size v5 W') => eqr_fix (refsame_any pu pv fv fv W' (OU.out.ok.below h) (OV.out.below h) EU.out.bd) ⟨fun _ => FD.Same.refl _, fun _ => rfl⟩) b)
    have k3 := Lib.hid (fun b : BW v5 => BW.call (v := .int .i64 0) (fun W' (h : Below v5.heap.size v5 W') => check_fix (check_any q f W' (KQ0.out.below (SB12h.out.trans (h.mono SB12h.out.size)))) (.inl ⟨Hm.out, rfl⟩)) b)
    have k4 := Lib.hid (fun b : BW v5 => BW.call (v := .bool true) (fun W' (h : Below v5.heap.size v5 W') => eqr_fix (refmay_any p f W' (KF0.out.below (SB12h.out.trans (h.mono SB12h.out.size)))) ⟨fun _ => Hm.out, fun _ => rfl⟩) b)
    have k5 := Lib.hid (fun b : BW v5 => BW.call (v := .bool false) (fun W' (h : Below v5.heap.size v5 W') => eqr_fix (same_any pa pu fb fv W' (OA.out.ok.below h) (OU.out.ok.below h) EA.out.bd) ⟨fun z => (by cases z), fun z => absurd z Hs.out⟩) b)
    have k6 := Lib.hid (fun b : BW v5 => BW.call (v := .bool false) (fun W' (h : Below v5.heap.size v5 W') => eqr_fix (refsame_any pb pv fb fv W' (OB.out.below h) (OV.out.below h) EA.out.bd) ⟨fun z => (by cases z), fun z => absurd z Hs.out⟩) b)
    have p_Fb_0 := fun b : BW v5 => BW.cell Fb_0 lt_Fb b
    have p_Fb_1 := fun b : BW v5 => BW.cell Fb_1 lt_Fb b
    have p_Fb_2 := fun b : BW v5 => BW.cell Fb_2 lt_Fb b
    have p_Fb_3 := fun b : BW v5 => BW.cell Fb_3 lt_Fb b
    have p_Fb_4 := fun b : BW v5 => BW.cell Fb_4 lt_Fb b
    have p_Fb_5 := fun b : BW v5 => BW.cell Fb_5 lt_Fb b
    have p_O_0 := fun b : BW v5 => BW.cell O_0 lt_O b
    have p_O_1 := fun b : BW v5 => BW.cell O_1 lt_O b
    have p_O_2 := fun b : BW v5 => BW.cell O_2 lt_O b
    have p_O_3 := fun b : BW v5 => BW.cell O_3 lt_O b
    have p_O_4 := fun b : BW v5 => BW.cell O_4 lt_O b
    have p_O_5 := fun b : BW v5 => BW.cell O_5 lt_O b
    have p_A_0 := fun b : BW v5 => BW.cell A_0 lt_A b
    have p_A_1 := fun b : BW v5 => BW.cell A_1 lt_A b
    have p_A_2 := fun b : BW v5 => BW.cell A_2 lt_A b
    have p_A_3 := fun b : BW v5 => BW.cell A_3 lt_A b
    have p_A_4 := fun b : BW v5 => BW.cell A_4 lt_A b
    have p_A_5 := fun b : BW v5 => BW.cell A_5 lt_A b
    have p_Bb_0 := fun b : BW v5 => BW.cell Bb_0 lt_Bb b
    have p_Bb_1 := fun b : BW v5 => BW.cell Bb_1 lt_Bb b
    have p_Bb_2 := fun b : BW v5 => BW.cell Bb_2 lt_Bb b
    have p_Bb_3 := fun b : BW v5 => BW.cell Bb_3 lt_Bb b
    have p_Bb_4 := fun b : BW v5 => BW.cell Bb_4 lt_Bb b
    have p_Bb_5 := fun b : BW v5 => BW.cell Bb_5 lt_Bb b
    have p_U_0 := fun b : BW v5 => BW.cell U_0 lt_U b
    have p_U_1 := fun b : BW v5 => BW.cell U_1 lt_U b
    have p_U_2 := fun b : BW v5 => BW.cell U_2 lt_U b
    have p_U_3 := fun b : BW v5 => BW.cell U_3 lt_U b
    have p_U_4 := fun b : BW v5 => BW.cell U_4 lt_U b
    have p_U_5 := fun b : BW v5 => BW.cell U_5 lt_U b
    have p_V_0 := fun b : BW v5 => BW.cell V_0 lt_V b
    have p_V_1 := fun b : BW v5 => BW.cell V_1 lt_V b
    have p_V_2 := fun b : BW v5 => BW.cell V_2 lt_V b
    have p_V_3 := fun b : BW v5 => BW.cell V_3 lt_V b
    have p_V_4 := fun b : BW v5 => BW.cell V_4 lt_V b
    have p_V_5 := fun b : BW v5 => BW.cell V_5 lt_V b
    clear lt_Fb Fb_0 Fb_1 Fb_2 Fb_3 Fb_4 Fb_5 lt_G G_0 G_1 G_2 G_3 G_4 G_5 lt_K K_0 K_1 K_2 K_3 lt_O O_0 O_1 O_2 O_3 O_4 O_5 lt_A A_0 A_1 A_2 A_3 A_4 A_5 lt_Bb Bb_0 Bb_1 Bb_2 Bb_3 Bb_4 Bb_5 lt_U U_0 U_1 U_2 U_3 U_4 U_5 lt_V V_0 V_1 V_2 V_3 V_4 V_5
    refine wp_region_quiet_bw (by kernel_rfl) (by kernel_rfl) ?_
    repeat (go_big_quiet_step ((first | (go_at_call 15; first | with_reducible exact k1.out _ | with_reducible exact k2.out _ | with_reducible exact k6.out _) | (go_at_call 24; with_reducible exact k3.out _) | (go_at_call 25; with_reducible exact k4.out _) | (go_at_call 26; with_reducible exact k5.out _))))
    refine wpQuiet_nil ?_
    intro _ hw'
    obtain ⟨pq, hw''⟩ := hw'
    subst hw''
    have belq := pq.h
    have sz7 := Lib.hid (Nat.le_trans sz35.out belq.size)
    clear p_Fb_0 p_Fb_1 p_Fb_2 p_Fb_3 p_Fb_4 p_Fb_5 p_O_0 p_O_1 p_O_2 p_O_3 p_O_4 p_O_5 p_A_0 p_A_1 p_A_2 p_A_3 p_A_4 p_A_5 p_Bb_0 p_Bb_1 p_Bb_2 p_Bb_3 p_Bb_4 p_Bb_5 p_U_0 p_U_1 p_U_2 p_U_3 p_U_4 p_U_5 p_V_0 p_V_1 p_V_2 p_V_3 p_V_4 p_V_5 k1 k2 k3 k4 k5 k6
    generalize pq.W = w7 at *
    clear pq
    clear Bb V G K OB OV
    have OAa := OA.out.below belq
    clear OA
    have OA := Lib.hid OAa
    clear OAa
    have OUa := OU.out.below belq
    clear OU
    have OU := Lib.hid OUa
    clear OUa
    have t_Fb := Fb.out.below belq
    clear Fb
    have Fb := Lib.hid t_Fb
    clear t_Fb
    have t_O := O.out.below belq
    clear O
    have O := Lib.hid t_O
    clear t_O
    have t_A := A.out.below belq
    clear A
    have A := Lib.hid t_A
    clear t_A
    have t_U := U.out.below belq
    clear U
    have U := Lib.hid t_U
    clear t_U
    have SB13 : Below v1.heap.size v1 w7 := SB12h.out.trans (belq.mono SB12h.out.size)
    clear SB12h belq
    have SB13h := Lib.hid SB13
    clear SB13
    have lt_Fb := Fb.out.lt
    have lt_O := O.out.lt
    have lt_A := A.out.lt
    have A_0 := A.out.cell 0
    have A_1 := A.out.cell 1
    have A_2 := A.out.cell 2
    have A_3 := A.out.cell 3
    have A_4 := A.out.cell 4
    have A_5 := A.out.cell 5
    simp at A_0 A_1 A_2 A_3 A_4 A_5
    have lt_U := U.out.lt
    have szB_w7 := SB13h.out.size
    go_wp2_with fail
    refine (turn_any pa fb v1.heap.size w3 _ OA.out OA0.out (Nat.le_trans (Nat.le_refl _) SB13h.out.size) EA.out.1 EA.out.2).mono ?_
    rintro e w8 ⟨rfl, bel8, hkf, hko⟩
    have OUa := hko _ _ _ szA.out OU.out
    have sz8 := Lib.hid (Nat.le_trans sz7.out bel8.size)
    have SB90h := Lib.hid (SB13h.out.trans bel8)
    have t_Fb := hkf _ _ Fb.out
    clear Fb
    have Fb := Lib.hid t_Fb
    clear t_Fb
    have t_O := hkf _ _ O.out
    clear O
    have O := Lib.hid t_O
    clear t_O
    have t_U := hkf _ _ U.out
    clear U
    have U := Lib.hid t_U
    clear t_U
    clear lt_Fb lt_O lt_A A_0 A_1 A_2 A_3 A_4 A_5 lt_U OU OA A SB13h bel8 hkf hko
    have OU := Lib.hid OUa
    clear OUa
    have lt_Fb := Fb.out.lt
    have lt_O := O.out.lt
    have lt_U := U.out.lt
    have U_0 := U.out.cell 0
    have U_1 := U.out.cell 1
    have U_2 := U.out.cell 2
    have U_3 := U.out.cell 3
    have U_4 := U.out.cell 4
    have U_5 := U.out.cell 5
    simp at U_0 U_1 U_2 U_3 U_4 U_5
    have szB_w8 := SB90h.out.size
    go_wp2_with fail
    refine (turn_any pu fv v3.heap.size w5 _ OU.out OU0.out sz8.out EU.out.1 EU.out.2).mono ?_
    rintro e w9 ⟨rfl, bel9, hkf, hko⟩
    have SB91h := Lib.hid (SB90h.out.trans (bel9.mono sz13.out))
    have t_Fb := hkf _ _ Fb.out
    clear Fb
    have Fb := Lib.hid t_Fb
    clear t_Fb
    have t_O := hkf _ _ O.out
    clear O
    have O := Lib.hid t_O
    clear t_O
    clear lt_Fb lt_O lt_U U_0 U_1 U_2 U_3 U_4 U_5 OU U SB90h bel9 hkf hko
    have lt_Fb := Fb.out.lt
    have Fb_0 := Fb.out.cell 0
    have Fb_1 := Fb.out.cell 1
    have Fb_2 := Fb.out.cell 2
    have Fb_3 := Fb.out.cell 3
    have Fb_4 := Fb.out.cell 4
    have Fb_5 := Fb.out.cell 5
    simp at Fb_0 Fb_1 Fb_2 Fb_3 Fb_4 Fb_5
    have lt_O := O.out.lt
    have O_0 := O.out.cell 0
    have O_1 := O.out.cell 1
    have O_2 := O.out.cell 2
    have O_3 := O.out.cell 3
    have O_4 := O.out.cell 4
    have O_5 := O.out.cell 5
    simp at O_0 O_1 O_2 O_3 O_4 O_5
    have szB_w9 := SB91h.out.size
    go_wp2_with fail
    refine (refsame_any q p f f _ (KQ0.out.below SB91h.out) (KF0.out.below SB91h.out) hbd).mono ?_
    rintro e w10 ⟨⟨b, rfl, hb⟩, bel10⟩
    obtain rfl : b = true := hb.mpr (FD.Same.refl _)
    clear hb lt_Fb Fb_0 Fb_1 Fb_2 Fb_3 Fb_4 Fb_5 lt_O O_0 O_1 O_2 O_3 O_4 O_5
    go_wp2
    go_ret
    exact ⟨rfl, HB0.out.trans ((SB91h.out.trans (bel10.mono SB91h.out.size)).mono HB0.out.size)⟩
  have Hm := Lib.hid hm
  clear hm
  by_cases hs : FD.Same fb fv
  · have Hs := Lib.hid hs
    clear hs
    have k1 := Lib.hid (fun b : BW v5 => BW.call (v := .bool true) (fun W' (h : Below v5.heap.size v5 W') => eqr_fix (refsame_any pa pb fb fb W' (OA.out.ok.below h) (OB.out.below h) EA.out.bd) ⟨fun _ => FD.Same.refl _, fun _ => rfl⟩) b)
    have k2 := Lib.hid (fun b : BW v5 => BW.call (v := .bool true) (fun W' (h : Below v5.heap.size v5 W') => eqr_fix (refsame_any pu pv fv fv W' (OU.out.ok.below h) (OV.out.below h) EU.out.bd) ⟨fun _ => FD.Same.refl _, fun _ => rfl⟩) b)
    have k3 := Lib.hid (fun b : BW v5 => BW.call (v := .int .i64 8) (fun W' (h : Below v5.heap.size v5 W') => check_fix (check_any q f W' (KQ0.out.below (SB12h.out.trans (h.mono SB12h.out.size)))) (.inr ⟨Hm.out, rfl⟩)) b)
    have k4 := Lib.hid (fun b : BW v5 => BW.call (v := .bool false) (fun W' (h : Below v5.heap.size v5 W') => eqr_fix (refmay_any p f W' (KF0.out.below (SB12h.out.trans (h.mono SB12h.out.size)))) ⟨fun z => (by cases z), fun z => absurd z Hm.out⟩) b)
    have k5 := Lib.hid (fun b : BW v5 => BW.call (v := .bool true) (fun W' (h : Below v5.heap.size v5 W') => eqr_fix (same_any pa pu fb fv W' (OA.out.ok.below h) (OU.out.ok.below h) EA.out.bd) ⟨fun _ => Hs.out, fun _ => rfl⟩) b)
    have k6 := Lib.hid (fun b : BW v5 => BW.call (v := .bool true) (fun W' (h : Below v5.heap.size v5 W') => eqr_fix (refsame_any pb pv fb fv W' (OB.out.below h) (OV.out.below h) EA.out.bd) ⟨fun _ => Hs.out, fun _ => rfl⟩) b)
    have p_Fb_0 := fun b : BW v5 => BW.cell Fb_0 lt_Fb b
    have p_Fb_1 := fun b : BW v5 => BW.cell Fb_1 lt_Fb b
    have p_Fb_2 := fun b : BW v5 => BW.cell Fb_2 lt_Fb b
    have p_Fb_3 := fun b : BW v5 => BW.cell Fb_3 lt_Fb b
    have p_Fb_4 := fun b : BW v5 => BW.cell Fb_4 lt_Fb b
    have p_Fb_5 := fun b : BW v5 => BW.cell Fb_5 lt_Fb b
    have p_O_0 := fun b : BW v5 => BW.cell O_0 lt_O b
    have p_O_1 := fun b : BW v5 => BW.cell O_1 lt_O b
    have p_O_2 := fun b : BW v5 => BW.cell O_2 lt_O b
    have p_O_3 := fun b : BW v5 => BW.cell O_3 lt_O b
    have p_O_4 := fun b : BW v5 => BW.cell O_4 lt_O b
    have p_O_5 := fun b : BW v5 => BW.cell O_5 lt_O b
    have p_A_0 := fun b : BW v5 => BW.cell A_0 lt_A b
    have p_A_1 := fun b : BW v5 => BW.cell A_1 lt_A b
    have p_A_2 := fun b : BW v5 => BW.cell A_2 lt_A b
    have p_A_3 := fun b : BW v5 => BW.cell A_3 lt_A b
    have p_A_4 := fun b : BW v5 => BW.cell A_4 lt_A b
    have p_A_5 := fun b : BW v5 => BW.cell A_5 lt_A b
    have p_Bb_0 := fun b : BW v5 => BW.cell Bb_0 lt_Bb b
    have p_Bb_1 := fun b : BW v5 => BW.cell Bb_1 lt_Bb b
    have p_Bb_2 := fun b : BW v5 => BW.cell Bb_2 lt_Bb b
    have p_Bb_3 := fun b : BW v5 => BW.cell Bb_3 lt_Bb b
    have p_Bb_4 := fun b : BW v5 => BW.cell Bb_4 lt_Bb b
    have p_Bb_5 := fun b : BW v5 => BW.cell Bb_5 lt_Bb b
    have p_U_0 := fun b : BW v5 => BW.cell U_0 lt_U b
    have p_U_1 := fun b : BW v5 => BW.cell U_1 lt_U b
    have p_U_2 := fun b : BW v5 => BW.cell U_2 lt_U b
    have p_U_3 := fun b : BW v5 => BW.cell U_3 lt_U b
    have p_U_4 := fun b : BW v5 => BW.cell U_4 lt_U b
    have p_U_5 := fun b : BW v5 => BW.cell U_5 lt_U b
    have p_V_0 := fun b : BW v5 => BW.cell V_0 lt_V b
    have p_V_1 := fun b : BW v5 => BW.cell V_1 lt_V b
    have p_V_2 := fun b : BW v5 => BW.cell V_2 lt_V b
    have p_V_3 := fun b : BW v5 => BW.cell V_3 lt_V b
    have p_V_4 := fun b : BW v5 => BW.cell V_4 lt_V b
    have p_V_5 := fun b : BW v5 => BW.cell V_5 lt_V b
    clear lt_Fb Fb_0 Fb_1 Fb_2 Fb_3 Fb_4 Fb_5 lt_G G_0 G_1 G_2 G_3 G_4 G_5 lt_K K_0 K_1 K_2 K_3 lt_O O_0 O_1 O_2 O_3 O_4 O_5 lt_A A_0 A_1 A_2 A_3 A_4 A_5 lt_Bb Bb_0 Bb_1 Bb_2 Bb_3 Bb_4 Bb_5 lt_U U_0 U_1 U_2 U_3 U_4 U_5 lt_V V_0 V_1 V_2 V_3 V_4 V_5
    refine wp_region_quiet_bw (by kernel_rfl) (by kernel_rfl) ?_
    repeat (go_big_quiet_step ((first | (go_at_call 15; first | with_reducible exact k1.out _ | with_reducible exact k2.out _ | with_reducible exact k6.out _) | (go_at_call 24; with_reducible exact k3.out _) | (go_at_call 25; with_reducible exact k4.out _) | (go_at_call 26; with_reducible exact k5.out _))))
    refine wpQuiet_nil ?_
    intro _ hw'
    obtain ⟨pq, hw''⟩ := hw'
    subst hw''
    have belq := pq.h
    have sz7 := Lib.hid (Nat.le_trans sz35.out belq.size)
    clear p_Fb_0 p_Fb_1 p_Fb_2 p_Fb_3 p_Fb_4 p_Fb_5 p_O_0 p_O_1 p_O_2 p_O_3 p_O_4 p_O_5 p_A_0 p_A_1 p_A_2 p_A_3 p_A_4 p_A_5 p_Bb_0 p_Bb_1 p_Bb_2 p_Bb_3 p_Bb_4 p_Bb_5 p_U_0 p_U_1 p_U_2 p_U_3 p_U_4 p_U_5 p_V_0 p_V_1 p_V_2 p_V_3 p_V_4 p_V_5 k1 k2 k3 k4 k5 k6
    generalize pq.W = w7 at *
    clear pq
    clear Bb V G K OB OV
    have OAa := OA.out.below belq
    clear OA
    have OA := Lib.hid OAa
    clear OAa
    have OUa := OU.out.below belq
    clear OU
    have OU := Lib.hid OUa
    clear OUa
    have t_Fb := Fb.out.below belq
    clear Fb
    have Fb := Lib.hid t_Fb
    clear t_Fb
    have t_O := O.out.below belq
    clear O
    have O := Lib.hid t_O
    clear t_O
    have t_A := A.out.below belq
    clear A
    have A := Lib.hid t_A
    clear t_A
    have t_U := U.out.below belq
    clear U
    have U := Lib.hid t_U
    clear t_U
    have SB13 : Below v1.heap.size v1 w7 := SB12h.out.trans (belq.mono SB12h.out.size)
    clear SB12h belq
    have SB13h := Lib.hid SB13
    clear SB13
    have lt_Fb := Fb.out.lt
    have lt_O := O.out.lt
    have lt_A := A.out.lt
    have A_0 := A.out.cell 0
    have A_1 := A.out.cell 1
    have A_2 := A.out.cell 2
    have A_3 := A.out.cell 3
    have A_4 := A.out.cell 4
    have A_5 := A.out.cell 5
    simp at A_0 A_1 A_2 A_3 A_4 A_5
    have lt_U := U.out.lt
    have szB_w7 := SB13h.out.size
    go_wp2_with fail
    refine (turn_any pa fb v1.heap.size w3 _ OA.out OA0.out (Nat.le_trans (Nat.le_refl _) SB13h.out.size) EA.out.1 EA.out.2).mono ?_
    rintro e w8 ⟨rfl, bel8, hkf, hko⟩
    have OUa := hko _ _ _ szA.out OU.out
    have sz8 := Lib.hid (Nat.le_trans sz7.out bel8.size)
    have SB90h := Lib.hid (SB13h.out.trans bel8)
    have t_Fb := hkf _ _ Fb.out
    clear Fb
    have Fb := Lib.hid t_Fb
    clear t_Fb
    have t_O := hkf _ _ O.out
    clear O
    have O := Lib.hid t_O
    clear t_O
    have t_U := hkf _ _ U.out
    clear U
    have U := Lib.hid t_U
    clear t_U
    clear lt_Fb lt_O lt_A A_0 A_1 A_2 A_3 A_4 A_5 lt_U OU OA A SB13h bel8 hkf hko
    have OU := Lib.hid OUa
    clear OUa
    have lt_Fb := Fb.out.lt
    have lt_O := O.out.lt
    have lt_U := U.out.lt
    have U_0 := U.out.cell 0
    have U_1 := U.out.cell 1
    have U_2 := U.out.cell 2
    have U_3 := U.out.cell 3
    have U_4 := U.out.cell 4
    have U_5 := U.out.cell 5
    simp at U_0 U_1 U_2 U_3 U_4 U_5
    have szB_w8 := SB90h.out.size
    go_wp2_with fail
    refine (turn_any pu fv v3.heap.size w5 _ OU.out OU0.out sz8.out EU.out.1 EU.out.2).mono ?_
    rintro e w9 ⟨rfl, bel9, hkf, hko⟩
    have SB91h := Lib.hid (SB90h.out.trans (bel9.mono sz13.out))
    have t_Fb := hkf _ _ Fb.out
    clear Fb
    have Fb := Lib.hid t_Fb
    clear t_Fb
    have t_O := hkf _ _ O.out
    clear O
    have O := Lib.hid t_O
    clear t_O
    clear lt_Fb lt_O lt_U U_0 U_1 U_2 U_3 U_4 U_5 OU U SB90h bel9 hkf hko
    have lt_Fb := Fb.out.lt
    have Fb_0 := Fb.out.cell 0
    have Fb_1 := Fb.out.cell 1
    have Fb_2 := Fb.out.cell 2
    have Fb_3 := Fb.out.cell 3
    have Fb_4 := Fb.out.cell 4
    have Fb_5 := Fb.out.cell 5
    simp at Fb_0 Fb_1 Fb_2 Fb_3 Fb_4 Fb_5
    have lt_O := O.out.lt
    have O_0 := O.out.cell 0
    have O_1 := O.out.cell 1
    have O_2 := O.out.cell 2
    have O_3 := O.out.cell 3
    have O_4 := O.out.cell 4
    have O_5 := O.out.cell 5
    simp at O_0 O_1 O_2 O_3 O_4 O_5
    have szB_w9 := SB91h.out.size
    go_wp2_with fail
    refine (refsame_any q p f f _ (KQ0.out.below SB91h.out) (KF0.out.below SB91h.out) hbd).mono ?_
    rintro e w10 ⟨⟨b, rfl, hb⟩, bel10⟩
    obtain rfl : b = true := hb.mpr (FD.Same.refl _)
    clear hb lt_Fb Fb_0 Fb_1 Fb_2 Fb_3 Fb_4 Fb_5 lt_O O_0 O_1 O_2 O_3 O_4 O_5
    go_wp2
    go_ret
    exact ⟨rfl, HB0.out.trans ((SB91h.out.trans (bel10.mono SB91h.out.size)).mono HB0.out.size)⟩
  have Hs := Lib.hid hs
  clear hs
  have k1 := Lib.hid (fun b : BW v5 => BW.call (v := .bool true) (fun W' (h : Below v5.heap.size v5 W') => eqr_fix (refsame_any pa pb fb fb W' (OA.out.ok.below h) (OB.out.below h) EA.out.bd) ⟨fun _ => FD.Same.refl _, fun _ => rfl⟩) b)
  have k2 := Lib.hid (fun b : BW v5 => BW.call (v := .bool true) (fun W' (h : Below v5.heap.size v5 W') => eqr_fix (refsame_any pu pv fv fv W' (OU.out.ok.below h) (OV.out.below h) EU.out.bd) ⟨fun _ => FD.Same.refl _, fun _ => rfl⟩) b)
  have k3 := Lib.hid (fun b : BW v5 => BW.call (v := .int .i64 8) (fun W' (h : Below v5.heap.size v5 W') => check_fix (check_any q f W' (KQ0.out.below (SB12h.out.trans (h.mono SB12h.out.size)))) (.inr ⟨Hm.out, rfl⟩)) b)
  have k4 := Lib.hid (fun b : BW v5 => BW.call (v := .bool false) (fun W' (h : Below v5.heap.size v5 W') => eqr_fix (refmay_any p f W' (KF0.out.below (SB12h.out.trans (h.mono SB12h.out.size)))) ⟨fun z => (by cases z), fun z => absurd z Hm.out⟩) b)
  have k5 := Lib.hid (fun b : BW v5 => BW.call (v := .bool false) (fun W' (h : Below v5.heap.size v5 W') => eqr_fix (same_any pa pu fb fv W' (OA.out.ok.below h) (OU.out.ok.below h) EA.out.bd) ⟨fun z => (by cases z), fun z => absurd z Hs.out⟩) b)
  have k6 := Lib.hid (fun b : BW v5 => BW.call (v := .bool false) (fun W' (h : Below v5.heap.size v5 W') => eqr_fix (refsame_any pb pv fb fv W' (OB.out.below h) (OV.out.below h) EA.out.bd) ⟨fun z => (by cases z), fun z => absurd z Hs.out⟩) b)
  have p_Fb_0 := fun b : BW v5 => BW.cell Fb_0 lt_Fb b
  have p_Fb_1 := fun b : BW v5 => BW.cell Fb_1 lt_Fb b
  have p_Fb_2 := fun b : BW v5 => BW.cell Fb_2 lt_Fb b
  have p_Fb_3 := fun b : BW v5 => BW.cell Fb_3 lt_Fb b
  have p_Fb_4 := fun b : BW v5 => BW.cell Fb_4 lt_Fb b
  have p_Fb_5 := fun b : BW v5 => BW.cell Fb_5 lt_Fb b
  have p_O_0 := fun b : BW v5 => BW.cell O_0 lt_O b
  have p_O_1 := fun b : BW v5 => BW.cell O_1 lt_O b
  have p_O_2 := fun b : BW v5 => BW.cell O_2 lt_O b
  have p_O_3 := fun b : BW v5 => BW.cell O_3 lt_O b
  have p_O_4 := fun b : BW v5 => BW.cell O_4 lt_O b
  have p_O_5 := fun b : BW v5 => BW.cell O_5 lt_O b
  have p_A_0 := fun b : BW v5 => BW.cell A_0 lt_A b
  have p_A_1 := fun b : BW v5 => BW.cell A_1 lt_A b
  have p_A_2 := fun b : BW v5 => BW.cell A_2 lt_A b
  have p_A_3 := fun b : BW v5 => BW.cell A_3 lt_A b
  have p_A_4 := fun b : BW v5 => BW.cell A_4 lt_A b
  have p_A_5 := fun b : BW v5 => BW.cell A_5 lt_A b
  have p_Bb_0 := fun b : BW v5 => BW.cell Bb_0 lt_Bb b
  have p_Bb_1 := fun b : BW v5 => BW.cell Bb_1 lt_Bb b
  have p_Bb_2 := fun b : BW v5 => BW.cell Bb_2 lt_Bb b
  have p_Bb_3 := fun b : BW v5 => BW.cell Bb_3 lt_Bb b
  have p_Bb_4 := fun b : BW v5 => BW.cell Bb_4 lt_Bb b
  have p_Bb_5 := fun b : BW v5 => BW.cell Bb_5 lt_Bb b
  have p_U_0 := fun b : BW v5 => BW.cell U_0 lt_U b
  have p_U_1 := fun b : BW v5 => BW.cell U_1 lt_U b
  have p_U_2 := fun b : BW v5 => BW.cell U_2 lt_U b
  have p_U_3 := fun b : BW v5 => BW.cell U_3 lt_U b
  have p_U_4 := fun b : BW v5 => BW.cell U_4 lt_U b
  have p_U_5 := fun b : BW v5 => BW.cell U_5 lt_U b
  have p_V_0 := fun b : BW v5 => BW.cell V_0 lt_V b
  have p_V_1 := fun b : BW v5 => BW.cell V_1 lt_V b
  have p_V_2 := fun b : BW v5 => BW.cell V_2 lt_V b
  have p_V_3 := fun b : BW v5 => BW.cell V_3 lt_V b
  have p_V_4 := fun b : BW v5 => BW.cell V_4 lt_V b
  have p_V_5 := fun b : BW v5 => BW.cell V_5 lt_V b
  clear lt_Fb Fb_0 Fb_1 Fb_2 Fb_3 Fb_4 Fb_5 lt_G G_0 G_1 G_2 G_3 G_4 G_5 lt_K K_0 K_1 K_2 K_3 lt_O O_0 O_1 O_2 O_3 O_4 O_5 lt_A A_0 A_1 A_2 A_3 A_4 A_5 lt_Bb Bb_0 Bb_1 Bb_2 Bb_3 Bb_4 Bb_5 lt_U U_0 U_1 U_2 U_3 U_4 U_5 lt_V V_0 V_1 V_2 V_3 V_4 V_5
  refine wp_region_quiet_bw (by kernel_rfl) (by kernel_rfl) ?_
  repeat (go_big_quiet_step ((first | (go_at_call 15; first | with_reducible exact k1.out _ | with_reducible exact k2.out _ | with_reducible exact k6.out _) | (go_at_call 24; with_reducible exact k3.out _) | (go_at_call 25; with_reducible exact k4.out _) | (go_at_call 26; with_reducible exact k5.out _))))
  refine wpQuiet_nil ?_
  intro _ hw'
  obtain ⟨pq, hw''⟩ := hw'
  subst hw''
  have belq := pq.h
  have sz7 := Lib.hid (Nat.le_trans sz35.out belq.size)
  clear p_Fb_0 p_Fb_1 p_Fb_2 p_Fb_3 p_Fb_4 p_Fb_5 p_O_0 p_O_1 p_O_2 p_O_3 p_O_4 p_O_5 p_A_0 p_A_1 p_A_2 p_A_3 p_A_4 p_A_5 p_Bb_0 p_Bb_1 p_Bb_2 p_Bb_3 p_Bb_4 p_Bb_5 p_U_0 p_U_1 p_U_2 p_U_3 p_U_4 p_U_5 p_V_0 p_V_1 p_V_2 p_V_3 p_V_4 p_V_5 k1 k2 k3 k4 k5 k6
  generalize pq.W = w7 at *
  clear pq
  clear Bb V G K OB OV
  have OAa := OA.out.below belq
  clear OA
  have OA := Lib.hid OAa
  clear OAa
  have OUa := OU.out.below belq
  clear OU
  have OU := Lib.hid OUa
  clear OUa
  have t_Fb := Fb.out.below belq
  clear Fb
  have Fb := Lib.hid t_Fb
  clear t_Fb
  have t_O := O.out.below belq
  clear O
  have O := Lib.hid t_O
  clear t_O
  have t_A := A.out.below belq
  clear A
  have A := Lib.hid t_A
  clear t_A
  have t_U := U.out.below belq
  clear U
  have U := Lib.hid t_U
  clear t_U
  have SB13 : Below v1.heap.size v1 w7 := SB12h.out.trans (belq.mono SB12h.out.size)
  clear SB12h belq
  have SB13h := Lib.hid SB13
  clear SB13
  have lt_Fb := Fb.out.lt
  have lt_O := O.out.lt
  have lt_A := A.out.lt
  have A_0 := A.out.cell 0
  have A_1 := A.out.cell 1
  have A_2 := A.out.cell 2
  have A_3 := A.out.cell 3
  have A_4 := A.out.cell 4
  have A_5 := A.out.cell 5
  simp at A_0 A_1 A_2 A_3 A_4 A_5
  have lt_U := U.out.lt
  have szB_w7 := SB13h.out.size
  go_wp2_with fail
  refine (turn_any pa fb v1.heap.size w3 _ OA.out OA0.out (Nat.le_trans (Nat.le_refl _) SB13h.out.size) EA.out.1 EA.out.2).mono ?_
  rintro e w8 ⟨rfl, bel8, hkf, hko⟩
  have OUa := hko _ _ _ szA.out OU.out
  have sz8 := Lib.hid (Nat.le_trans sz7.out bel8.size)
  have SB90h := Lib.hid (SB13h.out.trans bel8)
  have t_Fb := hkf _ _ Fb.out
  clear Fb
  have Fb := Lib.hid t_Fb
  clear t_Fb
  have t_O := hkf _ _ O.out
  clear O
  have O := Lib.hid t_O
  clear t_O
  have t_U := hkf _ _ U.out
  clear U
  have U := Lib.hid t_U
  clear t_U
  clear lt_Fb lt_O lt_A A_0 A_1 A_2 A_3 A_4 A_5 lt_U OU OA A SB13h bel8 hkf hko
  have OU := Lib.hid OUa
  clear OUa
  have lt_Fb := Fb.out.lt
  have lt_O := O.out.lt
  have lt_U := U.out.lt
  have U_0 := U.out.cell 0
  have U_1 := U.out.cell 1
  have U_2 := U.out.cell 2
  have U_3 := U.out.cell 3
  have U_4 := U.out.cell 4
  have U_5 := U.out.cell 5
  simp at U_0 U_1 U_2 U_3 U_4 U_5
  have szB_w8 := SB90h.out.size
  go_wp2_with fail
  refine (turn_any pu fv v3.heap.size w5 _ OU.out OU0.out sz8.out EU.out.1 EU.out.2).mono ?_
  rintro e w9 ⟨rfl, bel9, hkf, hko⟩
  have SB91h := Lib.hid (SB90h.out.trans (bel9.mono sz13.out))
  have t_Fb := hkf _ _ Fb.out
  clear Fb
  have Fb := Lib.hid t_Fb
  clear t_Fb
  have t_O := hkf _ _ O.out
  clear O
  have O := Lib.hid t_O
  clear t_O
  clear lt_Fb lt_O lt_U U_0 U_1 U_2 U_3 U_4 U_5 OU U SB90h bel9 hkf hko
  have lt_Fb := Fb.out.lt
  have Fb_0 := Fb.out.cell 0
  have Fb_1 := Fb.out.cell 1
  have Fb_2 := Fb.out.cell 2
  have Fb_3 := Fb.out.cell 3
  have Fb_4 := Fb.out.cell 4
  have Fb_5 := Fb.out.cell 5
  simp at Fb_0 Fb_1 Fb_2 Fb_3 Fb_4 Fb_5
  have lt_O := O.out.lt
  have O_0 := O.out.cell 0
  have O_1 := O.out.cell 1
  have O_2 := O.out.cell 2
  have O_3 := O.out.cell 3
  have O_4 := O.out.cell 4
  have O_5 := O.out.cell 5
  simp at O_0 O_1 O_2 O_3 O_4 O_5
  have szB_w9 := SB91h.out.size
  go_wp2_with fail
  refine (refsame_any q p f f _ (KQ0.out.below SB91h.out) (KF0.out.below SB91h.out) hbd).mono ?_
  rintro e w10 ⟨⟨b, rfl, hb⟩, bel10⟩
  obtain rfl : b = true := hb.mpr (FD.Same.refl _)
  clear hb lt_Fb Fb_0 Fb_1 Fb_2 Fb_3 Fb_4 Fb_5 lt_O O_0 O_1 O_2 O_3 O_4 O_5
  go_wp2
  go_ret
  exact ⟨rfl, HB0.out.trans ((SB91h.out.trans (bel10.mono SB91h.out.size)).mono HB0.out.size)⟩
set_option maxRecDepth 100000 in
theorem arg_colB {w : World} {v : Value} (h : Arg Try.prog w 23 v) : ∃ c : Nat → Int, v = .agg #[.int .u8 (c 0), .int .u8 (c 1), .int .u8 (c 2), .int .u8 (c 3)] ∧ Byte (c 3) := by
  obtain ⟨cs, rfl, _, hr⟩ := h.array Try.underlying23
  obtain ⟨hl, hf⟩ := hr.array Try.underlying23
  rw [cells_col] at hl
  rw [cells_u8] at hf
  match cs, hl with
  | [a, b, c, d], _ =>
    obtain ⟨x0, e0, _⟩ := Rd.int Try.underlying5 (hf 0 (by omega))
    obtain ⟨x1, e1, _⟩ := Rd.int Try.underlying5 (hf 1 (by omega))
    obtain ⟨x2, e2, _⟩ := Rd.int Try.underlying5 (hf 2 (by omega))
    obtain ⟨x3, e3, b3⟩ := Rd.int Try.underlying5 (hf 3 (by omega))
    simp at e0 e1 e2 e3
    subst e0 e1 e2 e3
    exact ⟨fun j => if j = 0 then x0 else if j = 1 then x1 else if j = 2 then x2 else x3, rfl, u8_bounds b3⟩
set_option maxRecDepth 100000 in
theorem framePuts_arg (v0 v1 v2 v3 v4 v5 : Value) (w : World) (h0 : Arg Try.prog w 29 v0) (h1 : Arg Try.prog w 3 v1) (h2 : Arg Try.prog w 3 v2) (h3 : Arg Try.prog w 25 v3) (h4 : Arg Try.prog w 3 v4) (h5 : Arg Try.prog w 23 v5) :
    Calls Try.prog 4 #[v0, v1, v2, v3, v4, v5] w fun e w' => e = .returned (.bool true) ∧ Below w.heap.size w w' := by
  obtain ⟨p, f, rfl, hok, hbd⟩ := arg_frame h0
  obtain ⟨x, rfl⟩ := arg_int h1
  obtain ⟨y, rfl⟩ := arg_int h2
  obtain ⟨d, i, t, q, u, z, rfl⟩ := arg_fg h3
  obtain ⟨e, rfl⟩ := arg_int h4
  obtain ⟨c, rfl, hc⟩ := arg_colB h5
  exact framePuts_walk p f x y _ _ _ _ _ _ e c w hok hc (fun j => hbd.2.1 j 3) hbd.1
end Go.Proofs.Ytibeoeooajelgaa
