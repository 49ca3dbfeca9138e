/- pyramid: the chapter's frame; row; what is plain of a pyramid that is built. -/
import Derived.Test.YtibeoeooajelgaaY16
namespace Go.Proofs.Ytibeoeooajelgaa
open Go.RowKit
set_option linter.unusedVariables false
def cz : Nat → Int := fun _ => 0
def thA : FD := FDnew 3 2 6 cz
def thB : FD := thA.put 0 600 0 0 cz
/-- The chapter's frame. -/
def thF : FD := thB.put 1 700 0 0 cz
theorem PutV.good {f g : FD} {x y d i t z : Int} {c : Nat → Int} (hm : f.May) (hi : f.In x y) (hs : SomeP d i t) (h : PutV f x y d i t c g z) : z = 0 ∧ g.May ∧ ∃ k : Nat, y * f.W + x = k ∧ k < f.nd ∧ g = f.put k d i t c := by
  rcases h with ⟨q, _⟩ | ⟨_, q, _⟩ | ⟨_, _, _, hz, k, hk, hl, rfl⟩
  · exact absurd hm q
  · exact absurd ⟨hi, hs⟩ q
  · exact ⟨hz, hm.put hs k c, k, hk, hl.2.1, rfl⟩
theorem thA_may : thA.May := ⟨⟨by decide, by decide, by decide, by decide⟩, ⟨by decide, by decide, by decide, by decide⟩, fun k _ => .inl ⟨rfl, rfl, rfl⟩⟩
theorem some600 : SomeP 600 0 0 := by decide
theorem some700 : SomeP 700 0 0 := by decide
theorem thB_may : thB.May := thA_may.put some600 0 cz
theorem thF_may : thF.May := thB_may.put some700 1 cz
theorem new_three {f : FD} {x : Int} (h : NewV 3 2 cz f x) : x = 0 ∧ f = thA := by
  rcases h with ⟨_, rfl, n, hn, rfl⟩ | ⟨h, _, _⟩
  · have : n = 6 := by omega
    subst this
    exact ⟨rfl, rfl⟩
  · exact absurd ⟨by decide, by decide, by decide, by decide⟩ h
theorem put_B {g : FD} {z : Int} (h : PutV thA 0 0 600 0 0 cz g z) : z = 0 ∧ g = thB := by
  obtain ⟨h1, _, k, hk, _, rfl⟩ := h.good thA_may (by decide) some600
  have : k = 0 := by have : (0 : Int) * 3 + 0 = k := hk; omega
  subst this
  exact ⟨h1, rfl⟩
theorem put_F {g : FD} {z : Int} (h : PutV thB 1 0 700 0 0 cz g z) : z = 0 ∧ g = thF := by
  obtain ⟨h1, _, k, hk, _, rfl⟩ := h.good thB_may (by decide) some700
  have hW : thB.W = 3 := (FD.put_W thA 0 600 0 0 cz).1
  rw [hW] at hk
  have : k = 1 := by omega
  subst this
  exact ⟨h1, rfl⟩
theorem bld25 (x : Int) (w : World) : (Instr.build 25 #[(0, .int .i64 x)]).run Try.prog w = .ok (.agg #[.int .i64 x, .int .i64 0, .int .i64 0, .int .i64 0, .int .i64 0, .int .i64 0]) w :=
  run_build w 25 _ #[.int .i64 x, .int .i64 0, .int .i64 0, .int .i64 0, .int .i64 0, .int .i64 0] (by kernel_rfl)
theorem bld23 (w : World) : (Instr.build 23 #[]).run Try.prog w = .ok (.agg #[.int .u8 (cz 0), .int .u8 (cz 1), .int .u8 (cz 2), .int .u8 (cz 3)]) w :=
  run_build w 23 _ #[.int .u8 (cz 0), .int .u8 (cz 1), .int .u8 (cz 2), .int .u8 (cz 3)] (by kernel_rfl)
theorem bld53 (x : Int) (w : World) : (Instr.build 53 #[(2, .int .i64 x)]).run Try.prog w = .ok (.agg #[.int .i64 0, .int .i64 0, .int .i64 x, .int .i64 0]) w :=
  run_build w 53 _ #[.int .i64 0, .int .i64 0, .int .i64 x, .int .i64 0] (by kernel_rfl)
/-- A built pyramid may be. -/
theorem pd_l0 (f : FD) (k : Nat) : (f.ld.pd k).l0 = f.ld := by
  unfold PD.l0 LD.pd FD.ld
  dsimp only
  congr 1
  funext x y
  show LD.row _ _ = _
  unfold LD.row
  dsimp only [LD.lev]
  have e : ((f.W.toNat : Nat) : Int).toNat = f.W.toNat := by omega
  rw [e, Nat.mul_comm ((y * f.W.toNat + x) / f.W.toNat), Nat.div_add_mod]
theorem pd_may {f : FD} (h : f.May) {k : Nat} (ht : f.ld.Top k) : (f.ld.pd k).May := by
  obtain ⟨X, Y, e1, e2, ⟨x1, x2, y1, y2⟩, -, -, -, -, e, hD⟩ := h.nums
  have eq := pd_l0 f k
  rw [e] at ht eq ⊢
  refine ⟨by show 0 < k + 1; omega, by show (1 : Int) ≤ (X : Int); omega, by show (X : Int) ≤ 64; omega, by show (1 : Int) ≤ (Y : Int); omega, by show (Y : Int) ≤ 64; omega, by show ((X * Y : Nat) : Int) = (X : Int) * (Y : Int); push_cast; rfl, fun t ht' => ?_, fun t ht' => ?_, k, ?_, ?_⟩
  · show -2048 ≤ LD.row ⟨X, Y, fun x y => f.D (y * X + x)⟩ t
    rw [row_plain]
    exact (hD t ht').1
  · show LD.row ⟨X, Y, fun x y => f.D (y * X + x)⟩ t ≤ 66560
    rw [row_plain]
    exact (hD t ht').2
  · rw [eq]
    exact ht
  · rw [eq]
    exact SamePD.refl _
/-- What Low answers of a built pyramid. -/
theorem LowR.built {f : FD} (h : f.May) {k : Nat} (ht : f.ld.Top k) {r : RC} {m c : Int} (hl : LowR (f.ld.pd k) r m c) : (r.Bad f.W f.H ∧ m = 0 ∧ c = 2) ∨ (¬ r.Bad f.W f.H ∧ c = 0 ∧ LstB (f.ld.inR r) f.ld.f 66560 m) := by
  have e1 : (f.ld.pd k).W 0 = f.W := by
    show ((f.W.toNat : Nat) : Int) = f.W
    have := h.1.1
    omega
  have e2 : (f.ld.pd k).H 0 = f.H := by
    show ((f.H.toNat : Nat) : Int) = f.H
    have := h.1.2.2.1
    omega
  rcases hl with ⟨q, _⟩ | ⟨_, q, rfl, rfl⟩ | ⟨_, q, rfl, q2⟩
  · exact absurd (pd_may h ht) q
  · rw [e1, e2] at q
    exact .inl ⟨q, rfl, rfl⟩
  · rw [e1, e2] at q
    rw [pd_l0] at q2
    exact .inr ⟨q, rfl, q2⟩
set_option maxRecDepth 100000 in
theorem thF_nums : thF.W = 3 ∧ thF.H = 2 ∧ thF.nd = 6 ∧ thF.D 0 = 600 ∧ thF.D 1 = 700 ∧ thF.D 2 = -2048 ∧ thF.D 3 = -2048 ∧ thF.D 4 = -2048 ∧ thF.D 5 = -2048 := ⟨by kernel_rfl, by kernel_rfl, by kernel_rfl, by kernel_rfl, by kernel_rfl, by kernel_rfl, by kernel_rfl, by kernel_rfl, by kernel_rfl⟩
set_option maxRecDepth 100000 in
theorem thF_top : thF.ld.Top 2 := ⟨by kernel_rfl, by kernel_rfl, fun j hj => by
  obtain rfl | rfl : j = 0 ∨ j = 1 := by omega
  · have e : (thF.ld.lev 0).W = 3 := by kernel_rfl
    rw [e]; omega
  · have e : (thF.ld.lev 1).W = 2 := by kernel_rfl
    rw [e]; omega⟩
def thP : PD := thF.ld.pd 2
set_option maxRecDepth 100000 in
theorem thP_nums : thP.n = 3 ∧ thP.L 0 = 6 ∧ thP.f 0 1 = 700 ∧ thP.W 1 = 2 ∧ thP.H 1 = 1 ∧ thP.L 1 = 2 ∧ thP.f 1 0 = -2048 ∧ thP.L 2 = 1 := ⟨by kernel_rfl, by kernel_rfl, by kernel_rfl, by kernel_rfl, by kernel_rfl, by kernel_rfl, by kernel_rfl, by kernel_rfl⟩
theorem bldv_th {d : PD} {c : Int} (h : BldV thF d c) : c = 0 ∧ d = thP := by
  rcases h with ⟨q, _⟩ | ⟨_, hc, k, hk, rfl⟩
  · exact absurd thF_may q
  · obtain rfl := hk.fn thF_top
    exact ⟨hc, rfl⟩
theorem thF_low {x : Int} {r : RC} {m c : Int} (h : LowR thP r m c) (hr : r = ⟨0, 0, x, 0⟩) : (x = 0 → c = 0) ∧ (x = 1 → c = 0 ∧ m = 600) ∧ (x = 2 → c = 0 ∧ m = -2048) ∧ (x = 3 → c = 2) := by
  subst hr
  obtain ⟨nW, nH, -, d0, d1, d2, -⟩ := thF_nums
  have eW : thF.ld.W = 3 := by show thF.W.toNat = 3; rw [nW]; rfl
  have eH : thF.ld.H = 2 := by show thF.H.toNat = 2; rw [nH]; rfl
  have hf : ∀ a b, thF.ld.f a b = thF.D (b * 3 + a) := fun a b => by show thF.D (b * thF.W.toNat + a) = _; rw [nW]; rfl
  rcases LowR.built thF_may thF_top h with ⟨q, rfl, rfl⟩ | ⟨q, rfl, q2⟩
  · unfold RC.Bad at q
    rw [nW, nH] at q
    dsimp only at q
    exact ⟨fun e => by omega, fun e => by omega, fun e => by omega, fun _ => rfl⟩
  · unfold RC.Bad at q
    rw [nW, nH] at q
    dsimp only at q
    refine ⟨fun _ => rfl, fun e => ⟨rfl, ?_⟩, fun e => ⟨rfl, ?_⟩, fun e => by omega⟩
    · refine q2.fn ⟨by decide, fun a b hab => ?_, .inr ⟨0, 0, ?_, ?_⟩⟩
      · obtain ⟨_, _, _, h4, _, h6⟩ := hab
        have hb : b = 0 := by have : (b : Int) ≤ 0 := h6; omega
        have ha : a = 0 ∨ a = 1 := by have : (a : Int) ≤ x := h4; omega
        subst hb
        rw [hf]
        rcases ha with rfl | rfl
        · show 600 ≤ thF.D 0; rw [d0]; decide
        · show 600 ≤ thF.D 1; rw [d1]; decide
      · refine ⟨by rw [eW]; omega, by rw [eH]; omega, by show (0 : Int) ≤ ((0 : Nat) : Int); decide, ?_, by show (0 : Int) ≤ ((0 : Nat) : Int); decide, by show ((0 : Nat) : Int) ≤ 0; decide⟩
        show ((0 : Nat) : Int) ≤ x
        omega
      · rw [hf]; exact d0
    · refine q2.fn ⟨by decide, fun a b hab => ?_, .inr ⟨2, 0, ?_, ?_⟩⟩
      · obtain ⟨_, _, _, h4, _, h6⟩ := hab
        have hb : b = 0 := by have : (b : Int) ≤ 0 := h6; omega
        have ha : a = 0 ∨ a = 1 ∨ a = 2 := by have : (a : Int) ≤ x := h4; omega
        subst hb
        rw [hf]
        rcases ha with rfl | rfl | rfl
        · show -2048 ≤ thF.D 0; rw [d0]; decide
        · show -2048 ≤ thF.D 1; rw [d1]; decide
        · show -2048 ≤ thF.D 2; rw [d2]; decide
      · refine ⟨by rw [eW]; omega, by rw [eH]; omega, by show (0 : Int) ≤ ((2 : Nat) : Int); decide, ?_, by show (0 : Int) ≤ ((0 : Nat) : Int); decide, by show ((0 : Nat) : Int) ≤ 0; decide⟩
        show ((2 : Nat) : Int) ≤ x
        omega
      · rw [hf]; exact d2

set_option maxRecDepth 100000 in
theorem row_any (x : Int) (w : World) : Calls Try.prog 46 #[.int .i64 x] w fun e w' => e = .returned (.agg #[.int .i64 0, .int .i64 0, .int .i64 x, .int .i64 0]) ∧ Below w.heap.size w w' := by
  have hb9 := bld53 x
  have B0 := Lib.hid ((Below.refl w.heap.size w).alloc (Nat.le_refl _) (.cells #[.int .i64 0, .int .i64 0, .int .i64 0, .int .i64 0] 53))
  have P0 := Lib.hid (hasBlk_new w 53 #[.int .i64 0, .int .i64 0, .int .i64 0, .int .i64 0])
  go_enter Try.func46, Try.ntmps46
  go_upto_region 1 with fail
  generalize w.alloc (.cells #[.int .i64 0, .int .i64 0, .int .i64 0, .int .i64 0] 53) = v0 at *
  have z0 := P0.out.cell 0
  have z1 := P0.out.cell 1
  have z2 := P0.out.cell 2
  have z3 := P0.out.cell 3
  have f0 := P0.out.frozen 0
  have f1 := P0.out.frozen 1
  have f2 := P0.out.frozen 2
  have f3 := P0.out.frozen 3
  have zz := P0.out.lt
  simp at z0 z1 z2 z3
  go_wp2
  refine bodyPost_ret (v := .agg #[.int .i64 0, .int .i64 0, .int .i64 x, .int .i64 0]) (by simp [results, Try.results46, go_sem, *]) rfl ⟨rfl, ?_⟩
  exact Below.setCell (Below.setCell (Below.setCell (Below.setCell B0.out (Nat.le_refl _) _) (Nat.le_refl _) _) (Nat.le_refl _) _) (Nat.le_refl _) _

set_option maxRecDepth 100000 in
set_option maxHeartbeats 8000000 in
theorem three_any9 (w : World) : Calls Try.prog 45 #[] w fun e w' => (∃ p f, f = thF ∧ e = .returned (.tuple #[.agg #[.int .i64 f.W, .int .i64 f.H, .slice p.ac f.nc p.kc, .slice p.ad f.nd p.kd, .slice p.ai f.ni p.ki, .slice p.a4 f.nt p.kt], .bool true]) ∧ FOk w' p f) ∧ Below w.heap.size w w' := by
  have hb25 := fun x => bld25 x
  have hb23 := bld23
  have HB := Lib.hid ((Below.refl w.heap.size w).alloc (Nat.le_refl _) (.cells #[.int .i64 0, .int .i64 0, .slice none 0 0, .slice none 0 0, .slice none 0 0, .slice none 0 0] 29))
  have B0 := Lib.hid (hasBlk_new w 29 #[.int .i64 0, .int .i64 0, .slice none 0 0, .slice none 0 0, .slice none 0 0, .slice none 0 0])
  go_enter Try.func45, Try.ntmps45
  go_upto_region 1 with fail
  generalize w.alloc (.cells #[.int .i64 0, .int .i64 0, .slice none 0 0, .slice none 0 0, .slice none 0 0, .slice none 0 0] 29) = v0 at *
  have KX := Lib.hid (new_any 3 2 cz v0)
  go_wp2_with fail
  refine KX.out.mono ?_
  rintro e v1 ⟨⟨p1, f1, x1, rfl, hok, hv⟩, bel⟩
  obtain ⟨rfl, he⟩ := new_three hv
  have E1 := Lib.hid he
  have O1 := Lib.hid hok
  have B0' := Lib.hid (B0.out.below bel)
  have HB' := Lib.hid (HB.out.trans (bel.mono HB.out.size))
  clear KX he hok hv bel B0 HB
  have B0 := Lib.hid B0'.out
  have HB := Lib.hid HB'.out
  clear B0' HB'
  have KX := Lib.hid (put_any p1 f1 0 0 600 0 0 0 0 0 cz (v1.alloc (.cells #[.int .i64 f1.W, .int .i64 f1.H, .slice p1.ac f1.nc p1.kc, .slice p1.ad f1.nd p1.kd, .slice p1.ai f1.ni p1.ki, .slice p1.a4 f1.nt p1.kt] 29)) (O1.out.below ((Below.refl v1.heap.size v1).alloc (Nat.le_refl _) _)))
  go_wp2_with fail
  refine KX.out.mono ?_
  rintro e v2 ⟨⟨p2, f2, x2, rfl, hown, hv⟩, bel⟩
  rw [E1.out] at hv
  obtain ⟨rfl, he⟩ := put_B hv
  have E2 := Lib.hid he
  have BX := Lib.hid ((hasBlk_new v1 29 #[.int .i64 f1.W, .int .i64 f1.H, .slice p1.ac f1.nc p1.kc, .slice p1.ad f1.nd p1.kd, .slice p1.ai f1.ni p1.ki, .slice p1.a4 f1.nt p1.kt]).below bel)
  have bA := ((Below.refl v1.heap.size v1).alloc (Nat.le_refl _) (.cells #[.int .i64 f1.W, .int .i64 f1.H, .slice p1.ac f1.nc p1.kc, .slice p1.ad f1.nd p1.kd, .slice p1.ai f1.ni p1.ki, .slice p1.a4 f1.nt p1.kt] 29)).trans (bel.mono (by simp))
  have O2 := Lib.hid (hown.base (show w.heap.size ≤ _ by have := HB.out.size; simp; omega))
  have HB' := Lib.hid (HB.out.trans (bA.mono HB.out.size))
  have B0' := Lib.hid (B0.out.below bA)
  have hx0 := B0.out.lt
  obtain ⟨x2, hx2⟩ : ∃ x2, x2 = v1.heap.size := ⟨_, rfl⟩
  rw [← hx2] at BX hx0 ⊢
  have hxb : w.heap.size ≤ x2 := by omega
  clear KX he hv hown bel bA B0 HB hx2 O1
  have B0 := Lib.hid B0'.out
  have HB := Lib.hid HB'.out
  clear B0' HB'
  have bx_0 := BX.out.cell 0
  have bxf0 := BX.out.frozen 0
  have bx_1 := BX.out.cell 1
  have bxf1 := BX.out.frozen 1
  have bx_2 := BX.out.cell 2
  have bxf2 := BX.out.frozen 2
  have bx_3 := BX.out.cell 3
  have bxf3 := BX.out.frozen 3
  have bx_4 := BX.out.cell 4
  have bxf4 := BX.out.frozen 4
  have bx_5 := BX.out.cell 5
  have bxf5 := BX.out.frozen 5
  have bx_z := BX.out.lt
  simp at bx_0 bx_1 bx_2 bx_3 bx_4 bx_5
  go_upto_region 3 with fail
  clear bx_0 bxf0 bx_1 bxf1 bx_2 bxf2 bx_3 bxf3 bx_4 bxf4 bx_5 bxf5 bx_z
  have BXn := Lib.hid (show HasBlk ((((((v2.setCell ⟨x2, 0, none⟩ (.int .i64 f2.W)).setCell ⟨x2, 1, none⟩ (.int .i64 f2.H)).setCell ⟨x2, 2, none⟩ (.slice p2.ac f2.nc p2.kc)).setCell ⟨x2, 3, none⟩ (.slice p2.ad f2.nd p2.kd)).setCell ⟨x2, 4, none⟩ (.slice p2.ai f2.ni p2.ki)).setCell ⟨x2, 5, none⟩ (.slice p2.a4 f2.nt p2.kt)) x2 29 #[.int .i64 f2.W, .int .i64 f2.H, .slice p2.ac f2.nc p2.kc, .slice p2.ad f2.nd p2.kd, .slice p2.ai f2.ni p2.ki, .slice p2.a4 f2.nt p2.kt] by simpa using ((((((((((((BX.out).set 0 (.int .i64 f2.W))).set 1 (.int .i64 f2.H))).set 2 (.slice p2.ac f2.nc p2.kc))).set 3 (.slice p2.ad f2.nd p2.kd))).set 4 (.slice p2.ai f2.ni p2.ki))).set 5 (.slice p2.a4 f2.nt p2.kt)))
  have B0n := Lib.hid (show HasBlk ((((((v2.setCell ⟨x2, 0, none⟩ (.int .i64 f2.W)).setCell ⟨x2, 1, none⟩ (.int .i64 f2.H)).setCell ⟨x2, 2, none⟩ (.slice p2.ac f2.nc p2.kc)).setCell ⟨x2, 3, none⟩ (.slice p2.ad f2.nd p2.kd)).setCell ⟨x2, 4, none⟩ (.slice p2.ai f2.ni p2.ki)).setCell ⟨x2, 5, none⟩ (.slice p2.a4 f2.nt p2.kt)) w.heap.size 29 _ from ((((((B0.out.far (p := ⟨x2, 0, none⟩) (by simp; omega) (.int .i64 f2.W)).far (p := ⟨x2, 1, none⟩) (by simp; omega) (.int .i64 f2.H)).far (p := ⟨x2, 2, none⟩) (by simp; omega) (.slice p2.ac f2.nc p2.kc)).far (p := ⟨x2, 3, none⟩) (by simp; omega) (.slice p2.ad f2.nd p2.kd)).far (p := ⟨x2, 4, none⟩) (by simp; omega) (.slice p2.ai f2.ni p2.ki)).far (p := ⟨x2, 5, none⟩) (by simp; omega) (.slice p2.a4 f2.nt p2.kt)))
  have O2n := Lib.hid (show FOwn w.heap.size ((((((v2.setCell ⟨x2, 0, none⟩ (.int .i64 f2.W)).setCell ⟨x2, 1, none⟩ (.int .i64 f2.H)).setCell ⟨x2, 2, none⟩ (.slice p2.ac f2.nc p2.kc)).setCell ⟨x2, 3, none⟩ (.slice p2.ad f2.nd p2.kd)).setCell ⟨x2, 4, none⟩ (.slice p2.ai f2.ni p2.ki)).setCell ⟨x2, 5, none⟩ (.slice p2.a4 f2.nt p2.kt)) p2 f2 from ((((((O2.out.pset (j := 0) BX.out (by decide) (by decide) (.int .i64 f2.W)).pset (j := 1) (BX.out.set 0 (.int .i64 f2.W)) (by decide) (by decide) (.int .i64 f2.H)).pset (j := 2) ((BX.out.set 0 (.int .i64 f2.W)).set 1 (.int .i64 f2.H)) (by decide) (by decide) (.slice p2.ac f2.nc p2.kc)).pset (j := 3) (((BX.out.set 0 (.int .i64 f2.W)).set 1 (.int .i64 f2.H)).set 2 (.slice p2.ac f2.nc p2.kc)) (by decide) (by decide) (.slice p2.ad f2.nd p2.kd)).pset (j := 4) ((((BX.out.set 0 (.int .i64 f2.W)).set 1 (.int .i64 f2.H)).set 2 (.slice p2.ac f2.nc p2.kc)).set 3 (.slice p2.ad f2.nd p2.kd)) (by decide) (by decide) (.slice p2.ai f2.ni p2.ki)).pset (j := 5) (((((BX.out.set 0 (.int .i64 f2.W)).set 1 (.int .i64 f2.H)).set 2 (.slice p2.ac f2.nc p2.kc)).set 3 (.slice p2.ad f2.nd p2.kd)).set 4 (.slice p2.ai f2.ni p2.ki)) (by decide) (by decide) (.slice p2.a4 f2.nt p2.kt)))
  have HBn := Lib.hid (show Below w.heap.size w ((((((v2.setCell ⟨x2, 0, none⟩ (.int .i64 f2.W)).setCell ⟨x2, 1, none⟩ (.int .i64 f2.H)).setCell ⟨x2, 2, none⟩ (.slice p2.ac f2.nc p2.kc)).setCell ⟨x2, 3, none⟩ (.slice p2.ad f2.nd p2.kd)).setCell ⟨x2, 4, none⟩ (.slice p2.ai f2.ni p2.ki)).setCell ⟨x2, 5, none⟩ (.slice p2.a4 f2.nt p2.kt)) from (Below.setCell (p := ⟨x2, 5, none⟩) (Below.setCell (p := ⟨x2, 4, none⟩) (Below.setCell (p := ⟨x2, 3, none⟩) (Below.setCell (p := ⟨x2, 2, none⟩) (Below.setCell (p := ⟨x2, 1, none⟩) (Below.setCell (p := ⟨x2, 0, none⟩) HB.out (hxb) (.int .i64 f2.W)) (hxb) (.int .i64 f2.H)) (hxb) (.slice p2.ac f2.nc p2.kc)) (hxb) (.slice p2.ad f2.nd p2.kd)) (hxb) (.slice p2.ai f2.ni p2.ki)) (hxb) (.slice p2.a4 f2.nt p2.kt)))
  clear BX B0 O2 HB
  have BX := Lib.hid BXn.out
  have B0 := Lib.hid B0n.out
  have O2 := Lib.hid O2n.out
  have HB := Lib.hid HBn.out
  clear BXn B0n O2n HBn
  generalize ((((((v2.setCell ⟨x2, 0, none⟩ (.int .i64 f2.W)).setCell ⟨x2, 1, none⟩ (.int .i64 f2.H)).setCell ⟨x2, 2, none⟩ (.slice p2.ac f2.nc p2.kc)).setCell ⟨x2, 3, none⟩ (.slice p2.ad f2.nd p2.kd)).setCell ⟨x2, 4, none⟩ (.slice p2.ai f2.ni p2.ki)).setCell ⟨x2, 5, none⟩ (.slice p2.a4 f2.nt p2.kt)) = v3 at *
  have bx_0 := BX.out.cell 0
  have bxf0 := BX.out.frozen 0
  have bx_1 := BX.out.cell 1
  have bxf1 := BX.out.frozen 1
  have bx_2 := BX.out.cell 2
  have bxf2 := BX.out.frozen 2
  have bx_3 := BX.out.cell 3
  have bxf3 := BX.out.frozen 3
  have bx_4 := BX.out.cell 4
  have bxf4 := BX.out.frozen 4
  have bx_5 := BX.out.cell 5
  have bxf5 := BX.out.frozen 5
  have bx_z := BX.out.lt
  simp at bx_0 bx_1 bx_2 bx_3 bx_4 bx_5
  have KX := Lib.hid (put_any p2 f2 1 0 700 0 0 0 0 0 cz v3 O2.out.ok)
  go_wp2_with fail
  refine KX.out.mono ?_
  rintro e v4 ⟨⟨p3, f3, x3, rfl, hown, hv⟩, bel⟩
  rw [E2.out] at hv
  obtain ⟨rfl, he⟩ := put_F hv
  have E3 := Lib.hid he
  have O3 := Lib.hid (hown.base (show w.heap.size ≤ _ from HB.out.size))
  have BX' := Lib.hid (BX.out.below bel)
  have B0' := Lib.hid (B0.out.below bel)
  have HB' := Lib.hid (HB.out.trans (bel.mono HB.out.size))
  clear bx_0 bxf0 bx_1 bxf1 bx_2 bxf2 bx_3 bxf3 bx_4 bxf4 bx_5 bxf5 bx_z
  clear KX he hv hown bel B0 HB BX O2
  have BX := Lib.hid BX'.out
  have B0 := Lib.hid B0'.out
  have HB := Lib.hid HB'.out
  clear BX' B0' HB'
  have bx_0 := BX.out.cell 0
  have bxf0 := BX.out.frozen 0
  have bx_1 := BX.out.cell 1
  have bxf1 := BX.out.frozen 1
  have bx_2 := BX.out.cell 2
  have bxf2 := BX.out.frozen 2
  have bx_3 := BX.out.cell 3
  have bxf3 := BX.out.frozen 3
  have bx_4 := BX.out.cell 4
  have bxf4 := BX.out.frozen 4
  have bx_5 := BX.out.cell 5
  have bxf5 := BX.out.frozen 5
  have bx_z := BX.out.lt
  simp at bx_0 bx_1 bx_2 bx_3 bx_4 bx_5
  go_upto_region 4 with fail
  clear bx_0 bxf0 bx_1 bxf1 bx_2 bxf2 bx_3 bxf3 bx_4 bxf4 bx_5 bxf5 bx_z
  have BXn := Lib.hid (show HasBlk ((((((v4.setCell ⟨x2, 0, none⟩ (.int .i64 f3.W)).setCell ⟨x2, 1, none⟩ (.int .i64 f3.H)).setCell ⟨x2, 2, none⟩ (.slice p3.ac f3.nc p3.kc)).setCell ⟨x2, 3, none⟩ (.slice p3.ad f3.nd p3.kd)).setCell ⟨x2, 4, none⟩ (.slice p3.ai f3.ni p3.ki)).setCell ⟨x2, 5, none⟩ (.slice p3.a4 f3.nt p3.kt)) x2 29 #[.int .i64 f3.W, .int .i64 f3.H, .slice p3.ac f3.nc p3.kc, .slice p3.ad f3.nd p3.kd, .slice p3.ai f3.ni p3.ki, .slice p3.a4 f3.nt p3.kt] by simpa using ((((((((((((BX.out).set 0 (.int .i64 f3.W))).set 1 (.int .i64 f3.H))).set 2 (.slice p3.ac f3.nc p3.kc))).set 3 (.slice p3.ad f3.nd p3.kd))).set 4 (.slice p3.ai f3.ni p3.ki))).set 5 (.slice p3.a4 f3.nt p3.kt)))
  have B0n := Lib.hid (show HasBlk ((((((v4.setCell ⟨x2, 0, none⟩ (.int .i64 f3.W)).setCell ⟨x2, 1, none⟩ (.int .i64 f3.H)).setCell ⟨x2, 2, none⟩ (.slice p3.ac f3.nc p3.kc)).setCell ⟨x2, 3, none⟩ (.slice p3.ad f3.nd p3.kd)).setCell ⟨x2, 4, none⟩ (.slice p3.ai f3.ni p3.ki)).setCell ⟨x2, 5, none⟩ (.slice p3.a4 f3.nt p3.kt)) w.heap.size 29 _ from ((((((B0.out.far (p := ⟨x2, 0, none⟩) (by simp; omega) (.int .i64 f3.W)).far (p := ⟨x2, 1, none⟩) (by simp; omega) (.int .i64 f3.H)).far (p := ⟨x2, 2, none⟩) (by simp; omega) (.slice p3.ac f3.nc p3.kc)).far (p := ⟨x2, 3, none⟩) (by simp; omega) (.slice p3.ad f3.nd p3.kd)).far (p := ⟨x2, 4, none⟩) (by simp; omega) (.slice p3.ai f3.ni p3.ki)).far (p := ⟨x2, 5, none⟩) (by simp; omega) (.slice p3.a4 f3.nt p3.kt)))
  have O3n := Lib.hid (show FOwn w.heap.size ((((((v4.setCell ⟨x2, 0, none⟩ (.int .i64 f3.W)).setCell ⟨x2, 1, none⟩ (.int .i64 f3.H)).setCell ⟨x2, 2, none⟩ (.slice p3.ac f3.nc p3.kc)).setCell ⟨x2, 3, none⟩ (.slice p3.ad f3.nd p3.kd)).setCell ⟨x2, 4, none⟩ (.slice p3.ai f3.ni p3.ki)).setCell ⟨x2, 5, none⟩ (.slice p3.a4 f3.nt p3.kt)) p3 f3 from ((((((O3.out.pset (j := 0) BX.out (by decide) (by decide) (.int .i64 f3.W)).pset (j := 1) (BX.out.set 0 (.int .i64 f3.W)) (by decide) (by decide) (.int .i64 f3.H)).pset (j := 2) ((BX.out.set 0 (.int .i64 f3.W)).set 1 (.int .i64 f3.H)) (by decide) (by decide) (.slice p3.ac f3.nc p3.kc)).pset (j := 3) (((BX.out.set 0 (.int .i64 f3.W)).set 1 (.int .i64 f3.H)).set 2 (.slice p3.ac f3.nc p3.kc)) (by decide) (by decide) (.slice p3.ad f3.nd p3.kd)).pset (j := 4) ((((BX.out.set 0 (.int .i64 f3.W)).set 1 (.int .i64 f3.H)).set 2 (.slice p3.ac f3.nc p3.kc)).set 3 (.slice p3.ad f3.nd p3.kd)) (by decide) (by decide) (.slice p3.ai f3.ni p3.ki)).pset (j := 5) (((((BX.out.set 0 (.int .i64 f3.W)).set 1 (.int .i64 f3.H)).set 2 (.slice p3.ac f3.nc p3.kc)).set 3 (.slice p3.ad f3.nd p3.kd)).set 4 (.slice p3.ai f3.ni p3.ki)) (by decide) (by decide) (.slice p3.a4 f3.nt p3.kt)))
  have HBn := Lib.hid (show Below w.heap.size w ((((((v4.setCell ⟨x2, 0, none⟩ (.int .i64 f3.W)).setCell ⟨x2, 1, none⟩ (.int .i64 f3.H)).setCell ⟨x2, 2, none⟩ (.slice p3.ac f3.nc p3.kc)).setCell ⟨x2, 3, none⟩ (.slice p3.ad f3.nd p3.kd)).setCell ⟨x2, 4, none⟩ (.slice p3.ai f3.ni p3.ki)).setCell ⟨x2, 5, none⟩ (.slice p3.a4 f3.nt p3.kt)) from (Below.setCell (p := ⟨x2, 5, none⟩) (Below.setCell (p := ⟨x2, 4, none⟩) (Below.setCell (p := ⟨x2, 3, none⟩) (Below.setCell (p := ⟨x2, 2, none⟩) (Below.setCell (p := ⟨x2, 1, none⟩) (Below.setCell (p := ⟨x2, 0, none⟩) HB.out (hxb) (.int .i64 f3.W)) (hxb) (.int .i64 f3.H)) (hxb) (.slice p3.ac f3.nc p3.kc)) (hxb) (.slice p3.ad f3.nd p3.kd)) (hxb) (.slice p3.ai f3.ni p3.ki)) (hxb) (.slice p3.a4 f3.nt p3.kt)))
  clear BX B0 O3 HB
  have BX := Lib.hid BXn.out
  have B0 := Lib.hid B0n.out
  have O3 := Lib.hid O3n.out
  have HB := Lib.hid HBn.out
  clear BXn B0n O3n HBn
  generalize ((((((v4.setCell ⟨x2, 0, none⟩ (.int .i64 f3.W)).setCell ⟨x2, 1, none⟩ (.int .i64 f3.H)).setCell ⟨x2, 2, none⟩ (.slice p3.ac f3.nc p3.kc)).setCell ⟨x2, 3, none⟩ (.slice p3.ad f3.nd p3.kd)).setCell ⟨x2, 4, none⟩ (.slice p3.ai f3.ni p3.ki)).setCell ⟨x2, 5, none⟩ (.slice p3.a4 f3.nt p3.kt)) = v5 at *
  have bx_0 := BX.out.cell 0
  have bxf0 := BX.out.frozen 0
  have bx_1 := BX.out.cell 1
  have bxf1 := BX.out.frozen 1
  have bx_2 := BX.out.cell 2
  have bxf2 := BX.out.frozen 2
  have bx_3 := BX.out.cell 3
  have bxf3 := BX.out.frozen 3
  have bx_4 := BX.out.cell 4
  have bxf4 := BX.out.frozen 4
  have bx_5 := BX.out.cell 5
  have bxf5 := BX.out.frozen 5
  have bx_z := BX.out.lt
  simp at bx_0 bx_1 bx_2 bx_3 bx_4 bx_5
  have b0_0 := B0.out.cell 0
  have b0f0 := B0.out.frozen 0
  have b0_1 := B0.out.cell 1
  have b0f1 := B0.out.frozen 1
  have b0_2 := B0.out.cell 2
  have b0f2 := B0.out.frozen 2
  have b0_3 := B0.out.cell 3
  have b0f3 := B0.out.frozen 3
  have b0_4 := B0.out.cell 4
  have b0f4 := B0.out.frozen 4
  have b0_5 := B0.out.cell 5
  have b0f5 := B0.out.frozen 5
  have b0_z := B0.out.lt
  simp at b0_0 b0_1 b0_2 b0_3 b0_4 b0_5
  go_wp2
  refine bodyPost_ret (v := .tuple #[.agg #[.int .i64 f3.W, .int .i64 f3.H, .slice p3.ac f3.nc p3.kc, .slice p3.ad f3.nd p3.kd, .slice p3.ai f3.ni p3.ki, .slice p3.a4 f3.nt p3.kt], .bool true]) (by simp [results, Try.results45, go_sem, *]) rfl ⟨⟨p3, f3, E3.out, rfl, ?_⟩, ?_⟩
  · exact FOwn.ok (B := w.heap.size) ((((((O3.out.pset (j := 0) B0.out (by decide) (by decide) (.int .i64 f3.W)).pset (j := 1) (B0.out.set 0 (.int .i64 f3.W)) (by decide) (by decide) (.int .i64 f3.H)).pset (j := 2) ((B0.out.set 0 (.int .i64 f3.W)).set 1 (.int .i64 f3.H)) (by decide) (by decide) (.slice p3.ac f3.nc p3.kc)).pset (j := 3) (((B0.out.set 0 (.int .i64 f3.W)).set 1 (.int .i64 f3.H)).set 2 (.slice p3.ac f3.nc p3.kc)) (by decide) (by decide) (.slice p3.ad f3.nd p3.kd)).pset (j := 4) ((((B0.out.set 0 (.int .i64 f3.W)).set 1 (.int .i64 f3.H)).set 2 (.slice p3.ac f3.nc p3.kc)).set 3 (.slice p3.ad f3.nd p3.kd)) (by decide) (by decide) (.slice p3.ai f3.ni p3.ki)).pset (j := 5) (((((B0.out.set 0 (.int .i64 f3.W)).set 1 (.int .i64 f3.H)).set 2 (.slice p3.ac f3.nc p3.kc)).set 3 (.slice p3.ad f3.nd p3.kd)).set 4 (.slice p3.ai f3.ni p3.ki)) (by decide) (by decide) (.slice p3.a4 f3.nt p3.kt))
  · exact (Below.setCell (p := ⟨w.heap.size, 5, none⟩) (Below.setCell (p := ⟨w.heap.size, 4, none⟩) (Below.setCell (p := ⟨w.heap.size, 3, none⟩) (Below.setCell (p := ⟨w.heap.size, 2, none⟩) (Below.setCell (p := ⟨w.heap.size, 1, none⟩) (Below.setCell (p := ⟨w.heap.size, 0, none⟩) HB.out (Nat.le_refl _) (.int .i64 f3.W)) (Nat.le_refl _) (.int .i64 f3.H)) (Nat.le_refl _) (.slice p3.ac f3.nc p3.kc)) (Nat.le_refl _) (.slice p3.ad f3.nd p3.kd)) (Nat.le_refl _) (.slice p3.ai f3.ni p3.ki)) (Nat.le_refl _) (.slice p3.a4 f3.nt p3.kt))
end Go.Proofs.Ytibeoeooajelgaa
/- pyramid: alive; PyramidNames. -/
namespace Go.Proofs.Ytibeoeooajelgaa
open Go.RowKit
set_option linter.unusedVariables false
theorem thP_sm : thP.Sm := BldV.Sm (f := thF) (c := 0) (.inr ⟨thF_may, rfl, 2, thF_top, rfl⟩)
theorem low9 (p : PP) (r : RC) (w : World) (h : POk w p thP) : Calls Try.prog 34 #[.agg #[.slice p.A 3 p.c], .agg #[.int .i64 r.X0, .int .i64 r.Y0, .int .i64 r.X1, .int .i64 r.Y1]] w fun e w' => (∃ m c, e = .returned (.tuple #[.int .i64 m, .int .i64 c]) ∧ LowR thP r m c) ∧ Below w.heap.size w w' := plow_any thP p r thP_sm w h
theorem hid9 (p : PP) (r : RC) (D : Int) (w : World) (h : POk w p thP) : Calls Try.prog 36 #[.agg #[.slice p.A 3 p.c], .agg #[.int .i64 r.X0, .int .i64 r.Y0, .int .i64 r.X1, .int .i64 r.Y1, .int .i64 D]] w fun e w' => (∃ b c, e = .returned (.tuple #[.bool b, .int .i64 c]) ∧ HidR thP r D b c) ∧ Below w.heap.size w w' := phid_any thP p r D thP_sm w h
theorem chk9 (p : PP) (w : World) (h : POk w p thP) : Calls Try.prog 39 #[.agg #[.slice p.A 3 p.c]] w fun e w' => e = .returned (.int .i64 0) ∧ Below w.heap.size w w' := by
  have h1 := pcheck_any thP p thP_sm w h
  rw [show chkP thP = 0 from chkP_yes (pd_may thF_may thF_top)] at h1
  exact h1
theorem chk0 (w : World) : Calls Try.prog 39 #[.agg #[.slice none 0 0]] w fun e w' => e = .returned (.int .i64 8) ∧ Below w.heap.size w w' := by
  have h1 := pcheck_any PD0 ⟨none, 0, fun _ => none, fun _ => 0⟩ ⟨Nat.zero_le _, fun i hi => absurd hi (Nat.not_lt_zero _)⟩ w ⟨Row.zero _ _ _ _, fun i hi => absurd hi (Nat.not_lt_zero _)⟩
  rw [chkP_no (fun h => absurd h.n (Nat.not_lt_zero _))] at h1
  exact h1
theorem bld9 (p : FP) (f : FD) (hf : f = thF) (w : World) (h : FOk w p f) : Calls Try.prog 32 #[.agg #[.int .i64 f.W, .int .i64 f.H, .slice p.ac f.nc p.kc, .slice p.ad f.nd p.kd, .slice p.ai f.ni p.ki, .slice p.a4 f.nt p.kt]] w fun e w' => (∃ q, e = .returned (.tuple #[.agg #[.slice q.A 3 q.c], .int .i64 0]) ∧ POk w' q thP) ∧ Below w.heap.size w w' := by
  subst hf
  refine (pbuild_any p thF w h).mono ?_
  rintro e w' ⟨hb, bel⟩
  obtain ⟨q, d, c, rfl, ho, hv⟩ := hb.v
  obtain ⟨rfl, rfl⟩ := bldv_th hv
  exact ⟨⟨q, rfl, ho.ok⟩, bel⟩
theorem bld55 (x D : Int) (w : World) : (Instr.build 55 #[(0, .agg #[.int .i64 0, .int .i64 0, .int .i64 x, .int .i64 0]), (1, .int .i64 D)]).run Try.prog w = .ok (.agg #[.int .i64 0, .int .i64 0, .int .i64 x, .int .i64 0, .int .i64 D]) w :=
  run_build w 55 _ #[.int .i64 0, .int .i64 0, .int .i64 x, .int .i64 0, .int .i64 D] (by kernel_rfl)
theorem bld55z (D : Int) (w : World) : (Instr.build 55 #[(1, .int .i64 D)]).run Try.prog w = .ok (.agg #[.int .i64 0, .int .i64 0, .int .i64 0, .int .i64 0, .int .i64 D]) w :=
  run_build w 55 _ #[.int .i64 0, .int .i64 0, .int .i64 0, .int .i64 0, .int .i64 D] (by kernel_rfl)
theorem thF_hid599 {b : Bool} {c : Int} (h : HidR thP ⟨0, 0, 1, 0⟩ 599 b c) : b = true ∧ c = 0 := by
  obtain ⟨m, e0, h1, h2⟩ := h
  obtain ⟨he, hm⟩ := (thF_low h1 rfl).2.1 rfl
  subst he hm
  rcases h2 with ⟨q, _⟩ | ⟨_, q, _⟩ | ⟨_, _, rfl, rfl⟩
  · exact absurd rfl q
  · omega
  · exact ⟨by decide, rfl⟩
theorem thF_hid600 {b : Bool} {c : Int} (h : HidR thP ⟨0, 0, 1, 0⟩ 600 b c) : b = false ∧ c = 0 := by
  obtain ⟨m, e0, h1, h2⟩ := h
  obtain ⟨he, hm⟩ := (thF_low h1 rfl).2.1 rfl
  subst he hm
  rcases h2 with ⟨q, _⟩ | ⟨_, q, _⟩ | ⟨_, _, rfl, rfl⟩
  · exact absurd rfl q
  · omega
  · exact ⟨by decide, rfl⟩
theorem thF_hid66561 {b : Bool} {c : Int} (h : HidR thP ⟨0, 0, 0, 0⟩ 66561 b c) : c = 2 := by
  obtain ⟨m, e0, h1, h2⟩ := h
  obtain rfl := (thF_low h1 rfl).1 rfl
  rcases h2 with ⟨q, _⟩ | ⟨_, q, _, rfl⟩ | ⟨_, q, _⟩
  · exact absurd rfl q
  · rfl
  · omega

set_option maxRecDepth 100000 in
set_option maxHeartbeats 8000000 in
theorem alive9_any (w : World) : Calls Try.prog 44 #[] w fun e w' => e = .returned (.bool true) ∧ Below w.heap.size w w' := by
  have HBp := Lib.hid (Below.refl w.heap.size w)
  go_enter Try.func44, Try.ntmps44
  have KX := Lib.hid (three_any9 w)
  go_wp2_with fail
  refine KX.out.mono ?_
  rintro e v1 ⟨⟨p1, f1, he, rfl, hok⟩, bel⟩
  have E1 := Lib.hid he
  have O1 := Lib.hid hok
  clear KX he hok
  have HB := Lib.hid (HBp.out.trans (bel.mono HBp.out.size))
  clear bel HBp
  have KX := Lib.hid (bld9 p1 f1 E1.out (v1.alloc (.cells #[.int .i64 f1.W, .int .i64 f1.H, .slice p1.ac f1.nc p1.kc, .slice p1.ad f1.nd p1.kd, .slice p1.ai f1.ni p1.ki, .slice p1.a4 f1.nt p1.kt] 29)) (O1.out.below ((Below.refl v1.heap.size v1).alloc (Nat.le_refl _) _)))
  go_wp2_with fail
  refine KX.out.mono ?_
  rintro e v2 ⟨⟨p3, rfl, hok⟩, bel⟩
  have OP := Lib.hid hok
  have HBn := Lib.hid (HB.out.trans (((Below.refl v1.heap.size v1).alloc (Nat.le_refl _) (.cells #[.int .i64 f1.W, .int .i64 f1.H, .slice p1.ac f1.nc p1.kc, .slice p1.ad f1.nd p1.kd, .slice p1.ai f1.ni p1.ki, .slice p1.a4 f1.nt p1.kt] 29)).trans (bel.mono (by simp)) |>.mono HB.out.size))
  clear KX hok bel HB O1 E1
  have HB := Lib.hid HBn.out
  clear HBn
  go_upto_region 3 with fail
  have B3 := Lib.hid (hasBlk_new v2 51 #[.slice p3.A 3 p3.c])
  have bA := (Below.refl v2.heap.size v2).alloc (Nat.le_refl _) (.cells #[.slice p3.A 3 p3.c] 51)
  have OPn := Lib.hid (OP.out.below bA)
  have HBn := Lib.hid (HB.out.trans (bA.mono HB.out.size))
  clear OP HB bA
  have OP := Lib.hid OPn.out
  have HB := Lib.hid HBn.out
  clear OPn HBn
  obtain ⟨x3, hx3⟩ : ∃ x3, x3 = v2.heap.size := ⟨_, rfl⟩
  rw [← hx3] at B3 ⊢
  clear hx3
  generalize v2.alloc (.cells #[.slice p3.A 3 p3.c] 51) = v3 at *
  go_upto_region 3 with fail
  have bd := (Below.refl v3.heap.size v3).drew
  have B3' := Lib.hid (B3.out.below (bd))
  have OP' := Lib.hid (OP.out.below (bd))
  have HB' := Lib.hid (HB.out.trans ((bd).mono HB.out.size))
  clear B3 OP HB
  have B3 := Lib.hid B3'.out
  have OP := Lib.hid OP'.out
  have HB := Lib.hid HB'.out
  clear B3' OP' HB'
  clear bd
  have HS := Lib.hid (show (fun Wo => HasBlk Wo x3 51 #[.slice p3.A 3 p3.c] ∧ HasBlk Wo x3 51 #[.slice p3.A 3 p3.c]) v3.drew from ⟨B3.out, B3.out⟩)
  refine wp_region_E (fun Wo => HasBlk Wo x3 51 #[.slice p3.A 3 p3.c] ∧ HasBlk Wo x3 51 #[.slice p3.A 3 p3.c]) 99 (by kernel_rfl) ?_
  generalize gwd : v3.drew = u1 at *
  clear gwd
  refine wpAnyE_takeA (i := 0) (v := .agg #[.slice p3.A 3 p3.c]) rfl (by kernel_rfl) (fun _ _ _ h => h) (.inl ⟨by first | kernel_rfl | rfl, fun W hW => ?_⟩) HS.out ?_
  · have q0 := hW.1.cell 0
    have qz := hW.1.lt
    simp at q0
    go_simp
  simp only [Act.put, List.setIfInBounds_toArray]
  refine wpAnyE_step (i := 1) rfl (by kernel_rfl) (fun KQ HK => ?_)
  have KX := Lib.hid (row_any 1 u1)
  go_wp2_with fail
  refine KX.out.mono ?_
  rintro e u2 ⟨rfl, bel⟩
  clear KX HS
  have B3' := Lib.hid (B3.out.below (bel))
  have OP' := Lib.hid (OP.out.below (bel))
  have HB' := Lib.hid (HB.out.trans ((bel).mono HB.out.size))
  clear B3 OP HB
  have B3 := Lib.hid B3'.out
  have OP := Lib.hid OP'.out
  have HB := Lib.hid HB'.out
  clear B3' OP' HB'
  clear bel
  have HS := Lib.hid (show (fun Wo => HasBlk Wo x3 51 #[.slice p3.A 3 p3.c] ∧ HasBlk Wo x3 51 #[.slice p3.A 3 p3.c]) u2 from ⟨B3.out, B3.out⟩)
  go_wp2
  refine HK _ _ (fun _ => HS.out) ?_
  clear HK
  refine wpAnyE_step (i := 2) rfl (by kernel_rfl) (fun KQ HK => ?_)
  have KX := Lib.hid (low9 p3 ⟨0, 0, 1, 0⟩ u2 OP.out)
  go_wp2_with fail
  refine KX.out.mono ?_
  rintro e u3 ⟨⟨m1, c1, rfl, hl⟩, bel⟩
  clear KX HS
  have B3' := Lib.hid (B3.out.below (bel))
  have OP' := Lib.hid (OP.out.below (bel))
  have HB' := Lib.hid (HB.out.trans ((bel).mono HB.out.size))
  clear B3 OP HB
  have B3 := Lib.hid B3'.out
  have OP := Lib.hid OP'.out
  have HB := Lib.hid HB'.out
  clear B3' OP' HB'
  clear bel
  have HS := Lib.hid (show (fun Wo => HasBlk Wo x3 51 #[.slice p3.A 3 p3.c] ∧ HasBlk Wo x3 51 #[.slice p3.A 3 p3.c]) u3 from ⟨B3.out, B3.out⟩)
  obtain ⟨-, q1, q2, q3⟩ := thF_low (x := 1) hl rfl
  obtain ⟨rfl, rfl⟩ := q1 rfl
  clear hl q1 q2 q3
  go_wp2
  refine HK _ _ (fun _ => HS.out) ?_
  clear HK
  refine wpAnyE_takeA (i := 3) (v := .tuple #[.int .i64 600, .int .i64 0]) rfl (by kernel_rfl) (fun _ _ _ h => h) (.inl ⟨by first | kernel_rfl | rfl, fun W hW => by go_simp⟩) HS.out ?_
  simp only [Act.put, List.setIfInBounds_toArray]
  refine wpAnyE_takeA (i := 4) (v := .int .i64 600) rfl (by kernel_rfl) (fun _ _ _ h => h) (.inl ⟨by first | kernel_rfl | rfl, fun W hW => by go_simp⟩) HS.out ?_
  simp only [Act.put]
  refine wpAnyE_takeA (i := 5) (v := .int .i64 0) rfl (by kernel_rfl) (fun _ _ _ h => h) (.inl ⟨by first | kernel_rfl | rfl, fun W hW => by go_simp⟩) HS.out ?_
  simp only [Act.put]
  refine wpAnyE_takeA (i := 6) (v := .int .i64 600) rfl (by kernel_rfl) (fun _ _ _ h => h) (.inl ⟨by first | kernel_rfl | rfl, fun W hW => by go_simp⟩) HS.out ?_
  simp only [Act.put]
  refine wpAnyE_takeA (i := 7) (v := .int .i64 0) rfl (by kernel_rfl) (fun _ _ _ h => h) (.inl ⟨by first | kernel_rfl | rfl, fun W hW => by go_simp⟩) HS.out ?_
  simp only [Act.put]
  refine wpAnyE_done (by kernel_rfl) ?_
  clear HS
  go_upto_region 4 with fail
  have bd := (Below.refl u3.heap.size u3).drew
  have B3' := Lib.hid (B3.out.below (bd))
  have OP' := Lib.hid (OP.out.below (bd))
  have HB' := Lib.hid (HB.out.trans ((bd).mono HB.out.size))
  clear B3 OP HB
  have B3 := Lib.hid B3'.out
  have OP := Lib.hid OP'.out
  have HB := Lib.hid HB'.out
  clear B3' OP' HB'
  clear bd
  have HS := Lib.hid (show (fun Wo => HasBlk Wo x3 51 #[.slice p3.A 3 p3.c] ∧ HasBlk Wo x3 51 #[.slice p3.A 3 p3.c]) u3.drew from ⟨B3.out, B3.out⟩)
  refine wp_region_E (fun Wo => HasBlk Wo x3 51 #[.slice p3.A 3 p3.c] ∧ HasBlk Wo x3 51 #[.slice p3.A 3 p3.c]) 99 (by kernel_rfl) ?_
  generalize gwd : u3.drew = u4 at *
  clear gwd
  refine wpAnyE_takeA (i := 0) (v := .agg #[.slice p3.A 3 p3.c]) rfl (by kernel_rfl) (fun _ _ _ h => h) (.inl ⟨by first | kernel_rfl | rfl, fun W hW => ?_⟩) HS.out ?_
  · have q0 := hW.1.cell 0
    have qz := hW.1.lt
    simp at q0
    go_simp
  simp only [Act.put]
  refine wpAnyE_step (i := 1) rfl (by kernel_rfl) (fun KQ HK => ?_)
  have KX := Lib.hid (row_any 2 u4)
  go_wp2_with fail
  refine KX.out.mono ?_
  rintro e u5 ⟨rfl, bel⟩
  clear KX HS
  have B3' := Lib.hid (B3.out.below (bel))
  have OP' := Lib.hid (OP.out.below (bel))
  have HB' := Lib.hid (HB.out.trans ((bel).mono HB.out.size))
  clear B3 OP HB
  have B3 := Lib.hid B3'.out
  have OP := Lib.hid OP'.out
  have HB := Lib.hid HB'.out
  clear B3' OP' HB'
  clear bel
  have HS := Lib.hid (show (fun Wo => HasBlk Wo x3 51 #[.slice p3.A 3 p3.c] ∧ HasBlk Wo x3 51 #[.slice p3.A 3 p3.c]) u5 from ⟨B3.out, B3.out⟩)
  go_wp2
  refine HK _ _ (fun _ => HS.out) ?_
  clear HK
  refine wpAnyE_step (i := 2) rfl (by kernel_rfl) (fun KQ HK => ?_)
  have KX := Lib.hid (low9 p3 ⟨0, 0, 2, 0⟩ u5 OP.out)
  go_wp2_with fail
  refine KX.out.mono ?_
  rintro e u6 ⟨⟨m2, c2, rfl, hl⟩, bel⟩
  clear KX HS
  have B3' := Lib.hid (B3.out.below (bel))
  have OP' := Lib.hid (OP.out.below (bel))
  have HB' := Lib.hid (HB.out.trans ((bel).mono HB.out.size))
  clear B3 OP HB
  have B3 := Lib.hid B3'.out
  have OP := Lib.hid OP'.out
  have HB := Lib.hid HB'.out
  clear B3' OP' HB'
  clear bel
  have HS := Lib.hid (show (fun Wo => HasBlk Wo x3 51 #[.slice p3.A 3 p3.c] ∧ HasBlk Wo x3 51 #[.slice p3.A 3 p3.c]) u6 from ⟨B3.out, B3.out⟩)
  obtain ⟨-, q1, q2, q3⟩ := thF_low (x := 2) hl rfl
  obtain ⟨rfl, rfl⟩ := q2 rfl
  clear hl q1 q2 q3
  go_wp2
  refine HK _ _ (fun _ => HS.out) ?_
  clear HK
  refine wpAnyE_takeA (i := 3) (v := .tuple #[.int .i64 (-2048), .int .i64 0]) rfl (by kernel_rfl) (fun _ _ _ h => h) (.inl ⟨by first | kernel_rfl | rfl, fun W hW => by go_simp⟩) HS.out ?_
  simp only [Act.put, List.setIfInBounds_toArray]
  refine wpAnyE_takeA (i := 4) (v := .int .i64 (-2048)) rfl (by kernel_rfl) (fun _ _ _ h => h) (.inl ⟨by first | kernel_rfl | rfl, fun W hW => by go_simp⟩) HS.out ?_
  simp only [Act.put]
  refine wpAnyE_takeA (i := 5) (v := .int .i64 0) rfl (by kernel_rfl) (fun _ _ _ h => h) (.inl ⟨by first | kernel_rfl | rfl, fun W hW => by go_simp⟩) HS.out ?_
  simp only [Act.put]
  refine wpAnyE_takeA (i := 6) (v := .int .i64 (-2048)) rfl (by kernel_rfl) (fun _ _ _ h => h) (.inl ⟨by first | kernel_rfl | rfl, fun W hW => by go_simp⟩) HS.out ?_
  simp only [Act.put]
  refine wpAnyE_takeA (i := 7) (v := .int .i64 0) rfl (by kernel_rfl) (fun _ _ _ h => h) (.inl ⟨by first | kernel_rfl | rfl, fun W hW => by go_simp⟩) HS.out ?_
  simp only [Act.put]
  refine wpAnyE_done (by kernel_rfl) ?_
  clear HS
  have b3_0 := B3.out.cell 0
  have b3_z := B3.out.lt
  simp at b3_0
  go_wp2
  go_ret
  exact ⟨rfl, HB.out⟩

set_option maxRecDepth 100000 in
set_option maxHeartbeats 8000000 in
theorem pyramidNames_arg (w : World) : Calls Try.prog 11 #[] w fun e w' => e = .returned (.bool true) ∧ Below w.heap.size w w' := by
  go_enter Try.func11, Try.ntmps11
  have KX := Lib.hid (alive9_any w)
  go_wp2_with fail
  refine KX.out.mono ?_
  rintro e v0 ⟨rfl, bel⟩
  have HBp := Lib.hid bel
  clear KX bel
  have KX := Lib.hid (three_any9 v0)
  go_wp2_with fail
  refine KX.out.mono ?_
  rintro e v1 ⟨⟨p1, f1, he, rfl, hok⟩, bel⟩
  have E1 := Lib.hid he
  have O1 := Lib.hid hok
  clear KX he hok
  have HB := Lib.hid (HBp.out.trans (bel.mono HBp.out.size))
  clear bel HBp
  have KX := Lib.hid (bld9 p1 f1 E1.out (v1.alloc (.cells #[.int .i64 f1.W, .int .i64 f1.H, .slice p1.ac f1.nc p1.kc, .slice p1.ad f1.nd p1.kd, .slice p1.ai f1.ni p1.ki, .slice p1.a4 f1.nt p1.kt] 29)) (O1.out.below ((Below.refl v1.heap.size v1).alloc (Nat.le_refl _) _)))
  go_wp2_with fail
  refine KX.out.mono ?_
  rintro e v2 ⟨⟨p3, rfl, hok⟩, bel⟩
  have OP := Lib.hid hok
  have HBn := Lib.hid (HB.out.trans (((Below.refl v1.heap.size v1).alloc (Nat.le_refl _) (.cells #[.int .i64 f1.W, .int .i64 f1.H, .slice p1.ac f1.nc p1.kc, .slice p1.ad f1.nd p1.kd, .slice p1.ai f1.ni p1.ki, .slice p1.a4 f1.nt p1.kt] 29)).trans (bel.mono (by simp)) |>.mono HB.out.size))
  clear KX hok bel HB O1 E1
  have HB := Lib.hid HBn.out
  clear HBn
  go_upto_region 5 with fail
  have B3 := Lib.hid (hasBlk_new v2 51 #[.slice p3.A 3 p3.c])
  have bA := (Below.refl v2.heap.size v2).alloc (Nat.le_refl _) (.cells #[.slice p3.A 3 p3.c] 51)
  have OPn := Lib.hid (OP.out.below bA)
  have HBn := Lib.hid (HB.out.trans (bA.mono HB.out.size))
  clear OP HB bA
  have OP := Lib.hid OPn.out
  have HB := Lib.hid HBn.out
  clear OPn HBn
  obtain ⟨x3, hx3⟩ : ∃ x3, x3 = v2.heap.size := ⟨_, rfl⟩
  rw [← hx3] at B3 ⊢
  clear hx3
  generalize v2.alloc (.cells #[.slice p3.A 3 p3.c] 51) = v3 at *
  go_upto_region 5 with fail
  have bd := (Below.refl v3.heap.size v3).drew
  have B3' := Lib.hid (B3.out.below (bd))
  have OP' := Lib.hid (OP.out.below (bd))
  have HB' := Lib.hid (HB.out.trans ((bd).mono HB.out.size))
  clear B3 OP HB
  have B3 := Lib.hid B3'.out
  have OP := Lib.hid OP'.out
  have HB := Lib.hid HB'.out
  clear B3' OP' HB'
  clear bd
  have HS := Lib.hid (show (fun Wo => HasBlk Wo x3 51 #[.slice p3.A 3 p3.c] ∧ HasBlk Wo x3 51 #[.slice p3.A 3 p3.c]) v3.drew from ⟨B3.out, B3.out⟩)
  refine wp_region_E (fun Wo => HasBlk Wo x3 51 #[.slice p3.A 3 p3.c] ∧ HasBlk Wo x3 51 #[.slice p3.A 3 p3.c]) 99 (by kernel_rfl) ?_
  generalize gwd : v3.drew = u1 at *
  clear gwd
  have hb55 := bld55 1 599
  refine wpAnyE_takeA (i := 0) (v := .agg #[.slice p3.A 3 p3.c]) rfl (by kernel_rfl) (fun _ _ _ h => h) (.inl ⟨by first | kernel_rfl | rfl, fun W hW => ?_⟩) HS.out ?_
  · have q0 := hW.1.cell 0
    have qz := hW.1.lt
    simp at q0
    go_simp
  simp only [Act.put, List.setIfInBounds_toArray]
  refine wpAnyE_step (i := 1) rfl (by kernel_rfl) (fun KQ HK => ?_)
  have KX := Lib.hid (row_any 1 u1)
  go_wp2_with fail
  refine KX.out.mono ?_
  rintro e u2 ⟨rfl, bel⟩
  clear KX HS
  have B3' := Lib.hid (B3.out.below (bel))
  have OP' := Lib.hid (OP.out.below (bel))
  have HB' := Lib.hid (HB.out.trans ((bel).mono HB.out.size))
  clear B3 OP HB
  have B3 := Lib.hid B3'.out
  have OP := Lib.hid OP'.out
  have HB := Lib.hid HB'.out
  clear B3' OP' HB'
  clear bel
  have HS := Lib.hid (show (fun Wo => HasBlk Wo x3 51 #[.slice p3.A 3 p3.c] ∧ HasBlk Wo x3 51 #[.slice p3.A 3 p3.c]) u2 from ⟨B3.out, B3.out⟩)
  go_wp2
  refine HK _ _ (fun _ => HS.out) ?_
  clear HK
  refine wpAnyE_step (i := 2) rfl (by kernel_rfl) (fun KQ HK => ?_)
  go_wp2
  refine HK _ _ (fun _ => HS.out) ?_
  clear HK hb55
  refine wpAnyE_step (i := 3) rfl (by kernel_rfl) (fun KQ HK => ?_)
  have KX := Lib.hid (hid9 p3 ⟨0, 0, 1, 0⟩ 599 u2 OP.out)
  go_wp2_with fail
  refine KX.out.mono ?_
  rintro e u3 ⟨⟨bq, cq, rfl, hl⟩, bel⟩
  clear KX HS
  have B3' := Lib.hid (B3.out.below (bel))
  have OP' := Lib.hid (OP.out.below (bel))
  have HB' := Lib.hid (HB.out.trans ((bel).mono HB.out.size))
  clear B3 OP HB
  have B3 := Lib.hid B3'.out
  have OP := Lib.hid OP'.out
  have HB := Lib.hid HB'.out
  clear B3' OP' HB'
  clear bel
  have HS := Lib.hid (show (fun Wo => HasBlk Wo x3 51 #[.slice p3.A 3 p3.c] ∧ HasBlk Wo x3 51 #[.slice p3.A 3 p3.c]) u3 from ⟨B3.out, B3.out⟩)
  obtain ⟨rfl, rfl⟩ := thF_hid599 hl
  clear hl
  go_wp2
  refine HK _ _ (fun _ => HS.out) ?_
  clear HK
  refine wpAnyE_takeA (i := 4) (v := .tuple #[.bool true, .int .i64 0]) rfl (by kernel_rfl) (fun _ _ _ h => h) (.inl ⟨by first | kernel_rfl | rfl, fun W hW => by go_simp⟩) HS.out ?_
  simp only [Act.put, List.setIfInBounds_toArray]
  refine wpAnyE_takeA (i := 5) (v := .bool true) rfl (by kernel_rfl) (fun _ _ _ h => h) (.inl ⟨by first | kernel_rfl | rfl, fun W hW => by go_simp⟩) HS.out ?_
  simp only [Act.put]
  refine wpAnyE_takeA (i := 6) (v := .int .i64 0) rfl (by kernel_rfl) (fun _ _ _ h => h) (.inl ⟨by first | kernel_rfl | rfl, fun W hW => by go_simp⟩) HS.out ?_
  simp only [Act.put]
  refine wpAnyE_takeA (i := 7) (v := .bool true) rfl (by kernel_rfl) (fun _ _ _ h => h) (.inl ⟨by first | kernel_rfl | rfl, fun W hW => by go_simp⟩) HS.out ?_
  simp only [Act.put]
  refine wpAnyE_takeA (i := 8) (v := .int .i64 0) rfl (by kernel_rfl) (fun _ _ _ h => h) (.inl ⟨by first | kernel_rfl | rfl, fun W hW => by go_simp⟩) HS.out ?_
  simp only [Act.put]
  refine wpAnyE_done (by kernel_rfl) ?_
  clear HS
  go_upto_region 6 with fail
  have bd := (Below.refl u3.heap.size u3).drew
  have B3' := Lib.hid (B3.out.below (bd))
  have OP' := Lib.hid (OP.out.below (bd))
  have HB' := Lib.hid (HB.out.trans ((bd).mono HB.out.size))
  clear B3 OP HB
  have B3 := Lib.hid B3'.out
  have OP := Lib.hid OP'.out
  have HB := Lib.hid HB'.out
  clear B3' OP' HB'
  clear bd
  have HS := Lib.hid (show (fun Wo => HasBlk Wo x3 51 #[.slice p3.A 3 p3.c] ∧ HasBlk Wo x3 51 #[.slice p3.A 3 p3.c]) u3.drew from ⟨B3.out, B3.out⟩)
  refine wp_region_E (fun Wo => HasBlk Wo x3 51 #[.slice p3.A 3 p3.c] ∧ HasBlk Wo x3 51 #[.slice p3.A 3 p3.c]) 99 (by kernel_rfl) ?_
  generalize gwd : u3.drew = u4 at *
  clear gwd
  have hb55 := bld55 1 600
  refine wpAnyE_takeA (i := 0) (v := .agg #[.slice p3.A 3 p3.c]) rfl (by kernel_rfl) (fun _ _ _ h => h) (.inl ⟨by first | kernel_rfl | rfl, fun W hW => ?_⟩) HS.out ?_
  · have q0 := hW.1.cell 0
    have qz := hW.1.lt
    simp at q0
    go_simp
  simp only [Act.put]
  refine wpAnyE_step (i := 1) rfl (by kernel_rfl) (fun KQ HK => ?_)
  have KX := Lib.hid (row_any 1 u4)
  go_wp2_with fail
  refine KX.out.mono ?_
  rintro e u5 ⟨rfl, bel⟩
  clear KX HS
  have B3' := Lib.hid (B3.out.below (bel))
  have OP' := Lib.hid (OP.out.below (bel))
  have HB' := Lib.hid (HB.out.trans ((bel).mono HB.out.size))
  clear B3 OP HB
  have B3 := Lib.hid B3'.out
  have OP := Lib.hid OP'.out
  have HB := Lib.hid HB'.out
  clear B3' OP' HB'
  clear bel
  have HS := Lib.hid (show (fun Wo => HasBlk Wo x3 51 #[.slice p3.A 3 p3.c] ∧ HasBlk Wo x3 51 #[.slice p3.A 3 p3.c]) u5 from ⟨B3.out, B3.out⟩)
  go_wp2
  refine HK _ _ (fun _ => HS.out) ?_
  clear HK
  refine wpAnyE_step (i := 2) rfl (by kernel_rfl) (fun KQ HK => ?_)
  go_wp2
  refine HK _ _ (fun _ => HS.out) ?_
  clear HK hb55
  refine wpAnyE_step (i := 3) rfl (by kernel_rfl) (fun KQ HK => ?_)
  have KX := Lib.hid (hid9 p3 ⟨0, 0, 1, 0⟩ 600 u5 OP.out)
  go_wp2_with fail
  refine KX.out.mono ?_
  rintro e u6 ⟨⟨bq, cq, rfl, hl⟩, bel⟩
  clear KX HS
  have B3' := Lib.hid (B3.out.below (bel))
  have OP' := Lib.hid (OP.out.below (bel))
  have HB' := Lib.hid (HB.out.trans ((bel).mono HB.out.size))
  clear B3 OP HB
  have B3 := Lib.hid B3'.out
  have OP := Lib.hid OP'.out
  have HB := Lib.hid HB'.out
  clear B3' OP' HB'
  clear bel
  have HS := Lib.hid (show (fun Wo => HasBlk Wo x3 51 #[.slice p3.A 3 p3.c] ∧ HasBlk Wo x3 51 #[.slice p3.A 3 p3.c]) u6 from ⟨B3.out, B3.out⟩)
  obtain ⟨rfl, rfl⟩ := thF_hid600 hl
  clear hl
  go_wp2
  refine HK _ _ (fun _ => HS.out) ?_
  clear HK
  refine wpAnyE_takeA (i := 4) (v := .tuple #[.bool false, .int .i64 0]) rfl (by kernel_rfl) (fun _ _ _ h => h) (.inl ⟨by first | kernel_rfl | rfl, fun W hW => by go_simp⟩) HS.out ?_
  simp only [Act.put, List.setIfInBounds_toArray]
  refine wpAnyE_takeA (i := 5) (v := .bool false) rfl (by kernel_rfl) (fun _ _ _ h => h) (.inl ⟨by first | kernel_rfl | rfl, fun W hW => by go_simp⟩) HS.out ?_
  simp only [Act.put]
  refine wpAnyE_takeA (i := 6) (v := .int .i64 0) rfl (by kernel_rfl) (fun _ _ _ h => h) (.inl ⟨by first | kernel_rfl | rfl, fun W hW => by go_simp⟩) HS.out ?_
  simp only [Act.put]
  refine wpAnyE_takeA (i := 7) (v := .bool false) rfl (by kernel_rfl) (fun _ _ _ h => h) (.inl ⟨by first | kernel_rfl | rfl, fun W hW => by go_simp⟩) HS.out ?_
  simp only [Act.put]
  refine wpAnyE_takeA (i := 8) (v := .int .i64 0) rfl (by kernel_rfl) (fun _ _ _ h => h) (.inl ⟨by first | kernel_rfl | rfl, fun W hW => by go_simp⟩) HS.out ?_
  simp only [Act.put]
  refine wpAnyE_done (by kernel_rfl) ?_
  clear HS
  go_upto_region 7 with fail
  have bd := (Below.refl u6.heap.size u6).drew
  have B3' := Lib.hid (B3.out.below (bd))
  have OP' := Lib.hid (OP.out.below (bd))
  have HB' := Lib.hid (HB.out.trans ((bd).mono HB.out.size))
  clear B3 OP HB
  have B3 := Lib.hid B3'.out
  have OP := Lib.hid OP'.out
  have HB := Lib.hid HB'.out
  clear B3' OP' HB'
  clear bd
  have HS := Lib.hid (show (fun Wo => HasBlk Wo x3 51 #[.slice p3.A 3 p3.c] ∧ HasBlk Wo x3 51 #[.slice p3.A 3 p3.c]) u6.drew from ⟨B3.out, B3.out⟩)
  refine wp_region_E (fun Wo => HasBlk Wo x3 51 #[.slice p3.A 3 p3.c] ∧ HasBlk Wo x3 51 #[.slice p3.A 3 p3.c]) 99 (by kernel_rfl) ?_
  generalize gwd : u6.drew = u7 at *
  clear gwd
  refine wpAnyE_takeA (i := 0) (v := .agg #[.slice p3.A 3 p3.c]) rfl (by kernel_rfl) (fun _ _ _ h => h) (.inl ⟨by first | kernel_rfl | rfl, fun W hW => ?_⟩) HS.out ?_
  · have q0 := hW.1.cell 0
    have qz := hW.1.lt
    simp at q0
    go_simp
  simp only [Act.put]
  refine wpAnyE_step (i := 1) rfl (by kernel_rfl) (fun KQ HK => ?_)
  have KX := Lib.hid (row_any 3 u7)
  go_wp2_with fail
  refine KX.out.mono ?_
  rintro e u8 ⟨rfl, bel⟩
  clear KX HS
  have B3' := Lib.hid (B3.out.below (bel))
  have OP' := Lib.hid (OP.out.below (bel))
  have HB' := Lib.hid (HB.out.trans ((bel).mono HB.out.size))
  clear B3 OP HB
  have B3 := Lib.hid B3'.out
  have OP := Lib.hid OP'.out
  have HB := Lib.hid HB'.out
  clear B3' OP' HB'
  clear bel
  have HS := Lib.hid (show (fun Wo => HasBlk Wo x3 51 #[.slice p3.A 3 p3.c] ∧ HasBlk Wo x3 51 #[.slice p3.A 3 p3.c]) u8 from ⟨B3.out, B3.out⟩)
  go_wp2
  refine HK _ _ (fun _ => HS.out) ?_
  clear HK
  refine wpAnyE_step (i := 2) rfl (by kernel_rfl) (fun KQ HK => ?_)
  have KX := Lib.hid (low9 p3 ⟨0, 0, 3, 0⟩ u8 OP.out)
  go_wp2_with fail
  refine KX.out.mono ?_
  rintro e u9 ⟨⟨m3, c3, rfl, hl⟩, bel⟩
  clear KX HS
  have B3' := Lib.hid (B3.out.below (bel))
  have OP' := Lib.hid (OP.out.below (bel))
  have HB' := Lib.hid (HB.out.trans ((bel).mono HB.out.size))
  clear B3 OP HB
  have B3 := Lib.hid B3'.out
  have OP := Lib.hid OP'.out
  have HB := Lib.hid HB'.out
  clear B3' OP' HB'
  clear bel
  have HS := Lib.hid (show (fun Wo => HasBlk Wo x3 51 #[.slice p3.A 3 p3.c] ∧ HasBlk Wo x3 51 #[.slice p3.A 3 p3.c]) u9 from ⟨B3.out, B3.out⟩)
  obtain ⟨-, q1, q2, q3⟩ := thF_low (x := 3) hl rfl
  obtain rfl := q3 rfl
  clear hl q1 q2 q3
  go_wp2
  refine HK _ _ (fun _ => HS.out) ?_
  clear HK
  refine wpAnyE_takeA (i := 3) (v := .tuple #[.int .i64 m3, .int .i64 2]) rfl (by kernel_rfl) (fun _ _ _ h => h) (.inl ⟨by first | kernel_rfl | rfl, fun W hW => by go_simp⟩) HS.out ?_
  simp only [Act.put, List.setIfInBounds_toArray]
  refine wpAnyE_takeA (i := 4) (v := .int .i64 m3) rfl (by kernel_rfl) (fun _ _ _ h => h) (.inl ⟨by first | kernel_rfl | rfl, fun W hW => by go_simp⟩) HS.out ?_
  simp only [Act.put]
  refine wpAnyE_takeA (i := 5) (v := .int .i64 2) rfl (by kernel_rfl) (fun _ _ _ h => h) (.inl ⟨by first | kernel_rfl | rfl, fun W hW => by go_simp⟩) HS.out ?_
  simp only [Act.put]
  refine wpAnyE_takeA (i := 6) (v := .int .i64 m3) rfl (by kernel_rfl) (fun _ _ _ h => h) (.inl ⟨by first | kernel_rfl | rfl, fun W hW => by go_simp⟩) HS.out ?_
  simp only [Act.put]
  refine wpAnyE_takeA (i := 7) (v := .int .i64 2) rfl (by kernel_rfl) (fun _ _ _ h => h) (.inl ⟨by first | kernel_rfl | rfl, fun W hW => by go_simp⟩) HS.out ?_
  simp only [Act.put]
  refine wpAnyE_done (by kernel_rfl) ?_
  clear HS
  have hb55 := bld55z 66561
  have b3_0 := B3.out.cell 0
  have b3_z := B3.out.lt
  simp at b3_0
  have KX := Lib.hid (hid9 p3 ⟨0, 0, 0, 0⟩ 66561 u9 OP.out)
  go_wp2_with fail
  refine KX.out.mono ?_
  rintro e y1 ⟨⟨bq, cq, rfl, hl⟩, bel⟩
  obtain rfl := thF_hid66561 hl
  clear KX hl hb55
  clear b3_0 b3_z
  have B3' := Lib.hid (B3.out.below (bel))
  have OP' := Lib.hid (OP.out.below (bel))
  have HB' := Lib.hid (HB.out.trans ((bel).mono HB.out.size))
  clear B3 OP HB
  have B3 := Lib.hid B3'.out
  have OP := Lib.hid OP'.out
  have HB := Lib.hid HB'.out
  clear B3' OP' HB'
  clear bel
  have b3_0 := B3.out.cell 0
  have b3_z := B3.out.lt
  simp at b3_0
  obtain ⟨gA, oA, hA, hgA, _⟩ := OP.out.ls (by rw [thP_nums.1]; omega)
  have c02 := OP.out.lev (i := 0) (j := 2) hA (by rw [thP_nums.1]; omega) (by omega)
  have c10 := OP.out.lev (i := 1) (j := 0) hA (by rw [thP_nums.1]; omega) (by omega)
  have c11 := OP.out.lev (i := 1) (j := 1) hA (by rw [thP_nums.1]; omega) (by omega)
  have c12 := OP.out.lev (i := 1) (j := 2) hA (by rw [thP_nums.1]; omega) (by omega)
  have c22 := OP.out.lev (i := 2) (j := 2) hA (by rw [thP_nums.1]; omega) (by omega)
  obtain ⟨_, N0, N1, N2, N3, N4, N5, N6⟩ := thP_nums
  have k0 := OP.out.kd 0 (by rw [thP_nums.1]; omega)
  have k1 := OP.out.kd 1 (by rw [thP_nums.1]; omega)
  rw [N0] at k0
  rw [N4] at k1
  obtain ⟨g0, o0, hk0, hg0, hc0⟩ := k0 (by omega)
  obtain ⟨g1, o1, hk1, hg1, hc1⟩ := k1 (by omega)
  have d01 := hc0 1 (by omega) 0 (by omega)
  have d10 := hc1 0 (by omega) 0 (by omega)
  dsimp only at d01 d10
  rw [N1] at d01
  rw [N5] at d10
  simp only [pvc] at c02 c10 c11 c12 c22
  rw [N0, hk0] at c02
  rw [N2] at c10
  rw [N3] at c11
  rw [N4, hk1] at c12
  rw [N6] at c22
  have hA' : p3.A = some ⟨gA, oA, none⟩ := hA
  simp at c02 c10 c11 c12 c22 d01 d10
  clear N0 N1 N2 N3 N4 N5 N6 hc0 hc1 hk0 hk1 hA
  rw [hA'] at b3_0
  go_upto_region 10 with fail
  clear c02 c10 c11 c12 c22 d01 d10 b3_0 b3_z hg0 hg1 hgA hA'
  have KX := Lib.hid (chk0 y1)
  have hbp := bld_py
  go_wp2_with fail
  refine KX.out.mono ?_
  rintro e y2 ⟨rfl, bel⟩
  clear KX hbp
  have B3' := Lib.hid (B3.out.below (bel))
  have OP' := Lib.hid (OP.out.below (bel))
  have HB' := Lib.hid (HB.out.trans ((bel).mono HB.out.size))
  clear B3 OP HB
  have B3 := Lib.hid B3'.out
  have OP := Lib.hid OP'.out
  have HB := Lib.hid HB'.out
  clear B3' OP' HB'
  clear bel
  have b3_0 := B3.out.cell 0
  have b3_z := B3.out.lt
  simp at b3_0
  have KX := Lib.hid (chk9 p3 y2 OP.out)
  go_wp2_with fail
  refine KX.out.mono ?_
  rintro e y3 ⟨rfl, bel⟩
  clear KX
  go_wp2
  go_ret
  exact ⟨rfl, HB.out.trans (bel.mono HB.out.size)⟩
end Go.Proofs.Ytibeoeooajelgaa
