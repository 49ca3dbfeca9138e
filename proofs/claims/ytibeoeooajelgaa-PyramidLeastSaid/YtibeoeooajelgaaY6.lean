/- pyramid: Low. -/
import Derived.Test.YtibeoeooajelgaaY5
namespace Go.Proofs.Ytibeoeooajelgaa
open Go.RowKit
set_option linter.unusedVariables false
/-- The pixels of a rectangle. -/
def LD.inR (l : LD) (r : RC) (a b : Nat) : Prop := a < l.W ∧ b < l.H ∧ r.X0 ≤ a ∧ (a : Int) ≤ r.X1 ∧ r.Y0 ≤ b ∧ (b : Int) ≤ r.Y1
def RC.Bad (r : RC) (W H : Int) : Prop := min r.X0 r.Y0 < 0 ∨ r.X1 < r.X0 ∨ W ≤ r.X1 ∨ r.Y1 < r.Y0 ∨ H ≤ r.Y1
/-- What Low answers. -/
def LowR (d : PD) (r : RC) (m e : Int) : Prop := (¬ d.May ∧ m = 0 ∧ e = 8) ∨ (d.May ∧ r.Bad (d.W 0) (d.H 0) ∧ m = 0 ∧ e = 2) ∨ (d.May ∧ ¬ r.Bad (d.W 0) (d.H 0) ∧ e = 0 ∧ LstB (d.l0.inR r) d.l0.f 66560 m)
theorem LowR.fn {d : PD} {r : RC} {m e m' e' : Int} (h : LowR d r m e) (k : LowR d r m' e') : m = m' ∧ e = e' := by
  rcases h with ⟨h1, rfl, rfl⟩ | ⟨h1, h2, rfl, rfl⟩ | ⟨h1, h2, rfl, h3⟩ <;> rcases k with ⟨k1, rfl, rfl⟩ | ⟨k1, k2, rfl, rfl⟩ | ⟨k1, k2, rfl, k3⟩ <;> first | exact ⟨rfl, rfl⟩ | exact absurd h1 k1 | exact absurd k1 h1 | exact absurd h2 k2 | exact absurd k2 h2 | exact ⟨h3.fn k3, rfl⟩
theorem LD.Top.six {l : LD} {k : Nat} (h : l.Top k) (a1 : 1 ≤ l.W) (a2 : 1 ≤ l.H) (b1 : l.W ≤ 64) (b2 : l.H ≤ 64) : k ≤ 6 := by
  rcases Nat.lt_or_ge 6 k with h6 | h6
  · exfalso
    have h1 := LD.lev_pos a1 a2 6
    have h2 := LD.lev_max b1 b2 6 (Nat.le_refl _)
    have e : (2 : Nat) ^ (6 - 6) = 1 := rfl
    exact h.2.2 6 h6 ⟨by omega, by omega⟩
  · exact h6
theorem LD.Top.zero {l : LD} {k a : Nat} (h : l.Top k) (ha : a < l.W) : a / 2 ^ k = 0 := by
  have h1 : ¬ 1 < (l.lev k).W := by rw [h.1]; omega
  rw [LD.lev_W] at h1
  exact Nat.div_eq_of_lt (by omega)
theorem LD.Top.zeroH {l : LD} {k a : Nat} (h : l.Top k) (ha : a < l.H) : a / 2 ^ k = 0 := by
  have h1 : ¬ 1 < (l.lev k).H := by rw [h.2.1]; omega
  rw [LD.lev_H] at h1
  exact Nat.div_eq_of_lt (by omega)
theorem LD.Top.blk {l : LD} {k a b : Nat} {r : RC} (h : l.Top k) : l.blk r k 0 0 a b ↔ l.inR r a b :=
  ⟨fun q => ⟨q.1, q.2.1, q.2.2.2.2⟩, fun q => ⟨q.1, q.2.1, h.zero q.1, h.zeroH q.2.1, q.2.2⟩⟩
theorem PD.May.W {d : PD} (h : d.May) : (d.l0.W : Int) = d.W 0 ∧ 1 ≤ d.l0.W ∧ d.l0.W ≤ 64 := by
  have h1 := h.W1
  have h2 := h.W2
  show (((d.W 0).toNat : Nat) : Int) = d.W 0 ∧ 1 ≤ (d.W 0).toNat ∧ (d.W 0).toNat ≤ 64
  omega
theorem PD.May.H {d : PD} (h : d.May) : (d.l0.H : Int) = d.H 0 ∧ 1 ≤ d.l0.H ∧ d.l0.H ≤ 64 := by
  have h1 := h.H1
  have h2 := h.H2
  show (((d.H 0).toNat : Nat) : Int) = d.H 0 ∧ 1 ≤ (d.H 0).toNat ∧ (d.H 0).toNat ≤ 64
  omega
theorem PD.May.sz {d : PD} (h : d.May) : d.L 0 = d.l0.W * d.l0.H := by
  have h1 := h.L
  rw [← h.W.1, ← h.H.1, ← Int.natCast_mul] at h1
  exact Int.ofNat.inj h1
theorem PD.May.le {d : PD} (h : d.May) : d.l0.Le := fun x y hx hy => h.hi _ (by rw [h.sz]; exact LD.row_lt hx hy)
theorem POk.same {w : World} {p : PP} {d e : PD} (h : POk w p d) (hs : SamePD e d) : POk w p e := ⟨by
  rw [hs.1]
  exact h.ls.congr fun i hi j hj => by
    have := hs.2 i (by rw [hs.1]; exact hi)
    unfold pvc
    rw [this.1, this.2.1, this.2.2.1], fun i hi => by
  have := hs.2 i hi
  rw [this.2.2.1]
  exact (h.kd i (by rw [← hs.1]; exact hi)).congr fun k hk j hj => by rw [this.2.2.2 k (by rw [this.2.2.1]; exact hk)]⟩

set_option maxRecDepth 100000 in
set_option maxHeartbeats 16000000 in
theorem plow_any (d : PD) (p : PP) (r : RC) (hsm : d.Sm) (w : World) (hok : POk w p d) :
    Calls Try.prog 34 #[.agg #[.slice p.A d.n p.c], .agg #[.int .i64 r.X0, .int .i64 r.Y0, .int .i64 r.X1, .int .i64 r.Y1]] w fun e w' => (∃ m c, e = .returned (.tuple #[.int .i64 m, .int .i64 c]) ∧ LowR d r m c) ∧ Below w.heap.size w w' := by
  obtain ⟨A, c, KA, KC⟩ := p
  obtain ⟨X0, Y0, X1, Y1⟩ := r
  dsimp only
  have OK := Lib.hid hok
  have Sm := Lib.hid hsm
  clear hok hsm
  obtain ⟨n, hn⟩ : ∃ n, d.n = n := ⟨_, rfl⟩
  rw [hn]
  have HN := Lib.hid hn
  clear hn
  have B2 := Lib.hid (((Below.refl w.heap.size w).alloc (Nat.le_refl _) (.cells #[.slice A n c] 51)).alloc (by simp) (.cells #[.int .i64 X0, .int .i64 Y0, .int .i64 X1, .int .i64 Y1] 53))
  have S1 := Lib.hid ((hasBlk_new w 51 #[.slice A n c]).below ((Below.refl _ _).alloc (Nat.le_refl _) (.cells #[.int .i64 X0, .int .i64 Y0, .int .i64 X1, .int .i64 Y1] 53)))
  have S2 := hasBlk_new (w.alloc (.cells #[.slice A n c] 51)) 53 #[.int .i64 X0, .int .i64 Y0, .int .i64 X1, .int .i64 Y1]
  have e1 : (w.alloc (.cells #[.slice A n c] 51)).heap.size = w.heap.size + 1 := by simp
  rw [e1] at S2
  have S2 := Lib.hid S2
  clear e1
  have hk := pcheck_any d ⟨A, c, KA, KC⟩ Sm.out _ (OK.out.below B2.out)
  rw [HN.out] at hk
  dsimp only at hk
  by_cases hm : d.May
  rotate_left
  · rw [chkP_no hm] at hk
    have HM := Lib.hid hm
    have KX := Lib.hid hk
    clear hk hm
    go_enter Try.func34, Try.ntmps34
    go_wp2_with fail
    refine KX.out.mono ?_
    rintro e w1 ⟨rfl, bel⟩
    have BQ := Lib.hid (B2.out.trans (bel.mono B2.out.size))
    clear KX bel
    go_wp2
    go_ret2
    exact ⟨⟨0, 8, rfl, .inl ⟨HM.out, rfl, rfl⟩⟩, BQ.out⟩
  rw [chkP_yes hm] at hk
  obtain ⟨K, htop, hsame⟩ := hm.eq
  have hK6 := htop.six hm.W.2.1 hm.H.2.1 hm.W.2.2 hm.H.2.2
  obtain rfl : n = K + 1 := by rw [← HN.out]; exact hsame.1.symm
  obtain ⟨gA, oA, hA, hgA, hcA⟩ := OK.out.ls hm.n
  dsimp only at hA
  subst hA
  clear hcA
  have PW := Lib.hid (show (0 + 1) * 2 ^ K ≤ 128 by
    have := Nat.pow_le_pow_right (n := 2) (by omega) hK6
    omega)
  have OKK := Lib.hid (OK.out.same hsame)
  have HM := Lib.hid hm
  have TOP := Lib.hid htop
  have KX := Lib.hid hk
  clear hk hm hsame htop
  obtain ⟨W, hW⟩ : ∃ W, d.W 0 = W := ⟨_, rfl⟩
  obtain ⟨H, hH⟩ : ∃ H, d.H 0 = H := ⟨_, rfl⟩
  obtain ⟨L, hL⟩ : ∃ L, d.L 0 = L := ⟨_, rfl⟩
  obtain ⟨K0, hK0⟩ : ∃ K0, KA 0 = K0 := ⟨_, rfl⟩
  obtain ⟨C0, hC0⟩ : ∃ C0, KC 0 = C0 := ⟨_, rfl⟩
  go_enter Try.func34, Try.ntmps34
  go_wp2_with fail
  refine KX.out.mono ?_
  rintro e w1 ⟨rfl, bel⟩
  have BQ := Lib.hid (B2.out.trans (bel.mono B2.out.size))
  have S1' := Lib.hid (S1.out.below bel)
  have S2' := Lib.hid (S2.out.below bel)
  clear KX bel S1 S2
  have BN := Lib.hid (BQ.out.alloc BQ.out.size (.cells #[.int .i64 W, .int .i64 H, .slice K0 L C0] 74))
  have a0 := (OK.out.below BQ.out).lev (i := 0) (j := 0) rfl HM.out.n (by omega)
  have a1 := (OK.out.below BQ.out).lev (i := 0) (j := 1) rfl HM.out.n (by omega)
  have a2 := (OK.out.below BQ.out).lev (i := 0) (j := 2) rfl HM.out.n (by omega)
  simp [pvc] at a0 a1 a2
  rw [hW] at a0
  rw [hH] at a1
  rw [hL, hK0, hC0] at a2
  have HW := Lib.hid hW
  have HH := Lib.hid hH
  clear hW hH hL hK0 hC0
  have s0 := S1'.out.cell 0
  have sz := S1'.out.lt
  have r0 := S2'.out.cell 0
  have r1 := S2'.out.cell 1
  have r2 := S2'.out.cell 2
  have r3 := S2'.out.cell 3
  have rz := S2'.out.lt
  simp at s0 r0 r1 r2 r3
  have gz : gA < w1.heap.size := Nat.lt_of_lt_of_le hgA BQ.out.size
  have NK : (0 : Int) < (K : Int) + 1 := by omega
  have NK2 : (0 : Int) < ((K + 1 : Nat) : Int) := by omega
  by_cases u0 : min X0 Y0 < 0
  · have d0 : decide (min X0 Y0 < 0) = true := decide_eq_true u0
    have HB := Lib.hid u0
    go_wp2
    go_ret2
    exact ⟨⟨0, 2, rfl, .inr (.inl ⟨HM.out, (.inl HB.out), rfl, rfl⟩)⟩, BN.out⟩
  have d0 : decide (min X0 Y0 < 0) = false := decide_eq_false u0
  by_cases u1 : X1 < X0
  · have d1 : decide (X1 < X0) = true := decide_eq_true u1
    have HB := Lib.hid u1
    go_wp2
    go_ret2
    exact ⟨⟨0, 2, rfl, .inr (.inl ⟨HM.out, (.inr (.inl HB.out)), rfl, rfl⟩)⟩, BN.out⟩
  have d1 : decide (X1 < X0) = false := decide_eq_false u1
  by_cases u2 : W ≤ X1
  · have d2 : decide (W ≤ X1) = true := decide_eq_true u2
    have HB := Lib.hid u2
    go_wp2
    go_ret2
    exact ⟨⟨0, 2, rfl, .inr (.inl ⟨HM.out, (.inr (.inr (.inl (by show d.W 0 ≤ X1; rw [HW.out]; exact HB.out)))), rfl, rfl⟩)⟩, BN.out⟩
  have d2 : decide (W ≤ X1) = false := decide_eq_false u2
  by_cases u3 : Y1 < Y0
  · have d3 : decide (Y1 < Y0) = true := decide_eq_true u3
    have HB := Lib.hid u3
    go_wp2
    go_ret2
    exact ⟨⟨0, 2, rfl, .inr (.inl ⟨HM.out, (.inr (.inr (.inr (.inl HB.out)))), rfl, rfl⟩)⟩, BN.out⟩
  have d3 : decide (Y1 < Y0) = false := decide_eq_false u3
  by_cases u4 : H ≤ Y1
  · have d4 : decide (H ≤ Y1) = true := decide_eq_true u4
    have HB := Lib.hid u4
    go_wp2
    go_ret2
    exact ⟨⟨0, 2, rfl, .inr (.inl ⟨HM.out, (.inr (.inr (.inr (.inr (by show d.H 0 ≤ Y1; rw [HH.out]; exact HB.out))))), rfl, rfl⟩)⟩, BN.out⟩
  have d4 : decide (H ≤ Y1) = false := decide_eq_false u4
  have HB := Lib.hid (show ¬ RC.Bad ⟨X0, Y0, X1, Y1⟩ (d.W 0) (d.H 0) by
    unfold RC.Bad
    rw [HW.out, HH.out]
    dsimp only
    omega)
  clear u0 u1 u2 u3 u4
  have hk := fun W' (hb : Below w1.heap.size w1 W') => low_any d.l0 K ⟨some ⟨gA, oA, none⟩, c, KA, KC⟩ ⟨X0, Y0, X1, Y1⟩ HM.out.le HM.out.W.2.1 HM.out.H.2.1 HM.out.W.2.2 HM.out.H.2.2 hK6 K (Nat.le_refl _) 0 0 66560 PW.out PW.out W' ((OKK.out.below BQ.out).below hb)
  push_cast at hk
  have KX := Lib.hid hk
  clear hk
  go_wp2_with fail
  refine (KX.out _ ((Below.refl w1.heap.size w1).alloc (Nat.le_refl _) _)).mono ?_
  rintro e w2 ⟨⟨m, rfl, hl⟩, bel⟩
  have HL := Lib.hid hl
  have BN' := Lib.hid (BN.out.trans (bel.mono BN.out.size))
  clear hl bel KX
  go_wp2
  go_ret2
  exact ⟨⟨m, 0, rfl, .inr (.inr ⟨HM.out, HB.out, rfl, HL.out.congr (fun a b => TOP.out.blk)⟩)⟩, BN'.out⟩
end Go.Proofs.Ytibeoeooajelgaa
