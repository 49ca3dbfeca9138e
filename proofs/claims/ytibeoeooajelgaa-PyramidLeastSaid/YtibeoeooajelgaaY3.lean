/- pyramid: same, EqualFunc, Check. -/
import Derived.Test.YtibeoeooajelgaaY2
namespace Go.Proofs.Ytibeoeooajelgaa
open Go.RowKit
set_option linter.unusedVariables false
/-- A pyramid's numbers: n levels, W by H, L numbers f. -/
structure PD where
  n : Nat
  W : Nat → Int
  H : Nat → Int
  L : Nat → Nat
  f : Nat → Nat → Int
/-- Where it lies. -/
structure PP where
  A : Option Addr
  c : Nat
  KA : Nat → Option Addr
  KC : Nat → Nat
def pvc (p : PP) (d : PD) (i j : Nat) : Value := if j = 0 then .int .i64 (d.W i) else if j = 1 then .int .i64 (d.H i) else .slice (p.KA i) (d.L i) (p.KC i)
/-- A pyramid that reads as d. -/
structure POk (w : World) (p : PP) (d : PD) : Prop where
  ls : Row w p.A d.n 3 (pvc p d)
  kd : ∀ i, i < d.n → Row w (p.KA i) (d.L i) 1 (fun k _ => .int .i64 (d.f i k))
theorem POk.below {w w' : World} {p : PP} {d : PD} (h : POk w p d) (hb : Below w.heap.size w w') : POk w' p d := ⟨h.ls.below hb, fun i hi => (h.kd i hi).below hb⟩
/-- No more than can be counted. -/
structure PD.Sm (d : PD) : Prop where
  n : d.n ≤ 1000000
  L : ∀ i, i < d.n → d.L i ≤ 1000000
def LvE (d e : PD) (i : Nat) : Prop := d.W i = e.W i ∧ d.H i = e.H i ∧ d.L i = e.L i ∧ ∀ k, k < d.L i → d.f i k = e.f i k
def SamePD (d e : PD) : Prop := d.n = e.n ∧ ∀ i, i < d.n → LvE d e i
open Classical in
theorem eqr_of {P : Prop} {e : Ending} (h : EqR P e) : e = .returned (.bool (decide P)) := by
  obtain ⟨b, rfl, hb⟩ := h
  by_cases hp : P
  · rw [decide_eq_true hp, hb.2 hp]
  · have : b = false := by
      cases b
      · rfl
      · exact absurd (hb.1 rfl) hp
    rw [this, decide_eq_false hp]
set_option maxRecDepth 100000 in
set_option maxHeartbeats 4000000 in
theorem samel_any (W H W' H' : Int) (A A' : Option Addr) (n c n' c' : Nat) (f g : Nat → Int) (w : World) (hA : Row w A n 1 (fun k _ => .int .i64 (f k))) (hB : Row w A' n' 1 (fun k _ => .int .i64 (g k))) (hn : n ≤ 1000000) :
    Calls Try.prog 73 #[.agg #[.int .i64 W, .int .i64 H, .slice A n c], .agg #[.int .i64 W', .int .i64 H', .slice A' n' c']] w fun e w' => EqR (W = W' ∧ H = H' ∧ n = n' ∧ ∀ k, k < n → f k = g k) e ∧ Below w.heap.size w w' := by
  have b2 : Below w.heap.size w ((w.alloc (.cells #[.int .i64 W, .int .i64 H, .slice A n c] 74)).alloc (.cells #[.int .i64 W', .int .i64 H', .slice A' n' c'] 74)) := by
    repeat' (first | exact Below.refl _ _ | assumption | apply Below.drew | refine Below.setCell ?_ (by first | omega | (simp; done) | (simp; omega)) _ | refine Below.alloc ?_ (by first | omega | (simp; done) | (simp; omega)) _)
  have B2 := Lib.hid b2
  have KX := Lib.hid (eqints A A' n n' c c' (fun k _ => f k) (fun k _ => g k) _ (hA.below b2) (hB.below b2) (by omega))
  clear hA hB b2
  by_cases h1 : W = W'
  rotate_left
  · have g1 : (W == W') = false := by simpa using h1
    have NN := Lib.hid h1
    clear h1 KX
    go_enter Try.func73, Try.ntmps73
    go_wp2
    go_ret
    exact ⟨⟨false, rfl, ⟨fun h => (by cases h), fun h => absurd h.1 NN.out⟩⟩, B2.out⟩
  subst h1
  by_cases h2 : H = H'
  rotate_left
  · have g1 : (H == H') = false := by simpa using h2
    have NN := Lib.hid h2
    clear h2 KX
    go_enter Try.func73, Try.ntmps73
    go_wp2
    go_ret
    exact ⟨⟨false, rfl, ⟨fun h => (by cases h), fun h => absurd h.2.1 NN.out⟩⟩, B2.out⟩
  subst h2
  go_enter Try.func73, Try.ntmps73
  go_wp2_with fail
  refine KX.out.mono ?_
  rintro e w1 ⟨⟨b, rfl, hb⟩, bel⟩
  have HB := Lib.hid hb
  have B3 := Lib.hid (B2.out.trans (bel.mono B2.out.size))
  clear hb bel KX
  go_wp2
  go_ret
  exact ⟨⟨b, rfl, ⟨fun h => ⟨by first | rfl | trivial, by first | rfl | trivial, HB.out.1 h⟩, fun h => HB.out.2 h.2.2⟩⟩, B3.out⟩
set_option maxRecDepth 100000 in
set_option maxHeartbeats 4000000 in
theorem eqf_any (d e : PD) (p q : PP) (w : World) (h1 : POk w p d) (h2 : POk w q e) (hsm : d.Sm) :
    Calls Try.prog 72 #[.slice p.A d.n p.c, .slice q.A e.n q.c, .func (.func 73) #[] #[]] w fun x w' => EqR (SamePD d e) x ∧ Below w.heap.size w w' := by
  obtain ⟨A, c, KA, KC⟩ := p
  obtain ⟨A', c', KA', KC'⟩ := q
  dsimp only
  by_cases hnm : d.n = e.n
  rotate_left
  · have g0 : ((d.n : Int) != (e.n : Int)) = true := by simp; omega
    have NM := Lib.hid hnm
    clear h1 h2 hsm hnm
    go_enter Try.func72, Try.ntmps72
    go_wp2
    go_ret
    exact ⟨⟨false, rfl, ⟨fun h => (by cases h), fun h => absurd h.1 NM.out⟩⟩, Below.refl _ _⟩
  have OK1 := Lib.hid h1
  have OK2 := Lib.hid h2
  have Sm := Lib.hid hsm
  have hm := hsm.n
  have NM := Lib.hid hnm
  clear h1 h2 hsm
  obtain ⟨m2, hm2⟩ : ∃ m2, e.n = m2 := ⟨_, rfl⟩
  rw [hm2] at hnm ⊢
  obtain ⟨m, hmm⟩ : ∃ m, d.n = m := ⟨_, rfl⟩
  rw [hmm] at hnm hm ⊢
  subst hnm
  have M1 := Lib.hid hmm
  have M2 := Lib.hid hm2
  clear hmm hm2
  go_enter Try.func72, Try.ntmps72
  go_wp2
  go_loopw [17] (fun i wr => ∃ k : Nat, k ≤ m ∧ i = .int .i64 k ∧ (∀ i, i < k → LvE d e i) ∧ Below w.heap.size w wr) (fun i wr => m - (intOf i).toNat)
  case atStart => exact ⟨0, Nat.zero_le _, rfl, fun j hj => absurd hj (by omega), Below.refl _ _⟩
  case round =>
    obtain ⟨k, hk, rfl, hall, hbel⟩ := hrel
    have AL := Lib.hid hall
    have BL := Lib.hid hbel
    have zb := hbel.size
    clear hall hbel
    by_cases hkm : k < m
    · obtain ⟨g1, o1, hA, hg1, hc1⟩ := (OK1.out.below BL.out).ls (by rw [M1.out]; omega)
      obtain ⟨g2, o2, hB, hg2, hc2⟩ := (OK2.out.below BL.out).ls (by rw [M2.out]; omega)
      dsimp only at hA hB
      subst hA hB
      have x0 := hc1 k (by rw [M1.out]; exact hkm) 0 (by omega)
      have x1 := hc1 k (by rw [M1.out]; exact hkm) 1 (by omega)
      have x2 := hc1 k (by rw [M1.out]; exact hkm) 2 (by omega)
      have y0 := hc2 k (by rw [M2.out]; exact hkm) 0 (by omega)
      have y1 := hc2 k (by rw [M2.out]; exact hkm) 1 (by omega)
      have y2 := hc2 k (by rw [M2.out]; exact hkm) 2 (by omega)
      simp [pvc] at x0 x1 x2 y0 y1 y2
      have i1 : (k : Int) < (m : Int) := by omega
      have i0 : (0 : Int) ≤ (k : Int) := by omega
      have KX := Lib.hid (fun W (hb : Below wr.heap.size wr W) => samel_any (d.W k) (d.H k) (e.W k) (e.H k) (KA k) (KA' k) (d.L k) (KC k) (e.L k) (KC' k) (d.f k) (e.f k) W ((OK1.out.kd k (by rw [M1.out]; exact hkm)).below (BL.out.trans (hb.mono zb))) ((OK2.out.kd k (by rw [M2.out]; exact hkm)).below (BL.out.trans (hb.mono zb))) (Sm.out.L k (by rw [M1.out]; exact hkm)))
      clear hc1 hc2
      go_wp2_with fail
      refine (KX.out _ (by repeat' (first | exact Below.refl _ _ | refine Below.alloc ?_ (by first | omega | (simp; done) | (simp; omega)) _))).mono ?_
      rintro x w1 ⟨⟨b, rfl, hb⟩, bel⟩
      have HB := Lib.hid hb
      have B2 := Lib.hid ((BL.out.alloc zb _).alloc (by first | omega | (simp; done) | (simp; omega)) _ |>.trans (bel.mono (by first | omega | (simp; done) | (simp; omega))))
      clear bel KX x0 x1 x2 y0 y1 y2 hb
      cases b
      · go_wp2
        go_ret
        exact ⟨⟨false, rfl, ⟨fun h => (by cases h), fun h => by
          have := HB.out.2 (h.2 k (by rw [M1.out]; exact hkm))
          cases this⟩⟩, B2.out⟩
      · go_wp2
        go_roundw
        case rel =>
          refine ⟨k + 1, by omega, by go_num, fun j hj => ?_, B2.out⟩
          rcases Nat.lt_or_ge j k with h | h
          · exact AL.out j h
          · obtain rfl : j = k := by omega
            exact HB.out.1 (by first | rfl | trivial)
        case measure => simp [intOf]; omega
    · obtain rfl : k = m := by omega
      go_wp2
      go_ret
      exact ⟨⟨true, rfl, ⟨fun _ => ⟨NM.out, fun i hi => AL.out i (by rw [← M1.out]; exact hi)⟩, fun _ => rfl⟩⟩, BL.out⟩
end Go.Proofs.Ytibeoeooajelgaa
