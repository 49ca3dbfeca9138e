/- The walks of texture.Checks and the reference's Checks, over a list of textures. -/
import Derived.Test.YtgcappooiecaiaaW7
namespace Go.Proofs.Ytgcappooiecaiaa
open Go.RowKit
set_option linter.unusedVariables false

/-- What a texture's cells say. -/
structure TexD where
  W : Int
  H : Int
  a : Option Addr
  n : Nat
  c : Nat
  f : Nat → Nat → Int
def TexD.may (d : TexD) : Prop := May d.W d.H d.n
/-- A list of textures. -/
def TL (w : World) (A : Option Addr) (m : Nat) (D : Nat → TexD) : Prop :=
  0 < m → ∃ b off, A = some ⟨b, off, none⟩ ∧ b < w.heap.size ∧ (∀ i, i < m → w.cell? ⟨b, off + i * 3, none⟩ = some (.int .i64 (D i).W) ∧ w.cell? ⟨b, off + i * 3 + 1, none⟩ = some (.int .i64 (D i).H) ∧ w.cell? ⟨b, off + i * 3 + 2, none⟩ = some (.slice (D i).a (D i).n (D i).c)) ∧
    ∀ i, i < m → Px w (D i).a (D i).n (D i).f
theorem TL.below {w w' : World} {A : Option Addr} {m : Nat} {D : Nat → TexD} (h : TL w A m D) (hb : Below w.heap.size w w') : TL w' A m D := fun hm => by
  obtain ⟨b, off, e, hl, hc, hp⟩ := h hm
  refine ⟨b, off, e, Nat.lt_of_lt_of_le hl hb.size, fun i hi => ?_, fun i hi => (hp i hi).below hb⟩
  obtain ⟨h0, h1, h2⟩ := hc i hi
  exact ⟨(hb.cell (p := ⟨b, off + i * 3, none⟩) hl).trans h0, (hb.cell (p := ⟨b, off + i * 3 + 1, none⟩) hl).trans h1, (hb.cell (p := ⟨b, off + i * 3 + 2, none⟩) hl).trans h2⟩
theorem TL.sub {w w' : World} {A : Option Addr} {m : Nat} {D : Nat → TexD} (h : TL w A m D) {B : Nat} (hB : w.heap.size ≤ B) (hb : Below B w w') : TL w' A m D := h.below (hb.mono hB)

/-- The error of a list of textures. -/
noncomputable def checksE (D : Nat → TexD) (m : Nat) : Int := open Classical in if 16 < m then 4 else if ∀ i, i < m → (D i).may then 0 else 8
theorem checksE_many {D : Nat → TexD} {m : Nat} (h : 16 < m) : checksE D m = 4 := by unfold checksE; rw [if_pos h]
theorem checksE_ok {D : Nat → TexD} {m : Nat} (h : ¬ 16 < m) (k : ∀ i, i < m → (D i).may) : checksE D m = 0 := by unfold checksE; rw [if_neg h, if_pos k]
theorem checksE_bad {D : Nat → TexD} {m : Nat} (h : ¬ 16 < m) {i : Nat} (hi : i < m) (k : ¬ (D i).may) : checksE D m = 8 := by unfold checksE; rw [if_neg h, if_neg (fun q => k (q i hi))]

set_option maxHeartbeats 1000000 in
theorem checks_any (A : Option Addr) (m c : Nat) (D : Nat → TexD) (w : World) (hl : TL w A m D) :
    Calls Try.prog 23 #[.slice A m c] w fun e w' => e = .returned (.int .i64 (checksE D m)) ∧ Below w.heap.size w w' := by
  by_cases h16 : 16 < m
  · rw [checksE_many h16]
    go_enter Try.func23, Try.ntmps23
    go_wp2
    go_ret
    exact ⟨rfl, Below.refl _ _⟩
  · have hm : (m : Int) ≤ 16 := by omega
    have Hl := Lib.hid hl
    clear hl
    go_enter Try.func23, Try.ntmps23
    go_wp2
    go_loopw [11] (fun i wr => ∃ k : Nat, k ≤ m ∧ i = .int .i64 k ∧ Below w.heap.size w wr ∧ ∀ j, j < k → (D j).may) (fun i wr => m - (intOf i).toNat)
    case atStart => exact ⟨0, Nat.zero_le _, rfl, Below.refl _ _, fun j hj => absurd hj (by omega)⟩
    case round =>
      obtain ⟨k, hk, rfl, hbel, hall⟩ := hrel
      by_cases hkm : k < m
      · obtain ⟨b, off, rfl, hbl, hc, hp⟩ := Hl.out (by omega)
        obtain ⟨c0, c1, c2⟩ := hc k hkm
        have hb := hbel.cell (p := ⟨b, off + k * 3, none⟩) hbl
        have e0 : wr.cell? ⟨b, off + k * 3, none⟩ = some (.int .i64 (D k).W) := (hbel.cell (p := ⟨b, off + k * 3, none⟩) hbl).trans c0
        have e1 : wr.cell? ⟨b, off + k * 3 + 1, none⟩ = some (.int .i64 (D k).H) := (hbel.cell (p := ⟨b, off + k * 3 + 1, none⟩) hbl).trans c1
        have e2 : wr.cell? ⟨b, off + k * 3 + 2, none⟩ = some (.slice (D k).a (D k).n (D k).c) := (hbel.cell (p := ⟨b, off + k * 3 + 2, none⟩) hbl).trans c2
        have hz := hbel.size
        have hok := check_ok (D k).W (D k).H (D k).a (D k).n (D k).c
        have hbad := check_bad (D k).W (D k).H (D k).a (D k).n (D k).c
        clear hc hp c0 c1 c2 hb
        have Hall := Lib.hid hall
        have Hok := Lib.hid hok
        have Hbad := Lib.hid hbad
        clear hall hok hbad
        by_cases hmay : (D k).may
        · go_wp2_with fail
          refine (Hok.out _ hmay).mono ?_
          rintro e w1 ⟨rfl, bel1⟩
          go_wp2
          go_roundw
          case rel =>
            refine ⟨k + 1, by omega, by go_num, hbel.trans ((Below.alloc (Below.refl _ _) hz _).trans (bel1.mono (by simp; omega))), fun j hj => ?_⟩
            by_cases e : j = k
            · subst e; exact hmay
            · exact Hall.out j (by omega)
          case measure => simp [intOf]; omega
        · go_wp2_with fail
          refine (Hbad.out _ hmay).mono ?_
          rintro e w1 ⟨rfl, bel1⟩
          go_wp2
          go_ret
          exact ⟨by rw [checksE_bad h16 hkm hmay]; rfl, hbel.trans ((Below.alloc (Below.refl _ _) hz _).trans (bel1.mono (by simp; omega)))⟩
      · have hkm' : k = m := by omega
        subst hkm'
        have e0 := Lib.hid (checksE_ok h16 hall)
        clear hall
        go_wp2
        go_ret
        exact ⟨by rw [e0.out]; rfl, hbel⟩

set_option maxHeartbeats 1000000 in
theorem refchecks_any (A : Option Addr) (m c : Nat) (D : Nat → TexD) (w : World) (hl : TL w A m D) :
    Calls Try.prog 29 #[.slice A m c] w fun e w' => e = .returned (.int .i64 (checksE D m)) ∧ Below w.heap.size w w' := by
  by_cases h16 : 16 < m
  · rw [checksE_many h16]
    go_enter Try.func29, Try.ntmps29
    go_wp2
    go_ret
    exact ⟨rfl, Below.refl _ _⟩
  · have hm : (m : Int) ≤ 16 := by omega
    have Hl := Lib.hid hl
    clear hl
    go_enter Try.func29, Try.ntmps29
    go_wp2
    go_loopw [3] (fun i wr => ∃ k : Nat, k ≤ m ∧ i = .int .i64 k ∧ Below w.heap.size w wr ∧ ∀ j, j < k → (D j).may) (fun i wr => m - (intOf i).toNat)
    case atStart => exact ⟨0, Nat.zero_le _, rfl, Below.refl _ _, fun j hj => absurd hj (by omega)⟩
    case round =>
      obtain ⟨k, hk, rfl, hbel, hall⟩ := hrel
      by_cases hkm : k < m
      · obtain ⟨b, off, rfl, hbl, hc, hp⟩ := Hl.out (by omega)
        obtain ⟨c0, c1, c2⟩ := hc k hkm
        have e0 : wr.cell? ⟨b, off + k * 3, none⟩ = some (.int .i64 (D k).W) := (hbel.cell (p := ⟨b, off + k * 3, none⟩) hbl).trans c0
        have e1 : wr.cell? ⟨b, off + k * 3 + 1, none⟩ = some (.int .i64 (D k).H) := (hbel.cell (p := ⟨b, off + k * 3 + 1, none⟩) hbl).trans c1
        have e2 : wr.cell? ⟨b, off + k * 3 + 2, none⟩ = some (.slice (D k).a (D k).n (D k).c) := (hbel.cell (p := ⟨b, off + k * 3 + 2, none⟩) hbl).trans c2
        have hz := hbel.size
        have hok := may_yes (D k).W (D k).H (D k).a (D k).n (D k).c
        have hbad := may_no (D k).W (D k).H (D k).a (D k).n (D k).c
        clear hc hp c0 c1 c2
        have Hall := Lib.hid hall
        have Hok := Lib.hid hok
        have Hbad := Lib.hid hbad
        clear hall hok hbad
        by_cases hmay : (D k).may
        · go_wp2_with fail
          refine (Hok.out _ hmay).mono ?_
          rintro e w1 ⟨rfl, bel1⟩
          go_wp2
          go_roundw
          case rel =>
            refine ⟨k + 1, by omega, by go_num, hbel.trans (bel1.mono hz), fun j hj => ?_⟩
            by_cases e : j = k
            · subst e; exact hmay
            · exact Hall.out j (by omega)
          case measure => simp [intOf]; omega
        · go_wp2_with fail
          refine (Hbad.out _ hmay).mono ?_
          rintro e w1 ⟨rfl, bel1⟩
          go_wp2
          go_ret
          exact ⟨by rw [checksE_bad h16 hkm hmay]; rfl, hbel.trans (bel1.mono hz)⟩
      · have hkm' : k = m := by omega
        subst hkm'
        have e0 := Lib.hid (checksE_ok h16 hall)
        clear hall
        go_wp2
        go_ret
        exact ⟨by rw [e0.out]; rfl, hbel⟩
end Go.Proofs.Ytgcappooiecaiaa
