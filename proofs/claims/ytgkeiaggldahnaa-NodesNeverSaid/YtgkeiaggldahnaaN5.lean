/- nodes: the reference's Below. -/
import Derived.Test.YtgkeiaggldahnaaN2
import Derived.Deep.CutRange
import Derived.Deep.DeepCutAuto
namespace Go.Proofs.Ytgkeiaggldahnaa
open Go.RowKit
set_option linter.unusedVariables false
/-- The cells of a list of bools. -/
def bls (q : Nat → Bool) (n : Nat) : Array Value := ((List.range n).map fun i => Value.bool (q i)).toArray
theorem bls_at {q : Nat → Bool} {n i : Nat} (h : i < n) : (bls q n)[i]? = some (.bool (q i)) := by simp [bls, h]
theorem bls_set (q : Nat → Bool) {n i : Nat} (h : i < n) : (bls q n).setIfInBounds i (.bool true) = bls (fun j => if j = i then true else q j) n := by
  apply Array.ext
  · simp [bls]
  · intro j h1 h2
    by_cases e : j = i
    · subst e
      simp [bls]
    · simp [bls, e, Ne.symm e]
theorem bls_made (n : Nat) : madeCells (Value.bool false).cells (n * 1) = bls (fun _ => false) n := by
  have h := toList_madeCells_one (.bool false) (n * 1)
  apply Array.ext'
  show (madeCells #[.bool false] (n * 1)).toList = _
  rw [h]
  simp only [bls, Nat.mul_one]
  exact (List.ext_getElem (by simp) (fun i h1 h2 => by simp)).symm
theorem boolInfo : (Try.prog.info? 4).map (fun i => (i.zero, i.size, i.bytes)) = some (some (.bool false), 1, 1) := by kernel_rfl
theorem make_bools (n : Nat) (hn : n ≤ 1000) (W : World) : (Instr.makeSlice 77 (.int .i64 (n : Int)) (.int .i64 (n : Int))).run Try.prog W = .ok (.slice (some ⟨W.heap.size, 0, none⟩) n n) (W.alloc (.cells (bls (fun _ => false) n) 4)) := by
  obtain ⟨i0, hi0, hz0, hz1, hz2⟩ := info_parts boolInfo
  have h := make_full (P := Try.prog) Try.underlying77 hi0 hz0 n (by rw [hz2]; omega) (by omega) W
  rw [hz1, bls_made] at h
  exact h
/-- The reference's answer: the nodes that 'fr' reaches. -/
def BelowR (d : GD) (fr B : Nat) (e : Ending) (w' : World) : Prop := ∃ (X : Nat) (q : Nat → Bool), e = .returned (.slice (some ⟨X, 0, none⟩) d.m d.m) ∧ HasBlk w' X 4 (bls q d.m) ∧ B ≤ X ∧ ∀ j, j < d.n → q j = d.E.reachB fr j

set_option maxRecDepth 100000 in
set_option maxHeartbeats 8000000 in
theorem refbelow_any (d : GD) (p : GP) (hk : d.Kid) (hsm : d.Sm) (fr : Nat) (w : World) (hfr : fr < d.n) (hok : GOk w p d) :
    Calls Try.prog 41 #[.agg #[.slice p.A d.n p.c, .slice p.K d.m p.kc], .int .i64 fr] w fun e w' => BelowR d fr w.heap.size e w' ∧ Below w.heap.size w w' := by
  obtain ⟨A, c, K, kc, KA, KC⟩ := p
  dsimp only
  have hm1 := hsm.m
  obtain ⟨gk, ok, hA, hgk, hck⟩ := hok.ks (by rw [hk.m]; omega)
  dsimp only at hA
  subst hA
  have hks : ∀ i, i < d.m → w.cell? ⟨gk, ok + i, none⟩ = some (.slice (KA i) (d.L i) (KC i)) := fun i hi => by
    have h := hck i hi 0 (by omega)
    simpa [kv] using h
  have KS := Lib.hid hks
  have OK := Lib.hid hok
  have Sm := Lib.hid hsm
  have HK := Lib.hid hk
  have hfm : fr < d.m := by rw [hk.m]; exact hfr
  have b2 : Below w.heap.size w ((w.alloc (.cells #[.slice A d.n c, .slice (some ⟨gk, ok, none⟩) d.m kc] 27)).alloc (.cells (bls (fun _ => false) d.m) 4)) := by
    repeat' (first | exact Below.refl _ _ | assumption | apply Below.drew | refine Below.setCell ?_ (by first | omega | (simp; done) | (simp; omega)) _ | refine Below.alloc ?_ (by first | omega | (simp; done) | (simp; omega)) _)
  have hP : HasBlk ((w.alloc (.cells #[.slice A d.n c, .slice (some ⟨gk, ok, none⟩) d.m kc] 27)).alloc (.cells (bls (fun _ => false) d.m) 4)) w.heap.size 27 #[.slice A d.n c, .slice (some ⟨gk, ok, none⟩) d.m kc] := (hasBlk_new w 27 #[.slice A d.n c, .slice (some ⟨gk, ok, none⟩) d.m kc]).alloc _
  have hX : HasBlk ((w.alloc (.cells #[.slice A d.n c, .slice (some ⟨gk, ok, none⟩) d.m kc] 27)).alloc (.cells (bls (fun _ => false) d.m) 4)) (w.heap.size + 1) 4 (bls (fun _ => false) d.m) := by
    have h := hasBlk_new (w.alloc (.cells #[.slice A d.n c, .slice (some ⟨gk, ok, none⟩) d.m kc] 27)) 4 (bls (fun _ => false) d.m)
    simpa using h
  have HP := Lib.hid hP
  have HX := Lib.hid hX
  have B2 := Lib.hid b2
  have hmk := make_bools d.m hm1
  clear hks hck hok hsm hk b2 hP hX
  go_enter Try.func41, Try.ntmps41
  go_upto_region 2 with fail
  clear hmk
  obtain ⟨X0, hX0⟩ : ∃ X0, X0 = w.heap.size + 1 := ⟨_, rfl⟩
  rw [← hX0] at HX ⊢
  generalize ((w.alloc (.cells #[.slice A d.n c, .slice (some ⟨gk, ok, none⟩) d.m kc] 27)).alloc (.cells (bls (fun _ => false) d.m) 4)) = v1 at *
  have x0 := HX.out.cell fr
  rw [bls_at hfm] at x0
  have f0 := HX.out.frozen fr
  have zx := HX.out.lt
  have i1 : (fr : Int) < (d.m : Int) := by omega
  have i0 : (0 : Int) ≤ (fr : Int) := by omega
  have hx0 : w.heap.size ≤ X0 := by omega
  have hne : X0 ≠ w.heap.size := by omega
  have hX2 := HX.out.set fr (.bool true)
  rw [bls_set _ hfm] at hX2
  have HX2 := Lib.hid hX2
  have HP2 := Lib.hid (HP.out.far (p := ⟨X0, fr, none⟩) hne (.bool true))
  have HB2 := Lib.hid (Below.setCell (p := ⟨X0, fr, none⟩) B2.out hx0 (.bool true))
  clear hX2 hX0
  go_wp2
  clear x0 f0 zx HX HP B2
  go_loopw [6] (fun i wr => ∃ (a : Nat) (q : Nat → Bool), a ≤ d.m ∧ i = .int .i64 a ∧ HasBlk wr w.heap.size 27 #[.slice A d.n c, .slice (some ⟨gk, ok, none⟩) d.m kc] ∧ HasBlk wr X0 4 (bls q d.m) ∧ d.E.Wide fr q a ∧ Below w.heap.size w wr) (fun i wr => d.m - (intOf i).toNat)
  case atStart => exact ⟨0, _, Nat.zero_le _, rfl, HP2.out, HX2.out, .start hfr, HB2.out⟩
  case round =>
    clear HX2 HP2 HB2
    obtain ⟨a, q, ham, rfl, hP, hX, hwide, hbel⟩ := hrel
    have HB := Lib.hid hbel
    have HP := Lib.hid hP
    have HX := Lib.hid hX
    have HWI := Lib.hid hwide
    have zb := hbel.size
    have p1 := hP.cell 1
    have zp := hP.lt
    have zx := hX.lt
    simp at p1
    clear hbel hP hX hwide
    by_cases hal : a < d.m
    · have i1a : (a : Int) < (d.m : Int) := by omega
      go_wp2
      obtain ⟨wo, rfl⟩ : ∃ wo : World, wo = wr := ⟨wr, rfl⟩
      clear p1 zp zx zb
      go_loopw [7] (fun i wr => ∃ (k : Nat) (p1' : Nat → Bool), k ≤ d.m ∧ i = .int .i64 k ∧ HasBlk wr w.heap.size 27 #[.slice A d.n c, .slice (some ⟨gk, ok, none⟩) d.m kc] ∧ HasBlk wr X0 4 (bls p1' d.m) ∧ d.E.Spr fr q p1' k 0 ∧ Below w.heap.size w wr) (fun i wr => d.m - (intOf i).toNat)
      case atStart => exact ⟨0, q, Nat.zero_le _, rfl, HP.out, HX.out, .start HWI.out.reach, HB.out⟩
      case round =>
        clear HB HP HX
        obtain ⟨k, p1', hkm0, rfl, hP, hX, hspr, hbel⟩ := hrel
        have HB := Lib.hid hbel
        have HP := Lib.hid hP
        have HX := Lib.hid hX
        have HSP := Lib.hid hspr
        have zb := hbel.size
        have p1 := hP.cell 1
        have zp := hP.lt
        have zx := hX.lt
        simp at p1
        clear hbel hP hX hspr
        by_cases hkm : k < d.m
        · have hkn : k < d.n := by have := HK.out.m; omega
          have i1k : (k : Int) < (d.m : Int) := by omega
          have i0k : (0 : Int) ≤ (k : Int) := by omega
          have q16 := Sm.out.L k hkm
          go_wp2
          obtain ⟨wm, rfl⟩ : ∃ wm : World, wm = wr := ⟨wr, rfl⟩
          clear p1 zp zx zb
          go_loopw [8] (fun i wr => ∃ (t : Nat) (p2 : Nat → Bool), t ≤ d.L k ∧ i = .int .i64 t ∧ HasBlk wr w.heap.size 27 #[.slice A d.n c, .slice (some ⟨gk, ok, none⟩) d.m kc] ∧ HasBlk wr X0 4 (bls p2 d.m) ∧ d.E.Spr fr q p2 k t ∧ Below w.heap.size w wr) (fun i wr => d.L k - (intOf i).toNat)
          case atStart => exact ⟨0, p1', Nat.zero_le _, rfl, HP.out, HX.out, HSP.out, HB.out⟩
          case round =>
            clear HB HP HX HSP
            obtain ⟨t, p2, htl, rfl, hP, hX, hspr, hbel⟩ := hrel
            have HB := Lib.hid hbel
            have HP := Lib.hid hP
            have HX := Lib.hid hX
            have HSP := Lib.hid hspr
            have zb := hbel.size
            have p1 := hP.cell 1
            have zp := hP.lt
            have zx := hX.lt
            simp at p1
            have k0 := (hbel.cell (p := ⟨gk, ok + k, none⟩) hgk).trans (KS.out k hkm)
            clear hbel hP hX hspr
            by_cases htL : t < d.L k
            · obtain ⟨e1, e2, e3⟩ := HK.out.at hkn htL
              obtain ⟨gi, oi, hAi, hgi, hci⟩ := (OK.out.kd k hkm).below HB.out (by omega)
              dsimp only at hAi
              rw [hAi] at k0
              have c0 := hci t htL 0 (by omega)
              simp only [hv, Nat.add_zero] at c0
              rw [e1] at c0
              clear hci e1 e2
              have e3' : d.E.K k t < d.m := by rw [HK.out.m]; exact e3
              have i1 : (t : Int) < (d.L k : Int) := by omega
              have i0 : (0 : Int) ≤ (t : Int) := by omega
              have i3 : ((d.E.K k t : Nat) : Int) < (d.m : Int) := by omega
              have x0 := HX.out.cell k
              rw [bls_at hkm] at x0
              have x1 := HX.out.cell (d.E.K k t)
              rw [bls_at e3'] at x1
              have f1 := HX.out.frozen (d.E.K k t)
              have hne : X0 ≠ w.heap.size := by omega
              cases hpk : p2 k with
              | true =>
                rw [hpk] at x0
                have HPK := Lib.hid hpk
                have hX2 := HX.out.set (d.E.K k t) (.bool true)
                rw [bls_set _ e3'] at hX2
                have HX2 := Lib.hid hX2
                have HP2 := Lib.hid (HP.out.far (p := ⟨X0, d.E.K k t, none⟩) hne (.bool true))
                have HB2 := Lib.hid (Below.setCell (p := ⟨X0, d.E.K k t, none⟩) HB.out hx0 (.bool true))
                clear hpk hX2
                go_wp2
                go_roundw
                case rel => exact ⟨t + 1, _, by omega, by go_num, HP2.out, HX2.out, HSP.out.kid HK.out.in hkn htL HPK.out, HB2.out⟩
                case measure => simp [intOf]; omega
              | false =>
                rw [hpk] at x0
                have HPK := Lib.hid hpk
                clear hpk
                go_wp2
                go_roundw
                case rel => exact ⟨t + 1, _, by omega, by go_num, HP.out, HX.out, HSP.out.pass hkn HPK.out, HB.out⟩
                case measure => simp [intOf]; omega
            · have htL2 : t = d.L k := by omega
              subst htL2
              go_wp2
              go_roundw
              case rel => exact ⟨k + 1, _, by omega, by go_num, HP.out, HX.out, HSP.out.row (Nat.le_refl _), HB.out⟩
              case measure => simp [intOf]; omega
        · have hkm2 : k = d.m := by omega
          subst hkm2
          go_wp2
          go_roundw
          case rel => exact ⟨a + 1, _, by omega, by go_num, HP.out, HX.out, HWI.out.next HK.out.in hfr (by have h := HSP.out; rw [HK.out.m] at h; exact h), HB.out⟩
          case measure => simp [intOf]; omega
    · have hal2 : a = d.m := by omega
      subst hal2
      go_wp2
      go_ret
      refine ⟨⟨X0, q, rfl, HX.out, hx0, fun j hj => ?_⟩, HB.out⟩
      rw [Bool.eq_iff_iff, d.E.reachB_iff]
      have h := HWI.out
      rw [HK.out.m] at h
      exact h.end hj
end Go.Proofs.Ytgkeiaggldahnaa
