/- nodes: none. -/
import Derived.Test.YtgkeiaggldahnaaKl
namespace Go.Proofs.Ytgkeiaggldahnaa
open Go.RowKit
set_option linter.unusedVariables false
theorem GD.May.live {d : GD} (h : d.May) {i k : Nat} (hi : i < d.m) (hk : k < d.L i) : HeldA d.n d.g d.b (i : Nat) (d.g i) := by
  have := (h.2.2.1 i hi).2.1 (by omega)
  exact ⟨by omega, by rw [← h.2.1]; omega, rfl, this⟩
theorem none_rch {d : GD} (h : d.May) {i k : Nat} (hi : i < d.m) (hk : k < d.L i) : rchv d (d.S i k) (d.Q i k) (i : Nat) (d.g i) = false ∧ askv d (HeldA d.n d.g d.b (d.S i k) (d.Q i k) ∧ HeldA d.n d.g d.b (i : Nat) (d.g i)) = 0 := by
  have hin : i < d.n := by rw [← h.2.1]; exact hi
  obtain ⟨h1, h2⟩ := kid_rch h hin hk (h.live hi hk)
  refine ⟨h1.trans ?_, h2⟩
  rw [← Bool.not_eq_true, GE.reachB_iff]
  exact h.2.2.2 i k hin hk
set_option maxRecDepth 100000 in
set_option maxHeartbeats 8000000 in
theorem none_any (d : GD) (p : GP) (hmay : d.May) (w : World) (hok : GOk w p d) :
    Calls Try.prog 28 #[.agg #[.slice p.A d.n p.c, .slice p.K d.m p.kc]] w fun e w' => e = .returned (.bool true) ∧ Below w.heap.size w w' := by
  obtain ⟨A, c, K, kc, KA, KC⟩ := p
  dsimp only
  have HB := Lib.hid ((Below.refl w.heap.size w).alloc (Nat.le_refl _) (.cells #[.slice A d.n c, .slice K d.m kc] 27))
  have HP := Lib.hid (hasBlk_new w 27 #[.slice A d.n c, .slice K d.m kc])
  have OK := Lib.hid hok
  have Sm := Lib.hid hmay.sm
  have MAY := Lib.hid hmay
  have hm1 := hmay.sm.m
  clear hok hmay
  go_enter Try.func28, Try.ntmps28
  go_wp2
  go_loopw [3] (fun i' wr => ∃ i : Nat, i ≤ d.m ∧ i' = .int .i64 i ∧ HasBlk wr w.heap.size 27 #[.slice A d.n c, .slice K d.m kc] ∧ Below w.heap.size w wr) (fun i' wr => d.m - (intOf i').toNat)
  case atStart => exact ⟨0, Nat.zero_le _, rfl, HP.out, HB.out⟩
  case round =>
    clear HB HP
    obtain ⟨i, hil, rfl, hP, hbel⟩ := hrel
    have HB := Lib.hid hbel
    have HP := Lib.hid hP
    have p0 := hP.cell 0
    have p1 := hP.cell 1
    have zp := hP.lt
    simp at p0 p1
    have zb := hbel.size
    by_cases him : i < d.m
    · obtain ⟨gk, ok, hA, hgk, hck⟩ := OK.out.ks (by omega)
      dsimp only at hA
      subst hA
      have hin : i < d.n := by have := MAY.out.2.1; omega
      obtain ⟨ga, oa, hA2, hga, hca⟩ := OK.out.ar (by omega)
      dsimp only at hA2
      subst hA2
      have hrow := OK.out.kd i him
      dsimp only at hrow
      have k1 := hck i him 0 (by omega)
      simp only [kv, Nat.add_zero, Nat.mul_one] at k1
      obtain ⟨Ai, hAi⟩ : ∃ Ai, KA i = Ai := ⟨_, rfl⟩
      rw [hAi] at hrow k1
      have RW := Lib.hid hrow
      have KR := Lib.hid k1
      have AR := Lib.hid (show w.cell? ⟨ga, oa + i * 2, none⟩ = some (.int .i64 (d.g i)) by
        have h := hca i hin 0 (by omega)
        simpa [sv] using h)
      have k0 := (hbel.cell (p := ⟨gk, ok + i, none⟩) hgk).trans k1
      have q16 := Sm.out.L i him
      have i1i : (i : Int) < (d.m : Int) := by omega
      have i2i : (i : Int) < (d.n : Int) := by omega
      have i0i : (0 : Int) ≤ (i : Int) := by omega
      clear hck hca hrow k1 hAi hbel hP
      go_wp2
      obtain ⟨wo, rfl⟩ : ∃ wo : World, wo = wr := ⟨wr, rfl⟩
      clear p0 p1 zp zb k0
      go_loopw [4] (fun t' wr => ∃ t : Nat, t ≤ d.L i ∧ t' = .int .i64 t ∧ HasBlk wr w.heap.size 27 #[.slice (some ⟨ga, oa, none⟩) d.n c, .slice (some ⟨gk, ok, none⟩) d.m kc] ∧ Below w.heap.size w wr) (fun t' wr => d.L i - (intOf t').toNat)
      case atStart => exact ⟨0, Nat.zero_le _, rfl, HP.out, HB.out⟩
      case round =>
        clear HB HP
        obtain ⟨t, htl, rfl, hP, hbel⟩ := hrel
        have HB := Lib.hid hbel
        have HP := Lib.hid hP
        have p0 := hP.cell 0
        have p1 := hP.cell 1
        have zp := hP.lt
        simp at p0 p1
        have zb := hbel.size
        have k0 := (hbel.cell (p := ⟨gk, ok + i, none⟩) hgk).trans KR.out
        by_cases htL : t < d.L i
        · obtain ⟨gi, oi, hAi, hgi, hci⟩ := RW.out.below hbel (by omega)
          subst hAi
          have c0 := hci t htL 0 (by omega)
          have c1 := hci t htL 1 (by omega)
          simp only [hv, Nat.add_zero, if_true] at c0
          simp only [hv] at c1
          rw [if_neg (by decide)] at c1
          have i1 : (t : Int) < (d.L i : Int) := by omega
          have j0 : (0 : Int) ≤ (t : Int) := by omega
          have a0 := (hbel.cell (p := ⟨ga, oa + i * 2, none⟩) hga).trans AR.out
          have hga2 : ga < wr.heap.size := by omega
          have KH := Lib.hid (show ∀ b : BW wr, Calls Try.prog 15 #[.agg #[.slice (some ⟨ga, oa, none⟩) d.n c, .slice (some ⟨gk, ok, none⟩) d.m kc], .agg #[.int .i64 (d.S i t), .int .i64 (d.Q i t)], .agg #[.int .i64 i, .int .i64 (d.g i)]] b.W fun e w'' => e = .returned (.tuple #[.bool false, .int .i64 0]) ∧ ∃ p' : BW wr, w'' = p'.W from fun b => BW.call (fun W' (h : Below wr.heap.size wr W') => (rch_any d ⟨some ⟨ga, oa, none⟩, c, some ⟨gk, ok, none⟩, kc, KA, KC⟩ Sm.out (d.S i t) (d.Q i t) (i : Nat) (d.g i) W' (OK.out.below (HB.out.trans (h.mono zb)))).mono (fun e w' h' => ⟨h'.1.trans (by rw [(none_rch MAY.out him htL).1, (none_rch MAY.out him htL).2]), h'.2⟩)) b)
          clear hbel hP hci
          have r1 := fun b : BW wr => BW.cell p0 zp b
          have r2 := fun b : BW wr => BW.cell p1 zp b
          have r3 := fun b : BW wr => BW.cell k0 (Nat.lt_of_lt_of_le hgk zb) b
          have r4 := fun b : BW wr => BW.cell c0 hgi b
          have r5 := fun b : BW wr => BW.cell c1 hgi b
          have r6 := fun b : BW wr => BW.cell a0 hga2 b
          go_upto_region 7 with fail
          clear p0 p1 k0 c0 c1 a0
          refine wp_region_quiet_bw (by kernel_rfl) (by kernel_rfl) ?_
          repeat (go_big_quiet_step ((go_at_call 15; with_reducible exact KH.out _)))
          refine wpQuiet_nil ?_
          intro _ hw'
          obtain ⟨pq, hw''⟩ := hw'
          subst hw''
          clear r1 r2 r3 r4 r5 r6 KH
          have HB2 := Lib.hid (HB.out.trans (pq.h.mono zb))
          have HP2 := Lib.hid (HP.out.below pq.h)
          go_wp2
          go_roundw
          case rel => exact ⟨t + 1, by omega, by go_num, HP2.out, HB2.out⟩
          case measure => simp [intOf]; omega
        · have htL2 : t = d.L i := by omega
          subst htL2
          clear hbel hP
          go_wp2
          go_roundw
          case rel => exact ⟨i + 1, by omega, by go_num, HP.out, HB.out⟩
          case measure => simp [intOf]; omega
    · have him2 : i = d.m := by omega
      subst him2
      clear hbel hP
      go_wp2
      go_ret
      exact ⟨rfl, HB.out⟩
end Go.Proofs.Ytgkeiaggldahnaa
