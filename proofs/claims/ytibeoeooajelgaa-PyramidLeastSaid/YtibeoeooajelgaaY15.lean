/- pyramid: the reference's Twin and Great. -/
import Derived.Test.YtibeoeooajelgaaY14
namespace Go.Proofs.Ytibeoeooajelgaa
open Go.RowKit
set_option linter.unusedVariables false
theorem own_fresh {w : World} {b e s n g : Nat} {v : Value} {xs : List Value} (h : w.ownsRow b e s v n xs) (hg : w.heap.size ≤ g) : v.ownBlock ≠ some g := by
  intro e1
  rcases h.2 with ⟨h1, h2⟩ | ⟨g', cap, cur, h1, h2, h3, _⟩
  · rw [h1] at e1
    cases e1
  · rw [h1] at e1
    have e2 : g' = g := by injection e1
    have := HasBlk.lt h3
    omega
theorem own_news {w : World} {b e s n g j : Nat} {v : Value} {xs : List Value} (h : w.ownsRow b e s v n xs) (hne : v.ownBlock ≠ some g) (u : Value) : (w.setCell ⟨g, j, none⟩ u).ownsRow b e s v n xs := ownsRow_setCell_other (a := ⟨g, j, none⟩) h hne u
/-- The first k levels. -/
def PD.cut (d : PD) (k : Nat) : PD := ⟨k, d.W, d.H, d.L, d.f⟩
def gsum (L : Nat → Nat) : Nat → Nat
  | 0 => 0
  | k + 1 => gsum L k + min (L k) 100000
theorem gsum_le (L : Nat → Nat) : ∀ k, gsum L k ≤ k * 100000
  | 0 => Nat.le_refl _
  | k + 1 => by
    have := gsum_le L k
    show gsum L k + min (L k) 100000 ≤ _
    omega
theorem gsum_ge (L : Nat → Nat) {i : Nat} : ∀ k, i < k → min (L i) 100000 ≤ gsum L k
  | 0, h => absurd h (by omega)
  | k + 1, h => by
    show _ ≤ gsum L k + min (L k) 100000
    by_cases e : i = k
    · subst e; omega
    · have := gsum_ge L k (show i < k by omega)
      omega
/-- Is a pyramid more than statements go through? -/
def PD.Great (d : PD) : Prop := 20 < d.n ∨ 9000 < gsum d.L (min d.n 100)
theorem PD.not_great {d : PD} (h : ¬ d.Great) : d.n ≤ 20 ∧ ∀ i, i < d.n → d.L i ≤ 9000 := by
  have h1 : d.n ≤ 20 := by unfold PD.Great at h; omega
  refine ⟨h1, fun i hi => ?_⟩
  have h2 : ¬ 9000 < gsum d.L (min d.n 100) := fun q => h (.inr q)
  have := gsum_ge d.L (i := i) (min d.n 100) (by omega)
  omega
theorem PD.Sm.of {d : PD} (h : ¬ d.Great) : d.Sm := ⟨by have := (PD.not_great h).1; omega, fun i hi => by have := (PD.not_great h).2 i hi; omega⟩

set_option maxRecDepth 100000 in
set_option maxHeartbeats 16000000 in
theorem pgreat_any (d : PD) (p : PP) (hbd : (d.n : Int) ≤ 9223372036854775807) (w : World) (hok : POk w p d) :
    Calls Try.prog 30 #[.agg #[.slice p.A d.n p.c]] w fun e w' => EqR d.Great e ∧ Below w.heap.size w w' := by
  obtain ⟨A, c, KA, KC⟩ := p
  dsimp only
  have OK := Lib.hid hok
  have B1 := Lib.hid ((Below.refl w.heap.size w).alloc (Nat.le_refl _) (.cells #[.slice A d.n c] 51))
  have P1 := Lib.hid (hasBlk_new w 51 #[.slice A d.n c])
  obtain ⟨n, hn⟩ : ∃ n, d.n = n := ⟨_, rfl⟩
  rw [hn] at hbd B1 P1 ⊢
  have HN := Lib.hid hn
  clear hok hn
  go_enter Try.func30, Try.ntmps30
  go_wp2
  generalize w.alloc (.cells #[.slice A n c] 51) = v0 at *
  go_loopw [3, 4] (fun s3 s4 wr => ∃ k : Nat, k ≤ n ∧ k ≤ 100 ∧ s3 = .int .i64 (gsum d.L k : Nat) ∧ s4 = .int .i64 k ∧ Below v0.heap.size v0 wr) (fun _ s4 wr => 100 - (intOf s4).toNat)
  case atStart => exact ⟨0, Nat.zero_le _, by omega, rfl, rfl, Below.refl _ _⟩
  case round =>
    obtain ⟨k, hk, hk2, rfl, rfl, hbel⟩ := hrel
    have BV := Lib.hid hbel
    have BW := Lib.hid (B1.out.trans (hbel.mono B1.out.size))
    have P1' := Lib.hid (P1.out.below hbel)
    have a0 := P1'.out.cell 0
    have az := P1'.out.lt
    simp at a0
    clear hbel
    by_cases h1 : k < n ∧ k < 100
    rotate_left
    · have hmin : min n 100 = k := by omega
      have hkn : (decide ((k : Int) < (n : Int)) = false ∧ ¬ k < n) ∨ (decide ((k : Int) < (n : Int)) = true ∧ decide ((k : Int) < 100) = false ∧ k < n ∧ ¬ k < 100) := by
        by_cases q : k < n
        · exact .inr ⟨decide_eq_true (by omega), decide_eq_false (by omega), q, by omega⟩
        · exact .inl ⟨decide_eq_false (by omega), q⟩
      have MN := Lib.hid hmin
      obtain ⟨sm, hsm⟩ : ∃ sm, gsum d.L k = sm := ⟨_, rfl⟩
      rw [hsm]
      have SM := Lib.hid hsm
      clear hsm hmin
      rcases hkn with ⟨d0, kn⟩ | ⟨d0, d1, kn, k9⟩
      · by_cases q1 : 20 < n
        · have e1 : decide ((20 : Int) < (n : Int)) = true := decide_eq_true (by omega)
          have Q1 := Lib.hid q1
          clear h1 q1
          go_wp2
          go_ret
          exact ⟨⟨true, rfl, ⟨fun _ => .inl (by rw [HN.out]; exact Q1.out), fun _ => rfl⟩⟩, BW.out⟩
        · have e1 : decide ((20 : Int) < (n : Int)) = false := decide_eq_false (by omega)
          have Q1 := Lib.hid q1
          by_cases q2 : 9000 < sm
          · have e2 : decide ((9000 : Int) < (sm : Int)) = true := decide_eq_true (by omega)
            have Q2 := Lib.hid q2
            clear h1 q1 q2
            go_wp2
            go_ret
            exact ⟨⟨true, rfl, ⟨fun _ => .inr (by rw [HN.out, MN.out, SM.out]; exact Q2.out), fun _ => rfl⟩⟩, BW.out⟩
          · have e2 : decide ((9000 : Int) < (sm : Int)) = false := decide_eq_false (by omega)
            have Q2 := Lib.hid q2
            clear h1 q1 q2
            go_wp2
            go_ret
            exact ⟨⟨false, rfl, ⟨fun h => (by cases h), fun h => by
              rcases h with h | h
              · rw [HN.out] at h; exact absurd h Q1.out
              · rw [HN.out, MN.out, SM.out] at h; exact absurd h Q2.out⟩⟩, BW.out⟩
      · by_cases q1 : 20 < n
        · have e1 : decide ((20 : Int) < (n : Int)) = true := decide_eq_true (by omega)
          have Q1 := Lib.hid q1
          clear h1 q1
          go_wp2
          go_ret
          exact ⟨⟨true, rfl, ⟨fun _ => .inl (by rw [HN.out]; exact Q1.out), fun _ => rfl⟩⟩, BW.out⟩
        · have e1 : decide ((20 : Int) < (n : Int)) = false := decide_eq_false (by omega)
          have Q1 := Lib.hid q1
          by_cases q2 : 9000 < sm
          · have e2 : decide ((9000 : Int) < (sm : Int)) = true := decide_eq_true (by omega)
            have Q2 := Lib.hid q2
            clear h1 q1 q2
            go_wp2
            go_ret
            exact ⟨⟨true, rfl, ⟨fun _ => .inr (by rw [HN.out, MN.out, SM.out]; exact Q2.out), fun _ => rfl⟩⟩, BW.out⟩
          · have e2 : decide ((9000 : Int) < (sm : Int)) = false := decide_eq_false (by omega)
            have Q2 := Lib.hid q2
            clear h1 q1 q2
            go_wp2
            go_ret
            exact ⟨⟨false, rfl, ⟨fun h => (by cases h), fun h => by
              rcases h with h | h
              · rw [HN.out] at h; exact absurd h Q1.out
              · rw [HN.out, MN.out, SM.out] at h; exact absurd h Q2.out⟩⟩, BW.out⟩
    have d0 : decide ((k : Int) < (n : Int)) = true := decide_eq_true (by omega)
    have d1 : decide ((k : Int) < (100 : Int)) = true := decide_eq_true (by omega)
    obtain ⟨gA, oA, hA, hgA, _⟩ := (OK.out.below BW.out).ls (by rw [HN.out]; omega)
    dsimp only at hA
    subst hA
    have x2 := (OK.out.below BW.out).lev (i := k) (j := 2) rfl (by rw [HN.out]; omega) (by omega)
    simp [pvc] at x2
    obtain ⟨K1, hK1⟩ : ∃ x, KA k = x := ⟨_, rfl⟩
    obtain ⟨n1, hn1⟩ : ∃ x, d.L k = x := ⟨_, rfl⟩
    obtain ⟨k1, hk1⟩ : ∃ x, KC k = x := ⟨_, rfl⟩
    rw [hK1, hn1, hk1] at x2
    have hs := gsum_le d.L k
    have GS := Lib.hid (show gsum d.L (k + 1) = gsum d.L k + min n1 100000 by rw [← hn1]; rfl)
    obtain ⟨sm, hsm⟩ : ∃ sm, gsum d.L k = sm := ⟨_, rfl⟩
    rw [hsm] at hs ⊢
    obtain ⟨mv, hmv⟩ : ∃ mv, min n1 100000 = mv := ⟨_, rfl⟩
    have SM := Lib.hid (And.intro hsm hmv)
    have hm1 : min (n1 : Int) 100000 = (mv : Int) := by omega
    have hm2 : mv ≤ 100000 := by omega
    clear hK1 hn1 hk1 hsm hmv
    have i1 : (k : Int) < (n : Int) := by omega
    have i2 : ¬ ((n : Int) ≤ (k : Int)) := by omega
    have i0 : (0 : Int) ≤ (k : Int) := by omega
    have w1 : IntKind.i64.wrap ((sm : Int) + (mv : Int)) = ((sm + mv : Nat) : Int) := by push_cast; exact IntWalk.i64_in _ (by omega)
    go_wp2
    go_roundw
    case rel =>
      exact ⟨k + 1, by omega, by omega, by rw [GS.out, SM.out.1, SM.out.2, Int.natCast_add], by go_num, BV.out⟩
    case measure => simp [intOf]; omega

set_option maxRecDepth 100000 in
set_option maxHeartbeats 16000000 in
theorem ptwin_any (d : PD) (p : PP) (hgr : ¬ d.Great) (w : World) (hok : POk w p d) :
    Calls Try.prog 31 #[.agg #[.slice p.A d.n p.c]] w fun e w' => (∃ q, e = .returned (.agg #[.slice q.A d.n q.c]) ∧ POwn w.heap.size w' q d) ∧ Below w.heap.size w w' := by
  obtain ⟨A, c, KA, KC⟩ := p
  dsimp only
  obtain ⟨i0', hi0, hz0, hz1, hz2⟩ := info_parts lv_info
  obtain ⟨i0, hi00⟩ : ∃ i0, i0 = i0' := ⟨_, rfl⟩
  rw [← hi00] at hi0 hz0 hz1 hz2
  clear hi00
  obtain ⟨j0', hj0, hy0, hy1, hy2⟩ := info_parts int_info
  obtain ⟨j0, hj00⟩ : ∃ j0, j0 = j0' := ⟨_, rfl⟩
  rw [← hj00] at hj0 hy0 hy1 hy2
  clear hj00
  have OK := Lib.hid hok
  obtain ⟨hn20, hL9⟩ := PD.not_great hgr
  have SL := Lib.hid hL9
  obtain ⟨n, hn⟩ : ∃ n, d.n = n := ⟨_, rfl⟩
  rw [hn] at hn20 ⊢
  have HN := Lib.hid hn
  clear hok hn hgr hL9
  have B0 := Lib.hid (show Below w.heap.size w (((w.alloc (.cells #[.slice A n c] 51)).alloc (.cells #[.slice none 0 0] 51)).alloc (.cells #[.slice none 0 0] 51)) by
    repeat' (first | exact Below.refl _ _ | refine Below.alloc ?_ (by first | omega | (simp; done) | (simp; omega)) _))
  have P1 := Lib.hid (show HasBlk (((w.alloc (.cells #[.slice A n c] 51)).alloc (.cells #[.slice none 0 0] 51)).alloc (.cells #[.slice none 0 0] 51)) w.heap.size 51 #[.slice A n c] from ((hasBlk_new w 51 #[.slice A n c]).alloc _).alloc _)
  have P2 := Lib.hid (show HasBlk (((w.alloc (.cells #[.slice A n c] 51)).alloc (.cells #[.slice none 0 0] 51)).alloc (.cells #[.slice none 0 0] 51)) (w.heap.size + 1) 51 #[.slice none 0 0] by simpa using (hasBlk_new (w.alloc (.cells #[.slice A n c] 51)) 51 #[.slice none 0 0]).alloc (.cells #[.slice none 0 0] 51))
  have P3 := Lib.hid (show HasBlk (((w.alloc (.cells #[.slice A n c] 51)).alloc (.cells #[.slice none 0 0] 51)).alloc (.cells #[.slice none 0 0] 51)) (w.heap.size + 1 + 1) 51 #[.slice none 0 0] by simpa using hasBlk_new ((w.alloc (.cells #[.slice A n c] 51)).alloc (.cells #[.slice none 0 0] 51)) 51 #[.slice none 0 0])
  go_enter Try.func31, Try.ntmps31
  go_wp2
  have hsz : (w.heap.size + 1 + 1 + 1) ≤ ((((w.alloc (.cells #[.slice A n c] 51)).alloc (.cells #[.slice none 0 0] 51)).alloc (.cells #[.slice none 0 0] 51))).heap.size := by simp
  generalize (((w.alloc (.cells #[.slice A n c] 51)).alloc (.cells #[.slice none 0 0] 51)).alloc (.cells #[.slice none 0 0] 51)) = v0 at *
  go_loopw [4] (fun s4 wr => ∃ (k pc : Nat) (P : Option Addr) (KA2 : Nat → Option Addr) (KC2 : Nat → Nat), k ≤ n ∧ s4 = .int .i64 k ∧ POwn (w.heap.size + 1 + 1 + 1) wr ⟨P, pc, KA2, KC2⟩ (d.cut k) ∧ HasBlk wr w.heap.size 51 #[.slice A n c] ∧ HasBlk wr (w.heap.size + 1) 51 #[.slice none 0 0] ∧ HasBlk wr (w.heap.size + 1 + 1) 51 #[.slice P k pc] ∧ Below w.heap.size w wr ∧ (w.heap.size + 1 + 1 + 1) ≤ wr.heap.size) (fun s4 wr => n - (intOf s4).toNat)
  case atStart => exact ⟨0, 0, none, fun _ => none, fun _ => 0, Nat.zero_le _, rfl, ⟨own_nil _ _ _ _, fun i hi => absurd hi (Nat.not_lt_zero _)⟩, P1.out, P2.out, P3.out, B0.out, hsz⟩
  case round =>
    clear B0 P1 P2 P3
    obtain ⟨k, pc, P, KA2, KC2, hk, rfl, hpo, hS1, hS2, hS3, hbel, hsz2⟩ := hrel
    have PO := Lib.hid hpo
    have S1 := Lib.hid hS1
    have S2 := Lib.hid hS2
    have S3 := Lib.hid hS3
    have HB := Lib.hid hbel
    have a0 := hS1.cell 0
    have az := hS1.lt
    simp at a0
    clear hpo hS1 hS2 hS3 hbel hsz
    by_cases hkn : k < n
    rotate_left
    · obtain rfl : n = k := by omega
      have d0 : decide ((n : Int) < (n : Int)) = false := by simp
      have t0 := S2.out.cell 0
      have tf := S2.out.frozen 0
      have tz := S2.out.lt
      have u0 := S3.out.cell 0
      have uz := S3.out.lt
      simp at t0 u0
      go_wp2
      refine bodyPost_ret (v := .agg #[.slice P n pc]) (by simp [results, Try.results31, go_sem, *]) rfl ⟨⟨⟨P, pc, KA2, KC2⟩, rfl, ?_⟩, ?_⟩
      · have e : d.cut n = d := by rw [← HN.out]; rfl
        have h := PO.out.pset (g := (w.heap.size + 1)) (j := 0) S2.out (by decide) (by decide) (.slice P n pc)
        rw [e] at h
        exact h.base (by omega)
      · exact Below.setCell HB.out (by simp) _
    have d0 : decide ((k : Int) < (n : Int)) = true := decide_eq_true (by omega)
    have POK := Lib.hid (OK.out.below HB.out)
    obtain ⟨gA, oA, hA, hgA, _⟩ := POK.out.ls (by rw [HN.out]; omega)
    dsimp only at hA
    subst hA
    have x0 := POK.out.lev (i := k) (j := 0) rfl (by rw [HN.out]; omega) (by omega)
    have x1 := POK.out.lev (i := k) (j := 1) rfl (by rw [HN.out]; omega) (by omega)
    have x2 := POK.out.lev (i := k) (j := 2) rfl (by rw [HN.out]; omega) (by omega)
    simp [pvc] at x0 x1 x2
    have hkd := POK.out.kd k (by rw [HN.out]; omega)
    have hnl := SL.out k (by rw [HN.out]; omega)
    dsimp only at hkd
    obtain ⟨a1, ha1⟩ : ∃ x, d.W k = x := ⟨_, rfl⟩
    obtain ⟨a2, ha2⟩ : ∃ x, d.H k = x := ⟨_, rfl⟩
    obtain ⟨K1, hK1⟩ : ∃ x, KA k = x := ⟨_, rfl⟩
    obtain ⟨n1, hn1⟩ : ∃ x, d.L k = x := ⟨_, rfl⟩
    obtain ⟨k1, hk1⟩ : ∃ x, KC k = x := ⟨_, rfl⟩
    rw [ha1] at x0
    rw [ha2] at x1
    rw [hK1, hn1, hk1] at x2
    rw [hK1, hn1] at hkd
    rw [hn1] at hnl
    have RD := Lib.hid hkd
    have EE := Lib.hid (And.intro ha1 (And.intro ha2 hn1))
    clear hkd ha1 ha2 hK1 hn1 hk1
    have i1 : (k : Int) < (n : Int) := by omega
    have i2 : ¬ ((n : Int) ≤ (k : Int)) := by omega
    have i0 : (0 : Int) ≤ (k : Int) := by omega
    go_upto_region 6 with fail
    have bA := (Below.refl wr.heap.size wr).alloc (Nat.le_refl _) (.cells #[.int .i64 a1, .int .i64 a2, .slice K1 n1 k1] 74)
    have SX := Lib.hid (hasBlk_new wr 74 #[.int .i64 a1, .int .i64 a2, .slice K1 n1 k1])
    have S1a := Lib.hid (S1.out.below bA)
    have S2a := Lib.hid (S2.out.below bA)
    have S3a := Lib.hid (S3.out.below bA)
    have POa := Lib.hid (PO.out.below bA)
    have HBa := Lib.hid (HB.out.trans (bA.mono HB.out.size))
    have NB := Lib.hid (And.intro (own_fresh PO.out.ls (Nat.le_refl _)) (fun i hi => own_fresh (PO.out.kd i hi) (Nat.le_refl _)))
    have RDa := Lib.hid (RD.out.below bA)
    obtain ⟨tx, htx⟩ : ∃ tx, tx = wr.heap.size := ⟨_, rfl⟩
    rw [← htx] at SX NB ⊢
    have htb : (w.heap.size + 1 + 1 + 1) ≤ tx := by omega
    clear bA S1 S2 S3 PO HB RD x0 x1 x2 a0 az d0 i1 i2 i0 hgA POK htx hsz2
    generalize wr.alloc (.cells #[.int .i64 a1, .int .i64 a2, .slice K1 n1 k1] 74) = v1 at *
    have y2 := SX.out.cell 2
    have yx := SX.out.lt
    simp at y2
    have hnews := RDa.out.news (by omega)
    go_upto_region 7 with (at_builtin; refine wpList_app rfl (.const (.slice none 0 0)) (.tmp 19) 27 rfl v1.heap.size 3 j0 _ 1 8 Try.underlying27 hj0 hy0 hy1 hy2 rfl (by omega) none 0 0 [] rfl (own_nil _ _ 3 1) K1 n1 k1 (cellsR 1 (fun t _ => .int .i64 (d.f k t)) n1) rfl (cellsR_len 1 _ n1) hnews (cellsR_one (fun _ _ => rfl) n1) (by unfold maxLen; omega) (by omega) (Nat.le_refl _) ?_; intro A1 c1 v2 hown hgr; simp only [Nat.zero_add, List.nil_append] at hown ⊢; have bel : Below v1.heap.size v1 v2 := below_grown (v := .slice none 0 0) (base := v1.heap.size) (Below.refl _ _) hgr (own_nil _ _ 3 1) (Nat.le_refl _) (by simp); have YX := SX.out.below bel; have yx := YX.lt; have y2 := YX.cell 2; have yf2 := YX.frozen 2; simp at y2)
    have XOa := Lib.hid hown
    have hv12 := bel.size
    have S1b := Lib.hid ((S1a.out.below bel).far (p := ⟨tx, 2, none⟩) (by simp; omega) (.slice A1 n1 c1))
    have S2b := Lib.hid ((S2a.out.below bel).far (p := ⟨tx, 2, none⟩) (by simp; omega) (.slice A1 n1 c1))
    have S3b := Lib.hid ((S3a.out.below bel).far (p := ⟨tx, 2, none⟩) (by simp; omega) (.slice A1 n1 c1))
    have SXb := Lib.hid (show HasBlk (v2.setCell ⟨tx, 2, none⟩ (.slice A1 n1 c1)) tx 74 #[.int .i64 a1, .int .i64 a2, .slice A1 n1 c1] by simpa using (SX.out.below bel).set 2 (.slice A1 n1 c1))
    have HOb := Lib.hid (show World.ownsRow (v2.setCell ⟨tx, 2, none⟩ (.slice A1 n1 c1)) _ _ _ _ _ _ from own_news (j := 2) (own_below POa.out.ls bel) NB.out.1 (.slice A1 n1 c1))
    have LIb := Lib.hid (fun i hi => show World.ownsRow (v2.setCell ⟨tx, 2, none⟩ (.slice A1 n1 c1)) _ _ _ _ _ _ from own_news (j := 2) (own_below (POa.out.kd i hi) bel) (NB.out.2 i hi) (.slice A1 n1 c1))
    have XOb := Lib.hid (show World.ownsRow (v2.setCell ⟨tx, 2, none⟩ (.slice A1 n1 c1)) _ _ _ _ _ _ from own_news (j := 2) XOa.out (own_low XOa.out SX.out.lt) (.slice A1 n1 c1))
    have HBb := Lib.hid (show Below w.heap.size w (v2.setCell ⟨tx, 2, none⟩ (.slice A1 n1 c1)) from Below.setCell (p := ⟨tx, 2, none⟩) (HBa.out.trans (bel.mono HBa.out.size)) (show w.heap.size ≤ tx by omega) (.slice A1 n1 c1))
    have htv : tx < (v2.setCell ⟨tx, 2, none⟩ (.slice A1 n1 c1)).heap.size := SXb.out.lt
    have hv1s : (w.heap.size + 1 + 1 + 1) ≤ v1.heap.size := by have := SX.out.lt; omega
    clear hown hgr bel YX yx y2 yf2 hnews XOa S1a S2a S3a POa HBa RDa SX NB
    generalize (v2.setCell ⟨tx, 2, none⟩ (.slice A1 n1 c1)) = v9 at *
    dsimp only [PD.cut] at HOb LIb
    have s0 := SXb.out.cell 0
    have s1 := SXb.out.cell 1
    have s2 := SXb.out.cell 2
    have sz := SXb.out.lt
    have t0 := S3b.out.cell 0
    have tz := S3b.out.lt
    simp at s0 s1 s2 t0
    have hnew : (v9.alloc (.cells #[.int .i64 a1, .int .i64 a2, .slice A1 n1 c1] 74)).heap[v9.heap.size]? = some (.cells #[.int .i64 a1, .int .i64 a2, .slice A1 n1 c1] 74 (0, 0)) := heap_alloc_new _ _
    go_wp2_with (at_builtin; refine wpList_append_lies _ rfl (.tmp 23) (.tmp 25) 49 rfl (w.heap.size + 1 + 1 + 1) 74 i0 _ 3 40 Try.underlying49 hi0 hz0 hz1 hz2 rfl (by omega) (.slice P k pc) k (cellsR 3 (pvc ⟨P, pc, KA2, KC2⟩ d) k) rfl (HOb.out.alloc _) ⟨v9.heap.size, 0, none⟩ 1 1 [.int .i64 a1, .int .i64 a2, .slice A1 n1 c1] (by rfl) rfl (World.news_of_block (cs := #[.int .i64 a1, .int .i64 a2, .slice A1 n1 c1]) (t := 74) (fr := (0, 0)) hnew) (by simp [Value.oneCell']) (by omega) (by unfold maxLen; omega) (by omega) (by first | omega | (simp; done) | (simp; omega)) (v9.heap.size + 1) (by first | omega | (simp; done) | (simp; omega)) ?_; intro g' cap w9 hown3 hgrow hat hlt; have hT3 := (S3b.out.alloc (.cells #[.int .i64 a1, .int .i64 a2, .slice A1 n1 c1] 74)).grown hgrow (own_low HOb.out (show (w.heap.size + 1 + 1) < (w.heap.size + 1 + 1 + 1) by omega)); have u0 := hT3.cell 0; have uf := hT3.frozen 0; have uz := hT3.lt; simp at u0)
    have S3c := Lib.hid (show HasBlk (w9.setCell ⟨(w.heap.size + 1 + 1), 0, none⟩ (.slice (some ⟨g', 0, none⟩) (k + 1) cap)) (w.heap.size + 1 + 1) 51 #[(.slice (some ⟨g', 0, none⟩) (k + 1) cap)] by simpa using hT3.set 0 (.slice (some ⟨g', 0, none⟩) (k + 1) cap))
    have S1c := Lib.hid (((S1b.out.alloc (.cells #[.int .i64 a1, .int .i64 a2, .slice A1 n1 c1] 74)).grown hgrow (own_low HOb.out (show w.heap.size < (w.heap.size + 1 + 1 + 1) by omega))).far (p := ⟨(w.heap.size + 1 + 1), 0, none⟩) (by simp; omega) (.slice (some ⟨g', 0, none⟩) (k + 1) cap))
    have S2c := Lib.hid (((S2b.out.alloc (.cells #[.int .i64 a1, .int .i64 a2, .slice A1 n1 c1] 74)).grown hgrow (own_low HOb.out (show (w.heap.size + 1) < (w.heap.size + 1 + 1 + 1) by omega))).far (p := ⟨(w.heap.size + 1 + 1), 0, none⟩) (by simp) (.slice (some ⟨g', 0, none⟩) (k + 1) cap))
    have HOc := Lib.hid (own_pset (j := 0) hown3 hT3 (by decide) (.slice (some ⟨g', 0, none⟩) (k + 1) cap))
    have XOc := Lib.hid (own_pset (j := 0) (own_keep (XOb.out.alloc (.cells #[.int .i64 a1, .int .i64 a2, .slice A1 n1 c1] 74)) hgrow (own_types XOb.out HOb.out (by decide))) hT3 (by decide) (.slice (some ⟨g', 0, none⟩) (k + 1) cap))
    have LIc := Lib.hid (fun i hi => own_pset (j := 0) (own_keep ((LIb.out i hi).alloc (.cells #[.int .i64 a1, .int .i64 a2, .slice A1 n1 c1] 74)) hgrow (own_types (LIb.out i hi) HOb.out (by decide))) hT3 (by decide) (.slice (some ⟨g', 0, none⟩) (k + 1) cap))
    have HBc := Lib.hid (Below.setCell (p := ⟨(w.heap.size + 1 + 1), 0, none⟩) (below_grown (v := .slice P k pc) (HBb.out.alloc HBb.out.size (.cells #[.int .i64 a1, .int .i64 a2, .slice A1 n1 c1] 74)) hgrow (HOb.out.alloc _) (by omega) (by first | omega | (simp; done) | (simp; omega))) (show w.heap.size ≤ (w.heap.size + 1 + 1) by omega) (.slice (some ⟨g', 0, none⟩) (k + 1) cap))
    have hszc : (w.heap.size + 1 + 1 + 1) ≤ (w9.setCell ⟨(w.heap.size + 1 + 1), 0, none⟩ (.slice (some ⟨g', 0, none⟩) (k + 1) cap)).heap.size := by have := hT3.lt; have := hlt; simp; omega
    clear s0 s1 s2 sz t0 tz hnew hT3 u0 uf uz hown3 hgrow hat hlt HOb LIb XOb S1b S2b S3b HBb htv
    generalize (w9.setCell ⟨(w.heap.size + 1 + 1), 0, none⟩ (.slice (some ⟨g', 0, none⟩) (k + 1) cap)) = vz at *
    go_roundw
    case rel =>
      refine ⟨k + 1, cap, some ⟨g', 0, none⟩, upd KA2 k A1, upd KC2 k c1, by omega, by go_num, ⟨?_, ?_⟩, S1c.out, S2c.out, S3c.out, HBc.out, hszc⟩
      · have e : cellsR 3 (pvc ⟨some ⟨g', 0, none⟩, cap, upd KA2 k A1, upd KC2 k c1⟩ d) (k + 1) = cellsR 3 (pvc ⟨P, pc, KA2, KC2⟩ d) k ++ [.int .i64 a1, .int .i64 a2, .slice A1 n1 c1] := by
          rw [cellsR_succ, cellsR_congr (F := pvc ⟨some ⟨g', 0, none⟩, cap, upd KA2 k A1, upd KC2 k c1⟩ d) (G := pvc ⟨P, pc, KA2, KC2⟩ d) (fun i hi j _ => by unfold pvc; dsimp only; rw [upd_ne _ _ (show i ≠ k by omega), upd_ne _ _ (show i ≠ k by omega)])]
          congr 1
          show [pvc _ d k 0, pvc _ d k 1, pvc _ d k 2] = _
          unfold pvc
          dsimp only
          rw [if_pos rfl, if_neg (by decide), if_pos rfl, if_neg (by decide), if_neg (by decide), upd_at, upd_at, EE.out.1, EE.out.2.1, EE.out.2.2]
        show World.ownsRow _ _ _ _ _ _ (cellsR 3 (pvc ⟨some ⟨g', 0, none⟩, cap, upd KA2 k A1, upd KC2 k c1⟩ d) (k + 1))
        rw [e]
        exact HOc.out
      · intro i hi
        have hi : i < k + 1 := hi
        show World.ownsRow _ _ _ _ (.slice (upd KA2 k A1 i) (d.L i) (upd KC2 k c1 i)) (d.L i) (cellsR 1 (fun t _ => Value.int .i64 (d.f i t)) (d.L i))
        by_cases e : i = k
        · subst e
          rw [upd_at, upd_at, EE.out.2.2]
          exact own_base XOc.out (by omega)
        · rw [upd_ne _ _ e, upd_ne _ _ e]
          exact LIc.out i (by omega)
    case measure => simp [intOf]; omega
end Go.Proofs.Ytibeoeooajelgaa
