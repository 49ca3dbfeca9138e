/- ReadList, twice. -/
import Derived.Test.YtkblladjabpllaaB9
namespace Go.Proofs.Ytkblladjabpllaa
open Go.RowKit
set_option linter.unusedVariables false
theorem i64_info : (Try.prog.info? 3).map (fun i => (i.zero, i.size, i.bytes)) = some (some (.int .i64 0), 1, 8) := by kernel_rfl

/-- What ReadList answers. -/
def IsRead (r : List Int × Nat × Int) (e : Ending) (B : Nat) (w' : World) : Prop :=
  ∃ A c, e = .returned (.tuple #[.slice A r.1.length c, .int .i64 r.2.1, .int .i64 r.2.2]) ∧ w'.ownsRow B 3 1 (.slice A r.1.length c) r.1.length (r.1.map iv)

theorem isRead_none {w : World} {B : Nat} {e : Int} : IsRead ([], 0, e) (.returned (.tuple #[.slice none 0 0, .int .i64 0, .int .i64 e])) B w := ⟨none, 0, rfl, owns_none w B 3 1⟩

set_option maxRecDepth 100000 in
set_option maxHeartbeats 2000000 in
theorem readlist_calls (A : Option Addr) (n c : Nat) (b : Nat → Nat) (most : Int) (w : World) (hs : BS w A n b) (hb : ∀ i, b i < 256) (hnc : n ≤ c) (hc : c ≤ maxLen) :
    Calls Try.prog 15 #[.slice A n c, .int .i64 most] w fun e w' => IsRead (rdList b n most) e w.heap.size w' ∧ Below w.heap.size w w' := by
  unfold maxLen at hc
  by_cases h1 : most < 0
  · have hr : Hid (rdList b n most = ([], 0, 2)) := by unfold Hid rdList; rw [if_pos (.inl h1)]
    clear hs hb
    go_enter Try.func15, Try.ntmps15
    go_wp2
    refine bodyPost_ret (results_tmp3 rfl _ _ _) rfl ?_
    exact ⟨by rw [hr.out]; exact isRead_none, Below.refl _ _⟩
  by_cases h2 : 65536 < most
  · have hr : Hid (rdList b n most = ([], 0, 2)) := by unfold Hid rdList; rw [if_pos (.inr h2)]
    clear hs hb
    go_enter Try.func15, Try.ntmps15
    go_wp2
    refine bodyPost_ret (results_tmp3 rfl _ _ _) rfl ?_
    exact ⟨by rw [hr.out]; exact isRead_none, Below.refl _ _⟩
  have Hs := Lib.hid hs
  have Hb := Lib.hid hb
  have hrd := Lib.hid (read_any A n c b w hs hb (by omega))
  have hnot : ¬ (most < 0 ∨ 65536 < most) := by omega
  have hmost : -1 < most := by omega
  clear hs hb
  rcases rd_back (n := n) Hb.out with h | ⟨m, v, h, hm, hvn, hv1, hv6, -⟩
  · rw [h] at hrd
    have hr : Hid (rdList b n most = ([], 0, 8)) := by unfold Hid rdList; rw [if_neg hnot, h, if_pos (.inl (by decide))]
    clear hnot h
    go_enter Try.func15, Try.ntmps15
    go_wp2_with fail
    refine hrd.out.mono ?_
    rintro e w' ⟨rfl, rfl⟩
    go_wp2
    refine bodyPost_ret (results_tmp3 rfl _ _ _) rfl ?_
    exact ⟨by rw [hr.out]; exact isRead_none, Below.refl _ _⟩
  rw [h] at hrd
  by_cases h3 : m < 0
  · have hr : Hid (rdList b n most = ([], 0, 8)) := by unfold Hid rdList; rw [if_neg hnot, h, if_pos (.inr (.inl h3))]
    clear hnot h hm
    go_enter Try.func15, Try.ntmps15
    go_wp2_with fail
    refine hrd.out.mono ?_
    rintro e w' ⟨rfl, rfl⟩
    go_wp2
    refine bodyPost_ret (results_tmp3 rfl _ _ _) rfl ?_
    exact ⟨by rw [hr.out]; exact isRead_none, Below.refl _ _⟩
  by_cases h4 : most < m
  · have hr : Hid (rdList b n most = ([], 0, 8)) := by unfold Hid rdList; rw [if_neg hnot, h, if_pos (.inr (.inr h4))]
    clear hnot h hm
    go_enter Try.func15, Try.ntmps15
    go_wp2_with fail
    refine hrd.out.mono ?_
    rintro e w' ⟨rfl, rfl⟩
    go_wp2
    refine bodyPost_ret (results_tmp3 rfl _ _ _) rfl ?_
    exact ⟨by rw [hr.out]; exact isRead_none, Below.refl _ _⟩
  obtain ⟨M, rfl⟩ := Int.eq_ofNat_of_zero_le (a := m) (by omega)
  have hr : Hid (rdList b n most = match rds b n M v [] with | none => ([], 0, 8) | some (l, p) => (l, p, 0)) := by
    unfold Hid rdList
    rw [if_neg hnot, h, if_neg (by rintro (h | h | h) <;> first | exact h rfl | exact h3 h | exact h4 h)]
    rfl
  clear hnot h hm
  obtain ⟨g, off, rfl, hg, hcell⟩ := Hs.out (by omega)
  have Hc := Lib.hid hcell
  clear hcell Hs
  obtain ⟨i0, hi0, hz0, hz1, hz2⟩ := info_parts i64_info
  go_enter Try.func15, Try.ntmps15
  go_wp2_with fail
  refine hrd.out.mono ?_
  rintro e w' ⟨rfl, rfl⟩
  clear hrd
  go_wp2
  go_loopw [8, 10, 38] (fun p L i wr => ∃ (k q : Nat) (l : List Int), k ≤ M ∧ q ≤ n ∧ i = .int .i64 k ∧ p = .int .i64 q ∧ Hid (rds b n M v [] = rds b n (M - k) q l) ∧ l.length = k ∧ (∃ A c, L = .slice A k c ∧ wr.ownsRow w.heap.size 3 1 (.slice A k c) k (l.map iv)) ∧ Below w.heap.size w wr) (fun p L i wr => M - (intOf i).toNat)
  case atStart => exact ⟨0, v, [], Nat.zero_le _, hvn, rfl, rfl, rfl, rfl, ⟨none, 0, rfl, owns_none _ _ _ _⟩, Below.refl _ _⟩
  case round =>
    obtain ⟨k, q, l, hk, hq, rfl, rfl, hrds, hl, ⟨AL, cL, rfl, hown⟩, hbel⟩ := hrel
    have zr := hbel.size
    have Hl := Lib.hid hl
    clear hl
    by_cases hkM : k < M
    · have hs' : ∀ A', (q < n → A' = some ⟨g, off + q, none⟩) → BS wr A' (n - q) (fun i => b (q + i)) := by
        intro A' hA' h0
        refine ⟨g, off + q, hA' (by omega), Nat.lt_of_lt_of_le hg hbel.size, fun i hi => ?_⟩
        have := (hbel.cell (p := ⟨g, off + (q + i), none⟩) hg).trans (Hc.out (q + i) (by omega))
        rw [Nat.add_assoc]
        exact this
      have hcall := fun A' c' (hA' : q < n → A' = some ⟨g, off + q, none⟩) => read_any A' (n - q) c' (fun i => b (q + i)) wr (hs' A' hA') (fun i => Hb.out _) (by omega)
      have hback := rd_back (b := fun i => b (q + i)) (n := n - q) (fun i => Hb.out _)
      have hstep : rds b n (M - k) q l = if (rd (fun i => b (q + i)) (n - q)).2.2 = 0 then rds b n (M - (k + 1)) (q + (rd (fun i => b (q + i)) (n - q)).2.1.toNat) (l ++ [(rd (fun i => b (q + i)) (n - q)).1]) else none := by
        rw [show M - k = (M - (k + 1)) + 1 from by omega, rds]
      generalize rd (fun i => b (q + i)) (n - q) = R at *
      have Hstep := Lib.hid (hrds.out.trans hstep)
      have Hcall := Lib.hid hcall
      have Hs' := Lib.hid hs'
      clear hstep hcall hs' hrds
      have hki : (k : Int) < (M : Int) := by omega
      have hqn : (q : Int) ≤ (n : Int) := by omega
      have hqc : q ≤ c := by omega
      have hnc' : (n : Int) ≤ (c : Int) := by omega
      rcases hback with rfl | ⟨m', v', rfl, hm', hv', hv1', hv6', -⟩
      · have he : Hid (rdList b n most = ([], 0, 8)) := by unfold Hid; rw [hr.out, Hstep.out, if_neg (by decide)]
        by_cases hqc' : c = q
        · go_wp2_with fail
          refine (Hcall.out _ _ ?_).mono ?_
          · intro h; omega
          rintro e w' ⟨rfl, rfl⟩
          go_wp2
          refine bodyPost_ret (results_tmp3 rfl _ _ _) rfl ?_
          exact ⟨by rw [he.out]; exact isRead_none, hbel⟩
        · go_wp2_with fail
          refine (Hcall.out _ _ ?_).mono ?_
          · intro h; simp
          rintro e w' ⟨rfl, rfl⟩
          go_wp2
          refine bodyPost_ret (results_tmp3 rfl _ _ _) rfl ?_
          exact ⟨by rw [he.out]; exact isRead_none, hbel⟩
      · have hqc' : ¬ c = q := by omega
        have Hstep' : Hid (rds b n M v [] = rds b n (M - (k + 1)) (q + v') (l ++ [m'])) := by unfold Hid; rw [Hstep.out, if_pos rfl]; rfl
        have hnl : ((l.map iv) ++ [iv m']) = (l ++ [m']).map iv := by simp
        have Hnl := Lib.hid hnl
        have hll : (l.map iv).length = l.length := by simp
        clear Hstep hnl hm'
        go_wp2_with fail
        refine (Hcall.out _ _ ?_).mono ?_
        · intro h; simp
        rintro e w' ⟨rfl, rfl⟩
        clear Hcall Hs'
        go_wp2_with (at_builtin; refine wpList_app rfl (.tmp 50) (.tmp 52) 34 rfl w.heap.size 3 i0 _ 1 8 Try.underlying34 hi0 hz0 hz1 hz2 rfl (by omega) AL cL k (l.map iv) rfl (hown.alloc _) (some ⟨wr.heap.size, 0, none⟩) 1 1 [iv m'] rfl rfl (fun _ => ⟨_, rfl, World.news_of_block (cs := #[iv m']) (t := 3) (fr := (0, 0)) (heap_alloc_new wr _)⟩) (by simp [iv, Value.oneCell']) (by unfold maxLen; omega) (by omega) (by simp; omega) ?_; intro A2 c2 w2 hown2 hgr2)
        go_roundw
        case rel =>
          refine ⟨k + 1, q + v', l ++ [m'], by omega, by omega, by go_num, by go_num, Hstep', by simp [Hl.out], ⟨A2, c2, rfl, by rw [← Hnl.out]; exact hown2⟩, ?_⟩
          exact below_grown (v := .slice AL k cL) (hbel.alloc zr _) hgr2 (hown.alloc _) (Nat.le_refl _) (by simp; omega)
        case measure => simp [intOf]; omega
    · have hkM' : k = M := by omega
      subst hkM'
      have he : Hid (rdList b n most = (l, q, 0)) := by unfold Hid; rw [hr.out, hrds.out, Nat.sub_self, rds]
      go_wp2
      refine bodyPost_ret (results_tmp3 rfl _ _ _) rfl ?_
      refine ⟨?_, hbel⟩
      rw [he.out]
      refine ⟨AL, cL, by rw [Hl.out]; rfl, by rw [Hl.out]; exact hown⟩

set_option maxRecDepth 100000 in
set_option maxHeartbeats 2000000 in
theorem refreadlist_calls (A : Option Addr) (n c : Nat) (b : Nat → Nat) (most : Int) (w : World) (hs : BS w A n b) (hb : ∀ i, b i < 256) (hnc : n ≤ c) (hc : c ≤ maxLen) :
    Calls Try.prog 16 #[.slice A n c, .int .i64 most] w fun e w' => IsRead (rdList b n most) e w.heap.size w' ∧ Below w.heap.size w w' := by
  unfold maxLen at hc
  by_cases h1 : most < 0
  · have hr : Hid (rdList b n most = ([], 0, 2)) := by unfold Hid rdList; rw [if_pos (.inl h1)]
    clear hs hb
    go_enter Try.func16, Try.ntmps16
    go_wp2
    refine bodyPost_ret (results_tmp3 rfl _ _ _) rfl ?_
    exact ⟨by rw [hr.out]; exact isRead_none, Below.refl _ _⟩
  by_cases h2 : 65536 < most
  · have hr : Hid (rdList b n most = ([], 0, 2)) := by unfold Hid rdList; rw [if_pos (.inr h2)]
    clear hs hb
    go_enter Try.func16, Try.ntmps16
    go_wp2
    refine bodyPost_ret (results_tmp3 rfl _ _ _) rfl ?_
    exact ⟨by rw [hr.out]; exact isRead_none, Below.refl _ _⟩
  have Hs := Lib.hid hs
  have Hb := Lib.hid hb
  have hrd := Lib.hid (refread_any A n c b w hs hb (by omega))
  have hnot : ¬ (most < 0 ∨ 65536 < most) := by omega
  have hmost : -1 < most := by omega
  clear hs hb
  rcases rd_back (n := n) Hb.out with h | ⟨m, v, h, hm, hvn, hv1, hv6, -⟩
  · rw [h] at hrd
    have hr : Hid (rdList b n most = ([], 0, 8)) := by unfold Hid rdList; rw [if_neg hnot, h, if_pos (.inl (by decide))]
    clear hnot h
    go_enter Try.func16, Try.ntmps16
    go_wp2_with fail
    refine hrd.out.mono ?_
    rintro e w' ⟨rfl, rfl⟩
    go_wp2
    refine bodyPost_ret (results_tmp3 rfl _ _ _) rfl ?_
    exact ⟨by rw [hr.out]; exact isRead_none, Below.refl _ _⟩
  rw [h] at hrd
  by_cases h3 : m < 0
  · have hr : Hid (rdList b n most = ([], 0, 8)) := by unfold Hid rdList; rw [if_neg hnot, h, if_pos (.inr (.inl h3))]
    clear hnot h hm
    go_enter Try.func16, Try.ntmps16
    go_wp2_with fail
    refine hrd.out.mono ?_
    rintro e w' ⟨rfl, rfl⟩
    go_wp2
    refine bodyPost_ret (results_tmp3 rfl _ _ _) rfl ?_
    exact ⟨by rw [hr.out]; exact isRead_none, Below.refl _ _⟩
  by_cases h4 : most < m
  · have hr : Hid (rdList b n most = ([], 0, 8)) := by unfold Hid rdList; rw [if_neg hnot, h, if_pos (.inr (.inr h4))]
    clear hnot h hm
    go_enter Try.func16, Try.ntmps16
    go_wp2_with fail
    refine hrd.out.mono ?_
    rintro e w' ⟨rfl, rfl⟩
    go_wp2
    refine bodyPost_ret (results_tmp3 rfl _ _ _) rfl ?_
    exact ⟨by rw [hr.out]; exact isRead_none, Below.refl _ _⟩
  obtain ⟨M, rfl⟩ := Int.eq_ofNat_of_zero_le (a := m) (by omega)
  have hr : Hid (rdList b n most = match rds b n M v [] with | none => ([], 0, 8) | some (l, p) => (l, p, 0)) := by
    unfold Hid rdList
    rw [if_neg hnot, h, if_neg (by rintro (h | h | h) <;> first | exact h rfl | exact h3 h | exact h4 h)]
    rfl
  clear hnot h hm
  obtain ⟨g, off, rfl, hg, hcell⟩ := Hs.out (by omega)
  have Hc := Lib.hid hcell
  clear hcell Hs
  obtain ⟨i0, hi0, hz0, hz1, hz2⟩ := info_parts i64_info
  go_enter Try.func16, Try.ntmps16
  go_wp2_with fail
  refine hrd.out.mono ?_
  rintro e w' ⟨rfl, rfl⟩
  clear hrd
  go_wp2
  go_loopw [8, 10, 11] (fun p L i wr => ∃ (k q : Nat) (l : List Int), k ≤ M ∧ q ≤ n ∧ i = .int .i64 k ∧ p = .int .i64 q ∧ Hid (rds b n M v [] = rds b n (M - k) q l) ∧ l.length = k ∧ (∃ A c, L = .slice A k c ∧ wr.ownsRow w.heap.size 3 1 (.slice A k c) k (l.map iv)) ∧ Below w.heap.size w wr) (fun p L i wr => M - (intOf i).toNat)
  case atStart => exact ⟨0, v, [], Nat.zero_le _, hvn, rfl, rfl, rfl, rfl, ⟨none, 0, rfl, owns_none _ _ _ _⟩, Below.refl _ _⟩
  case round =>
    obtain ⟨k, q, l, hk, hq, rfl, rfl, hrds, hl, ⟨AL, cL, rfl, hown⟩, hbel⟩ := hrel
    have zr := hbel.size
    have Hl := Lib.hid hl
    clear hl
    by_cases hkM : k < M
    · have hs' : ∀ A', (q < n → A' = some ⟨g, off + q, none⟩) → BS wr A' (n - q) (fun i => b (q + i)) := by
        intro A' hA' h0
        refine ⟨g, off + q, hA' (by omega), Nat.lt_of_lt_of_le hg hbel.size, fun i hi => ?_⟩
        have := (hbel.cell (p := ⟨g, off + (q + i), none⟩) hg).trans (Hc.out (q + i) (by omega))
        rw [Nat.add_assoc]
        exact this
      have hcall := fun A' c' (hA' : q < n → A' = some ⟨g, off + q, none⟩) => refread_any A' (n - q) c' (fun i => b (q + i)) wr (hs' A' hA') (fun i => Hb.out _) (by omega)
      have hback := rd_back (b := fun i => b (q + i)) (n := n - q) (fun i => Hb.out _)
      have hstep : rds b n (M - k) q l = if (rd (fun i => b (q + i)) (n - q)).2.2 = 0 then rds b n (M - (k + 1)) (q + (rd (fun i => b (q + i)) (n - q)).2.1.toNat) (l ++ [(rd (fun i => b (q + i)) (n - q)).1]) else none := by
        rw [show M - k = (M - (k + 1)) + 1 from by omega, rds]
      generalize rd (fun i => b (q + i)) (n - q) = R at *
      have Hstep := Lib.hid (hrds.out.trans hstep)
      have Hcall := Lib.hid hcall
      have Hs' := Lib.hid hs'
      clear hstep hcall hs' hrds
      have hki : (k : Int) < (M : Int) := by omega
      have hqn : (q : Int) ≤ (n : Int) := by omega
      have hqc : q ≤ c := by omega
      have hnc' : (n : Int) ≤ (c : Int) := by omega
      rcases hback with rfl | ⟨m', v', rfl, hm', hv', hv1', hv6', -⟩
      · have he : Hid (rdList b n most = ([], 0, 8)) := by unfold Hid; rw [hr.out, Hstep.out, if_neg (by decide)]
        by_cases hqc' : c = q
        · go_wp2_with fail
          refine (Hcall.out _ _ ?_).mono ?_
          · intro h; omega
          rintro e w' ⟨rfl, rfl⟩
          go_wp2
          refine bodyPost_ret (results_tmp3 rfl _ _ _) rfl ?_
          exact ⟨by rw [he.out]; exact isRead_none, hbel⟩
        · go_wp2_with fail
          refine (Hcall.out _ _ ?_).mono ?_
          · intro h; simp
          rintro e w' ⟨rfl, rfl⟩
          go_wp2
          refine bodyPost_ret (results_tmp3 rfl _ _ _) rfl ?_
          exact ⟨by rw [he.out]; exact isRead_none, hbel⟩
      · have hqc' : ¬ c = q := by omega
        have Hstep' : Hid (rds b n M v [] = rds b n (M - (k + 1)) (q + v') (l ++ [m'])) := by unfold Hid; rw [Hstep.out, if_pos rfl]; rfl
        have hnl : ((l.map iv) ++ [iv m']) = (l ++ [m']).map iv := by simp
        have Hnl := Lib.hid hnl
        have hll : (l.map iv).length = l.length := by simp
        clear Hstep hnl hm'
        go_wp2_with fail
        refine (Hcall.out _ _ ?_).mono ?_
        · intro h; simp
        rintro e w' ⟨rfl, rfl⟩
        clear Hcall Hs'
        go_wp2_with (at_builtin; refine wpList_app rfl (.tmp 53) (.tmp 55) 34 rfl w.heap.size 3 i0 _ 1 8 Try.underlying34 hi0 hz0 hz1 hz2 rfl (by omega) AL cL k (l.map iv) rfl (hown.alloc _) (some ⟨wr.heap.size, 0, none⟩) 1 1 [iv m'] rfl rfl (fun _ => ⟨_, rfl, World.news_of_block (cs := #[iv m']) (t := 3) (fr := (0, 0)) (heap_alloc_new wr _)⟩) (by simp [iv, Value.oneCell']) (by unfold maxLen; omega) (by omega) (by simp; omega) ?_; intro A2 c2 w2 hown2 hgr2)
        go_roundw
        case rel =>
          refine ⟨k + 1, q + v', l ++ [m'], by omega, by omega, by go_num, by go_num, Hstep', by simp [Hl.out], ⟨A2, c2, rfl, by rw [← Hnl.out]; exact hown2⟩, ?_⟩
          exact below_grown (v := .slice AL k cL) (hbel.alloc zr _) hgr2 (hown.alloc _) (Nat.le_refl _) (by simp; omega)
        case measure => simp [intOf]; omega
    · have hkM' : k = M := by omega
      subst hkM'
      have he : Hid (rdList b n most = (l, q, 0)) := by unfold Hid; rw [hr.out, hrds.out, Nat.sub_self, rds]
      go_wp2
      refine bodyPost_ret (results_tmp3 rfl _ _ _) rfl ?_
      refine ⟨?_, hbel⟩
      rw [he.out]
      refine ⟨AL, cL, by rw [Hl.out]; rfl, by rw [Hl.out]; exact hown⟩
end Go.Proofs.Ytkblladjabpllaa
