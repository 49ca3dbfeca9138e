/- BytesList from its arguments. -/
import Derived.Test.YtkblladjabpllaaB10
namespace Go.Proofs.Ytkblladjabpllaa
open Go.RowKit
set_option linter.unusedVariables false
open Classical in
/-- What List answers, as a pair. -/
noncomputable def lres (n : Nat) (l : Nat → Int) : List Nat × Int :=
  if 65536 < n then ([], 4) else if ∃ i, i < n ∧ ¬ InB (l i) then ([], 2) else (lst l n n, 0)
theorem IsList.res {n : Nat} {l : Nat → Int} {e : Ending} {B : Nat} {w' : World} (h : IsList n l e B w') :
    ∃ A c, e = .returned (.tuple #[.slice A (lres n l).1.length c, .int .i64 (lres n l).2]) ∧ Bytes w' B (.slice A (lres n l).1.length c) (lres n l).1 := by
  rcases h with ⟨h1, rfl⟩ | ⟨h1, h2, rfl⟩ | ⟨h1, h2, A, c, rfl, h3⟩
  · have e : lres n l = ([], 4) := by unfold lres; rw [if_pos h1]
    rw [e]; exact ⟨none, 0, rfl, owns_none _ _ _ _⟩
  · have e : lres n l = ([], 2) := by unfold lres; rw [if_neg (by omega), if_pos h2]
    rw [e]; exact ⟨none, 0, rfl, owns_none _ _ _ _⟩
  · have e : lres n l = (lst l n n, 0) := by unfold lres; rw [if_neg (by omega), if_neg (fun ⟨i, hi, hn⟩ => hn (h2 i hi))]
    rw [e]; exact ⟨A, c, rfl, h3⟩

set_option maxRecDepth 100000 in
set_option maxHeartbeats 2000000 in
theorem bytesList_arg (v0 v1 v2 : Value) (w : World) (h0 : Arg Try.prog w 34 v0) (h1 : Arg Try.prog w 22 v1) (h2 : Arg Try.prog w 3 v2) :
    Calls Try.prog 5 #[v0, v1, v2] w fun e w' => e = .returned (.bool true) ∧ Below w.heap.size w w' := by
  obtain ⟨most, rfl, _⟩ := h2.int Try.underlying3
  obtain ⟨A, n, c, l, rfl, ⟨hnc, hcm⟩, -, hl⟩ := arg_ints Try.underlying34 Try.underlying3 (by kernel_rfl) h0
  obtain ⟨D, nb, d, b, rfl, ⟨hnb, hcm'⟩, hb, hs⟩ := arg_bytes h1
  clear h0 h1 h2
  have HL := Lib.hid hl
  have Hs := Lib.hid hs
  have Hb := Lib.hid hb
  have hcm2 := hcm'
  unfold maxLen at hcm hcm2
  have hnews := hl.news
  clear hl hs hb
  by_cases hn1 : 5000 < n ∧ n ≤ 65536
  · obtain ⟨a1, a2⟩ := hn1
    clear hnews
    go_enter Try.func5, Try.ntmps5
    go_wp2
    go_ret
    exact ⟨rfl, Below.refl _ _⟩
  by_cases hn2 : 70000 < n
  · clear hnews hn1
    go_enter Try.func5, Try.ntmps5
    go_wp2
    go_ret
    exact ⟨rfl, Below.refl _ _⟩
  obtain ⟨i0, hi0, hz0, hz1, hz2⟩ := info_parts i64_info
  have hown0 := owns_none w w.heap.size 3 1
  have hn3 : n ≤ 5000 ∨ (5000 < n ∧ 65536 < n ∧ n ≤ 70000) := by omega
  clear hn1 hn2
  by_cases hb2 : 20000 < nb
  · clear hnews hown0
    rcases hn3 with a | ⟨a1, a2, a3⟩
    all_goals
      go_enter Try.func5, Try.ntmps5
      go_wp2
      go_ret
      exact ⟨rfl, Below.refl _ _⟩
  have hR : ∃ r, rdList b nb most = r := ⟨_, rfl⟩
  obtain ⟨r, hR⟩ := hR
  rcases hn3 with a | ⟨a1, a2, a3⟩
  · go_enter Try.func5, Try.ntmps5
    go_wp2_with (at_builtin; refine wpList_app rfl (.tmp 36) (.tmp 37) 34 rfl w.heap.size 3 i0 _ 1 8 Try.underlying34 hi0 hz0 hz1 hz2 rfl (by omega) none 0 0 [] rfl hown0 A n c (cellsI n l) rfl (by simp [cellsI]) hnews (cellsI_one n l) (by unfold maxLen; omega) (by omega) (Nat.le_refl _) ?_; intro A1 c1 w1 hown1 hgr1; simp only [Nat.zero_add, List.nil_append] at hown1 ⊢)
    have bel1 : Below w.heap.size w w1 := below_grown (v := .slice none 0 0) (Below.refl _ _) hgr1 hown0 (Nat.le_refl _) (Nat.le_refl _)
    have z1 := bel1.size
    have L1 := Lib.hid (HL.out.below bel1)
    have S1 := Lib.hid (Hs.out.below bel1)
    have O1 := Lib.hid (IS.of_cells hown1)
    clear hgr1 hown1
    go_wp2_with fail
    refine (list13_calls _ _ _ l _ O1.out (by omega)).mono ?_
    rintro e w2 ⟨hx, bel2⟩
    obtain ⟨X, cx, rfl, hbx⟩ := hx.res
    have z2 := bel2.size
    have X2 := Lib.hid (BS.of_bytes hbx)
    have L2 := Lib.hid (L1.out.below bel2)
    have S2 := Lib.hid (S1.out.below bel2)
    have O2 := Lib.hid (O1.out.below bel2)
    have B2 := Lib.hid (bel1.trans (bel2.mono z1))
    clear hbx hx bel1 bel2 L1 S1 O1
    go_wp2_with fail
    refine (reflist_calls _ _ _ l _ L2.out (by omega)).mono ?_
    rintro e w3 ⟨hy, bel3⟩
    obtain ⟨Y, cy, rfl, hby⟩ := hy.res
    have z3 := bel3.size
    have Y3 := Lib.hid (BS.of_bytes hby)
    have X3 := Lib.hid (X2.out.below bel3)
    have L3 := Lib.hid (L2.out.below bel3)
    have S3 := Lib.hid (S2.out.below bel3)
    have O3 := Lib.hid (O2.out.below bel3)
    have B3 := Lib.hid (B2.out.trans (bel3.mono (by omega)))
    clear hby hy bel3 L2 S2 O2 X2 B2
    go_wp2_with fail
    have cr := readlist_calls D nb d b most w3 S3.out Hb.out hnb hcm'
    rw [hR] at cr
    refine cr.mono ?_
    clear cr
    rintro e w4 ⟨⟨M, cm, rfl, hM⟩, bel4⟩
    have z4 := bel4.size
    have M4 := Lib.hid (IS.of_own hM (fun i => r.1.getD i 0) (fun i hi => by simp [List.getD, hi]))
    have Y4 := Lib.hid (Y3.out.below bel4)
    have X4 := Lib.hid (X3.out.below bel4)
    have L4 := Lib.hid (L3.out.below bel4)
    have S4 := Lib.hid (S3.out.below bel4)
    have O4 := Lib.hid (O3.out.below bel4)
    have B4 := Lib.hid (B3.out.trans (bel4.mono (by omega)))
    clear hM bel4 L3 S3 O3 X3 B3 Y3
    go_wp2_with fail
    have cr := refreadlist_calls D nb d b most w4 S4.out Hb.out hnb hcm'
    rw [hR] at cr
    refine cr.mono ?_
    clear cr
    rintro e w5 ⟨⟨K, ck, rfl, hK⟩, bel5⟩
    have z5 := bel5.size
    have hrl : r.1.length ≤ 9223372036854775807 := by
      have := hK.2
      rcases this with ⟨_, h0⟩ | ⟨_, cap, _, _, _, _, h1, h2, _⟩
      · omega
      · unfold maxLen at h2; omega
    have K5 := Lib.hid (IS.of_own hK (fun i => r.1.getD i 0) (fun i hi => by simp [List.getD, hi]))
    have M5 := Lib.hid (M4.out.below bel5)
    have Y5 := Y4.out.below bel5
    have X5 := X4.out.below bel5
    have L5 := Lib.hid (L4.out.below bel5)
    have O5 := Lib.hid (O4.out.below bel5)
    have B5 := Lib.hid (B4.out.trans (bel5.mono (by omega)))
    clear hK bel5 L4 S4 O4 X4 B4 Y4 M4
    have k1 := conv_bytes (c := cx) X5
    have k2 := conv_bytes (c := cy) Y5
    clear X5 Y5
    generalize strB _ _ = st at *
    generalize (lres n l).1.length = LN at *
    generalize (lres n l).2 = LE at *
    go_wp2_with fail
    refine (numbers_true _ _ r.1.length _ _ _ _ _ M5.out K5.out (by omega) (fun _ _ => rfl)).mono ?_
    rintro e w6 ⟨rfl, bel6⟩
    have L6 := Lib.hid (L5.out.below bel6)
    have O6 := Lib.hid (O5.out.below bel6)
    have B6 := Lib.hid (B5.out.trans (bel6.mono (by omega)))
    have z6 := bel6.size
    clear bel6 L5 O5 B5
    go_wp2_with fail
    refine (numbers_true _ _ n _ _ l l _ O6.out L6.out (by omega) (fun _ _ => rfl)).mono ?_
    rintro e w7 ⟨rfl, bel7⟩
    go_wp2
    go_ret
    exact ⟨rfl, B6.out.trans (bel7.mono (by omega))⟩

  · go_enter Try.func5, Try.ntmps5
    go_wp2_with (at_builtin; refine wpList_app rfl (.tmp 36) (.tmp 37) 34 rfl w.heap.size 3 i0 _ 1 8 Try.underlying34 hi0 hz0 hz1 hz2 rfl (by omega) none 0 0 [] rfl hown0 A n c (cellsI n l) rfl (by simp [cellsI]) hnews (cellsI_one n l) (by unfold maxLen; omega) (by omega) (Nat.le_refl _) ?_; intro A1 c1 w1 hown1 hgr1; simp only [Nat.zero_add, List.nil_append] at hown1 ⊢)
    have bel1 : Below w.heap.size w w1 := below_grown (v := .slice none 0 0) (Below.refl _ _) hgr1 hown0 (Nat.le_refl _) (Nat.le_refl _)
    have z1 := bel1.size
    have L1 := Lib.hid (HL.out.below bel1)
    have S1 := Lib.hid (Hs.out.below bel1)
    have O1 := Lib.hid (IS.of_cells hown1)
    clear hgr1 hown1
    go_wp2_with fail
    refine (list13_calls _ _ _ l _ O1.out (by omega)).mono ?_
    rintro e w2 ⟨hx, bel2⟩
    obtain ⟨X, cx, rfl, hbx⟩ := hx.res
    have z2 := bel2.size
    have X2 := Lib.hid (BS.of_bytes hbx)
    have L2 := Lib.hid (L1.out.below bel2)
    have S2 := Lib.hid (S1.out.below bel2)
    have O2 := Lib.hid (O1.out.below bel2)
    have B2 := Lib.hid (bel1.trans (bel2.mono z1))
    clear hbx hx bel1 bel2 L1 S1 O1
    go_wp2_with fail
    refine (reflist_calls _ _ _ l _ L2.out (by omega)).mono ?_
    rintro e w3 ⟨hy, bel3⟩
    obtain ⟨Y, cy, rfl, hby⟩ := hy.res
    have z3 := bel3.size
    have Y3 := Lib.hid (BS.of_bytes hby)
    have X3 := Lib.hid (X2.out.below bel3)
    have L3 := Lib.hid (L2.out.below bel3)
    have S3 := Lib.hid (S2.out.below bel3)
    have O3 := Lib.hid (O2.out.below bel3)
    have B3 := Lib.hid (B2.out.trans (bel3.mono (by omega)))
    clear hby hy bel3 L2 S2 O2 X2 B2
    go_wp2_with fail
    have cr := readlist_calls D nb d b most w3 S3.out Hb.out hnb hcm'
    rw [hR] at cr
    refine cr.mono ?_
    clear cr
    rintro e w4 ⟨⟨M, cm, rfl, hM⟩, bel4⟩
    have z4 := bel4.size
    have M4 := Lib.hid (IS.of_own hM (fun i => r.1.getD i 0) (fun i hi => by simp [List.getD, hi]))
    have Y4 := Lib.hid (Y3.out.below bel4)
    have X4 := Lib.hid (X3.out.below bel4)
    have L4 := Lib.hid (L3.out.below bel4)
    have S4 := Lib.hid (S3.out.below bel4)
    have O4 := Lib.hid (O3.out.below bel4)
    have B4 := Lib.hid (B3.out.trans (bel4.mono (by omega)))
    clear hM bel4 L3 S3 O3 X3 B3 Y3
    go_wp2_with fail
    have cr := refreadlist_calls D nb d b most w4 S4.out Hb.out hnb hcm'
    rw [hR] at cr
    refine cr.mono ?_
    clear cr
    rintro e w5 ⟨⟨K, ck, rfl, hK⟩, bel5⟩
    have z5 := bel5.size
    have hrl : r.1.length ≤ 9223372036854775807 := by
      have := hK.2
      rcases this with ⟨_, h0⟩ | ⟨_, cap, _, _, _, _, h1, h2, _⟩
      · omega
      · unfold maxLen at h2; omega
    have K5 := Lib.hid (IS.of_own hK (fun i => r.1.getD i 0) (fun i hi => by simp [List.getD, hi]))
    have M5 := Lib.hid (M4.out.below bel5)
    have Y5 := Y4.out.below bel5
    have X5 := X4.out.below bel5
    have L5 := Lib.hid (L4.out.below bel5)
    have O5 := Lib.hid (O4.out.below bel5)
    have B5 := Lib.hid (B4.out.trans (bel5.mono (by omega)))
    clear hK bel5 L4 S4 O4 X4 B4 Y4 M4
    have k1 := conv_bytes (c := cx) X5
    have k2 := conv_bytes (c := cy) Y5
    clear X5 Y5
    generalize strB _ _ = st at *
    generalize (lres n l).1.length = LN at *
    generalize (lres n l).2 = LE at *
    go_wp2_with fail
    refine (numbers_true _ _ r.1.length _ _ _ _ _ M5.out K5.out (by omega) (fun _ _ => rfl)).mono ?_
    rintro e w6 ⟨rfl, bel6⟩
    have L6 := Lib.hid (L5.out.below bel6)
    have O6 := Lib.hid (O5.out.below bel6)
    have B6 := Lib.hid (B5.out.trans (bel6.mono (by omega)))
    have z6 := bel6.size
    clear bel6 L5 O5 B5
    go_wp2_with fail
    refine (numbers_true _ _ n _ _ l l _ O6.out L6.out (by omega) (fun _ _ => rfl)).mono ?_
    rintro e w7 ⟨rfl, bel7⟩
    go_wp2
    go_ret
    exact ⟨rfl, B6.out.trans (bel7.mono (by omega))⟩

end Go.Proofs.Ytkblladjabpllaa
