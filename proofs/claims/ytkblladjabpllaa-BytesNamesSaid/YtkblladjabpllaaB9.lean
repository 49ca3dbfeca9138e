/- Numbers; List, twice. -/
import Derived.Test.YtkblladjabpllaaB8
import Derived.Test.YtkblladjabpllaaList
import Derived.Test.YtkblladjabpllaaInts
namespace Go.Proofs.Ytkblladjabpllaa
open Go.RowKit
set_option linter.unusedVariables false

set_option maxRecDepth 100000 in
set_option maxHeartbeats 1000000 in
theorem numbers_true (A B : Option Addr) (n c d : Nat) (l m : Nat → Int) (w : World) (hA : IS w A n l) (hB : IS w B n m) (hn : n ≤ 9223372036854775807) (he : ∀ i, i < n → l i = m i) :
    Calls Try.prog 17 #[.slice A n c, .slice B n d] w fun e w' => e = .returned (.bool true) ∧ Below w.heap.size w w' := by
  have HA := Lib.hid hA
  have HB := Lib.hid hB
  have He := Lib.hid he
  clear hA hB he
  go_enter Try.func17, Try.ntmps17
  go_wp2
  go_loopw [5] (fun i wr => ∃ k : Nat, k ≤ n ∧ i = .int .i64 k ∧ ∃ q, wr = w.drewN q) (fun i wr => n - (intOf i).toNat)
  case atStart => exact ⟨0, Nat.zero_le _, rfl, 0, rfl⟩
  case round =>
    obtain ⟨k, hk, rfl, q, rfl⟩ := hrel
    by_cases hkn : k < n
    · obtain ⟨g, o, rfl, hg, hc⟩ := HA.out (by omega)
      obtain ⟨g', o', rfl, hg', hc'⟩ := HB.out (by omega)
      have c0 := hc k hkn
      have c1 := hc' k hkn
      rw [← He.out k hkn] at c1
      have hi : (k : Int) < (n : Int) := by omega
      clear hc hc'
      generalize l k = x at *
      go_wp2_with fail
      go_region
      go_wp2
      go_roundw
      case rel => exact ⟨k + 1, by omega, by go_num, _, rfl⟩
      case measure => simp [intOf]; omega
    · have hkn' : k = n := by omega
      subst hkn'
      go_wp2
      go_ret
      exact ⟨rfl, below_drewN (Below.refl _ _) _⟩

/-- What List answers. -/
def IsList (n : Nat) (l : Nat → Int) (e : Ending) (B : Nat) (w' : World) : Prop :=
  (65536 < n ∧ e = .returned (.tuple #[.slice none 0 0, .int .i64 4])) ∨ (n ≤ 65536 ∧ (∃ i, i < n ∧ ¬ InB (l i)) ∧ e = .returned (.tuple #[.slice none 0 0, .int .i64 2])) ∨
    (n ≤ 65536 ∧ (∀ i, i < n → InB (l i)) ∧ ∃ A c, e = .returned (.tuple #[.slice A (lst l n n).length c, .int .i64 0]) ∧ Bytes w' B (.slice A (lst l n n).length c) (lst l n n))

set_option maxRecDepth 100000 in
set_option maxHeartbeats 2000000 in
theorem list13_calls (A0 : Option Addr) (n c0 : Nat) (l : Nat → Int) (w : World) (hA : IS w A0 n l) (hn : n ≤ 9223372036854775807) :
    Calls Try.prog 13 #[.slice A0 n c0] w fun e w' => IsList n l e w.heap.size w' ∧ Below w.heap.size w w' := by
  by_cases hbig : 65536 < n
  · clear hA
    go_enter Try.func13, Try.ntmps13
    go_wp2
    go_ret2
    exact ⟨.inl ⟨hbig, rfl⟩, Below.refl _ _⟩
  obtain ⟨i0, hi0, hz0, hz1, hz2⟩ := info_parts u8_info
  have HA := Lib.hid hA
  clear hA
  have hnn : InB (n : Int) := ⟨by omega, by omega⟩
  have hnum0 := Lib.hid (num_any (n : Int))
  go_enter Try.func13, Try.ntmps13
  go_wp2_with fail
  refine (hnum0.out _ hnn).mono ?_
  rintro e w0 ⟨⟨A00, cc0, rfl, hb0⟩, bel0⟩
  have z0 := bel0.size
  unfold Bytes at hb0
  have hb0' : w0.ownsRow w.heap.size 5 1 (.slice A00 (lst l n 0).length cc0) (lst l n 0).length ((lst l n 0).map bv) := by
    have e : lst l n 0 = enc 6 (rank (n : Int)) := by unfold lst; rw [encs, List.append_nil]
    rw [e]; exact hb0
  have hlen0 : (lst l n 0).length = (enc 6 (rank (n : Int))).length := by unfold lst; rw [encs, List.append_nil]
  rw [← hlen0]
  clear hb0 hlen0 hnn hnum0
  go_wp2
  go_loopw [4, 15] (fun b i wr => ∃ k : Nat, k ≤ n ∧ i = .int .i64 k ∧ (∀ j, j < k → InB (l j)) ∧ (∃ A c, b = .slice A (lst l n k).length c ∧ wr.ownsRow w.heap.size 5 1 (.slice A (lst l n k).length c) (lst l n k).length ((lst l n k).map bv)) ∧ Below w.heap.size w wr) (fun b i wr => n - (intOf i).toNat)
  case atStart => exact ⟨0, Nat.zero_le _, rfl, fun j hj => absurd hj (by omega), ⟨_, _, rfl, hb0'⟩, bel0⟩
  case round =>
    obtain ⟨k, hk, rfl, hall, ⟨A, cc, rfl, hown⟩, hbel⟩ := hrel
    have zr := hbel.size
    have Hall := Lib.hid hall
    clear hall
    by_cases hkn : k < n
    · obtain ⟨g, o, hAe, hg, hc⟩ := (HA.out.below hbel) (by omega)
      subst hAe
      have x0 := hc k hkn
      have hi : (k : Int) < (n : Int) := by omega
      clear hc
      by_cases hin : InB (l k)
      · have hmay := Lib.hid (may_yes (l k))
        have hnum := Lib.hid (num_any (l k))
        have hsucc := Lib.hid (lst_succ l n k)
        have hlen := lst_len l n k
        have hEX := enc_len 6 (rank (l k))
        have hHL := Lib.hid hin
        generalize hxx : l k = xk at *
        go_wp2_with fail
        refine (hmay.out _ hin).mono ?_
        rintro e w' ⟨rfl, rfl⟩
        go_wp2_with fail
        refine (hnum.out _ hin).mono ?_
        rintro e w1 ⟨⟨X, cx, rfl, hbx⟩, bel1⟩
        have hown1 := own_below hown bel1
        have z1 := bel1.size
        have hsx := BS.of_bytes hbx
        have hnews : 0 < (enc 6 (rank xk)).length → ∃ ad, X = some ad ∧ ∀ j u, ((enc 6 (rank xk)).map bv)[j]? = some u → w1.cell? (ad.add j) = some u := by
          intro h0
          obtain ⟨A', c', e, _, _, hat⟩ := own_at hbx
          injection e with e1 _ _
          subst e1
          obtain ⟨g, rfl, _, _, hcc⟩ := hat h0
          refine ⟨_, rfl, fun j u hj => ?_⟩
          have hjl : j < (enc 6 (rank xk)).length := by
            have := (List.getElem?_eq_some_iff.1 hj).1
            simpa using this
          rw [Addr.add_lit, Nat.zero_add, hcc j (by omega), hj]
        have hone : ∀ u ∈ (enc 6 (rank xk)).map bv, u.oneCell' = true := by
          intro u hu
          obtain ⟨y, _, rfl⟩ := List.mem_map.1 hu
          rfl
        have belr := Lib.hid (hbel.trans (bel1.mono zr))
        clear hbx hsx hown hbel bel1
        have hsl : (lst l n (k + 1)).length = (lst l n k).length + (enc 6 (rank xk)).length := by rw [hsucc.out, List.length_append]
        have hmap : (lst l n (k + 1)).map bv = (lst l n k).map bv ++ (enc 6 (rank xk)).map bv := by rw [hsucc.out, List.map_append]
        have hEL : ((enc 6 (rank xk)).map bv).length = (enc 6 (rank xk)).length := by simp
        generalize (enc 6 (rank xk)).map bv = EB at *
        generalize (enc 6 (rank xk)).length = xm at *
        have Hsl := Lib.hid hsl
        have Hmap := Lib.hid hmap
        clear hsl hmap
        generalize (lst l n k).map bv = LB at *
        generalize (lst l n k).length = LK at *
        go_wp2_with (at_builtin; refine wpList_app rfl (.tmp 22) (.tmp 24) 22 rfl w.heap.size 5 i0 _ 1 1 Try.underlying22 hi0 hz0 hz1 hz2 rfl (by omega) A cc LK LB rfl hown1 X xm cx EB rfl (by rw [hEL, Nat.mul_one]) hnews hone (by unfold maxLen; omega) (by omega) (by omega) ?_; intro A2 c2 w2 hown2 hgr2)
        go_roundw
        case rel =>
          refine ⟨k + 1, by omega, by go_num, fun j hj => ?_, ⟨A2, c2, by rw [Hsl.out], by rw [Hsl.out, Hmap.out]; exact hown2⟩, below_grown (v := .slice A LK cc) belr.out hgr2 hown1 (Nat.le_refl _) (by omega)⟩
          rcases Nat.lt_or_ge j k with h | h
          · exact Hall.out j h
          · have : j = k := by omega
            subst this
            rw [hxx]; exact hHL.out
        case measure => simp [intOf]; omega
      · have hmay := Lib.hid (may_no (l k))
        have hbad : ∃ i, i < n ∧ ¬ InB (l i) := ⟨k, hkn, hin⟩
        generalize l k = xk at *
        go_wp2_with fail
        refine (hmay.out _ hin).mono ?_
        rintro e w' ⟨rfl, rfl⟩
        go_wp2
        go_ret2
        exact ⟨.inr (.inl ⟨by omega, hbad, rfl⟩), hbel⟩
    · have hkn' : k = n := by omega
      subst hkn'
      go_wp2
      go_ret2
      exact ⟨.inr (.inr ⟨by omega, Hall.out, A, cc, rfl, hown⟩), hbel⟩

set_option maxRecDepth 100000 in
set_option maxHeartbeats 2000000 in
theorem reflist_calls (A0 : Option Addr) (n c0 : Nat) (l : Nat → Int) (w : World) (hA : IS w A0 n l) (hn : n ≤ 9223372036854775807) :
    Calls Try.prog 14 #[.slice A0 n c0] w fun e w' => IsList n l e w.heap.size w' ∧ Below w.heap.size w w' := by
  by_cases hbig : 65536 < n
  · clear hA
    go_enter Try.func14, Try.ntmps14
    go_wp2
    go_ret2
    exact ⟨.inl ⟨hbig, rfl⟩, Below.refl _ _⟩
  obtain ⟨i0, hi0, hz0, hz1, hz2⟩ := info_parts u8_info
  have HA := Lib.hid hA
  clear hA
  have hnn : InB (n : Int) := ⟨by omega, by omega⟩
  have hnum0 := Lib.hid (refbytes_any (n : Int))
  go_enter Try.func14, Try.ntmps14
  go_wp2_with fail
  refine (hnum0.out _ hnn).mono ?_
  rintro e w0 ⟨⟨A00, cc0, rfl, hb0⟩, bel0⟩
  have z0 := bel0.size
  unfold Bytes at hb0
  have hb0' : w0.ownsRow w.heap.size 5 1 (.slice A00 (lst l n 0).length cc0) (lst l n 0).length ((lst l n 0).map bv) := by
    have e : lst l n 0 = enc 6 (rank (n : Int)) := by unfold lst; rw [encs, List.append_nil]
    rw [e]; exact hb0
  have hlen0 : (lst l n 0).length = (enc 6 (rank (n : Int))).length := by unfold lst; rw [encs, List.append_nil]
  rw [← hlen0]
  clear hb0 hlen0 hnn hnum0
  go_wp2
  go_loopw [4, 5] (fun b i wr => ∃ k : Nat, k ≤ n ∧ i = .int .i64 k ∧ (∀ j, j < k → InB (l j)) ∧ (∃ A c, b = .slice A (lst l n k).length c ∧ wr.ownsRow w.heap.size 5 1 (.slice A (lst l n k).length c) (lst l n k).length ((lst l n k).map bv)) ∧ Below w.heap.size w wr) (fun b i wr => n - (intOf i).toNat)
  case atStart => exact ⟨0, Nat.zero_le _, rfl, fun j hj => absurd hj (by omega), ⟨_, _, rfl, hb0'⟩, bel0⟩
  case round =>
    obtain ⟨k, hk, rfl, hall, ⟨A, cc, rfl, hown⟩, hbel⟩ := hrel
    have zr := hbel.size
    have Hall := Lib.hid hall
    clear hall
    by_cases hkn : k < n
    · obtain ⟨g, o, hAe, hg, hc⟩ := (HA.out.below hbel) (by omega)
      subst hAe
      have x0 := hc k hkn
      have hi : (k : Int) < (n : Int) := by omega
      clear hc
      by_cases hin : InB (l k)
      · have hmay := Lib.hid (in_yes (l k))
        have hnum := Lib.hid (refbytes_any (l k))
        have hsucc := Lib.hid (lst_succ l n k)
        have hlen := lst_len l n k
        have hEX := enc_len 6 (rank (l k))
        have hHL := Lib.hid hin
        generalize hxx : l k = xk at *
        go_wp2_with fail
        refine (hmay.out _ hin).mono ?_
        rintro e w' ⟨rfl, rfl⟩
        go_wp2_with fail
        refine (hnum.out _ hin).mono ?_
        rintro e w1 ⟨⟨X, cx, rfl, hbx⟩, bel1⟩
        have hown1 := own_below hown bel1
        have z1 := bel1.size
        have hsx := BS.of_bytes hbx
        have hnews : 0 < (enc 6 (rank xk)).length → ∃ ad, X = some ad ∧ ∀ j u, ((enc 6 (rank xk)).map bv)[j]? = some u → w1.cell? (ad.add j) = some u := by
          intro h0
          obtain ⟨A', c', e, _, _, hat⟩ := own_at hbx
          injection e with e1 _ _
          subst e1
          obtain ⟨g, rfl, _, _, hcc⟩ := hat h0
          refine ⟨_, rfl, fun j u hj => ?_⟩
          have hjl : j < (enc 6 (rank xk)).length := by
            have := (List.getElem?_eq_some_iff.1 hj).1
            simpa using this
          rw [Addr.add_lit, Nat.zero_add, hcc j (by omega), hj]
        have hone : ∀ u ∈ (enc 6 (rank xk)).map bv, u.oneCell' = true := by
          intro u hu
          obtain ⟨y, _, rfl⟩ := List.mem_map.1 hu
          rfl
        have belr := Lib.hid (hbel.trans (bel1.mono zr))
        clear hbx hsx hown hbel bel1
        have hsl : (lst l n (k + 1)).length = (lst l n k).length + (enc 6 (rank xk)).length := by rw [hsucc.out, List.length_append]
        have hmap : (lst l n (k + 1)).map bv = (lst l n k).map bv ++ (enc 6 (rank xk)).map bv := by rw [hsucc.out, List.map_append]
        have hEL : ((enc 6 (rank xk)).map bv).length = (enc 6 (rank xk)).length := by simp
        generalize (enc 6 (rank xk)).map bv = EB at *
        generalize (enc 6 (rank xk)).length = xm at *
        have Hsl := Lib.hid hsl
        have Hmap := Lib.hid hmap
        clear hsl hmap
        generalize (lst l n k).map bv = LB at *
        generalize (lst l n k).length = LK at *
        go_wp2_with (at_builtin; refine wpList_app rfl (.tmp 24) (.tmp 29) 22 rfl w.heap.size 5 i0 _ 1 1 Try.underlying22 hi0 hz0 hz1 hz2 rfl (by omega) A cc LK LB rfl hown1 X xm cx EB rfl (by rw [hEL, Nat.mul_one]) hnews hone (by unfold maxLen; omega) (by omega) (by omega) ?_; intro A2 c2 w2 hown2 hgr2)
        go_roundw
        case rel =>
          refine ⟨k + 1, by omega, by go_num, fun j hj => ?_, ⟨A2, c2, by rw [Hsl.out], by rw [Hsl.out, Hmap.out]; exact hown2⟩, below_grown (v := .slice A LK cc) belr.out hgr2 hown1 (Nat.le_refl _) (by omega)⟩
          rcases Nat.lt_or_ge j k with h | h
          · exact Hall.out j h
          · have : j = k := by omega
            subst this
            rw [hxx]; exact hHL.out
        case measure => simp [intOf]; omega
      · have hmay := Lib.hid (in_no (l k))
        have hbad : ∃ i, i < n ∧ ¬ InB (l i) := ⟨k, hkn, hin⟩
        generalize l k = xk at *
        go_wp2_with fail
        refine (hmay.out _ hin).mono ?_
        rintro e w' ⟨rfl, rfl⟩
        go_wp2
        go_ret2
        exact ⟨.inr (.inl ⟨by omega, hbad, rfl⟩), hbel⟩
    · have hkn' : k = n := by omega
      subst hkn'
      go_wp2
      go_ret2
      exact ⟨.inr (.inr ⟨by omega, Hall.out, A, cc, rfl, hown⟩), hbel⟩
end Go.Proofs.Ytkblladjabpllaa
