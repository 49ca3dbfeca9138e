/- arena: the reference's Same, SameHandles, All. -/
import Derived.Test.YtapibgpjfliifaaR12
import Derived.Test.YtapibgpjfliifaaR7
namespace Go.Proofs.Ytapibgpjfliifaa
open Go.RowKit
set_option linter.unusedVariables false

theorem eql_hd2 (x p y q : Int) (w : World) : (binOp .eql 26 (.agg #[.int .i64 x, .int .i64 p]) (.agg #[.int .i64 y, .int .i64 q])).run Try.prog w = .ok (.bool (x == y && p == q)) w := eql_hd x y p q w

set_option maxRecDepth 100000 in
set_option maxHeartbeats 2000000 in
theorem samehd (A B : Option Addr) (n m c d : Nat) (F : Nat → Nat → Int) (G : Nat → Nat → Int) (w : World) (hA : Row w A n 2 (fun i j => .int .i64 (F i j))) (hB : Row w B m 2 (fun i j => .int .i64 (G i j))) (hn : (n : Int) ≤ 9223372036854775807) :
    Calls Try.prog 19 #[.slice A n c, .slice B m d] w fun e w' => EqR (n = m ∧ ∀ k, k < n → F k 0 = G k 0 ∧ F k 1 = G k 1) e ∧ Below w.heap.size w w' := by
  by_cases hnm : n = m
  rotate_left
  · have g0 : ((n : Int) != (m : Int)) = true := by simp; omega
    clear hA hB
    go_enter Try.func19, Try.ntmps19
    go_wp2
    go_ret
    exact ⟨⟨false, rfl, ⟨fun h => (by cases h), fun h => absurd h.1 hnm⟩⟩, Below.refl _ _⟩
  subst hnm
  have HA := Lib.hid hA
  have HB := Lib.hid hB
  clear hA hB
  go_enter Try.func19, Try.ntmps19
  go_wp2
  go_loopw [5] (fun i wr => ∃ k : Nat, k ≤ n ∧ i = .int .i64 k ∧ (∃ q, wr = w.drewN q) ∧ ∀ k', k' < k → F k' 0 = G k' 0 ∧ F k' 1 = G k' 1) (fun i wr => n - (intOf i).toNat)
  case atStart => exact ⟨0, Nat.zero_le _, rfl, ⟨0, rfl⟩, fun j hj => absurd hj (by omega)⟩
  case round =>
    obtain ⟨k, hk, rfl, ⟨q, rfl⟩, hall⟩ := hrel
    have Hall := Lib.hid hall
    clear hall
    by_cases hkn : k < n
    · obtain ⟨g, o, rfl, hg, hc⟩ := HA.out (by omega)
      obtain ⟨g', o', rfl, hg', hc'⟩ := HB.out (by omega)
      have c0 := hc k hkn 0 (by omega)
      have c1 := hc k hkn 1 (by omega)
      have d0 := hc' k hkn 0 (by omega)
      have d1 := hc' k hkn 1 (by omega)
      dsimp only at c0 c1 d0 d1
      simp only [Nat.add_zero, Nat.mul_one, if_true, if_pos rfl, reduceCtorEq, if_false] at c0 c1 d0 d1
      have hi : (k : Int) < (n : Int) := by omega
      have hi0 : (0 : Int) ≤ (k : Int) := by omega
      clear hc hc'
      by_cases hcmp : F k 0 = G k 0 ∧ F k 1 = G k 1
      · have hq := fun W => equalIn_of_eql (eql_hd2 ((F k 0)) ((F k 1)) ((G k 0)) ((G k 1)) W)
        have hv : ((F k 0 == G k 0) && (F k 1 == G k 1)) = true := by have := hcmp; simp_all
        simp only [hv] at hq
        clear hv
        have Hc := Lib.hid hcmp
        clear hcmp
        go_wp2_with fail
        go_quiet (fail)
        go_wp2
        go_roundw
        case rel =>
          refine ⟨k + 1, by omega, by go_num, ⟨_, rfl⟩, fun j hj => ?_⟩
          rcases Nat.lt_or_ge j k with h | h
          · exact Hall.out j h
          · obtain rfl : j = k := by omega
            exact Hc.out
        case measure => simp [intOf]; omega
      · have hq := fun W => equalIn_of_eql (eql_hd2 ((F k 0)) ((F k 1)) ((G k 0)) ((G k 1)) W)
        have hv : ((F k 0 == G k 0) && (F k 1 == G k 1)) = false := by rw [Bool.eq_false_iff]; intro hh; apply hcmp; simpa using hh
        simp only [hv] at hq
        clear hv
        have Hc := Lib.hid hcmp
        clear hcmp
        go_wp2_with fail
        go_quiet (fail)
        go_wp2
        go_ret
        exact ⟨⟨false, rfl, ⟨fun h => (by cases h), fun h => absurd (h.2 k hkn) Hc.out⟩⟩, by first | exact below_drewN (Below.refl _ _) _ | exact below_drewN (below_drewN (Below.refl _ _) _) _⟩
    · obtain rfl : k = n := by omega
      go_wp2
      go_ret
      exact ⟨⟨true, rfl, ⟨fun _ => ⟨by trivial, Hall.out⟩, fun _ => rfl⟩⟩, below_drewN (Below.refl _ _) _⟩

set_option maxRecDepth 100000 in
set_option maxHeartbeats 2000000 in
theorem refsame_any (A A2 : Option Addr) (n m c d : Nat) (g g' : Nat → Int) (b b' : Nat → Bool) (w : World) (hA : Row w A n 2 (sv g b)) (hB : Row w A2 m 2 (sv g' b')) (hn : (n : Int) ≤ 9223372036854775807) :
    Calls Try.prog 18 #[.agg #[.slice A n c], .agg #[.slice A2 m d]] w fun e w' => EqR (SameA n m g g' b b') e ∧ Below w.heap.size w w' := by
  have hbel0 : Below w.heap.size w ((w.alloc (.cells #[.slice A n c] 24)).alloc (.cells #[.slice A2 m d] 24)) := by
    repeat' (first | exact Below.refl _ _ | assumption | apply Below.drew | refine Below.setCell ?_ (by first | omega | (simp; done) | (simp; omega)) _ | refine Below.alloc ?_ (by first | omega | (simp; done) | (simp; omega)) _)
  have Hbel0 := Lib.hid hbel0
  by_cases hnm : n = m
  rotate_left
  · have g0 : ((n : Int) != (m : Int)) = true := by simp; omega
    clear hA hB hbel0
    go_enter Try.func18, Try.ntmps18
    go_wp2
    go_ret
    exact ⟨⟨false, rfl, ⟨fun h => (by cases h), fun h => absurd h.1 hnm⟩⟩, Hbel0.out⟩
  subst hnm
  have HA := Lib.hid (hA.below hbel0)
  have HB := Lib.hid (hB.below hbel0)
  clear hA hB hbel0
  go_enter Try.func18, Try.ntmps18
  go_wp2
  go_loopw [5] (fun i wr => ∃ k : Nat, k ≤ n ∧ i = .int .i64 k ∧ (∃ q, wr = ((w.alloc (.cells #[.slice A n c] 24)).alloc (.cells #[.slice A2 n d] 24)).drewN q) ∧ ∀ k', k' < k → (g k' = g' k' ∧ b k' = b' k')) (fun i wr => n - (intOf i).toNat)
  case atStart => exact ⟨0, Nat.zero_le _, rfl, ⟨0, rfl⟩, fun j hj => absurd hj (by omega)⟩
  case round =>
    obtain ⟨k, hk, rfl, ⟨q, rfl⟩, hall⟩ := hrel
    have Hall := Lib.hid hall
    clear hall
    by_cases hkn : k < n
    · obtain ⟨gg, o, rfl, hg, hc⟩ := HA.out (by omega)
      obtain ⟨gg', o', rfl, hg', hc'⟩ := HB.out (by omega)
      have c0 := hc k hkn 0 (by omega)
      have c1 := hc k hkn 1 (by omega)
      have d0 := hc' k hkn 0 (by omega)
      have d1 := hc' k hkn 1 (by omega)
      simp only [Nat.add_zero, sv, if_true, if_pos rfl] at c0 d0
      simp only [sv] at c1 d1
      rw [if_neg (by decide)] at c1 d1
      have hi : (k : Int) < (n : Int) := by omega
      have hi0 : (0 : Int) ≤ (k : Int) := by omega
      clear hc hc'
      by_cases hcmp : g k = g' k ∧ b k = b' k
      · have hq := fun W => equalIn_of_eql (eql_slot (g k) (g' k) (b k) (b' k) W)
        have hv : ((g k == g' k) && (b k == b' k)) = true := by simp [hcmp.1, hcmp.2]
        simp only [hv] at hq
        clear hv
        have Hc := Lib.hid hcmp
        clear hcmp
        go_wp2_with fail
        go_quiet (fail)
        go_wp2
        go_roundw
        case rel =>
          refine ⟨k + 1, by omega, by go_num, ⟨_, rfl⟩, fun j hj => ?_⟩
          rcases Nat.lt_or_ge j k with h | h
          · exact Hall.out j h
          · obtain rfl : j = k := by omega
            exact Hc.out
        case measure => simp [intOf]; omega
      · have hq := fun W => equalIn_of_eql (eql_slot (g k) (g' k) (b k) (b' k) W)
        have hv : ((g k == g' k) && (b k == b' k)) = false := by rw [Bool.eq_false_iff]; intro hh; apply hcmp; simpa using hh
        simp only [hv] at hq
        clear hv
        have Hc := Lib.hid hcmp
        clear hcmp
        go_wp2_with fail
        go_quiet (fail)
        go_wp2
        go_ret
        exact ⟨⟨false, rfl, ⟨fun h => (by cases h), fun h => absurd (h.2 k hkn) Hc.out⟩⟩, by first | exact below_drewN Hbel0.out _ | exact below_drewN (below_drewN Hbel0.out _) _⟩
    · obtain rfl : k = n := by omega
      go_wp2
      go_ret
      exact ⟨⟨true, rfl, ⟨fun _ => ⟨by trivial, Hall.out⟩, fun _ => rfl⟩⟩, below_drewN Hbel0.out _⟩

set_option maxRecDepth 100000 in
set_option maxHeartbeats 4000000 in
theorem refall_any (A : Option Addr) (n c : Nat) (g : Nat → Int) (b : Nat → Bool) (w : World) (hA : Row w A n 2 (sv g b)) (hn : (n : Int) ≤ 9223372036854775807) :
    Calls Try.prog 16 #[.agg #[.slice A n c]] w fun e w' => AllR n g b w.heap.size e w' ∧ Below w.heap.size w w' := by
  obtain ⟨i0, hi0, hz0, hz1, hz2⟩ := info_parts hd_info
  have hck := Lib.hid (fun W (h : Below w.heap.size w W) => refmay_any A n c g b W (hA.below h) hn)
  have HA := Lib.hid hA
  clear hA
  go_enter Try.func16, Try.ntmps16
  go_wp2_with fail
  refine (hck.out _ (by repeat' (first | exact Below.refl _ _ | assumption | apply Below.drew | refine Below.setCell ?_ (by first | omega | (simp; done) | (simp; omega)) _ | refine Below.alloc ?_ (by first | omega | (simp; done) | (simp; omega)) _))).mono ?_
  rintro e w1 ⟨⟨r, rfl, hr⟩, bel1⟩
  have Hr := Lib.hid hr
  clear hck hr
  have BB1 : Below w.heap.size w w1 := by
    skip
    refine Below.trans ?_ (bel1.mono (by first | omega | (simp; done) | (simp; omega)))
    repeat' (first | exact Below.refl _ _ | assumption | apply Below.drew | refine Below.setCell ?_ (by first | omega | (simp; done) | (simp; omega)) _ | refine Below.alloc ?_ (by first | omega | (simp; done) | (simp; omega)) _)
  have P : Hid (HasBlk w1 (w.heap.size) 24 #[.slice A n c]) := Lib.hid (by have := (hasBlk_new w 24 #[.slice A n c]).below bel1; simpa using this)
  have BB1s := BB1.size
  have HBB1 := Lib.hid BB1
  clear BB1
  have lt_P := P.out.lt
  have P_0 := P.out.cell 0
  have P_f0 := P.out.frozen 0
  simp at P_0
  cases r with
  | false =>
    go_wp2
    refine bodyPost_ret (v := .tuple #[.slice none 0 0, .int .i64 8]) (by simp [results, Try.results16, go_sem, *]) rfl ⟨.inl ⟨fun h => absurd (Hr.out.2 h) (by decide), rfl⟩, ?_⟩
    have bel0 := HBB1.out
    repeat' (first | exact Below.refl _ _ | assumption | apply Below.drew | refine Below.setCell ?_ (by first | omega | (simp; done) | (simp; omega)) _ | refine Below.alloc ?_ (by first | omega | (simp; done) | (simp; omega)) _)
  | true =>
    have hm : MayA n g := Hr.out.1 (by trivial)
    have hn' := hm.1
    have Hm := Lib.hid hm
    clear hm bel1 Hr
    go_wp2
    go_loopw [4, 5] (fun o i wr => ∃ j : Nat, j ≤ n ∧ i = .int .i64 j ∧ (∃ X cx, o = .slice X (liveL b j).length cx ∧ wr.ownsRow w.heap.size 26 2 (.slice X (liveL b j).length cx) (liveL b j).length (hdc g (liveL b j))) ∧ HasBlk wr w.heap.size 24 #[.slice A n c] ∧ Below w.heap.size w wr) (fun o i wr => n - (intOf i).toNat)
    case atStart => exact ⟨0, Nat.zero_le _, rfl, ⟨none, 0, rfl, own_nil _ _ _ _⟩, P.out, HBB1.out⟩
    case round =>
      obtain ⟨j, hj, rfl, ⟨X, cx, rfl, hown⟩, hp, hbel⟩ := hrel
      clear lt_P P_0 P_f0
      have z0 := hp.lt
      have p0 := hp.cell 0
      simp at p0
      have hlen := liveL_len b j
      by_cases hjn : j < n
      · have HA' := HA.out.below hbel
        obtain ⟨gg, oo, rfl, hg, hc⟩ := HA' (by omega)
        have c0 := hc j hjn 0 (by omega)
        have c1 := hc j hjn 1 (by omega)
        simp only [Nat.add_zero, sv, if_true, if_pos rfl] at c0
        simp only [sv] at c1
        rw [if_neg (by decide)] at c1
        have hi : (j : Int) < (n : Int) := by omega
        have hi0' : (0 : Int) ≤ (j : Int) := by omega
        have Hp := Lib.hid hp
        have Hbel := Lib.hid hbel
        have zb := hbel.size
        clear hc HA' hp hbel
        by_cases hb : b j = true
        · simp only [hb] at c1
          have e1 := liveL_t hb
          generalize hm : (liveL b j).length = m at *
          have hml : (liveL b (j + 1)).length = m + 1 := by rw [e1, List.length_append, hm]; rfl
          have Hne := Lib.hid (Hp.out.ne_own hown (by decide))
          have Hown := Lib.hid hown
          go_wp2_with (at_builtin; refine wpList_append_lies _ rfl (.tmp 22) (.tmp 31) _ rfl w.heap.size 26 i0 _ 2 16 Try.underlying37 hi0 hz0 hz1 hz2 rfl (by omega) (.slice X m cx) (m) (hdc g (liveL b j)) rfl (hown.alloc _) ⟨wr.heap.size, 0, none⟩ 1 1 [.int .i64 j, .int .i64 (g j)] (by rfl) rfl (World.news_of_block (cs := #[.int .i64 j, .int .i64 (g j)]) (t := 26) (fr := (0, 0)) (heap_alloc_new wr _)) (by simp [Value.oneCell']) (by omega) (by unfold maxLen; omega) (by omega) (by simp; omega) (wr.heap.size + 1) (by simp) ?_; intro g' cap w3 hown3 hgrow hat hlt)
          go_roundw
          case rel =>
            refine ⟨j + 1, by omega, by go_num, ⟨some ⟨g', 0, none⟩, cap, by rw [hml], ?_⟩, ?_, ?_⟩
            · rw [hml, e1, hdc_snoc]
              exact hown3
            · exact (Hp.out.alloc _).grown hgrow Hne.out
            · exact below_grown (v := .slice X m cx) (Hbel.out.alloc (by omega) _) hgrow (hown.alloc _) (Nat.le_refl _) (by simp; omega)
          case measure => simp [intOf]; omega
        · have hb' : b j = false := by simpa using hb
          simp only [hb'] at c1
          have e1 := liveL_f hb'
          have Hown := Lib.hid hown
          clear hown
          go_wp2
          go_roundw
          case rel =>
            refine ⟨j + 1, by omega, by go_num, ⟨X, cx, by rw [e1], ?_⟩, ?_, ?_⟩
            · rw [e1]
              exact Hown.out
            · exact Hp.out
            · exact Hbel.out
          case measure => simp [intOf]; omega
      · obtain rfl : j = n := by omega
        have Hown := Lib.hid hown
        have Hbel := Lib.hid hbel
        clear hown hbel
        go_wp2
        refine bodyPost_ret (v := .tuple #[.slice X (liveL b j).length cx, .int .i64 0]) (by simp [results, Try.results16, go_sem, *]) rfl ⟨.inr ⟨Hm.out, _, _, rfl, Hown.out⟩, Hbel.out⟩
end Go.Proofs.Ytapibgpjfliifaa
