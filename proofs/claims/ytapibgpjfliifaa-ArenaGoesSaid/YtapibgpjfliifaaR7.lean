/- arena.All. -/
import Derived.Test.YtapibgpjfliifaaR5
namespace Go.Proofs.Ytapibgpjfliifaa
open Go.RowKit
set_option linter.unusedVariables false

/-- The slots that live, in order. -/
def liveL (b : Nat → Bool) (n : Nat) : List Nat := (List.range n).filter b
theorem liveL_t {b : Nat → Bool} {n : Nat} (h : b n = true) : liveL b (n + 1) = liveL b n ++ [n] := by
  unfold liveL; rw [List.range_succ, List.filter_append]; simp [h]
theorem liveL_f {b : Nat → Bool} {n : Nat} (h : b n = false) : liveL b (n + 1) = liveL b n := by
  unfold liveL; rw [List.range_succ, List.filter_append]; simp [h]
theorem liveL_len (b : Nat → Bool) (n : Nat) : (liveL b n).length ≤ n := by
  have := List.length_filter_le b (List.range n); simpa [liveL] using this
/-- The cells of the handles of these slots. -/
def hdc (g : Nat → Int) (l : List Nat) : List Value := l.flatMap fun (k : Nat) => [Value.int .i64 (k : Int), Value.int .i64 (g k)]
theorem hdc_snoc (g : Nat → Int) (l : List Nat) (k : Nat) : hdc g (l ++ [k]) = hdc g l ++ [.int .i64 k, .int .i64 (g k)] := by simp [hdc]
theorem hd_info : (Try.prog.info? 26).map (fun i => (i.zero, i.size, i.bytes)) = some (some (.agg #[.int .i64 0, .int .i64 0]), 2, 16) := by kernel_rfl
/-- What All answers. -/
def AllR (n : Nat) (g : Nat → Int) (b : Nat → Bool) (B : Nat) (e : Ending) (w' : World) : Prop :=
  (¬ MayA n g ∧ e = .returned (.tuple #[.slice none 0 0, .int .i64 8])) ∨
  (MayA n g ∧ ∃ X c, e = .returned (.tuple #[.slice X (liveL b n).length c, .int .i64 0]) ∧ w'.ownsRow B 26 2 (.slice X (liveL b n).length c) (liveL b n).length (hdc g (liveL b n)))

set_option maxRecDepth 100000 in
set_option maxHeartbeats 4000000 in
theorem all_any (A : Option Addr) (n c : Nat) (g : Nat → Int) (b : Nat → Bool) (w : World) (hA : Row w A n 2 (sv g b)) (hn : (n : Int) ≤ 9223372036854775807) :
    Calls Try.prog 12 #[.agg #[.slice A n c]] w fun e w' => AllR n g b w.heap.size e w' ∧ Below w.heap.size w w' := by
  obtain ⟨i0, hi0, hz0, hz1, hz2⟩ := info_parts hd_info
  have hck := Lib.hid (fun W (h : Below w.heap.size w W) => check_may A n c g b W (hA.below h) hn)
  have HA := Lib.hid hA
  clear hA
  go_enter Try.func12, Try.ntmps12
  go_wp2_with fail
  refine (hck.out _ (by repeat' (first | exact Below.refl _ _ | assumption | apply Below.drew | refine Below.setCell ?_ (by first | omega | (simp; done) | (simp; omega)) _ | refine Below.alloc ?_ (by first | omega | (simp; done) | (simp; omega)) _))).mono ?_
  rintro e w1 ⟨⟨x, rfl, hx⟩, bel1⟩
  clear hck
  have BB1 : Below w.heap.size w w1 := by
    skip
    refine Below.trans ?_ (bel1.mono (by first | omega | (simp; done) | (simp; omega)))
    repeat' (first | exact Below.refl _ _ | assumption | apply Below.drew | refine Below.setCell ?_ (by first | omega | (simp; done) | (simp; omega)) _ | refine Below.alloc ?_ (by first | omega | (simp; done) | (simp; omega)) _)
  have P : Hid (HasBlk w1 (w.heap.size) 24 #[.slice A n c]) := Lib.hid (by have := (hasBlk_new w 24 #[.slice A n c]).below bel1; simpa using this)
  have BB1s := BB1.size
  have HBB1 := Lib.hid BB1
  clear BB1
  have lt_P := P.out.lt
  have P_0 := P.out.cell 0
  have P_f0 := P.out.frozen 0
  simp at P_0
  rcases hx with ⟨hm, rfl⟩ | ⟨hm, rfl⟩
  rotate_left
  · have Hm := Lib.hid hm
    clear hm
    go_wp2
    refine bodyPost_ret (v := .tuple #[.slice none 0 0, .int .i64 8]) (by simp [results, Try.results12, go_sem, *]) rfl ⟨.inl ⟨Hm.out, rfl⟩, ?_⟩
    have bel0 := HBB1.out
    repeat' (first | exact Below.refl _ _ | assumption | apply Below.drew | refine Below.setCell ?_ (by first | omega | (simp; done) | (simp; omega)) _ | refine Below.alloc ?_ (by first | omega | (simp; done) | (simp; omega)) _)
  have hn' := hm.1
  have Hm := Lib.hid hm
  clear hm bel1
  go_wp2
  go_loopw [5, 16] (fun o i wr => ∃ j : Nat, j ≤ n ∧ i = .int .i64 j ∧ (∃ X cx, o = .slice X (liveL b j).length cx ∧ wr.ownsRow w.heap.size 26 2 (.slice X (liveL b j).length cx) (liveL b j).length (hdc g (liveL b j))) ∧ HasBlk wr w.heap.size 24 #[.slice A n c] ∧ Below w.heap.size w wr) (fun o i wr => n - (intOf i).toNat)
  case atStart => exact ⟨0, Nat.zero_le _, rfl, ⟨none, 0, rfl, own_nil _ _ _ _⟩, P.out, HBB1.out⟩
  case round =>
    obtain ⟨j, hj, rfl, ⟨X, cx, rfl, hown⟩, hp, hbel⟩ := hrel
    clear lt_P P_0 P_f0
    have z0 := hp.lt
    have hlen := liveL_len b j
    by_cases hjn : j < n
    · have HA' := HA.out.below hbel
      obtain ⟨gg, oo, rfl, hg, hc⟩ := HA' (by omega)
      have c0 := hc j hjn 0 (by omega)
      have c1 := hc j hjn 1 (by omega)
      simp only [Nat.add_zero, sv, if_true, if_pos rfl] at c0
      simp only [sv] at c1
      rw [if_neg (by decide)] at c1
      have hi : (j : Int) < (n : Int) := by omega
      have hi0' : (0 : Int) ≤ (j : Int) := by omega
      have Hp := Lib.hid hp
      have Hbel := Lib.hid hbel
      have zb := hbel.size
      clear hc HA' hp hbel
      by_cases hb : b j = true
      · simp only [hb] at c1
        have e1 := liveL_t hb
        generalize hm : (liveL b j).length = m at *
        have hml : (liveL b (j + 1)).length = m + 1 := by rw [e1, List.length_append, hm]; rfl
        have hown2 := hown.alloc (.cells #[.int .i64 (g j), .bool true] 33)
        have Hne := Lib.hid (Hp.out.ne_own hown (by decide))
        have Hown := Lib.hid hown
        clear hown
        have hnew : ((wr.alloc (.cells #[.int .i64 (g j), .bool true] 33)).alloc (.cells #[.int .i64 j, .int .i64 (g j)] 26)).heap[wr.heap.size + 1]? = some (.cells #[.int .i64 j, .int .i64 (g j)] 26 (0, 0)) := by
          have := heap_alloc_new (wr.alloc (.cells #[.int .i64 (g j), .bool true] 33)) (.cells #[.int .i64 j, .int .i64 (g j)] 26)
          simpa using this
        go_wp2_with (at_builtin; refine wpList_append_lies _ rfl (.tmp 23) (.tmp 28) _ rfl w.heap.size 26 i0 _ 2 16 Try.underlying37 hi0 hz0 hz1 hz2 rfl (by omega) (.slice X m cx) (m) (hdc g (liveL b j)) rfl (hown2.alloc _) ⟨wr.heap.size + 1, 0, none⟩ 1 1 [.int .i64 j, .int .i64 (g j)] (by rfl) rfl (World.news_of_block (cs := #[.int .i64 j, .int .i64 (g j)]) (t := 26) (fr := (0, 0)) hnew) (by simp [Value.oneCell']) (by omega) (by unfold maxLen; omega) (by omega) (by simp; omega) (wr.heap.size + 2) (by simp) ?_; intro g' cap w3 hown3 hgrow hat hlt)
        go_roundw
        case rel =>
          refine ⟨j + 1, by omega, by go_num, ⟨some ⟨g', 0, none⟩, cap, by rw [hml], ?_⟩, ?_, ?_⟩
          · rw [hml, e1, hdc_snoc]
            exact hown3
          · exact ((Hp.out.alloc _).alloc _).grown hgrow Hne.out
          · exact below_grown (v := .slice X m cx) ((Hbel.out.alloc (by omega) _).alloc (by simp; omega) _) hgrow (hown2.alloc _) (Nat.le_refl _) (by simp; omega)
        case measure => simp [intOf]; omega
      · have hb' : b j = false := by simpa using hb
        simp only [hb'] at c1
        have e1 := liveL_f hb'
        have Hown := Lib.hid hown
        clear hown
        go_wp2
        go_roundw
        case rel =>
          refine ⟨j + 1, by omega, by go_num, ⟨X, cx, by rw [e1], ?_⟩, ?_, ?_⟩
          · rw [e1]
            exact Hown.out.alloc _
          · exact Hp.out.alloc _
          · exact Hbel.out.alloc (by omega) _
        case measure => simp [intOf]; omega
    · obtain rfl : j = n := by omega
      have Hown := Lib.hid hown
      have Hbel := Lib.hid hbel
      clear hown hbel
      go_wp2
      refine bodyPost_ret (v := .tuple #[.slice X (liveL b j).length cx, .int .i64 0]) (by simp [results, Try.results12, go_sem, *]) rfl ⟨.inr ⟨Hm.out, _, _, rfl, Hown.out⟩, Hbel.out⟩
end Go.Proofs.Ytapibgpjfliifaa
