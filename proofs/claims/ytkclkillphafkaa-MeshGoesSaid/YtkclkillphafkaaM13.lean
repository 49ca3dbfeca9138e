/- MeshIn. -/
import Derived.Test.YtkclkillphafkaaM12
import Derived.Test.YtkclkillphafkaaM6
namespace Go.Proofs.Ytkclkillphafkaa
open Go.RowKit
set_option linter.unusedVariables false

/-- Corner j of the i-th triangle of all. -/
def catG (D : Nat → PrimD) (m i j : Nat) : Int := match (catC D m)[i * 3 + j]? with
  | some (.int _ x) => x
  | _ => 0
theorem cat_val {nv : Nat} {D : Nat → PrimD} (hk0 : ∀ i, 0 ≤ (D i).k) : ∀ {m : Nat}, (∀ i, i < m → OkP nv (D i)) → ∀ i, i < catN D m → ∀ j, j < 3 → ∃ x, (catC D m)[i * 3 + j]? = some (.int .i64 x) ∧ 0 ≤ x ∧ x < nv
  | 0, _, i, hi, j, hj => by simp [catN] at hi
  | k + 1, h, i, hi, j, hj => by
    have hl := catC_len D k
    rw [catC]
    rw [catN] at hi
    by_cases hk : i < catN D k
    · rw [List.getElem?_append_left (by omega)]
      exact cat_val hk0 (fun i hi => h i (by omega)) i hk j hj
    · rw [List.getElem?_append_right (by omega), hl, show i * 3 + j - catN D k * 3 = (i - catN D k) * 3 + j by omega, cellsR_at (by omega) hj]
      obtain ⟨hp, hr⟩ := h k (by omega)
      obtain ⟨q, hq, he⟩ := tri_has (l := (D k).l) hp (hk0 k) (i := i - catN D k) (j := j) (by omega) hj
      refine ⟨_, rfl, ?_⟩
      rw [← he]
      exact hr q hq
theorem cat_row {nv : Nat} {D : Nat → PrimD} {m B c : Nat} {X : Option Addr} {w : World} (hk0 : ∀ i, 0 ≤ (D i).k) (h : ∀ i, i < m → OkP nv (D i)) (ho : w.ownsRow B 36 3 (.slice X (catN D m) c) (catN D m) (catC D m)) : Row w X (catN D m) 3 (fun i j => .int .i64 (catG D m i j)) ∧ ∀ i, i < catN D m → ∀ j, j < 3 → 0 ≤ catG D m i j ∧ catG D m i j < nv := by
  refine ⟨Row.of_own ho fun i hi j hj => ?_, fun i hi j hj => ?_⟩
  · obtain ⟨x, hx, _⟩ := cat_val hk0 h i hi j hj
    unfold catG
    rw [hx]
  · obtain ⟨x, hx, h0⟩ := cat_val hk0 h i hi j hj
    unfold catG
    rw [hx]
    exact h0

set_option maxRecDepth 100000 in
set_option maxHeartbeats 4000000 in
theorem meshIn_walk (A1 A2 A3 : Option Addr) (n1 n2 m c1 c2 c3 : Nat) (V U : Nat → Nat → Int) (D : Nat → PrimD) (w : World) (hV : Row w A1 n1 3 (fun i j => .int .i64 (V i j))) (hU : Row w A2 n2 2 (fun i j => .int .i64 (U i j))) (hp : PL w A3 m D) (hk0 : ∀ i, 0 ≤ (D i).k) (hDn : ∀ i, ((D i).n : Int) ≤ 9223372036854775807) :
    Calls Try.prog 7 #[.agg #[.slice A1 n1 c1, .slice A2 n2 c2, .slice A3 m c3]] w fun e w' => e = .returned (.bool true) ∧ Below w.heap.size w w' := by
  have HP := Lib.hid hp
  have HK := Lib.hid hk0
  have HDn := Lib.hid hDn
  have ht := Lib.hid (fun W (h : Below w.heap.size w W) => tris16_any A1 A2 A3 n1 n2 m c1 c2 c3 V U D W (hV.below h) (hU.below h) (hp.below h) hk0)
  clear hV hU hp hk0 hDn
  by_cases h0 : (100 : Int) < (m : Int)
  · have g0 : decide ((100 : Int) < (m : Int)) = true := decide_eq_true h0
    clear h0 ht HDn HK HP
    go_enter Try.func7, Try.ntmps7
    go_wp2_with fail
    refine (alive_any _).mono ?_
    rintro e w1 ⟨rfl, bel1⟩
    have BB1 : Below w.heap.size w w1 := by
      skip
      refine Below.trans ?_ (bel1.mono (by first | omega | (simp; done) | (simp; omega)))
      repeat' (first | exact Below.refl _ _ | assumption | apply Below.drew | refine Below.setCell ?_ (by first | omega | (simp; done) | (simp; omega)) _ | refine Below.alloc ?_ (by first | omega | (simp; done) | (simp; omega)) _)
    have M : Hid (HasBlk w1 (w.heap.size) 42 #[.slice A1 n1 c1, .slice A2 n2 c2, .slice A3 m c3]) := Lib.hid (by have := (hasBlk_new w 42 #[.slice A1 n1 c1, .slice A2 n2 c2, .slice A3 m c3]).below bel1; simpa using this)
    have BB1s := BB1.size
    have HBB1 := Lib.hid BB1
    clear BB1
    have lt_M := M.out.lt
    have M_0 := M.out.cell 0
    have M_1 := M.out.cell 1
    have M_2 := M.out.cell 2
    simp at M_0 M_1 M_2
    go_wp2
    go_ret
    exact ⟨rfl, HBB1.out⟩
  have g0 : decide ((100 : Int) < (m : Int)) = false := decide_eq_false h0
  by_cases h1 : (1000 : Int) < (n1 : Int)
  · have g1 : decide ((1000 : Int) < (n1 : Int)) = true := decide_eq_true h1
    clear h0 h1 ht HDn HK HP
    go_enter Try.func7, Try.ntmps7
    go_wp2_with fail
    refine (alive_any _).mono ?_
    rintro e w1 ⟨rfl, bel1⟩
    have BB1 : Below w.heap.size w w1 := by
      skip
      refine Below.trans ?_ (bel1.mono (by first | omega | (simp; done) | (simp; omega)))
      repeat' (first | exact Below.refl _ _ | assumption | apply Below.drew | refine Below.setCell ?_ (by first | omega | (simp; done) | (simp; omega)) _ | refine Below.alloc ?_ (by first | omega | (simp; done) | (simp; omega)) _)
    have M : Hid (HasBlk w1 (w.heap.size) 42 #[.slice A1 n1 c1, .slice A2 n2 c2, .slice A3 m c3]) := Lib.hid (by have := (hasBlk_new w 42 #[.slice A1 n1 c1, .slice A2 n2 c2, .slice A3 m c3]).below bel1; simpa using this)
    have BB1s := BB1.size
    have HBB1 := Lib.hid BB1
    clear BB1
    have lt_M := M.out.lt
    have M_0 := M.out.cell 0
    have M_1 := M.out.cell 1
    have M_2 := M.out.cell 2
    simp at M_0 M_1 M_2
    go_wp2
    go_ret
    exact ⟨rfl, HBB1.out⟩
  have g1 : decide ((1000 : Int) < (n1 : Int)) = false := decide_eq_false h1
  by_cases h2 : (1000 : Int) < (n2 : Int)
  · have g2 : decide ((1000 : Int) < (n2 : Int)) = true := decide_eq_true h2
    clear h0 h1 h2 ht HDn HK HP
    go_enter Try.func7, Try.ntmps7
    go_wp2_with fail
    refine (alive_any _).mono ?_
    rintro e w1 ⟨rfl, bel1⟩
    have BB1 : Below w.heap.size w w1 := by
      skip
      refine Below.trans ?_ (bel1.mono (by first | omega | (simp; done) | (simp; omega)))
      repeat' (first | exact Below.refl _ _ | assumption | apply Below.drew | refine Below.setCell ?_ (by first | omega | (simp; done) | (simp; omega)) _ | refine Below.alloc ?_ (by first | omega | (simp; done) | (simp; omega)) _)
    have M : Hid (HasBlk w1 (w.heap.size) 42 #[.slice A1 n1 c1, .slice A2 n2 c2, .slice A3 m c3]) := Lib.hid (by have := (hasBlk_new w 42 #[.slice A1 n1 c1, .slice A2 n2 c2, .slice A3 m c3]).below bel1; simpa using this)
    have BB1s := BB1.size
    have HBB1 := Lib.hid BB1
    clear BB1
    have lt_M := M.out.lt
    have M_0 := M.out.cell 0
    have M_1 := M.out.cell 1
    have M_2 := M.out.cell 2
    simp at M_0 M_1 M_2
    go_wp2
    go_ret
    exact ⟨rfl, HBB1.out⟩
  have g2 : decide ((1000 : Int) < (n2 : Int)) = false := decide_eq_false h2
  have m100 : (m : Int) ≤ 100 := by omega
  clear h0 h1 h2
  go_enter Try.func7, Try.ntmps7
  go_wp2_with fail
  refine (alive_any _).mono ?_
  rintro e w1 ⟨rfl, bel1⟩
  have BB1 : Below w.heap.size w w1 := by
    skip
    refine Below.trans ?_ (bel1.mono (by first | omega | (simp; done) | (simp; omega)))
    repeat' (first | exact Below.refl _ _ | assumption | apply Below.drew | refine Below.setCell ?_ (by first | omega | (simp; done) | (simp; omega)) _ | refine Below.alloc ?_ (by first | omega | (simp; done) | (simp; omega)) _)
  have M : Hid (HasBlk w1 (w.heap.size) 42 #[.slice A1 n1 c1, .slice A2 n2 c2, .slice A3 m c3]) := Lib.hid (by have := (hasBlk_new w 42 #[.slice A1 n1 c1, .slice A2 n2 c2, .slice A3 m c3]).below bel1; simpa using this)
  have BB1s := BB1.size
  have HBB1 := Lib.hid BB1
  clear BB1
  have lt_M := M.out.lt
  have M_0 := M.out.cell 0
  have M_1 := M.out.cell 1
  have M_2 := M.out.cell 2
  simp at M_0 M_1 M_2
  go_wp2
  go_loop [4] (fun i => ∃ k : Nat, k ≤ m ∧ i = .int .i64 k) (fun i => m - (intOf i).toNat)
  case atStart => exact ⟨0, Nat.zero_le _, rfl⟩
  case round =>
    obtain ⟨k, hk, rfl⟩ := hrel
    by_cases hkm : k < m
    · obtain ⟨bb, off, rfl, hbl, hc, hi⟩ := HP.out.below HBB1.out (by omega)
      obtain ⟨d0, d1⟩ := hc k hkm
      have hi0 : (0 : Int) ≤ (k : Int) := by omega
      have hi1 : (k : Int) < (m : Int) := by omega
      have hn := HDn.out k
      clear hc hi
      by_cases hbig : (1000 : Int) < ((D k).n : Int)
      · have gb : decide ((1000 : Int) < ((D k).n : Int)) = true := decide_eq_true hbig
        go_wp2
        go_ret
        exact ⟨rfl, HBB1.out⟩
      · have gb : decide ((1000 : Int) < ((D k).n : Int)) = false := decide_eq_false hbig
        go_wp2
        go_round
        case rel => exact ⟨k + 1, by omega, by go_num⟩
        case measure => simp [intOf]; omega
    · obtain rfl : k = m := by omega
      go_wp2_with fail
      refine (ht.out _ HBB1.out).mono ?_
      rintro e w2 ⟨hx, bel2⟩
      clear lt_M M_0 M_1 M_2
      have BB2 : Below w.heap.size w w2 := by
        have bel0 := HBB1.out
        refine Below.trans ?_ (bel2.mono (by first | omega | (simp; done) | (simp; omega)))
        repeat' (first | exact Below.refl _ _ | assumption | apply Below.drew | refine Below.setCell ?_ (by first | omega | (simp; done) | (simp; omega)) _ | refine Below.alloc ?_ (by first | omega | (simp; done) | (simp; omega)) _)
      have t_M : HasBlk w2 (w.heap.size) 42 #[.slice A1 n1 c1, .slice A2 n2 c2, .slice A3 k c3] := by first | exact M.out.below bel2 | exact (M.out.alloc _).below bel2 | exact ((M.out.alloc _).alloc _).below bel2 | exact (((M.out.alloc _).alloc _).alloc _).below bel2
      clear M
      have M := Lib.hid t_M
      clear t_M
      clear HBB1
      have BB2s := BB2.size
      have HBB2 := Lib.hid BB2
      clear BB2
      clear bel1
      have lt_M := M.out.lt
      have M_0 := M.out.cell 0
      have M_1 := M.out.cell 1
      have M_2 := M.out.cell 2
      simp at M_0 M_1 M_2
      rcases hx with ⟨h0, X, cx, rfl, hown⟩ | ⟨h0, rfl⟩
      rotate_left
      · have g0' : (chkM n1 n2 V U D k != 0) = true := by simpa using h0
        clear h0
        go_wp2
        go_ret
        exact ⟨rfl, HBB2.out⟩
      obtain ⟨_, hmay⟩ := chkM_zero h0
      obtain ⟨hok, h64⟩ := hmay.2.2.2
      obtain ⟨hrow, hrng⟩ := cat_row HK.out hok hown
      have HR := Lib.hid hrow
      have HG := Lib.hid hrng
      have g64 : decide (((catN D k : Nat) : Int) ≤ 64) = true := decide_eq_true (by omega)
      have HB2 := HBB2
      clear h0 hown hmay hok hrow hrng
      generalize hT : catN D k = T at *
      have HT := Lib.hid hT
      clear hT
      go_wp2
      go_loopw [7] (fun i wr => ∃ j : Nat, j ≤ T ∧ i = .int .i64 j ∧ ∃ q, wr = w2.drewN q) (fun i wr => T - (intOf i).toNat)
      case atStart => exact ⟨0, Nat.zero_le _, rfl, 0, rfl⟩
      case round =>
        obtain ⟨j, hj, rfl, q0, rfl⟩ := hrel
        by_cases hjT : j < T
        · go_wp2
          go_loopw [8] (fun i wr => ∃ p : Nat, p ≤ 3 ∧ i = .int .i64 p ∧ ∃ q, wr = w2.drewN q) (fun i wr => 3 - (intOf i).toNat)
          case atStart => exact ⟨0, Nat.zero_le _, rfl, q0, rfl⟩
          case round =>
            obtain ⟨p, hp, rfl, q1, rfl⟩ := hrel
            by_cases hp3 : p < 3
            · obtain ⟨g, o, rfl, hg, hc⟩ := HR.out (by omega)
              have x0 := hc j hjT p hp3
              obtain ⟨r0, r1⟩ := HG.out j hjT p hp3
              have i0 : (0 : Int) ≤ (j : Int) := by omega
              have i1 : (j : Int) < (T : Int) := by omega
              have i2 : (0 : Int) ≤ (p : Int) := by omega
              have i3 : (p : Int) < 3 := by omega
              have gr0 : decide (catG D k j p < 0) = false := decide_eq_false (by omega)
              have gr1 : decide ((n1 : Int) ≤ catG D k j p) = false := decide_eq_false (by omega)
              clear hc
              go_wp2_with fail
              go_quiet (fail)
              go_wp2
              go_roundw
              case rel => exact ⟨p + 1, by omega, by go_num, _, rfl⟩
              case measure => simp [intOf]; omega
            · obtain rfl : p = 3 := by omega
              go_wp2
              go_roundw
              case rel => exact ⟨j + 1, by omega, by go_num, q1, rfl⟩
              case measure => simp [intOf]; omega
        · obtain rfl : j = T := by omega
          go_wp2
          go_ret
          exact ⟨rfl, below_drewN HB2.out _⟩
end Go.Proofs.Ytkclkillphafkaa
