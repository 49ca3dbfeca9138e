/- mesh.tris. -/
import Derived.Test.YtkclkillphafkaaM10
import Derived.Deep.DrawnRows
namespace Go.Proofs.Ytkclkillphafkaa
open Go.RowKit
set_option linter.unusedVariables false

/-- What a primitive's cells say. -/
structure PrimD where
  k : Int
  a : Option Addr
  n : Nat
  c : Nat
  l : Nat → Int
theorem IS.below' {w w' : World} {A : Option Addr} {n : Nat} {l : Nat → Int} (h : IS w A n l) (hb : Below w.heap.size w w') : IS w' A n l := h.below hb
/-- A list of primitives. -/
def PL (w : World) (A : Option Addr) (m : Nat) (D : Nat → PrimD) : Prop :=
  0 < m → ∃ b off, A = some ⟨b, off, none⟩ ∧ b < w.heap.size ∧ (∀ i, i < m → w.cell? ⟨b, off + i * 2, none⟩ = some (.int .u8 (D i).k) ∧ w.cell? ⟨b, off + i * 2 + 1, none⟩ = some (.slice (D i).a (D i).n (D i).c)) ∧ ∀ i, i < m → IS w (D i).a (D i).n (D i).l
theorem PL.below {w w' : World} {A : Option Addr} {m : Nat} {D : Nat → PrimD} (h : PL w A m D) (hb : Below w.heap.size w w') : PL w' A m D := fun hm => by
  obtain ⟨b, off, e, hl, hc, hp⟩ := h hm
  refine ⟨b, off, e, Nat.lt_of_lt_of_le hl hb.size, fun i hi => ?_, fun i hi => (hp i hi).below hb⟩
  obtain ⟨h0, h1⟩ := hc i hi
  exact ⟨(hb.cell (p := ⟨b, off + i * 2, none⟩) hl).trans h0, (hb.cell (p := ⟨b, off + i * 2 + 1, none⟩) hl).trans h1⟩
/-- The triangles of the first primitives. -/
def catC (D : Nat → PrimD) : Nat → List Value
  | 0 => []
  | i + 1 => catC D i ++ cellsR 3 (tv (D i).k (D i).l) (cnt (D i).k (D i).n)
def catN (D : Nat → PrimD) : Nat → Nat
  | 0 => 0
  | i + 1 => catN D i + cnt (D i).k (D i).n
theorem catC_len (D : Nat → PrimD) : ∀ i, (catC D i).length = catN D i * 3
  | 0 => rfl
  | i + 1 => by rw [catC, catN, List.length_append, catC_len D i, cellsR_len]; omega
theorem catN_mono (D : Nat → PrimD) {i j : Nat} (h : i ≤ j) : catN D i ≤ catN D j := by
  induction j with
  | zero => obtain rfl : i = 0 := by omega
            exact Nat.le_refl _
  | succ j ih =>
    rcases Nat.lt_or_ge j i with h' | h'
    · obtain rfl : i = j + 1 := by omega
      exact Nat.le_refl _
    · exact Nat.le_trans (ih h') (Nat.le_add_right _ _)
def OkP (nv : Nat) (d : PrimD) : Prop := pcode d.k d.n = 0 ∧ ∀ j, j < d.n → 0 ≤ d.l j ∧ d.l j < nv
def TrisOk (nv : Nat) (D : Nat → PrimD) (m : Nat) : Prop := (∀ i, i < m → OkP nv (D i)) ∧ catN D m ≤ 64
/-- What tris answers. -/
def TrisR (nv : Nat) (D : Nat → PrimD) (m B : Nat) (e : Ending) (w' : World) : Prop :=
  (TrisOk nv D m ∧ ∃ X cx, e = .returned (.tuple #[.slice X (catN D m) cx, .bool true]) ∧ w'.ownsRow B 36 3 (.slice X (catN D m) cx) (catN D m) (catC D m)) ∨ (¬ TrisOk nv D m ∧ e = .returned (.tuple #[.slice none 0 0, .bool false]))
theorem cnt_le (k : Int) (n : Nat) : cnt k n ≤ n := by unfold cnt; split <;> omega
theorem pcode_many {k : Int} {n : Nat} (h : pcode k n = 0) : n ≤ 200 := by
  unfold pcode at h
  split at h
  · exact absurd h (by decide)
  · split at h
    · exact absurd h (by decide)
    · omega

set_option maxRecDepth 100000 in
set_option maxHeartbeats 4000000 in
theorem tris30_any (A1 A2 A3 : Option Addr) (n1 n2 m c1 c2 c3 : Nat) (D : Nat → PrimD) (w : World) (hp : PL w A3 m D) (hm : (m : Int) ≤ 16) (hk0 : ∀ i, 0 ≤ (D i).k) :
    Calls Try.prog 30 #[.agg #[.slice A1 n1 c1, .slice A2 n2 c2, .slice A3 m c3]] w fun e w' => TrisR n1 D m w.heap.size e w' ∧ Below w.heap.size w w' := by
  have HP := Lib.hid hp
  have HK := Lib.hid hk0
  obtain ⟨i0, hi0, hz0, hz1, hz2⟩ := info_parts tri_info
  clear hp hk0
  go_enter Try.func30, Try.ntmps30
  go_wp2
  go_loopw [4, 14] (fun o i wr => ∃ k : Nat, k ≤ m ∧ i = .int .i64 k ∧ (∀ i, i < k → OkP n1 (D i)) ∧ catN D k ≤ 64 ∧ (∃ X cx, o = .slice X (catN D k) cx ∧ wr.ownsRow w.heap.size 36 3 (.slice X (catN D k) cx) (catN D k) (catC D k)) ∧ HasBlk wr w.heap.size 42 #[.slice A1 n1 c1, .slice A2 n2 c2, .slice A3 m c3] ∧ Below w.heap.size w wr) (fun o i wr => m - (intOf i).toNat)
  case atStart => exact ⟨0, Nat.zero_le _, rfl, fun i hi => absurd hi (by omega), Nat.zero_le _, ⟨none, 0, rfl, own_nil _ _ _ _⟩, hasBlk_new _ _ _, by repeat' (first | exact Below.refl _ _ | assumption | apply Below.drew | refine Below.setCell ?_ (by first | omega | (simp; done) | (simp; omega)) _ | refine Below.alloc ?_ (by first | omega | (simp; done) | (simp; omega)) _)⟩
  case round =>
    obtain ⟨k, hk, rfl, hall, h64, ⟨X, cx, rfl, hown⟩, hM, hbel⟩ := hrel
    have Hall := Lib.hid hall
    have Hown := Lib.hid hown
    have HM := Lib.hid hM
    have Hbel := Lib.hid hbel
    have zb := hbel.size
    have zM := hM.lt
    clear hall hown hM hbel
    by_cases hkm : k < m
    · obtain ⟨b, off, rfl, hbl, hc, hi⟩ := HP.out (by omega)
      have d0 := (Hbel.out.cell (p := ⟨b, off + k * 2, none⟩) hbl).trans (hc k hkm).1
      have d1 := (Hbel.out.cell (p := ⟨b, off + k * 2 + 1, none⟩) hbl).trans (hc k hkm).2
      have hIr := ((hi k hkm).below' Hbel.out)
      have hI := Lib.hid hIr
      have hIw := Lib.hid (hi k hkm)
      have hpr := Lib.hid (fun W (h : Below wr.heap.size wr W) => prim9_any (D k).k (HK.out k) (D k).n (D k).a (D k).c (D k).l W (hIr.below h))
      have hi0' : (0 : Int) ≤ (k : Int) := by omega
      have hi1' : (k : Int) < (m : Int) := by omega
      clear hc hi hIr
      go_wp2_with fail
      refine (hpr.out _ (by repeat' (first | exact Below.refl _ _ | assumption | apply Below.drew | refine Below.setCell ?_ (by first | omega | (simp; done) | (simp; omega)) _ | refine Below.alloc ?_ (by first | omega | (simp; done) | (simp; omega)) _))).mono ?_
      rintro e w1 ⟨hx, bel1⟩
      obtain ⟨Y, q, cy, rfl, hq, hY⟩ := hx.res
      have hq200 : q ≤ 200 := by
        rw [hq]; split
        · rename_i h; have := pcode_many h; have := cnt_le (D k).k (D k).n; omega
        · omega
      have pb1 := (hasBlk_new wr 24 #[.int .u8 (D k).k, .slice (D k).a (D k).n (D k).c]).below bel1
      have mb1 := (HM.out.alloc (.cells #[.int .u8 (D k).k, .slice (D k).a (D k).n (D k).c] 24)).below bel1
      have b01 : Below wr.heap.size wr w1 := Below.trans (Below.alloc (Below.refl _ _) (Nat.le_refl _) _) (bel1.mono (by simp))
      have own1 := own_below Hown.out b01
      have HY := Lib.hid (Row.of_cells hY)
      have z1 := b01.size
      have B1 := Lib.hid (Hbel.out.trans (b01.mono zb))
      have I1 := Lib.hid (hI.out.below b01)
      have HX1 := Lib.hid hq
      have PB1 := Lib.hid pb1
      have MB1 := Lib.hid mb1
      have Hone := Lib.hid (cellsR_one (s := 3) (fun i j => tv_one (D k).k (D k).l i j) q)
      have Hlen := Lib.hid (cellsR_len 3 (tv (D k).k (D k).l) q)
      clear hx hY bel1 b01 pb1 mb1 hpr d0 d1 hq
      obtain ⟨T, hT⟩ : ∃ T, catN D k + q = T := ⟨_, rfl⟩
      have HT := Lib.hid hT
      by_cases hpc : pcode (D k).k (D k).n = 0
      rotate_left
      · have g0 : (pcode (D k).k (D k).n != 0) = true := by simpa using hpc
        have Hpc := Lib.hid hpc
        clear hpc
        go_wp2_with (at_builtin; refine wpList_app rfl (.tmp 23) (.tmp 24) 25 rfl w.heap.size 36 i0 _ 3 24 Try.underlying25 hi0 hz0 hz1 hz2 rfl (by omega) X cx (catN D k) (catC D k) rfl own1 Y q cy (cellsR 3 (tv (D k).k (D k).l) q) rfl Hlen.out (HY.out.news (by omega)) Hone.out (by unfold maxLen; omega) (by omega) (by omega) ?_; intro X2 cx2 w2 hown2 hgr2; rw [hT] at hown2 ⊢; clear hT; have pb2 := PB1.out.grown hgr2 (PB1.out.ne_own own1 (by decide)); have mb2 := MB1.out.grown hgr2 (MB1.out.ne_own own1 (by decide)); have B2 := Lib.hid (below_grown B1.out hgr2 own1 (Nat.le_refl _) (by omega)); have J2 := Lib.hid hgr2; have O2 := Lib.hid hown2; have p0 := pb2.cell 0; have p1 := pb2.cell 1; have m0 := mb2.cell 0; have PB2 := Lib.hid pb2; have MB2 := Lib.hid mb2; clear pb2 mb2 hgr2 hown2; simp at p0 p1 m0)
        go_ret2
        exact ⟨.inr ⟨fun h => Hpc.out (h.1 k hkm).1, rfl⟩, B2.out⟩
      have g0 : (pcode (D k).k (D k).n != 0) = false := by simpa using hpc
      have hqc : q = cnt (D k).k (D k).n := by rw [HX1.out, if_pos hpc]
      have hTn : catN D (k + 1) = T := by rw [catN, ← hqc]; exact HT.out
      have HTn := Lib.hid hTn
      have Hpc := Lib.hid hpc
      have Hqc := Lib.hid hqc
      clear hpc hqc hTn
      by_cases hT64 : 64 < T
      · have g1 : decide ((64 : Int) < (T : Int)) = true := decide_eq_true (by omega)
        go_wp2_with (at_builtin; refine wpList_app rfl (.tmp 23) (.tmp 24) 25 rfl w.heap.size 36 i0 _ 3 24 Try.underlying25 hi0 hz0 hz1 hz2 rfl (by omega) X cx (catN D k) (catC D k) rfl own1 Y q cy (cellsR 3 (tv (D k).k (D k).l) q) rfl Hlen.out (HY.out.news (by omega)) Hone.out (by unfold maxLen; omega) (by omega) (by omega) ?_; intro X2 cx2 w2 hown2 hgr2; rw [hT] at hown2 ⊢; clear hT; have pb2 := PB1.out.grown hgr2 (PB1.out.ne_own own1 (by decide)); have mb2 := MB1.out.grown hgr2 (MB1.out.ne_own own1 (by decide)); have B2 := Lib.hid (below_grown B1.out hgr2 own1 (Nat.le_refl _) (by omega)); have J2 := Lib.hid hgr2; have O2 := Lib.hid hown2; have p0 := pb2.cell 0; have p1 := pb2.cell 1; have m0 := mb2.cell 0; have PB2 := Lib.hid pb2; have MB2 := Lib.hid mb2; clear pb2 mb2 hgr2 hown2; simp at p0 p1 m0)
        go_ret2
        refine ⟨.inr ⟨fun h => ?_, rfl⟩, B2.out⟩
        have h1 := catN_mono D (show k + 1 ≤ m by omega)
        have h2 := h.2
        have h3 := HTn.out
        omega
      have g1 : decide ((64 : Int) < (T : Int)) = false := decide_eq_false (by omega)
      go_wp2_with (at_builtin; refine wpList_app rfl (.tmp 23) (.tmp 24) 25 rfl w.heap.size 36 i0 _ 3 24 Try.underlying25 hi0 hz0 hz1 hz2 rfl (by omega) X cx (catN D k) (catC D k) rfl own1 Y q cy (cellsR 3 (tv (D k).k (D k).l) q) rfl Hlen.out (HY.out.news (by omega)) Hone.out (by unfold maxLen; omega) (by omega) (by omega) ?_; intro X2 cx2 w2 hown2 hgr2; rw [hT] at hown2 ⊢; clear hT; have pb2 := PB1.out.grown hgr2 (PB1.out.ne_own own1 (by decide)); have mb2 := MB1.out.grown hgr2 (MB1.out.ne_own own1 (by decide)); have B2 := Lib.hid (below_grown B1.out hgr2 own1 (Nat.le_refl _) (by omega)); have J2 := Lib.hid hgr2; have O2 := Lib.hid hown2; have p0 := pb2.cell 0; have p1 := pb2.cell 1; have m0 := mb2.cell 0; have PB2 := Lib.hid pb2; have MB2 := Lib.hid mb2; clear pb2 mb2 hgr2 hown2; simp at p0 p1 m0)
      have I2 := Lib.hid (hIw.out.below B2.out)
      have hn200 : ((D k).n : Int) ≤ 200 := by have := pcode_many Hpc.out; omega
      go_loop [36] (fun i => ∃ j : Nat, j ≤ (D k).n ∧ i = .int .i64 j ∧ ∀ q, q < j → 0 ≤ (D k).l q ∧ (D k).l q < (n1 : Int)) (fun i => (D k).n - (intOf i).toNat)
      case atStart => exact ⟨0, Nat.zero_le _, rfl, fun q hq => absurd hq (by omega)⟩
      case round =>
        obtain ⟨j, hj, rfl, hin⟩ := hrel
        have Hin := Lib.hid hin
        have hj0 : (0 : Int) ≤ (j : Int) := by omega
        clear hin
        by_cases hjn : j < (D k).n
        · obtain ⟨g2, o2, hA, hg2, hc2⟩ := I2.out (by omega)
          have x0 := hc2 j hjn
          have HA := Lib.hid hA
          have hj1 : (j : Int) < ((D k).n : Int) := by omega
          clear hc2 hA
          rw [HA.out] at p1 ⊢
          by_cases hneg : (D k).l j < 0
          · have g2' : decide ((D k).l j < 0) = true := decide_eq_true hneg
            have Hneg := Lib.hid hneg
            clear hneg
            go_wp2
            go_ret2
            exact ⟨.inr ⟨fun h => by have := ((h.1 k hkm).2 j hjn).1; have := Hneg.out; omega, rfl⟩, B2.out⟩
          have g2' : decide ((D k).l j < 0) = false := decide_eq_false hneg
          by_cases hbig : (n1 : Int) ≤ (D k).l j
          · have g3 : decide ((n1 : Int) ≤ (D k).l j) = true := decide_eq_true hbig
            have Hbig := Lib.hid hbig
            clear hbig hneg
            go_wp2
            go_ret2
            exact ⟨.inr ⟨fun h => by have := ((h.1 k hkm).2 j hjn).2; have := Hbig.out; omega, rfl⟩, B2.out⟩
          have g3 : decide ((n1 : Int) ≤ (D k).l j) = false := decide_eq_false hbig
          have Hok := Lib.hid (show 0 ≤ (D k).l j ∧ (D k).l j < (n1 : Int) by omega)
          clear hbig hneg
          go_wp2
          go_round
          case rel =>
            refine ⟨j + 1, by omega, by go_num, fun q hq => ?_⟩
            rcases Nat.lt_or_ge q j with h | h
            · exact Hin.out q h
            · obtain rfl : q = j := by omega
              exact Hok.out
          case measure => simp [intOf]; omega
        · have hjn' : j = (D k).n := by omega
          subst hjn'
          go_wp2
          go_roundw
          case rel =>
            refine ⟨k + 1, by omega, by go_num, fun i hi => ?_, by rw [HTn.out]; omega, ⟨X2, cx2, by rw [HTn.out], ?_⟩, MB2.out, B2.out⟩
            · rcases Nat.lt_or_ge i k with h | h
              · exact Hall.out i h
              · obtain rfl : i = k := by omega
                exact ⟨Hpc.out, Hin.out⟩
            · rw [HTn.out]
              have ho := O2.out
              rw [catC, ← Hqc.out]
              exact ho
          case measure => simp [intOf]; omega
    · obtain rfl : k = m := by omega
      go_wp2
      go_ret2
      exact ⟨.inl ⟨⟨Hall.out, h64⟩, X, cx, rfl, Hown.out⟩, Hbel.out⟩
end Go.Proofs.Ytkclkillphafkaa
