/- bits.Mul, slices.Repeat, Clone, Equal. -/
import Derived.Test.YtibeoeooajelgaaF2
import Derived.Test.YtibeoeooajelgaaCopyAt
import Derived.Test.YtibeoeooajelgaaEq
import Derived.Lib.Mul64
import Derived.Laws.Bits64b
namespace Go.Proofs.Ytibeoeooajelgaa
open Go.RowKit
set_option linter.unusedVariables false

theorem int_info : (Try.prog.info? 3).map (fun i => (i.zero, i.size, i.bytes)) = some (some (.int .i64 0), 1, 8) := by kernel_rfl
theorem col_info : (Try.prog.info? 23).map (fun i => (i.zero, i.size, i.bytes)) = some (some (.agg #[.int .u8 0, .int .u8 0, .int .u8 0, .int .u8 0]), 4, 4) := by kernel_rfl
theorem u8_info : (Try.prog.info? 5).map (fun i => (i.zero, i.size, i.bytes)) = some (some (.int .u8 0), 1, 1) := by kernel_rfl
namespace M64
theorem maskN (a : Nat) (ha : a < 18446744073709551616) : bits .and .u64 (a : Int) 4294967295 = ((a % 4294967296 : Nat) : Int) := by
  have h := bits_and_u64_nat a 4294967295 ha (by omega)
  have e : a &&& 4294967295 = a % 4294967296 := Nat.and_two_pow_sub_one_eq_mod a 32
  rw [e] at h
  exact h
theorem divN (a : Nat) : (a : Int) / 4294967296 = ((a / 4294967296 : Nat) : Int) := by omega
theorem mulN (a b : Nat) : (a : Int) * (b : Int) = ((a * b : Nat) : Int) := (Int.natCast_mul a b).symm
theorem addN (a b : Nat) : (a : Int) + (b : Int) = ((a + b : Nat) : Int) := (Int.natCast_add a b).symm
theorem wrapN (a : Nat) (ha : a < 18446744073709551616) : IntKind.u64.wrap (a : Int) = (a : Int) := by rw [IntKind.wrap_u64]; omega
theorem wrapM (a : Nat) : IntKind.u64.wrap (a : Int) = ((a % 18446744073709551616 : Nat) : Int) := by rw [IntKind.wrap_u64]; omega
end M64
set_option maxHeartbeats 1000000 in
theorem mul64_any (x y : Nat) (hx : x < 18446744073709551616) (hy : y < 18446744073709551616) (w : World) :
    Calls Try.prog 84 #[.int .u64 x, .int .u64 y] w fun e w' => e = .returned (.tuple #[.int .u64 ((x * y / 18446744073709551616 : Nat) : Int), .int .u64 ((x * y % 18446744073709551616 : Nat) : Int)]) ∧ w' = w := by
  obtain ⟨bd, bt, bw, hhi⟩ := Lib.mul64_hi x y hx hy
  have ba := Lib.half_mul_le (a := x / 4294967296) (b := y / 4294967296) (by omega) (by omega)
  have bb := Lib.half_mul_le (a := x / 4294967296) (b := y % 4294967296) (by omega) (by omega)
  have bc := Lib.half_mul_le (a := x % 4294967296) (b := y / 4294967296) (by omega) (by omega)
  have ba' : x / 4294967296 * (y / 4294967296) < 18446744073709551616 := by omega
  have bb' : x / 4294967296 * (y % 4294967296) < 18446744073709551616 := by omega
  have bc' : x % 4294967296 * (y / 4294967296) < 18446744073709551616 := by omega
  have bh1 : x / 4294967296 * (y / 4294967296) + (x / 4294967296 * (y % 4294967296) + x % 4294967296 * (y % 4294967296) / 4294967296) / 4294967296 < 18446744073709551616 := by omega
  have bh : x / 4294967296 * (y / 4294967296) + (x / 4294967296 * (y % 4294967296) + x % 4294967296 * (y % 4294967296) / 4294967296) / 4294967296 + ((x / 4294967296 * (y % 4294967296) + x % 4294967296 * (y % 4294967296) / 4294967296) % 4294967296 + x % 4294967296 * (y / 4294967296)) / 4294967296 < 18446744073709551616 := by omega
  go_enter Try.func84, Try.ntmps84
  go_wp2
  simp only [M64.maskN x hx, M64.maskN y hy, M64.divN, M64.mulN, M64.addN, M64.wrapN _ bd, M64.wrapN _ bb', M64.wrapN _ bt, M64.maskN _ bt, M64.wrapN _ bc', M64.wrapN _ bw, M64.wrapN _ ba', M64.wrapN _ bh1, M64.wrapN _ bh, M64.wrapM (x * y)]
  rw [hhi]
  go_ret2
  exact ⟨rfl, rfl⟩
theorem mul64_one (n : Nat) (hn : n ≤ 4096) (w : World) : Calls Try.prog 84 #[.int .u64 1, .int .u64 n] w fun e w' => e = .returned (.tuple #[.int .u64 0, .int .u64 n]) ∧ w' = w := by
  have h := mul64_any 1 n (by omega) (by omega) w
  have e1 : 1 * n / 18446744073709551616 = 0 := by omega
  have e2 : 1 * n % 18446744073709551616 = n := by omega
  rw [e1, e2] at h
  exact h
set_option maxHeartbeats 1000000 in
theorem mul_one (n : Nat) (hn : n ≤ 4096) (w : World) : Calls Try.prog 74 #[.int .u64 1, .int .u64 n] w fun e w' => e = .returned (.tuple #[.int .u64 0, .int .u64 n]) ∧ w = w' := by
  go_enter Try.func74, Try.ntmps74
  go_wp2_with (go_at_call 84; refine (mul64_one n hn _).mono ?_; rintro e w' ⟨rfl, rfl⟩)
  go_ret2
  exact ⟨rfl, rfl⟩
theorem one_made {z : Array Value} {n : Nat} (hz : ∀ u ∈ z.toList, u.oneCell' = true) (h0 : (default : Value).oneCell' = true) : ∀ u ∈ (madeCells z n).toList, u.oneCell' = true := by
  intro u hu
  unfold madeCells at hu
  simp only [Array.toList_map, List.mem_map] at hu
  obtain ⟨i, _, rfl⟩ := hu
  by_cases h : i % z.size < z.size
  · rw [getElem!_pos z _ h]
    exact hz _ (by simp)
  · rw [getElem!_neg z _ h]
    exact h0

set_option maxRecDepth 100000 in
set_option maxHeartbeats 4000000 in
theorem repInt_any (g : Nat) (F : Nat → Value) (n : Nat) (w : World) (hF1 : ∀ j, (F j).oneCell' = true) (hc : ∀ j, j < 1 → w.cell? ⟨g, j, none⟩ = some (F j)) (h1 : 1 ≤ n) (hn : n ≤ 4096) :
    Calls Try.prog 47 #[.slice (some ⟨g, 0, none⟩) 1 1, .int .i64 n] w fun e w' => (∃ X, e = .returned (.slice (some ⟨X, 0, none⟩) n n) ∧ w.heap.size ≤ X ∧ HasBlk w' X 3 (cellsR 1 (fun _ j => F j) n).toArray) ∧ Below w.heap.size w w' := by
  obtain ⟨i0, hi0, hz0, hz1, hz2⟩ := info_parts int_info
  have hmk : ∀ W : World, (Instr.makeSlice 27 (.int .i64 (n : Int)) (.int .i64 (n : Int))).run Try.prog W = .ok (.slice (some ⟨W.heap.size, 0, none⟩) n n) (W.alloc (.cells (madeCells (Value.int .i64 0).cells (n * i0.size)) 3)) := fun W => make_full Try.underlying27 hi0 hz0 n (by rw [hz2]; omega) (by omega) W
  have HZ1 := Lib.hid hz1
  rw [hz1] at hmk
  generalize hMC : madeCells (Value.int .i64 0).cells (n * 1) = MC at hmk
  have hMs : MC.toList.length = n * 1 := by rw [← hMC]; simp [size_madeCells]
  have gw1 : IntKind.u64.wrap (n : Int) = n := by rw [IntKind.wrap_u64]; omega
  have gw2 : IntKind.i64.wrap (n : Int) = n := IntWalk.i64_in _ (by omega)
  have gn : decide ((n : Int) < 0) = false := decide_eq_false (by omega)
  have gm : decide ((9223372036854775807 : Int) < (n : Int)) = false := decide_eq_false (by omega)
  have HF1 := Lib.hid hF1
  have Hc := Lib.hid hc
  have HM := Lib.hid (And.intro hMs hn)
  have HMo := Lib.hid (show ∀ u ∈ MC.toList, u.oneCell' = true by rw [← hMC]; exact one_made (by decide) rfl)
  clear hF1 hc hMC hMs hz1 hz2
  have hbn : HasBlk (w.alloc (.cells MC 3)) w.heap.size 3 MC.toList.toArray := by simpa using hasBlk_new w 3 MC
  have HB := Lib.hid hbn
  clear hbn
  have hg : g < w.heap.size := World.block_lt_of_cell? w _ (Hc.out 0 (by omega))
  have hls : ((List.range 1).map F).length = 1 * 1 := by simp
  have h1s : ∀ u ∈ (List.range 1).map F, u.oneCell' = true := fun u hu => by
    obtain ⟨j, _, rfl⟩ := List.mem_map.1 hu
    exact HF1.out j
  have hsrc : ∀ j v, ((List.range 1).map F)[j]? = some v → (w.alloc (.cells MC 3)).cell? ((⟨g, 0, none⟩ : Addr).add j) = some v := fun j v hj => by
    have hjs : j < 1 := by
      have := (List.getElem?_eq_some_iff.1 hj).1
      simpa using this
    have e : F j = v := by
      rw [List.getElem?_map, List.getElem?_range hjs] at hj
      simpa using hj
    rw [Addr.add_lit, Nat.zero_add]
    exact (((Below.refl w.heap.size w).alloc (Nat.le_refl _) _).cell (p := ⟨g, j, none⟩) hg).trans (by rw [Hc.out j hjs, e])
  have Hls := Lib.hid hls
  have H1s := Lib.hid h1s
  have Hsrc := Lib.hid hsrc
  clear hls h1s hsrc
  go_enter Try.func47, Try.ntmps47
  go_wp2_with (first | (go_at_call 74; refine (mul_one n (by omega) _).mono ?_; rintro e w' ⟨rfl, rfl⟩) | (refine wpList_copy_at rfl (.tmp 31) (.tmp 32) 27 27 rfl 3 i0 1 Try.underlying27 hi0 HZ1.out w.heap.size 0 n n rfl MC.toList 3 HB.out ⟨g, 0, none⟩ 1 1 rfl 1 (by have := HM.out.2; exact Nat.min_eq_left (by omega)) _ Hls.out Hsrc.out (by rw [HM.out.1]; have := HM.out.2; omega) H1s.out ?_; intro w1 hb1 hg1))
  have hbel : Below w.heap.size w w1 := ⟨hg1.os, hg1.tape, hg1.output, by have := hg1.size; simp at this; omega, fun k hk => (hg1.block k (by simp; omega) (fun e => by cases e; omega)).trans (Below.heap_alloc w _ k hk)⟩
  have hl2 : (MC.toList.take 0 ++ ((List.range 1).map F ++ MC.toList.drop (0 + 1 * 1))).length = n * 1 := by
    have := HM.out.1; have := HM.out.2; simp at *; omega
  have hall : AllF (MC.toList.take 0 ++ ((List.range 1).map F ++ MC.toList.drop (0 + 1 * 1))) 1 1 F := fun i hi j hj => by
    obtain rfl : i = 0 := by omega
    simp only [List.take_zero, List.nil_append, Nat.zero_mul, Nat.zero_add]
    rw [List.getElem?_append_left (by simp; omega), List.getElem?_map, List.getElem?_range hj]
    rfl
  have hone : ∀ u ∈ MC.toList.take 0 ++ ((List.range 1).map F ++ MC.toList.drop (0 + 1 * 1)), u.oneCell' = true := fun u hu => by
    simp only [List.mem_append] at hu
    rcases hu with hu | hu | hu
    · simp at hu
    · exact H1s.out u hu
    · exact HMo.out u (List.mem_of_mem_drop hu)
  generalize MC.toList.take 0 ++ ((List.range 1).map F ++ MC.toList.drop (0 + 1 * 1)) = cur1 at *
  have HI := Lib.hid (And.intro hb1 (And.intro hl2 (And.intro hall (And.intro hone hbel))))
  clear hb1 hg1 hbel hl2 hall hone HB hmk Hls H1s Hsrc HMo HM
  go_wp2
  go_loopw [8] (fun i wr => ∃ k : Nat, 1 ≤ k ∧ k ≤ n ∧ i = .int .i64 k ∧ ∃ cur : List Value, HasBlk wr w.heap.size 3 cur.toArray ∧ cur.length = n * 1 ∧ AllF cur 1 k F ∧ (∀ u ∈ cur, u.oneCell' = true) ∧ Below w.heap.size w wr) (fun i wr => n - (intOf i).toNat)
  case atStart => exact ⟨1, Nat.le_refl _, by omega, rfl, cur1, HI.out⟩
  case round =>
    obtain ⟨k, hk1, hk, rfl, cur, hb, hl, hall, hone, hbel⟩ := hrel
    by_cases hkn : k < n
    · obtain ⟨m, hm⟩ : ∃ m, Nat.min k (n - k) = m := ⟨_, rfl⟩
      have hm1 : m ≤ k := by rw [← hm]; exact Nat.min_le_left _ _
      have hm2 : m ≤ n - k := by rw [← hm]; exact Nat.min_le_right _ _
      have hm3 : 0 < m := by rw [← hm]; exact Nat.lt_min.2 ⟨by omega, by omega⟩
      have hmul : m * 1 ≤ cur.length := by rw [hl]; exact Nat.mul_le_mul_right _ (by omega)
      have hcs : (cur.take (m * 1)).length = m * 1 := by rw [List.length_take]; omega
      have hfit : k * 1 + m * 1 ≤ cur.length := by rw [hl, ← Nat.add_mul]; exact Nat.mul_le_mul_right _ (by omega)
      have HB := Lib.hid hb
      have HA := Lib.hid (hall.copy hcs (fun q hq => by rw [List.getElem?_take, if_pos hq]) hm1 hfit)
      have HS := Lib.hid (show ∀ j v, (cur.take (m * 1))[j]? = some v → wr.drew.cell? ((⟨w.heap.size, 0, none⟩ : Addr).add j) = some v from fun j v hj => by
        have hjl : j < m * 1 := by have := (List.getElem?_eq_some_iff.1 hj).1; omega
        rw [List.getElem?_take, if_pos hjl] at hj
        rw [Addr.add_lit, Nat.zero_add]
        exact (hb.cell j).trans (by rw [List.getElem?_toArray]; exact hj))
      have HO := Lib.hid (show ∀ u ∈ cur.take (m * 1), u.oneCell' = true from fun u hu => hone u (List.mem_of_mem_take hu))
      have HO2 := Lib.hid (show ∀ u ∈ cur.take (k * 1) ++ (cur.take (m * 1) ++ cur.drop (k * 1 + m * 1)), u.oneCell' = true from fun u hu => by
        simp only [List.mem_append] at hu
        rcases hu with hu | hu | hu
        · exact hone u (List.mem_of_mem_take hu)
        · exact hone u (List.mem_of_mem_take hu)
        · exact hone u (List.mem_of_mem_drop hu))
      have HL := Lib.hid (show (cur.take (k * 1) ++ (cur.take (m * 1) ++ cur.drop (k * 1 + m * 1))).length = n * 1 by simp; omega)
      have Hcs := Lib.hid (And.intro hcs hfit)
      have Hbel := Lib.hid hbel
      have hi1 : (k : Int) < (n : Int) := by omega
      have hi2 : (k : Int) ≤ (n : Int) := by omega
      have hi3 : k ≤ n := hk
      have hj0 : (0 : Int) ≤ (k : Int) := by omega
      have hi4 : ¬ n = k := by omega
      have hi5 : ¬ k = n := by omega
      have zb := hb.lt
      have gw3 : IntKind.i64.wrap ((k : Int) + (m : Int)) = (k : Int) + (m : Int) := IntWalk.i64_in _ (by omega)
      have Hm := Lib.hid hm
      have Hb3 := Lib.hid (And.intro hm3 (And.intro hm1 hm2))
      clear hb hl hall hone hbel hmul hcs hfit hm hm1 hm2 hm3
      go_wp2_with fail
      go_region_held3 (fun _ => True) (trivial)
        ((refine step_copy_at rfl (.tmp 41) (.tmp 44) 27 27 rfl 3 i0 1 Try.underlying27 hi0 HZ1.out w.heap.size (k * 1) (n - k) (n - k) (by simp [go_sem]) cur 3 HB.out.drew ⟨w.heap.size, 0, none⟩ k n (by simp [go_sem]) m Hm.out (cur.take (m * 1)) Hcs.out.1 HS.out Hcs.out.2 HO.out ?_; intro w2 hb2 hg2))
      go_wp2
      have hb3 : Below w.heap.size w w2 := ⟨hg2.os.trans Hbel.out.os, hg2.tape.trans Hbel.out.tape, hg2.output.trans Hbel.out.output, Nat.le_trans Hbel.out.size hg2.size, fun q hq => (hg2.block q (Nat.lt_of_lt_of_le hq Hbel.out.size) (fun e => by cases e; omega)).trans (Hbel.out.block q hq)⟩
      have HB2 := Lib.hid hb2
      have Hb4 := Lib.hid hb3
      clear hb2 hg2 hb3
      go_roundw
      case rel =>
        obtain ⟨q1, q2, q3⟩ := Hb3.out
        exact ⟨k + m, by omega, by omega, by go_num, _, HB2.out, HL.out, HA.out, HO2.out, Hb4.out⟩
      case measure =>
        obtain ⟨q1, q2, q3⟩ := Hb3.out
        simp [intOf]; omega
    · obtain rfl : n = k := by omega
      have HB := Lib.hid hb
      have e := hall.cells hl (by omega)
      have He := Lib.hid e
      have Hbel := Lib.hid hbel
      clear hb hl hall hone hbel e
      go_wp2
      go_ret
      exact ⟨⟨w.heap.size, rfl, Nat.le_refl _, by rw [← He.out]; exact HB.out⟩, Hbel.out⟩

set_option maxRecDepth 100000 in
set_option maxHeartbeats 4000000 in
theorem repCol_any (g : Nat) (F : Nat → Value) (n : Nat) (w : World) (hF1 : ∀ j, (F j).oneCell' = true) (hc : ∀ j, j < 4 → w.cell? ⟨g, j, none⟩ = some (F j)) (h1 : 1 ≤ n) (hn : n ≤ 4096) :
    Calls Try.prog 48 #[.slice (some ⟨g, 0, none⟩) 1 1, .int .i64 n] w fun e w' => (∃ X, e = .returned (.slice (some ⟨X, 0, none⟩) n n) ∧ w.heap.size ≤ X ∧ HasBlk w' X 23 (cellsR 4 (fun _ j => F j) n).toArray) ∧ Below w.heap.size w w' := by
  obtain ⟨i0, hi0, hz0, hz1, hz2⟩ := info_parts col_info
  have hmk : ∀ W : World, (Instr.makeSlice 26 (.int .i64 (n : Int)) (.int .i64 (n : Int))).run Try.prog W = .ok (.slice (some ⟨W.heap.size, 0, none⟩) n n) (W.alloc (.cells (madeCells (Value.agg #[.int .u8 0, .int .u8 0, .int .u8 0, .int .u8 0]).cells (n * i0.size)) 23)) := fun W => make_full Try.underlying26 hi0 hz0 n (by rw [hz2]; omega) (by omega) W
  have HZ1 := Lib.hid hz1
  rw [hz1] at hmk
  generalize hMC : madeCells (Value.agg #[.int .u8 0, .int .u8 0, .int .u8 0, .int .u8 0]).cells (n * 4) = MC at hmk
  have hMs : MC.toList.length = n * 4 := by rw [← hMC]; simp [size_madeCells]
  have gw1 : IntKind.u64.wrap (n : Int) = n := by rw [IntKind.wrap_u64]; omega
  have gw2 : IntKind.i64.wrap (n : Int) = n := IntWalk.i64_in _ (by omega)
  have gn : decide ((n : Int) < 0) = false := decide_eq_false (by omega)
  have gm : decide ((9223372036854775807 : Int) < (n : Int)) = false := decide_eq_false (by omega)
  have HF1 := Lib.hid hF1
  have Hc := Lib.hid hc
  have HM := Lib.hid (And.intro hMs hn)
  have HMo := Lib.hid (show ∀ u ∈ MC.toList, u.oneCell' = true by rw [← hMC]; exact one_made (by decide) rfl)
  clear hF1 hc hMC hMs hz1 hz2
  have hbn : HasBlk (w.alloc (.cells MC 23)) w.heap.size 23 MC.toList.toArray := by simpa using hasBlk_new w 23 MC
  have HB := Lib.hid hbn
  clear hbn
  have hg : g < w.heap.size := World.block_lt_of_cell? w _ (Hc.out 0 (by omega))
  have hls : ((List.range 4).map F).length = 1 * 4 := by simp
  have h1s : ∀ u ∈ (List.range 4).map F, u.oneCell' = true := fun u hu => by
    obtain ⟨j, _, rfl⟩ := List.mem_map.1 hu
    exact HF1.out j
  have hsrc : ∀ j v, ((List.range 4).map F)[j]? = some v → (w.alloc (.cells MC 23)).cell? ((⟨g, 0, none⟩ : Addr).add j) = some v := fun j v hj => by
    have hjs : j < 4 := by
      have := (List.getElem?_eq_some_iff.1 hj).1
      simpa using this
    have e : F j = v := by
      rw [List.getElem?_map, List.getElem?_range hjs] at hj
      simpa using hj
    rw [Addr.add_lit, Nat.zero_add]
    exact (((Below.refl w.heap.size w).alloc (Nat.le_refl _) _).cell (p := ⟨g, j, none⟩) hg).trans (by rw [Hc.out j hjs, e])
  have Hls := Lib.hid hls
  have H1s := Lib.hid h1s
  have Hsrc := Lib.hid hsrc
  clear hls h1s hsrc
  go_enter Try.func48, Try.ntmps48
  go_wp2_with (first | (go_at_call 74; refine (mul_one n (by omega) _).mono ?_; rintro e w' ⟨rfl, rfl⟩) | (refine wpList_copy_at rfl (.tmp 31) (.tmp 32) 26 26 rfl 23 i0 4 Try.underlying26 hi0 HZ1.out w.heap.size 0 n n rfl MC.toList 23 HB.out ⟨g, 0, none⟩ 1 1 rfl 1 (by have := HM.out.2; exact Nat.min_eq_left (by omega)) _ Hls.out Hsrc.out (by rw [HM.out.1]; have := HM.out.2; omega) H1s.out ?_; intro w1 hb1 hg1))
  have hbel : Below w.heap.size w w1 := ⟨hg1.os, hg1.tape, hg1.output, by have := hg1.size; simp at this; omega, fun k hk => (hg1.block k (by simp; omega) (fun e => by cases e; omega)).trans (Below.heap_alloc w _ k hk)⟩
  have hl2 : (MC.toList.take 0 ++ ((List.range 4).map F ++ MC.toList.drop (0 + 1 * 4))).length = n * 4 := by
    have := HM.out.1; have := HM.out.2; simp at *; omega
  have hall : AllF (MC.toList.take 0 ++ ((List.range 4).map F ++ MC.toList.drop (0 + 1 * 4))) 4 1 F := fun i hi j hj => by
    obtain rfl : i = 0 := by omega
    simp only [List.take_zero, List.nil_append, Nat.zero_mul, Nat.zero_add]
    rw [List.getElem?_append_left (by simp; omega), List.getElem?_map, List.getElem?_range hj]
    rfl
  have hone : ∀ u ∈ MC.toList.take 0 ++ ((List.range 4).map F ++ MC.toList.drop (0 + 1 * 4)), u.oneCell' = true := fun u hu => by
    simp only [List.mem_append] at hu
    rcases hu with hu | hu | hu
    · simp at hu
    · exact H1s.out u hu
    · exact HMo.out u (List.mem_of_mem_drop hu)
  generalize MC.toList.take 0 ++ ((List.range 4).map F ++ MC.toList.drop (0 + 1 * 4)) = cur1 at *
  have HI := Lib.hid (And.intro hb1 (And.intro hl2 (And.intro hall (And.intro hone hbel))))
  clear hb1 hg1 hbel hl2 hall hone HB hmk Hls H1s Hsrc HMo HM
  go_wp2
  go_loopw [8] (fun i wr => ∃ k : Nat, 1 ≤ k ∧ k ≤ n ∧ i = .int .i64 k ∧ ∃ cur : List Value, HasBlk wr w.heap.size 23 cur.toArray ∧ cur.length = n * 4 ∧ AllF cur 4 k F ∧ (∀ u ∈ cur, u.oneCell' = true) ∧ Below w.heap.size w wr) (fun i wr => n - (intOf i).toNat)
  case atStart => exact ⟨1, Nat.le_refl _, by omega, rfl, cur1, HI.out⟩
  case round =>
    obtain ⟨k, hk1, hk, rfl, cur, hb, hl, hall, hone, hbel⟩ := hrel
    by_cases hkn : k < n
    · obtain ⟨m, hm⟩ : ∃ m, Nat.min k (n - k) = m := ⟨_, rfl⟩
      have hm1 : m ≤ k := by rw [← hm]; exact Nat.min_le_left _ _
      have hm2 : m ≤ n - k := by rw [← hm]; exact Nat.min_le_right _ _
      have hm3 : 0 < m := by rw [← hm]; exact Nat.lt_min.2 ⟨by omega, by omega⟩
      have hmul : m * 4 ≤ cur.length := by rw [hl]; exact Nat.mul_le_mul_right _ (by omega)
      have hcs : (cur.take (m * 4)).length = m * 4 := by rw [List.length_take]; omega
      have hfit : k * 4 + m * 4 ≤ cur.length := by rw [hl, ← Nat.add_mul]; exact Nat.mul_le_mul_right _ (by omega)
      have HB := Lib.hid hb
      have HA := Lib.hid (hall.copy hcs (fun q hq => by rw [List.getElem?_take, if_pos hq]) hm1 hfit)
      have HS := Lib.hid (show ∀ j v, (cur.take (m * 4))[j]? = some v → wr.drew.cell? ((⟨w.heap.size, 0, none⟩ : Addr).add j) = some v from fun j v hj => by
        have hjl : j < m * 4 := by have := (List.getElem?_eq_some_iff.1 hj).1; omega
        rw [List.getElem?_take, if_pos hjl] at hj
        rw [Addr.add_lit, Nat.zero_add]
        exact (hb.cell j).trans (by rw [List.getElem?_toArray]; exact hj))
      have HO := Lib.hid (show ∀ u ∈ cur.take (m * 4), u.oneCell' = true from fun u hu => hone u (List.mem_of_mem_take hu))
      have HO2 := Lib.hid (show ∀ u ∈ cur.take (k * 4) ++ (cur.take (m * 4) ++ cur.drop (k * 4 + m * 4)), u.oneCell' = true from fun u hu => by
        simp only [List.mem_append] at hu
        rcases hu with hu | hu | hu
        · exact hone u (List.mem_of_mem_take hu)
        · exact hone u (List.mem_of_mem_take hu)
        · exact hone u (List.mem_of_mem_drop hu))
      have HL := Lib.hid (show (cur.take (k * 4) ++ (cur.take (m * 4) ++ cur.drop (k * 4 + m * 4))).length = n * 4 by simp; omega)
      have Hcs := Lib.hid (And.intro hcs hfit)
      have Hbel := Lib.hid hbel
      have hi1 : (k : Int) < (n : Int) := by omega
      have hi2 : (k : Int) ≤ (n : Int) := by omega
      have hi3 : k ≤ n := hk
      have hj0 : (0 : Int) ≤ (k : Int) := by omega
      have hi4 : ¬ n = k := by omega
      have hi5 : ¬ k = n := by omega
      have zb := hb.lt
      have gw3 : IntKind.i64.wrap ((k : Int) + (m : Int)) = (k : Int) + (m : Int) := IntWalk.i64_in _ (by omega)
      have Hm := Lib.hid hm
      have Hb3 := Lib.hid (And.intro hm3 (And.intro hm1 hm2))
      clear hb hl hall hone hbel hmul hcs hfit hm hm1 hm2 hm3
      go_wp2_with fail
      go_region_held3 (fun _ => True) (trivial)
        ((refine step_copy_at rfl (.tmp 41) (.tmp 44) 26 26 rfl 23 i0 4 Try.underlying26 hi0 HZ1.out w.heap.size (k * 4) (n - k) (n - k) (by simp [go_sem]) cur 23 HB.out.drew ⟨w.heap.size, 0, none⟩ k n (by simp [go_sem]) m Hm.out (cur.take (m * 4)) Hcs.out.1 HS.out Hcs.out.2 HO.out ?_; intro w2 hb2 hg2))
      go_wp2
      have hb3 : Below w.heap.size w w2 := ⟨hg2.os.trans Hbel.out.os, hg2.tape.trans Hbel.out.tape, hg2.output.trans Hbel.out.output, Nat.le_trans Hbel.out.size hg2.size, fun q hq => (hg2.block q (Nat.lt_of_lt_of_le hq Hbel.out.size) (fun e => by cases e; omega)).trans (Hbel.out.block q hq)⟩
      have HB2 := Lib.hid hb2
      have Hb4 := Lib.hid hb3
      clear hb2 hg2 hb3
      go_roundw
      case rel =>
        obtain ⟨q1, q2, q3⟩ := Hb3.out
        exact ⟨k + m, by omega, by omega, by go_num, _, HB2.out, HL.out, HA.out, HO2.out, Hb4.out⟩
      case measure =>
        obtain ⟨q1, q2, q3⟩ := Hb3.out
        simp [intOf]; omega
    · obtain rfl : n = k := by omega
      have HB := Lib.hid hb
      have e := hall.cells hl (by omega)
      have He := Lib.hid e
      have Hbel := Lib.hid hbel
      clear hb hl hall hone hbel e
      go_wp2
      go_ret
      exact ⟨⟨w.heap.size, rfl, Nat.le_refl _, by rw [← He.out]; exact HB.out⟩, Hbel.out⟩

set_option maxRecDepth 100000 in
set_option maxHeartbeats 1000000 in
theorem cloneInt (A : Option Addr) (n c : Nat) (F : Nat → Nat → Value) (w : World) (hA : Row w A n 1 F) (h1 : ∀ i j, (F i j).oneCell' = true) (hn : (n : Int) ≤ 1000000) :
    Calls Try.prog 49 #[.slice A n c] w fun e w' => OwnR 3 1 n F w.heap.size e w' ∧ Below w.heap.size w w' := by
  have hnil := fun W => Lib.run_eql_slice_nil (P := Try.prog) W 27 3 A n c 0 0 Try.underlying27
  cases A with
  | none =>
    have hn0 : n = 0 := by
      rcases Nat.eq_zero_or_pos n with h | h
      · exact h
      · obtain ⟨g, off, e, _⟩ := hA h
        cases e
    subst hn0
    clear hA
    simp only [Option.isNone_none] at hnil
    go_enter Try.func49, Try.ntmps49
    go_wp2
    go_ret
    exact ⟨⟨none, 0, rfl, own_nil _ _ _ _⟩, Below.refl _ _⟩
  | some ad =>
    simp only [Option.isNone_some] at hnil
    have HA := Lib.hid hA
    have H1 := Lib.hid (cellsR_one (s := 1) h1 n)
    have HL := Lib.hid (cellsR_len 1 F n)
    obtain ⟨i0, hi0, hz0, hz1, hz2⟩ := info_parts int_info
    have hlit : (w.alloc (.cells #[] 3)).ownsRow w.heap.size 3 1 (.slice (some ⟨w.heap.size, 0, none⟩) 0 0) 0 [] := World.ownsRow_lit w #[] 0 (Nat.le_refl _) (Nat.zero_le _) rfl
    clear hA h1
    go_enter Try.func49, Try.ntmps49
    go_wp2_with (at_builtin; refine wpList_app rfl (.tmp 5) (.tmp 6) 27 rfl w.heap.size 3 i0 _ 1 8 Try.underlying27 hi0 hz0 hz1 hz2 rfl (by omega) (some ⟨w.heap.size, 0, none⟩) 0 0 [] rfl hlit (some ad) n c (cellsR 1 F n) rfl HL.out ((Row.below HA.out (by repeat' (first | exact Below.refl _ _ | assumption | apply Below.drew | refine Below.setCell ?_ (by first | omega | (simp; done) | (simp; omega)) _ | refine Below.alloc ?_ (by first | omega | (simp; done) | (simp; omega)) _))).news (by omega)) H1.out (by unfold maxLen; omega) (by omega) (by simp) ?_; intro A1 c1 w1 hown1 hgr1; simp only [Nat.zero_add, List.nil_append] at hown1 ⊢)
    have bel := below_grown (a := w) (B := w.heap.size) (by repeat' (first | exact Below.refl _ _ | assumption | apply Below.drew | refine Below.setCell ?_ (by first | omega | (simp; done) | (simp; omega)) _ | refine Below.alloc ?_ (by first | omega | (simp; done) | (simp; omega)) _)) hgr1 hlit (Nat.le_refl _) (by simp)
    have Hown := Lib.hid hown1
    clear hown1 hgr1 hlit
    go_wp2
    go_ret
    exact ⟨⟨A1, c1, rfl, Hown.out⟩, bel⟩

set_option maxRecDepth 100000 in
set_option maxHeartbeats 1000000 in
theorem cloneCol (A : Option Addr) (n c : Nat) (F : Nat → Nat → Value) (w : World) (hA : Row w A n 4 F) (h1 : ∀ i j, (F i j).oneCell' = true) (hn : (n : Int) ≤ 1000000) :
    Calls Try.prog 77 #[.slice A n c] w fun e w' => OwnR 23 4 n F w.heap.size e w' ∧ Below w.heap.size w w' := by
  have hnil := fun W => Lib.run_eql_slice_nil (P := Try.prog) W 26 23 A n c 0 0 Try.underlying26
  cases A with
  | none =>
    have hn0 : n = 0 := by
      rcases Nat.eq_zero_or_pos n with h | h
      · exact h
      · obtain ⟨g, off, e, _⟩ := hA h
        cases e
    subst hn0
    clear hA
    simp only [Option.isNone_none] at hnil
    go_enter Try.func77, Try.ntmps77
    go_wp2
    go_ret
    exact ⟨⟨none, 0, rfl, own_nil _ _ _ _⟩, Below.refl _ _⟩
  | some ad =>
    simp only [Option.isNone_some] at hnil
    have HA := Lib.hid hA
    have H1 := Lib.hid (cellsR_one (s := 4) h1 n)
    have HL := Lib.hid (cellsR_len 4 F n)
    obtain ⟨i0, hi0, hz0, hz1, hz2⟩ := info_parts col_info
    have hlit : (w.alloc (.cells #[] 23)).ownsRow w.heap.size 23 4 (.slice (some ⟨w.heap.size, 0, none⟩) 0 0) 0 [] := World.ownsRow_lit w #[] 0 (Nat.le_refl _) (Nat.zero_le _) rfl
    clear hA h1
    go_enter Try.func77, Try.ntmps77
    go_wp2_with (at_builtin; refine wpList_app rfl (.tmp 5) (.tmp 6) 26 rfl w.heap.size 23 i0 _ 4 4 Try.underlying26 hi0 hz0 hz1 hz2 rfl (by omega) (some ⟨w.heap.size, 0, none⟩) 0 0 [] rfl hlit (some ad) n c (cellsR 4 F n) rfl HL.out ((Row.below HA.out (by repeat' (first | exact Below.refl _ _ | assumption | apply Below.drew | refine Below.setCell ?_ (by first | omega | (simp; done) | (simp; omega)) _ | refine Below.alloc ?_ (by first | omega | (simp; done) | (simp; omega)) _))).news (by omega)) H1.out (by unfold maxLen; omega) (by omega) (by simp) ?_; intro A1 c1 w1 hown1 hgr1; simp only [Nat.zero_add, List.nil_append] at hown1 ⊢)
    have bel := below_grown (a := w) (B := w.heap.size) (by repeat' (first | exact Below.refl _ _ | assumption | apply Below.drew | refine Below.setCell ?_ (by first | omega | (simp; done) | (simp; omega)) _ | refine Below.alloc ?_ (by first | omega | (simp; done) | (simp; omega)) _)) hgr1 hlit (Nat.le_refl _) (by simp)
    have Hown := Lib.hid hown1
    clear hown1 hgr1 hlit
    go_wp2
    go_ret
    exact ⟨⟨A1, c1, rfl, Hown.out⟩, bel⟩
end Go.Proofs.Ytibeoeooajelgaa
