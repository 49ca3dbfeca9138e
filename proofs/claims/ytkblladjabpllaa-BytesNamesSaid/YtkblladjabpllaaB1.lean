/- The walks of bytes.num and the reference's Bytes. -/
import Derived.Test.YtkblladjabpllaaProg
import Derived.Test.YtkblladjabpllaaBits
import Derived.Test.YtkblladjabpllaaOwn
import Derived.Deep.AppendLies
namespace Go.Proofs.Ytkblladjabpllaa
open Go.RowKit
set_option linter.unusedVariables false

theorem u8_info : (Try.prog.info? 5).map (fun i => (i.zero, i.size, i.bytes)) = some (some (.int .u8 0), 1, 1) := by kernel_rfl
/-- Bytes as cells. -/
def bv (x : Nat) : Value := .int .u8 (x : Int)
/-- A slice of the call's own that holds these bytes. -/
def Bytes (w : World) (base : Nat) (v : Value) (l : List Nat) : Prop := w.ownsRow base 5 1 v l.length (l.map bv)

set_option maxRecDepth 100000 in
set_option maxHeartbeats 1000000 in
theorem num_any (n : Int) (w : World) (hn : InB n) : Calls Try.prog 20 #[.int .i64 n] w fun e w' => (∃ A c, e = .returned (.slice A (enc 6 (rank n)).length c) ∧ Bytes w' w.heap.size (.slice A (enc 6 (rank n)).length c) (enc 6 (rank n))) ∧ Below w.heap.size w w' := by
  obtain ⟨i0, hi0, hz0, hz1, hz2⟩ := info_parts u8_info
  have hb := rank_bits hn
  have hr := rank_bd hn
  have hn0 := hn.1
  have hn1 := hn.2
  have p6 : (128 : Nat) ^ 6 = 4398046511104 := by decide
  have hlt : rank n < 128 ^ 6 := by omega
  generalize rank n = R at *
  have Hlt := Lib.hid hlt
  clear p6 hlt
  go_enter Try.func20, Try.ntmps20
  go_wp2
  go_loopw [3, 4] (fun r v wr => ∃ (k q : Nat) (bs : List Nat), r = .int .u64 q ∧ q ≤ R ∧ bs.length = k ∧ k ≤ 5 ∧ q < 128 ^ (6 - k) ∧ Hid (enc 6 R = bs ++ enc (6 - k) q) ∧ (∃ A c, v = .slice A k c ∧ wr.ownsRow w.heap.size 5 1 (.slice A k c) k (bs.map bv)) ∧ Below w.heap.size w wr) (fun r v wr => (intOf r).toNat)
  case atStart => exact ⟨0, R, [], rfl, Nat.le_refl _, rfl, by omega, Hlt.out, rfl, ⟨none, 0, rfl, by simp [World.ownsRow]⟩, Below.refl _ _⟩
  case round =>
    obtain ⟨k, q, bs, rfl, hqR, hbs, hk5, hq, henc, ⟨A, cc, rfl, hown⟩, hbel⟩ := hrel
    have Hbs := Lib.hid hbs
    have Hq := Lib.hid hq
    have z2 := hbel.size
    clear hbs hq
    by_cases hq128 : q < 128
    · have he : enc (6 - k) q = [q] := by rw [show 6 - k = 5 - k + 1 from by omega]; exact enc_small hq128
      rw [he] at henc
      have Henc := Lib.hid henc.out
      clear he henc
      go_wp2_with (at_builtin; refine wpList_append_lies _ rfl (.tmp 22) (.tmp 25) _ rfl w.heap.size 5 i0 _ 1 1 Try.underlying22 hi0 hz0 hz1 hz2 rfl (by omega) (.slice A k cc) k (bs.map bv) rfl (hown.alloc _) ⟨wr.heap.size, 0, none⟩ 1 1 [.int .u8 (q : Int)] (by rfl) rfl (World.news_of_block (cs := #[.int .u8 (q : Int)]) (t := 5) (fr := (0, 0)) (heap_alloc_new wr _)) (by simp [Value.oneCell']) (by omega) (by unfold maxLen; omega) (by omega) (by simp; omega) (wr.heap.size + 1) (by simp) ?_; intro g cap w3 hown3 hgrow hat hlt)
      go_ret
      have hl : (enc 6 R).length = k + 1 := by rw [Henc.out, List.length_append, Hbs.out]; rfl
      rw [hl]
      refine ⟨⟨_, cap, rfl, ?_⟩, ?_⟩
      · unfold Bytes
        rw [hl, Henc.out, List.map_append]
        exact hown3
      · exact below_grown (v := .slice A k cc) (hbel.alloc z2 _) hgrow (hown.alloc _) (Nat.le_refl _) (by simp; omega)
    · have hor : bits .or .u8 ((q : Int) % 256) 128 = ((q % 128 + 128 : Nat) : Int) := by have := or_byte q; simpa using this
      have hk : k ≤ 4 := by
        rcases Nat.lt_or_ge k 5 with h | h
        · omega
        · have e5 : k = 5 := by omega
          have := Hq.out
          rw [e5] at this
          simp at this
          omega
      have he : enc (6 - k) q = (q % 128 + 128) :: enc (6 - (k + 1)) (q / 128) := by rw [show 6 - k = 6 - (k + 1) + 1 from by omega]; exact enc_great hq128
      have hq' : q / 128 < 128 ^ (6 - (k + 1)) := by
        have := Hq.out
        rw [show 6 - k = 6 - (k + 1) + 1 from by omega] at this
        exact pow_div this
      rw [he] at henc
      have Henc := Lib.hid henc.out
      have Hq' := Lib.hid hq'
      clear he henc hq'
      go_wp2_with (at_builtin; refine wpList_append_lies _ rfl (.tmp 14) (.tmp 18) _ rfl w.heap.size 5 i0 _ 1 1 Try.underlying22 hi0 hz0 hz1 hz2 rfl (by omega) (.slice A k cc) k (bs.map bv) rfl (hown.alloc _) ⟨wr.heap.size, 0, none⟩ 1 1 [.int .u8 ((q % 128 + 128 : Nat) : Int)] (by rfl) rfl (World.news_of_block (cs := #[.int .u8 ((q % 128 + 128 : Nat) : Int)]) (t := 5) (fr := (0, 0)) (heap_alloc_new wr _)) (by simp [Value.oneCell']) (by omega) (by unfold maxLen; omega) (by omega) (by simp; omega) (wr.heap.size + 1) (by simp) ?_; intro g cap w3 hown3 hgrow hat hlt)
      go_roundw
      case rel =>
        refine ⟨k + 1, q / 128, bs ++ [q % 128 + 128], by first | rfl | go_num, by omega, by rw [List.length_append, Hbs.out]; rfl, by omega, Hq'.out, by unfold Hid; rw [Henc.out, List.append_assoc]; rfl, ⟨_, cap, rfl, by rw [List.map_append]; exact hown3⟩, ?_⟩
        exact below_grown (v := .slice A k cc) (hbel.alloc z2 _) hgrow (hown.alloc _) (Nat.le_refl _) (by simp; omega)
      case measure => simp [intOf]; omega
end Go.Proofs.Ytkblladjabpllaa
