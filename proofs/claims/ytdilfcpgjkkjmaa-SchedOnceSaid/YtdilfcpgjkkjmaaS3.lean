/- sched: begin. -/
import Derived.Test.YtdilfcpgjkkjmaaS1
import Derived.Test.YtdilfcpgjkkjmaaCb
import Derived.Maps.RangeWalk
namespace Go.Proofs.Ytdilfcpgjkkjmaa
open Go.RowKit
set_option linter.unusedVariables false
theorem grown_set (W : World) (g i : Nat) (v : Value) : W.grownBy (W.setCell ⟨g, i, none⟩ v) (some g) :=
  ⟨rfl, rfl, rfl, by simp, fun k hk hne => Below.heap_setCell W _ v k (fun e => hne (by rw [e]))⟩
theorem grown_below {W W' : World} (h : Below W.heap.size W W') (g : Nat) : W.grownBy W' (some g) := (grown_of_below h).but _
theorem grown_Below {W W' : World} {g B : Nat} (h : W.grownBy W' (some g)) (hB : B ≤ g) (hs : B ≤ W.heap.size) : Below B W W' := (Below.refl B W).grown h hs (fun k hk => by cases hk; exact hB)
theorem over_j (p : SP) (s : SD) (j : Nat) {b : Bool} (h : (j == s.np) = b) (w : World) : Calls Try.prog 32 #[.agg #[.slice p.a s.np p.ka, .int .i64 (j : Int), .int .i64 0, .slice p.b s.nb p.kb, .int .i64 0]] w fun e w' => e = .returned (.bool b) ∧ Below w.heap.size w w' := by
  refine calls_congr (over_any p (s.begin j) w) (congrArg Value.bool ?_)
  rw [← h]
  show ((j : Int) == (s.np : Int)) = (j == s.np)
  rw [Bool.eq_iff_iff, beq_iff_eq, beq_iff_eq]
  omega
theorem tasks_j (p : SP) (s : SD) (j : Nat) (hj : j < s.np) (w : World) (hi : IS w p.a s.np s.ph) : Calls Try.prog 30 #[.agg #[.slice p.a s.np p.ka, .int .i64 (j : Int), .int .i64 0, .slice p.b s.nb p.kb, .int .i64 0]] w fun e w' => e = .returned (.int .i64 (s.ph j)) ∧ Below w.heap.size w w' := by
  refine calls_congr (tasks_any p (s.begin j) w hi (by show (0 : Int) ≤ (j : Int); omega) (by show (j : Int) ≤ (s.np : Int); omega)) (congrArg (Value.int .i64) ?_)
  rw [SD.tasks_at (show (s.begin j).p ≠ ((s.begin j).np : Int) from by show (j : Int) ≠ (s.np : Int); omega)]
  show s.ph ((j : Nat) : Int).toNat = s.ph j
  rw [Int.toNat_natCast]
/-- What begin does to a pool at block g. -/
def BeginR (g : Nat) (p : SP) (s : SD) (k : Nat) (w w' : World) : Prop := (∃ j, SkipTo s.ph s.np k j ∧ HasBlk w' g 63 #[.slice p.a s.np p.ka, .int .i64 (j : Int), .int .i64 0, .slice p.b s.nb p.kb, .int .i64 0]) ∧ w.grownBy w' (some g)
set_option maxRecDepth 100000 in
set_option maxHeartbeats 4000000 in
theorem begin_any (g : Nat) (p : SP) (s : SD) (k B : Nat) (w : World) (hg : HasBlk w g 63 #[.slice p.a s.np p.ka, .int .i64 s.p, .int .i64 s.n, .slice p.b s.nb p.kb, .int .i64 s.d]) (ho : w.ownsRow B 3 1 (.slice p.a s.np p.ka) s.np (cellsR 1 (ivR s.ph) s.np)) (hk : k ≤ s.np) (hn : s.np ≤ 16) :
    Calls Try.prog 27 #[.pointer (some ⟨g, 0, none⟩), .int .i64 k] w fun e w' => e = .returned (.tuple #[]) ∧ BeginR g p s k w w' := by
  have lt0 := hg.lt
  have q0 := hg.cell 0
  have q1 := hg.cell 1
  have q2 := hg.cell 2
  have q3 := hg.cell 3
  have q4 := hg.cell 4
  have e2 := hg.frozen 2
  have e4 := hg.frozen 4
  have e1 := hg.frozen 1
  simp at q0 q1 q2 q3 q4
  have HG := Lib.hid hg
  have HO := Lib.hid ho
  have HNE := Lib.hid (hg.ne_own ho (by decide))
  clear hg ho
  go_enter Try.func27, Try.ntmps27
  go_wp2_with fail
  have h1 := ((HG.out.set 2 (.int .i64 0)).set 4 (.int .i64 0)).set 1 (.int .i64 k)
  simp only [List.setIfInBounds_toArray, List.set_cons_zero, List.set_cons_succ] at h1
  have gr1 := ((grown_set w g 2 (.int .i64 0)).trans (grown_set _ g 4 (.int .i64 0))).trans (grown_set _ g 1 (.int .i64 k))
  generalize hv : ((w.setCell ⟨g, 2, none⟩ (.int .i64 0)).setCell ⟨g, 4, none⟩ (.int .i64 0)).setCell ⟨g, 1, none⟩ (.int .i64 k) = v at *
  have H1 := Lib.hid (And.intro h1 gr1)
  clear q0 q1 q2 q3 q4 e1 e2 e4 h1 gr1 hv lt0
  go_loopw [17] (fun t wr => ∃ j : Nat, k ≤ j ∧ j ≤ s.np ∧ (∀ i, k ≤ i → i < j → s.ph i = 0) ∧ HasBlk wr g 63 #[.slice p.a s.np p.ka, .int .i64 (j : Int), .int .i64 0, .slice p.b s.nb p.kb, .int .i64 0] ∧ w.grownBy wr (some g)) (fun _ wr => s.np - (intOf ((wr.cell? ⟨g, 1, none⟩).getD undef)).toNat)
  case atStart => exact ⟨k, Nat.le_refl _, hk, fun i h1 h2 => absurd h1 (by omega), H1.out.1, H1.out.2⟩
  case round =>
    obtain ⟨j, hj1, hj2, hz, hb, hgr⟩ := hrel
    have lt0 := hb.lt
    have q0 := hb.cell 0
    have q1 := hb.cell 1
    have q2 := hb.cell 2
    have q3 := hb.cell 3
    have q4 := hb.cell 4
    simp at q0 q1 q2 q3 q4
    have HB := Lib.hid hb
    have HZ := Lib.hid hz
    have HGR := Lib.hid hgr
    have HI := Lib.hid (is_own (HO.out.kept hgr (.inr HNE.out)))
    clear hb hz hgr
    by_cases hjn : j < s.np
    · have ho := over_j p s j (show (j == s.np) = false by simp; omega)
      go_wp2_with fail
      refine (ho _).mono ?_
      rintro e w1 ⟨rfl, bel1⟩
      have hb1 := HB.out.below bel1
      have ht := tasks_j p s j hjn w1 (HI.out.below bel1)
      have q0' := hb1.cell 0
      have q1' := hb1.cell 1
      have q2' := hb1.cell 2
      have q3' := hb1.cell 3
      have q4' := hb1.cell 4
      simp at q0' q1' q2' q3' q4'
      have HB1 := Lib.hid hb1
      have HG1 := Lib.hid (HGR.out.trans (grown_below bel1 g))
      clear q0 q1 q2 q3 q4 ho bel1 hb1
      go_wp2_with fail
      refine ht.mono ?_
      rintro e w2 ⟨rfl, bel2⟩
      have hb2 := HB1.out.below bel2
      have lt2 := hb2.lt
      have q1 := hb2.cell 1
      have f1 := hb2.frozen 1
      simp at q1
      have HB2 := Lib.hid hb2
      have HG2 := Lib.hid (HG1.out.trans (grown_below bel2 g))
      clear q0' q1' q2' q3' q4' bel2 hb2 ht
      by_cases hp : s.ph j = 0
      · have g0 : (s.ph j == 0) = true := by simpa using hp
        have Hp := Lib.hid hp
        clear hp
        go_wp2_with fail
        go_roundw
        case rel =>
          refine ⟨j + 1, by omega, by omega, fun i h1 h2 => ?_, ?_, HG2.out.trans (grown_set _ g 1 _)⟩
          · by_cases e : i = j
            · subst e; exact Hp.out
            · exact HZ.out i h1 (by omega)
          · have h3 := HB2.out.set 1 (.int .i64 ((j : Int) + 1))
            simp only [List.setIfInBounds_toArray, List.set_cons_zero, List.set_cons_succ] at h3
            exact h3
        case measure =>
          have a := HB.out.cell 1
          have b := (HB2.out.set 1 (.int .i64 ((j : Int) + 1))).cell 1
          simp at a b
          rw [a, b]
          simp [intOf]
          omega
      · have g0 : (s.ph j == 0) = false := by simpa using hp
        have Hp := Lib.hid hp
        clear hp
        go_wp2_with fail
        go_end0
        exact ⟨rfl, ⟨j, ⟨hj1, hj2, HZ.out, fun _ => Hp.out⟩, HB2.out⟩, HG2.out⟩
    · have hjn' : j = s.np := by omega
      have ho := over_j p s j (show (j == s.np) = true by simp; omega)
      have Hj := Lib.hid hjn'
      clear hjn'
      go_wp2_with fail
      refine (ho _).mono ?_
      rintro e w1 ⟨rfl, bel1⟩
      have HB1 := Lib.hid (HB.out.below bel1)
      have HG1 := Lib.hid (HGR.out.trans (grown_below bel1 g))
      clear q0 q1 q2 q3 q4 ho bel1
      go_wp2_with fail
      go_end0
      exact ⟨rfl, ⟨j, ⟨hj1, hj2, HZ.out, fun h => absurd h (by have := Hj.out; omega)⟩, HB1.out⟩, HG1.out⟩
end Go.Proofs.Ytdilfcpgjkkjmaa
