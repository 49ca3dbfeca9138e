/- sched: the reference's skipped, can, Twin, Same, Great; Ended. -/
import Derived.Test.YtdilfcpgjkkjmaaS5
import Derived.Test.YtdilfcpgjkkjmaaS2
import Derived.Test.YtdilfcpgjkkjmaaStep
import Derived.Deep.AppendLies
namespace Go.Proofs.Ytdilfcpgjkkjmaa
open Go.RowKit
set_option linter.unusedVariables false
/-- What skipped answers. -/
def SkR (p : SP) (s : SD) (k : Nat) (e : Ending) : Prop := ∃ j, SkipTo s.ph s.np k j ∧ e = .returned (.agg #[.slice p.a s.np p.ka, .int .i64 (j : Int), .int .i64 0, .slice p.b s.nb p.kb, .int .i64 0])
set_option maxRecDepth 100000 in
set_option maxHeartbeats 2000000 in
theorem skipped_any (p : SP) (s : SD) (k : Nat) (w : World) (h : IS w p.a s.np s.ph) (hk : k ≤ s.np) (hn : (s.np : Int) ≤ 100000) :
    Calls Try.prog 34 #[.agg #[.slice p.a s.np p.ka, .int .i64 s.p, .int .i64 s.n, .slice p.b s.nb p.kb, .int .i64 s.d], .int .i64 k] w fun e w' => SkR p s k e ∧ Below w.heap.size w w' := by
  have HI := Lib.hid h
  clear h
  go_enter Try.func34, Try.ntmps34
  go_wp2
  go_loop [1] (fun i => ∃ j : Nat, k ≤ j ∧ j ≤ s.np ∧ i = .int .i64 j ∧ ∀ i, k ≤ i → i < j → s.ph i = 0) (fun i => s.np - (intOf i).toNat)
  case atStart => exact ⟨k, Nat.le_refl _, hk, rfl, fun i h1 h2 => absurd h1 (by omega)⟩
  case round =>
    obtain ⟨j, hj1, hj2, rfl, hz⟩ := hrel
    have HZ := Lib.hid hz
    clear hz
    by_cases hjn : j < s.np
    · obtain ⟨g, o, hA, hg, hc⟩ := HI.out (by omega)
      have c0 := hc j hjn
      have HA := Lib.hid hA
      have hlt := hg
      have hi0 : (0 : Int) ≤ (j : Int) := by omega
      have hi1 : (j : Int) < (s.np : Int) := by omega
      clear hc hA hg
      rw [HA.out]
      by_cases hp : s.ph j = 0
      · have g0 : (s.ph j == 0) = true := by simpa using hp
        have Hp := Lib.hid hp
        clear hp
        go_wp2
        go_round
        case rel =>
          refine ⟨j + 1, by omega, by omega, by go_num, fun i h1 h2 => ?_⟩
          by_cases e : i = j
          · subst e; exact Hp.out
          · exact HZ.out i h1 (by omega)
        case measure => simp [intOf]; omega
      · have g0 : (s.ph j == 0) = false := by simpa using hp
        have Hp := Lib.hid hp
        clear hp
        go_wp2
        refine bodyPost_ret (v := .agg #[.slice p.a s.np p.ka, .int .i64 (j : Int), .int .i64 0, .slice p.b s.nb p.kb, .int .i64 0]) (by rw [HA.out]; simp [results, Try.results34, go_sem]) rfl ⟨⟨j, ⟨hj1, hj2, HZ.out, fun _ => Hp.out⟩, rfl⟩, ?_⟩
        repeat' (first | exact Below.refl _ _ | assumption | apply Below.drew | refine Below.setCell ?_ (by first | omega | (simp; done) | (simp; omega)) _ | refine Below.alloc ?_ (by first | omega | (simp; done) | (simp; omega)) _)
    · have hjj : j = s.np := by omega
      have Hj := Lib.hid hjj
      clear hjj
      go_wp2
      refine bodyPost_ret (v := .agg #[.slice p.a s.np p.ka, .int .i64 (j : Int), .int .i64 0, .slice p.b s.nb p.kb, .int .i64 0]) (by simp [results, Try.results34, go_sem]) rfl ⟨⟨j, ⟨hj1, hj2, HZ.out, fun h => absurd h (by have := Hj.out; omega)⟩, rfl⟩, ?_⟩
      repeat' (first | exact Below.refl _ _ | assumption | apply Below.drew | refine Below.setCell ?_ (by first | omega | (simp; done) | (simp; omega)) _ | refine Below.alloc ?_ (by first | omega | (simp; done) | (simp; omega)) _)

set_option maxRecDepth 100000 in
set_option maxHeartbeats 2000000 in
theorem refcan_any (p : SP) (s : SD) (k : Nat) (w : World) (h : SOk w p s) (hk : k < s.nb) (hn : (s.nb : Int) ≤ 9223372036854775807) (h0 : 0 ≤ s.p) (h1 : s.p ≤ s.np) (hn0 : 0 ≤ s.n) :
    Calls Try.prog 35 #[.agg #[.slice p.a s.np p.ka, .int .i64 s.p, .int .i64 s.n, .slice p.b s.nb p.kb, .int .i64 s.d], .int .i64 k] w fun e w' => e = .returned (.bool (s.can k)) ∧ Below w.heap.size w w' := by
  obtain ⟨g, o, hA, hg, hc⟩ := h.2 (by omega)
  have bx : Below w.heap.size w (w.alloc (.cells #[.slice p.a s.np p.ka, .int .i64 s.p, .int .i64 s.n, .slice p.b s.nb p.kb, .int .i64 s.d] 25)) := (Below.refl _ _).alloc (Nat.le_refl _) _
  have c1 := (bx.cell (p := ⟨g, o + k, none⟩) hg).trans (hc k hk)
  have pb := hasBlk_new w 25 #[.slice p.a s.np p.ka, .int .i64 s.p, .int .i64 s.n, .slice p.b s.nb p.kb, .int .i64 s.d]
  have Hpb := Lib.hid pb
  have HA := Lib.hid hA
  have hi0 : (0 : Int) ≤ (k : Int) := by omega
  have hi1 : (k : Int) < (s.nb : Int) := by omega
  have Hbx := Lib.hid bx
  have HI := Lib.hid h.1
  clear hc hA h hg pb bx
  by_cases hb : 0 ≤ s.bz k
  · have g0 : decide (0 ≤ s.bz k) = true := decide_eq_true hb
    have HC := Lib.hid (can_one hb)
    clear hb
    go_enter Try.func35, Try.ntmps35
    go_upto_region 1 with fail
    generalize w.alloc (.cells #[.slice p.a s.np p.ka, .int .i64 s.p, .int .i64 s.n, .slice p.b s.nb p.kb, .int .i64 s.d] 25) = v at *
    have ltp := Hpb.out.lt
    have q0 := Hpb.out.cell 0
    have q1 := Hpb.out.cell 1
    have q2 := Hpb.out.cell 2
    have q3 := Hpb.out.cell 3
    have q4 := Hpb.out.cell 4
    simp at q0 q1 q2 q3 q4
    rw [HA.out] at q3
    go_quiet (fail)
    go_wp2
    go_ret
    exact ⟨ret_bool HC.out.symm, below_drewN Hbx.out _⟩
  have g0 : decide (0 ≤ s.bz k) = false := decide_eq_false hb
  by_cases hp : s.p < (s.np : Int)
  rotate_left
  · have g1 : decide (s.p < (s.np : Int)) = false := decide_eq_false hp
    have HC := Lib.hid (can_two hb (show decide (s.n < s.tasks) = false from decide_eq_false (by rw [SD.tasks_over (by omega)]; omega)))
    clear hb hp
    go_enter Try.func35, Try.ntmps35
    go_upto_region 1 with fail
    generalize w.alloc (.cells #[.slice p.a s.np p.ka, .int .i64 s.p, .int .i64 s.n, .slice p.b s.nb p.kb, .int .i64 s.d] 25) = v at *
    have ltp := Hpb.out.lt
    have q0 := Hpb.out.cell 0
    have q1 := Hpb.out.cell 1
    have q2 := Hpb.out.cell 2
    have q3 := Hpb.out.cell 3
    have q4 := Hpb.out.cell 4
    simp at q0 q1 q2 q3 q4
    rw [HA.out] at q3
    go_quiet (fail)
    go_wp2
    go_ret
    exact ⟨ret_bool HC.out.symm, below_drewN Hbx.out _⟩
  have g1 : decide (s.p < (s.np : Int)) = true := decide_eq_true hp
  obtain ⟨g', o', hA', hg', hc'⟩ := HI.out (by omega)
  have HA' := Lib.hid hA'
  have d1 := (Hbx.out.cell (p := ⟨g', o' + s.p.toNat, none⟩) hg').trans (hc' s.p.toNat (by omega))
  have ht := SD.tasks_at (show s.p ≠ s.np by omega)
  clear hc' hA' hg'
  by_cases hx : s.n < s.ph s.p.toNat
  · have g2 : decide (s.n < s.ph s.p.toNat) = true := decide_eq_true hx
    have HC := Lib.hid (can_two hb (show decide (s.n < s.tasks) = true from decide_eq_true (by rw [ht]; exact hx)))
    clear hb hx ht
    go_enter Try.func35, Try.ntmps35
    go_upto_region 1 with fail
    generalize w.alloc (.cells #[.slice p.a s.np p.ka, .int .i64 s.p, .int .i64 s.n, .slice p.b s.nb p.kb, .int .i64 s.d] 25) = v at *
    have ltp := Hpb.out.lt
    have q0 := Hpb.out.cell 0
    have q1 := Hpb.out.cell 1
    have q2 := Hpb.out.cell 2
    have q3 := Hpb.out.cell 3
    have q4 := Hpb.out.cell 4
    simp at q0 q1 q2 q3 q4
    rw [HA.out] at q3
    rw [HA'.out] at q0
    go_quiet (fail)
    go_wp2
    go_ret
    exact ⟨ret_bool HC.out.symm, below_drewN Hbx.out _⟩
  · have g2 : decide (s.n < s.ph s.p.toNat) = false := decide_eq_false hx
    have HC := Lib.hid (can_two hb (show decide (s.n < s.tasks) = false from decide_eq_false (by rw [ht]; exact hx)))
    clear hb hx ht
    go_enter Try.func35, Try.ntmps35
    go_upto_region 1 with fail
    generalize w.alloc (.cells #[.slice p.a s.np p.ka, .int .i64 s.p, .int .i64 s.n, .slice p.b s.nb p.kb, .int .i64 s.d] 25) = v at *
    have ltp := Hpb.out.lt
    have q0 := Hpb.out.cell 0
    have q1 := Hpb.out.cell 1
    have q2 := Hpb.out.cell 2
    have q3 := Hpb.out.cell 3
    have q4 := Hpb.out.cell 4
    simp at q0 q1 q2 q3 q4
    rw [HA.out] at q3
    rw [HA'.out] at q0
    go_quiet (fail)
    go_wp2
    go_ret
    exact ⟨ret_bool HC.out.symm, below_drewN Hbx.out _⟩

theorem own_base {w : World} {b B e s n : Nat} {v : Value} {xs : List Value} (h : w.ownsRow B e s v n xs) (hb : b ≤ B) : w.ownsRow b e s v n xs := by
  refine ⟨h.1, ?_⟩
  rcases h.2 with h | ⟨g, cap, cur, h1, h2, h3⟩
  · exact .inl h
  · exact .inr ⟨g, cap, cur, h1, Nat.le_trans hb h2, h3⟩
/-- A pool's lists are the call's own, and apart. -/
def SOwn2 (B : Nat) (w : World) (p : SP) (s : SD) : Prop := SOwn B w p s ∧ ∀ g, (Value.slice p.b s.nb p.kb).ownBlock = some g → (Value.slice p.a s.np p.ka).ownBlock ≠ some g
theorem SOwn2.below {B : Nat} {w w' : World} {p : SP} {s : SD} (h : SOwn2 B w p s) (hb : Below w.heap.size w w') : SOwn2 B w' p s := ⟨h.1.below hb, h.2⟩
theorem SOwn2.far {B g : Nat} {w : World} {p : SP} {s : SD} {t : TypeId} {cs : Array Value} (h : SOwn2 B w p s) (hg : HasBlk w g t cs) (ht : 3 ≠ t) (i : Nat) (u : Value) : SOwn2 B (w.setCell ⟨g, i, none⟩ u) p s :=
  ⟨⟨ownsRow_setCell_other (a := ⟨g, i, none⟩) h.1.1 (by have := hg.ne_own h.1.1 ht; simpa using this) u, ownsRow_setCell_other (a := ⟨g, i, none⟩) h.1.2 (by have := hg.ne_own h.1.2 ht; simpa using this) u⟩, h.2⟩
theorem SOwn2.base {b B : Nat} {w : World} {p : SP} {s : SD} (h : SOwn2 B w p s) (hb : b ≤ B) : SOwn2 b w p s := ⟨⟨own_base h.1.1 hb, own_base h.1.2 hb⟩, h.2⟩
/-- What Twin answers: the same pool, its lists the call's own. -/
def TwR (s : SD) (B : Nat) (e : Ending) (w' : World) : Prop := ∃ q : SP, e = .returned (.agg #[.slice q.a s.np q.ka, .int .i64 s.p, .int .i64 s.n, .slice q.b s.nb q.kb, .int .i64 s.d]) ∧ SOwn2 B w' q s
set_option maxRecDepth 100000 in
set_option maxHeartbeats 4000000 in
theorem twin_any (p : SP) (s : SD) (w : World) (h : SOk w p s) (hn1 : (s.np : Int) ≤ 1000) (hn2 : (s.nb : Int) ≤ 1000) :
    Calls Try.prog 15 #[.agg #[.slice p.a s.np p.ka, .int .i64 s.p, .int .i64 s.n, .slice p.b s.nb p.kb, .int .i64 s.d]] w fun e w' => TwR s w.heap.size e w' ∧ Below w.heap.size w w' := by
  have HS := Lib.hid h
  obtain ⟨i0, hi0, hz0, hz1, hz2⟩ := info_parts int_info
  clear h
  go_enter Try.func15, Try.ntmps15
  go_upto_region 2 with fail
  have NE_Pb_Rb := Lib.hid (show w.heap.size ≠ w.heap.size + 1 by omega)
  have NE_Pb_Ob := Lib.hid (show w.heap.size ≠ w.heap.size + 1 + 1 by omega)
  have NE_Rb_Ob := Lib.hid (show w.heap.size + 1 ≠ w.heap.size + 1 + 1 by omega)
  have s_Pb : HasBlk (w.alloc (.cells #[.slice p.a s.np p.ka, .int .i64 s.p, .int .i64 s.n, .slice p.b s.nb p.kb, .int .i64 s.d] 25)) (w.heap.size) 25 #[.slice p.a s.np p.ka, .int .i64 s.p, .int .i64 s.n, .slice p.b s.nb p.kb, .int .i64 s.d] := by simpa using hasBlk_new w 25 #[.slice p.a s.np p.ka, .int .i64 s.p, .int .i64 s.n, .slice p.b s.nb p.kb, .int .i64 s.d]
  replace s_Pb := s_Pb.alloc (.cells #[.slice none 0 0, .int .i64 0, .int .i64 0, .slice none 0 0, .int .i64 0] 25)
  have s_Rb : HasBlk ((w.alloc (.cells #[.slice p.a s.np p.ka, .int .i64 s.p, .int .i64 s.n, .slice p.b s.nb p.kb, .int .i64 s.d] 25)).alloc (.cells #[.slice none 0 0, .int .i64 0, .int .i64 0, .slice none 0 0, .int .i64 0] 25)) (w.heap.size + 1) 25 #[.slice none 0 0, .int .i64 0, .int .i64 0, .slice none 0 0, .int .i64 0] := by simpa using hasBlk_new (w.alloc (.cells #[.slice p.a s.np p.ka, .int .i64 s.p, .int .i64 s.n, .slice p.b s.nb p.kb, .int .i64 s.d] 25)) 25 #[.slice none 0 0, .int .i64 0, .int .i64 0, .slice none 0 0, .int .i64 0]
  replace s_Pb := s_Pb.alloc (.cells #[.slice p.a s.np p.ka, .int .i64 s.p, .int .i64 s.n, .slice p.b s.nb p.kb, .int .i64 s.d] 25)
  replace s_Rb := s_Rb.alloc (.cells #[.slice p.a s.np p.ka, .int .i64 s.p, .int .i64 s.n, .slice p.b s.nb p.kb, .int .i64 s.d] 25)
  have s_Ob : HasBlk (((w.alloc (.cells #[.slice p.a s.np p.ka, .int .i64 s.p, .int .i64 s.n, .slice p.b s.nb p.kb, .int .i64 s.d] 25)).alloc (.cells #[.slice none 0 0, .int .i64 0, .int .i64 0, .slice none 0 0, .int .i64 0] 25)).alloc (.cells #[.slice p.a s.np p.ka, .int .i64 s.p, .int .i64 s.n, .slice p.b s.nb p.kb, .int .i64 s.d] 25)) (w.heap.size + 1 + 1) 25 #[.slice p.a s.np p.ka, .int .i64 s.p, .int .i64 s.n, .slice p.b s.nb p.kb, .int .i64 s.d] := by simpa using hasBlk_new ((w.alloc (.cells #[.slice p.a s.np p.ka, .int .i64 s.p, .int .i64 s.n, .slice p.b s.nb p.kb, .int .i64 s.d] 25)).alloc (.cells #[.slice none 0 0, .int .i64 0, .int .i64 0, .slice none 0 0, .int .i64 0] 25)) 25 #[.slice p.a s.np p.ka, .int .i64 s.p, .int .i64 s.n, .slice p.b s.nb p.kb, .int .i64 s.d]
  have t_Pb : HasBlk (((w.alloc (.cells #[.slice p.a s.np p.ka, .int .i64 s.p, .int .i64 s.n, .slice p.b s.nb p.kb, .int .i64 s.d] 25)).alloc (.cells #[.slice none 0 0, .int .i64 0, .int .i64 0, .slice none 0 0, .int .i64 0] 25)).alloc (.cells #[.slice p.a s.np p.ka, .int .i64 s.p, .int .i64 s.n, .slice p.b s.nb p.kb, .int .i64 s.d] 25)) (w.heap.size) 25 #[.slice p.a s.np p.ka, .int .i64 s.p, .int .i64 s.n, .slice p.b s.nb p.kb, .int .i64 s.d] := by simpa using s_Pb
  clear s_Pb
  have t_Rb : HasBlk (((w.alloc (.cells #[.slice p.a s.np p.ka, .int .i64 s.p, .int .i64 s.n, .slice p.b s.nb p.kb, .int .i64 s.d] 25)).alloc (.cells #[.slice none 0 0, .int .i64 0, .int .i64 0, .slice none 0 0, .int .i64 0] 25)).alloc (.cells #[.slice p.a s.np p.ka, .int .i64 s.p, .int .i64 s.n, .slice p.b s.nb p.kb, .int .i64 s.d] 25)) (w.heap.size + 1) 25 #[.slice none 0 0, .int .i64 0, .int .i64 0, .slice none 0 0, .int .i64 0] := by simpa using s_Rb
  clear s_Rb
  have t_Ob : HasBlk (((w.alloc (.cells #[.slice p.a s.np p.ka, .int .i64 s.p, .int .i64 s.n, .slice p.b s.nb p.kb, .int .i64 s.d] 25)).alloc (.cells #[.slice none 0 0, .int .i64 0, .int .i64 0, .slice none 0 0, .int .i64 0] 25)).alloc (.cells #[.slice p.a s.np p.ka, .int .i64 s.p, .int .i64 s.n, .slice p.b s.nb p.kb, .int .i64 s.d] 25)) (w.heap.size + 1 + 1) 25 #[.slice p.a s.np p.ka, .int .i64 s.p, .int .i64 s.n, .slice p.b s.nb p.kb, .int .i64 s.d] := by simpa using s_Ob
  clear s_Ob
  have SB1 : Below w.heap.size w (((w.alloc (.cells #[.slice p.a s.np p.ka, .int .i64 s.p, .int .i64 s.n, .slice p.b s.nb p.kb, .int .i64 s.d] 25)).alloc (.cells #[.slice none 0 0, .int .i64 0, .int .i64 0, .slice none 0 0, .int .i64 0] 25)).alloc (.cells #[.slice p.a s.np p.ka, .int .i64 s.p, .int .i64 s.n, .slice p.b s.nb p.kb, .int .i64 s.d] 25)) := by
    repeat' (first | exact Below.refl _ _ | assumption | apply Below.drew | refine Below.setCell ?_ (by first | omega | (simp; done) | (simp; omega)) _ | refine Below.alloc ?_ (by first | omega | (simp; done) | (simp; omega)) _)
  generalize gW_v0 : (((w.alloc (.cells #[.slice p.a s.np p.ka, .int .i64 s.p, .int .i64 s.n, .slice p.b s.nb p.kb, .int .i64 s.d] 25)).alloc (.cells #[.slice none 0 0, .int .i64 0, .int .i64 0, .slice none 0 0, .int .i64 0] 25)).alloc (.cells #[.slice p.a s.np p.ka, .int .i64 s.p, .int .i64 s.n, .slice p.b s.nb p.kb, .int .i64 s.d] 25)) = v0 at *
  clear gW_v0
  have Pb := Lib.hid t_Pb
  clear t_Pb
  have Rb := Lib.hid t_Rb
  clear t_Rb
  have Ob := Lib.hid t_Ob
  clear t_Ob
  have SB1h := Lib.hid SB1
  clear SB1
  have lt_Pb := Pb.out.lt
  have Pb_0 := Pb.out.cell 0
  have Pb_1 := Pb.out.cell 1
  have Pb_2 := Pb.out.cell 2
  have Pb_3 := Pb.out.cell 3
  have Pb_4 := Pb.out.cell 4
  simp at Pb_0 Pb_1 Pb_2 Pb_3 Pb_4
  have lt_Rb := Rb.out.lt
  have Rb_0 := Rb.out.cell 0
  have Rb_1 := Rb.out.cell 1
  have Rb_2 := Rb.out.cell 2
  have Rb_3 := Rb.out.cell 3
  have Rb_4 := Rb.out.cell 4
  have Rb_f0 := Rb.out.frozen 0
  have Rb_f1 := Rb.out.frozen 1
  have Rb_f2 := Rb.out.frozen 2
  have Rb_f3 := Rb.out.frozen 3
  have Rb_f4 := Rb.out.frozen 4
  simp at Rb_0 Rb_1 Rb_2 Rb_3 Rb_4
  have lt_Ob := Ob.out.lt
  have Ob_0 := Ob.out.cell 0
  have Ob_1 := Ob.out.cell 1
  have Ob_2 := Ob.out.cell 2
  have Ob_3 := Ob.out.cell 3
  have Ob_4 := Ob.out.cell 4
  have Ob_f0 := Ob.out.frozen 0
  have Ob_f1 := Ob.out.frozen 1
  have Ob_f2 := Ob.out.frozen 2
  have Ob_f3 := Ob.out.frozen 3
  have Ob_f4 := Ob.out.frozen 4
  simp at Ob_0 Ob_1 Ob_2 Ob_3 Ob_4
  have szB_v0 := SB1h.out.size
  have hnews := (is_row (HS.out.1.below SB1h.out)).news (by omega)
  go_upto_region 3 with (at_builtin; refine wpList_app rfl (.const (.slice none 0 0)) (.tmp 6) 23 rfl v0.heap.size 3 i0 _ 1 8 Try.underlying23 hi0 hz0 hz1 hz2 rfl (by omega) none 0 0 [] rfl (own_nil _ _ 3 1) (p.a) (s.np) (p.ka) (cellsR 1 (ivR s.ph) s.np) rfl (cellsR_len 1 _ _) hnews (cellsR_one (fun _ _ => rfl) _) (by unfold maxLen; omega) (by omega) (by omega) ?_; intro A1 d1 w1 hown hgr; simp only [Nat.zero_add, List.nil_append] at hown ⊢; have bel0 : Below v0.heap.size v0 w1 := below_grown (v := .slice none 0 0) (base := v0.heap.size) (Below.refl _ _) hgr (own_nil _ _ 3 1) (Nat.le_refl _) (by simp); clear hgr; have ZO := Ob.out.below bel0; have hxO := ZO.lt; have y0 := ZO.cell 0; have yf0 := ZO.frozen 0; simp at y0)
  clear ZO hxO y0 yf0
  have OA := Lib.hid hown
  clear hnews hown lt_Pb Pb_0 Pb_1 Pb_2 Pb_3 Pb_4 lt_Rb Rb_0 Rb_1 Rb_2 Rb_3 Rb_4 Rb_f0 Rb_f1 Rb_f2 Rb_f3 Rb_f4 lt_Ob Ob_0 Ob_1 Ob_2 Ob_3 Ob_4 Ob_f0 Ob_f1 Ob_f2 Ob_f3 Ob_f4
  have t_Pb := Pb.out.below bel0
  clear Pb
  have Pb := Lib.hid t_Pb
  clear t_Pb
  have t_Rb := Rb.out.below bel0
  clear Rb
  have Rb := Lib.hid t_Rb
  clear t_Rb
  have t_Ob := Ob.out.below bel0
  clear Ob
  have Ob := Lib.hid t_Ob
  clear t_Ob
  have SB2 : Below w.heap.size w w1 := SB1h.out.trans (bel0.mono SB1h.out.size)
  have zb0 := SB1h.out.size
  clear SB1h
  have SB2h := Lib.hid SB2
  clear SB2 bel0
  have s_Pb := Pb.out
  have s_Rb := Rb.out
  have s_Ob := Ob.out
  have s_OA := OA.out
  replace s_OA := ownsRow_setCell_other (a := ⟨w.heap.size + 1 + 1, 0, none⟩) s_OA (by have := s_Ob.ne_own s_OA (by decide); simpa using this) (.slice A1 s.np d1)
  replace s_Ob := s_Ob.set 0 (.slice A1 s.np d1)
  replace s_Pb := s_Pb.far (p := ⟨w.heap.size + 1 + 1, 0, none⟩) (by first | exact NE_Pb_Ob.out | exact Ne.symm NE_Pb_Ob.out | (simp; done) | (simp; omega) | omega) (.slice A1 s.np d1)
  replace s_Rb := s_Rb.far (p := ⟨w.heap.size + 1 + 1, 0, none⟩) (by first | exact NE_Rb_Ob.out | exact Ne.symm NE_Rb_Ob.out | (simp; done) | (simp; omega) | omega) (.slice A1 s.np d1)
  have t_Pb : HasBlk (w1.setCell ⟨w.heap.size + 1 + 1, 0, none⟩ (.slice A1 s.np d1)) (w.heap.size) 25 #[.slice p.a s.np p.ka, .int .i64 s.p, .int .i64 s.n, .slice p.b s.nb p.kb, .int .i64 s.d] := s_Pb
  clear s_Pb Pb
  have t_Rb : HasBlk (w1.setCell ⟨w.heap.size + 1 + 1, 0, none⟩ (.slice A1 s.np d1)) (w.heap.size + 1) 25 #[.slice none 0 0, .int .i64 0, .int .i64 0, .slice none 0 0, .int .i64 0] := s_Rb
  clear s_Rb Rb
  have t_Ob : HasBlk (w1.setCell ⟨w.heap.size + 1 + 1, 0, none⟩ (.slice A1 s.np d1)) (w.heap.size + 1 + 1) 25 #[.slice A1 s.np d1, .int .i64 s.p, .int .i64 s.n, .slice p.b s.nb p.kb, .int .i64 s.d] := by simp only [List.setIfInBounds_toArray, List.set_cons_zero, List.set_cons_succ] at s_Ob; exact s_Ob
  clear s_Ob Ob
  have t_OA : ((w1.setCell ⟨w.heap.size + 1 + 1, 0, none⟩ (.slice A1 s.np d1))).ownsRow (v0.heap.size) 3 1 (.slice A1 (s.np) (d1)) (s.np) (cellsR 1 (ivR s.ph) s.np) := s_OA
  clear s_OA OA
  have LE_Ob : w.heap.size ≤ w.heap.size + 1 + 1 := by omega
  have SB3 : Below w.heap.size w (w1.setCell ⟨w.heap.size + 1 + 1, 0, none⟩ (.slice A1 s.np d1)) := (Below.setCell (p := ⟨w.heap.size + 1 + 1, 0, none⟩) SB2h.out LE_Ob _)
  generalize gW_v1 : (w1.setCell ⟨w.heap.size + 1 + 1, 0, none⟩ (.slice A1 s.np d1)) = v1 at *
  clear gW_v1
  have Pb := Lib.hid t_Pb
  clear t_Pb
  have Rb := Lib.hid t_Rb
  clear t_Rb
  have Ob := Lib.hid t_Ob
  clear t_Ob
  have OA := Lib.hid t_OA
  clear t_OA
  clear SB2h
  have SB3h := Lib.hid SB3
  clear SB3
  have lt_Pb := Pb.out.lt
  have Pb_0 := Pb.out.cell 0
  have Pb_1 := Pb.out.cell 1
  have Pb_2 := Pb.out.cell 2
  have Pb_3 := Pb.out.cell 3
  have Pb_4 := Pb.out.cell 4
  simp at Pb_0 Pb_1 Pb_2 Pb_3 Pb_4
  have lt_Rb := Rb.out.lt
  have Rb_0 := Rb.out.cell 0
  have Rb_1 := Rb.out.cell 1
  have Rb_2 := Rb.out.cell 2
  have Rb_3 := Rb.out.cell 3
  have Rb_4 := Rb.out.cell 4
  have Rb_f0 := Rb.out.frozen 0
  have Rb_f1 := Rb.out.frozen 1
  have Rb_f2 := Rb.out.frozen 2
  have Rb_f3 := Rb.out.frozen 3
  have Rb_f4 := Rb.out.frozen 4
  simp at Rb_0 Rb_1 Rb_2 Rb_3 Rb_4
  have lt_Ob := Ob.out.lt
  have Ob_0 := Ob.out.cell 0
  have Ob_1 := Ob.out.cell 1
  have Ob_2 := Ob.out.cell 2
  have Ob_3 := Ob.out.cell 3
  have Ob_4 := Ob.out.cell 4
  have Ob_f0 := Ob.out.frozen 0
  have Ob_f1 := Ob.out.frozen 1
  have Ob_f2 := Ob.out.frozen 2
  have Ob_f3 := Ob.out.frozen 3
  have Ob_f4 := Ob.out.frozen 4
  simp at Ob_0 Ob_1 Ob_2 Ob_3 Ob_4
  have szB_v1 := SB3h.out.size
  have LA := Lib.hid (fun g hg => (OA.out.lt g hg).2)
  have hnews := (is_row (HS.out.2.below SB3h.out)).news (by omega)
  go_upto_region 4 with (at_builtin; refine wpList_app rfl (.const (.slice none 0 0)) (.tmp 10) 23 rfl v1.heap.size 3 i0 _ 1 8 Try.underlying23 hi0 hz0 hz1 hz2 rfl (by omega) none 0 0 [] rfl (own_nil _ _ 3 1) (p.b) (s.nb) (p.kb) (cellsR 1 (ivR s.bz) s.nb) rfl (cellsR_len 1 _ _) hnews (cellsR_one (fun _ _ => rfl) _) (by unfold maxLen; omega) (by omega) (by omega) ?_; intro A2 d2 w2 hown hgr; simp only [Nat.zero_add, List.nil_append] at hown ⊢; have bel1 : Below v1.heap.size v1 w2 := below_grown (v := .slice none 0 0) (base := v1.heap.size) (Below.refl _ _) hgr (own_nil _ _ 3 1) (Nat.le_refl _) (by simp); clear hgr; have ZO := Ob.out.below bel1; have hxO := ZO.lt; have y3 := ZO.cell 3; have yf3 := ZO.frozen 3; simp at y3)
  clear ZO hxO y3 yf3
  have OBb := Lib.hid hown
  clear hnews hown lt_Pb Pb_0 Pb_1 Pb_2 Pb_3 Pb_4 lt_Rb Rb_0 Rb_1 Rb_2 Rb_3 Rb_4 Rb_f0 Rb_f1 Rb_f2 Rb_f3 Rb_f4 lt_Ob Ob_0 Ob_1 Ob_2 Ob_3 Ob_4 Ob_f0 Ob_f1 Ob_f2 Ob_f3 Ob_f4
  have t_Pb := Pb.out.below bel1
  clear Pb
  have Pb := Lib.hid t_Pb
  clear t_Pb
  have t_Rb := Rb.out.below bel1
  clear Rb
  have Rb := Lib.hid t_Rb
  clear t_Rb
  have t_Ob := Ob.out.below bel1
  clear Ob
  have Ob := Lib.hid t_Ob
  clear t_Ob
  have t_OA := own_below OA.out bel1
  clear OA
  have OA := Lib.hid t_OA
  clear t_OA
  have SB4 : Below w.heap.size w w2 := SB3h.out.trans (bel1.mono SB3h.out.size)
  have zb1 := SB3h.out.size
  clear SB3h
  have SB4h := Lib.hid SB4
  clear SB4 bel1
  have s_Pb := Pb.out
  have s_Rb := Rb.out
  have s_Ob := Ob.out
  have s_OA := OA.out
  have s_OBb := OBb.out
  replace s_OA := ownsRow_setCell_other (a := ⟨w.heap.size + 1 + 1, 3, none⟩) s_OA (by have := s_Ob.ne_own s_OA (by decide); simpa using this) (.slice A2 s.nb d2)
  replace s_OBb := ownsRow_setCell_other (a := ⟨w.heap.size + 1 + 1, 3, none⟩) s_OBb (by have := s_Ob.ne_own s_OBb (by decide); simpa using this) (.slice A2 s.nb d2)
  replace s_Ob := s_Ob.set 3 (.slice A2 s.nb d2)
  replace s_Pb := s_Pb.far (p := ⟨w.heap.size + 1 + 1, 3, none⟩) (by first | exact NE_Pb_Ob.out | exact Ne.symm NE_Pb_Ob.out | (simp; done) | (simp; omega) | omega) (.slice A2 s.nb d2)
  replace s_Rb := s_Rb.far (p := ⟨w.heap.size + 1 + 1, 3, none⟩) (by first | exact NE_Rb_Ob.out | exact Ne.symm NE_Rb_Ob.out | (simp; done) | (simp; omega) | omega) (.slice A2 s.nb d2)
  have t_Pb : HasBlk (w2.setCell ⟨w.heap.size + 1 + 1, 3, none⟩ (.slice A2 s.nb d2)) (w.heap.size) 25 #[.slice p.a s.np p.ka, .int .i64 s.p, .int .i64 s.n, .slice p.b s.nb p.kb, .int .i64 s.d] := s_Pb
  clear s_Pb Pb
  have t_Rb : HasBlk (w2.setCell ⟨w.heap.size + 1 + 1, 3, none⟩ (.slice A2 s.nb d2)) (w.heap.size + 1) 25 #[.slice none 0 0, .int .i64 0, .int .i64 0, .slice none 0 0, .int .i64 0] := s_Rb
  clear s_Rb Rb
  have t_Ob : HasBlk (w2.setCell ⟨w.heap.size + 1 + 1, 3, none⟩ (.slice A2 s.nb d2)) (w.heap.size + 1 + 1) 25 #[.slice A1 s.np d1, .int .i64 s.p, .int .i64 s.n, .slice A2 s.nb d2, .int .i64 s.d] := by simp only [List.setIfInBounds_toArray, List.set_cons_zero, List.set_cons_succ] at s_Ob; exact s_Ob
  clear s_Ob Ob
  have t_OA : ((w2.setCell ⟨w.heap.size + 1 + 1, 3, none⟩ (.slice A2 s.nb d2))).ownsRow (v0.heap.size) 3 1 (.slice A1 (s.np) (d1)) (s.np) (cellsR 1 (ivR s.ph) s.np) := s_OA
  clear s_OA OA
  have t_OBb : ((w2.setCell ⟨w.heap.size + 1 + 1, 3, none⟩ (.slice A2 s.nb d2))).ownsRow (v1.heap.size) 3 1 (.slice A2 (s.nb) (d2)) (s.nb) (cellsR 1 (ivR s.bz) s.nb) := s_OBb
  clear s_OBb OBb
  have LE_Ob : w.heap.size ≤ w.heap.size + 1 + 1 := by omega
  have SB5 : Below w.heap.size w (w2.setCell ⟨w.heap.size + 1 + 1, 3, none⟩ (.slice A2 s.nb d2)) := (Below.setCell (p := ⟨w.heap.size + 1 + 1, 3, none⟩) SB4h.out LE_Ob _)
  generalize gW_v2 : (w2.setCell ⟨w.heap.size + 1 + 1, 3, none⟩ (.slice A2 s.nb d2)) = v2 at *
  clear gW_v2
  have Pb := Lib.hid t_Pb
  clear t_Pb
  have Rb := Lib.hid t_Rb
  clear t_Rb
  have Ob := Lib.hid t_Ob
  clear t_Ob
  have OA := Lib.hid t_OA
  clear t_OA
  have OBb := Lib.hid t_OBb
  clear t_OBb
  clear SB4h
  have SB5h := Lib.hid SB5
  clear SB5
  have lt_Pb := Pb.out.lt
  have Pb_0 := Pb.out.cell 0
  have Pb_1 := Pb.out.cell 1
  have Pb_2 := Pb.out.cell 2
  have Pb_3 := Pb.out.cell 3
  have Pb_4 := Pb.out.cell 4
  simp at Pb_0 Pb_1 Pb_2 Pb_3 Pb_4
  have lt_Rb := Rb.out.lt
  have Rb_0 := Rb.out.cell 0
  have Rb_1 := Rb.out.cell 1
  have Rb_2 := Rb.out.cell 2
  have Rb_3 := Rb.out.cell 3
  have Rb_4 := Rb.out.cell 4
  have Rb_f0 := Rb.out.frozen 0
  have Rb_f1 := Rb.out.frozen 1
  have Rb_f2 := Rb.out.frozen 2
  have Rb_f3 := Rb.out.frozen 3
  have Rb_f4 := Rb.out.frozen 4
  simp at Rb_0 Rb_1 Rb_2 Rb_3 Rb_4
  have lt_Ob := Ob.out.lt
  have Ob_0 := Ob.out.cell 0
  have Ob_1 := Ob.out.cell 1
  have Ob_2 := Ob.out.cell 2
  have Ob_3 := Ob.out.cell 3
  have Ob_4 := Ob.out.cell 4
  have Ob_f0 := Ob.out.frozen 0
  have Ob_f1 := Ob.out.frozen 1
  have Ob_f2 := Ob.out.frozen 2
  have Ob_f3 := Ob.out.frozen 3
  have Ob_f4 := Ob.out.frozen 4
  simp at Ob_0 Ob_1 Ob_2 Ob_3 Ob_4
  have szB_v2 := SB5h.out.size
  go_wp2
  refine bodyPost_ret (v := .agg #[.slice A1 s.np d1, .int .i64 s.p, .int .i64 s.n, .slice A2 s.nb d2, .int .i64 s.d]) (by simp [results, Try.results15, go_sem, *]) rfl ⟨⟨⟨A1, d1, A2, d2⟩, rfl, ⟨?_, ?_⟩, ?_⟩, ?_⟩
  · exact own_base (ownsRow_setCell_other (a := ⟨w.heap.size + 1, 4, none⟩) (ownsRow_setCell_other (a := ⟨w.heap.size + 1, 3, none⟩) (ownsRow_setCell_other (a := ⟨w.heap.size + 1, 2, none⟩) (ownsRow_setCell_other (a := ⟨w.heap.size + 1, 1, none⟩) (ownsRow_setCell_other (a := ⟨w.heap.size + 1, 0, none⟩) OA.out (by have := Rb.out.ne_own OA.out (by decide); simpa using this) (.slice A1 s.np d1)) (by have := Rb.out.ne_own OA.out (by decide); simpa using this) (.int .i64 s.p)) (by have := Rb.out.ne_own OA.out (by decide); simpa using this) (.int .i64 s.n)) (by have := Rb.out.ne_own OA.out (by decide); simpa using this) (.slice A2 s.nb d2)) (by have := Rb.out.ne_own OA.out (by decide); simpa using this) (.int .i64 s.d)) zb0
  · exact own_base (ownsRow_setCell_other (a := ⟨w.heap.size + 1, 4, none⟩) (ownsRow_setCell_other (a := ⟨w.heap.size + 1, 3, none⟩) (ownsRow_setCell_other (a := ⟨w.heap.size + 1, 2, none⟩) (ownsRow_setCell_other (a := ⟨w.heap.size + 1, 1, none⟩) (ownsRow_setCell_other (a := ⟨w.heap.size + 1, 0, none⟩) OBb.out (by have := Rb.out.ne_own OBb.out (by decide); simpa using this) (.slice A1 s.np d1)) (by have := Rb.out.ne_own OBb.out (by decide); simpa using this) (.int .i64 s.p)) (by have := Rb.out.ne_own OBb.out (by decide); simpa using this) (.int .i64 s.n)) (by have := Rb.out.ne_own OBb.out (by decide); simpa using this) (.slice A2 s.nb d2)) (by have := Rb.out.ne_own OBb.out (by decide); simpa using this) (.int .i64 s.d)) zb1
  · intro g h1 h2
    have a := LA.out g h2
    have b := (OBb.out.lt g h1).1
    omega
  · exact (Below.setCell (p := ⟨w.heap.size + 1, 4, none⟩) (Below.setCell (p := ⟨w.heap.size + 1, 3, none⟩) (Below.setCell (p := ⟨w.heap.size + 1, 2, none⟩) (Below.setCell (p := ⟨w.heap.size + 1, 1, none⟩) (Below.setCell (p := ⟨w.heap.size + 1, 0, none⟩) SB5h.out (show w.heap.size ≤ w.heap.size + 1 by omega) (.slice A1 s.np d1)) (show w.heap.size ≤ w.heap.size + 1 by omega) (.int .i64 s.p)) (show w.heap.size ≤ w.heap.size + 1 by omega) (.int .i64 s.n)) (show w.heap.size ≤ w.heap.size + 1 by omega) (.slice A2 s.nb d2)) (show w.heap.size ≤ w.heap.size + 1 by omega) (.int .i64 s.d))

set_option maxRecDepth 100000 in
set_option maxHeartbeats 2000000 in
theorem sameints (A B : Option Addr) (n m c d : Nat) (F : Nat → Nat → Int) (G : Nat → Nat → Int) (w : World) (hA : Row w A n 1 (fun i j => .int .i64 (F i j))) (hB : Row w B m 1 (fun i j => .int .i64 (G i j))) (hn : (n : Int) ≤ 9223372036854775807) :
    Calls Try.prog 22 #[.slice A n c, .slice B m d] w fun e w' => EqR (n = m ∧ ∀ k, k < n → F k 0 = G k 0) e ∧ Below w.heap.size w w' := by
  by_cases hnm : n = m
  rotate_left
  · have g0 : ((n : Int) != (m : Int)) = true := by simp; omega
    clear hA hB
    go_enter Try.func22, Try.ntmps22
    go_wp2
    go_ret
    exact ⟨⟨false, rfl, ⟨fun h => (by cases h), fun h => absurd h.1 hnm⟩⟩, Below.refl _ _⟩
  subst hnm
  have HA := Lib.hid hA
  have HB := Lib.hid hB
  clear hA hB
  go_enter Try.func22, Try.ntmps22
  go_wp2
  go_loopw [5] (fun i wr => ∃ k : Nat, k ≤ n ∧ i = .int .i64 k ∧ (∃ q, wr = w.drewN q) ∧ ∀ k', k' < k → F k' 0 = G k' 0) (fun i wr => n - (intOf i).toNat)
  case atStart => exact ⟨0, Nat.zero_le _, rfl, ⟨0, rfl⟩, fun j hj => absurd hj (by omega)⟩
  case round =>
    obtain ⟨k, hk, rfl, ⟨q, rfl⟩, hall⟩ := hrel
    have Hall := Lib.hid hall
    clear hall
    by_cases hkn : k < n
    · obtain ⟨g, o, rfl, hg, hc⟩ := HA.out (by omega)
      obtain ⟨g', o', rfl, hg', hc'⟩ := HB.out (by omega)
      have c0 := hc k hkn 0 (by omega)
      have d0 := hc' k hkn 0 (by omega)
      dsimp only at c0 d0
      simp only [Nat.add_zero, Nat.mul_one] at c0 d0
      have hi : (k : Int) < (n : Int) := by omega
      have hi0 : (0 : Int) ≤ (k : Int) := by omega
      clear hc hc'
      by_cases hcmp : F k 0 = G k 0
      · have hv : (F k 0 == G k 0) = true := by simpa using hcmp
        have Hc := Lib.hid hcmp
        clear hcmp
        go_wp2_with fail
        go_quiet (fail)
        go_wp2
        go_roundw
        case rel =>
          refine ⟨k + 1, by omega, by go_num, ⟨_, rfl⟩, fun j hj => ?_⟩
          rcases Nat.lt_or_ge j k with h | h
          · exact Hall.out j h
          · obtain rfl : j = k := by omega
            exact Hc.out
        case measure => simp [intOf]; omega
      · have hv : (F k 0 == G k 0) = false := by simpa using hcmp
        have Hc := Lib.hid hcmp
        clear hcmp
        go_wp2_with fail
        go_quiet (fail)
        go_wp2
        go_ret
        exact ⟨⟨false, rfl, ⟨fun h => (by cases h), fun h => absurd (h.2 k hkn) Hc.out⟩⟩, by first | exact below_drewN (Below.refl _ _) _ | exact below_drewN (below_drewN (Below.refl _ _) _) _⟩
    · obtain rfl : k = n := by omega
      go_wp2
      go_ret
      exact ⟨⟨true, rfl, ⟨fun _ => ⟨by trivial, Hall.out⟩, fun _ => rfl⟩⟩, below_drewN (Below.refl _ _) _⟩

def SameI (n m : Nat) (f g : Nat → Int) : Prop := n = m ∧ ∀ j, j < n → f j = g j
theorem eqr_cb {p q : Prop} {P : Program} {f : Nat} {a : Array Value} {w : World} {Q : World → Prop} (h : Calls P f a w fun e w' => EqR p e ∧ Q w') (hq : p ↔ q) : Calls P f a w fun e w' => e = .returned (.bool (cB q)) ∧ Q w' :=
  h.mono fun e w' ⟨⟨b, he, hb⟩, k⟩ => ⟨by rw [he, cB_eq (hb.trans hq)], k⟩
theorem sameints_cb (A B : Option Addr) (n m c d : Nat) (f g : Nat → Int) (w : World) (hA : IS w A n f) (hB : IS w B m g) (hn : (n : Int) ≤ 9223372036854775807) :
    Calls Try.prog 22 #[.slice A n c, .slice B m d] w fun e w' => e = .returned (.bool (cB (SameI n m f g))) ∧ Below w.heap.size w w' := eqr_cb (sameints A B n m c d (fun i _ => f i) (fun i _ => g i) w (is_row hA) (is_row hB) hn) Iff.rfl
/-- Two pools are the same. -/
def SD.Same (s t : SD) : Prop := SameI s.np t.np s.ph t.ph ∧ s.p = t.p ∧ s.n = t.n ∧ SameI s.nb t.nb s.bz t.bz ∧ s.d = t.d
theorem SD.Same.refl (s : SD) : s.Same s := ⟨⟨rfl, fun _ _ => rfl⟩, rfl, rfl, ⟨rfl, fun _ _ => rfl⟩, rfl⟩

set_option maxRecDepth 100000 in
set_option maxHeartbeats 4000000 in
theorem same_any (p q : SP) (s t : SD) (w : World) (h : SOk w p s) (k : SOk w q t) (hbd : s.Bd) :
    Calls Try.prog 21 #[.agg #[.slice p.a s.np p.ka, .int .i64 s.p, .int .i64 s.n, .slice p.b s.nb p.kb, .int .i64 s.d], .agg #[.slice q.a t.np q.ka, .int .i64 t.p, .int .i64 t.n, .slice q.b t.nb q.kb, .int .i64 t.d]] w fun e w' => e = .returned (.bool (cB (s.Same t))) ∧ Below w.heap.size w w' := by
  have h1 := Lib.hid (fun W (hb : Below w.heap.size w W) => sameints_cb p.a q.a s.np t.np p.ka q.ka s.ph t.ph W (h.1.below hb) (k.1.below hb) hbd.1)
  have h2 := Lib.hid (fun W (hb : Below w.heap.size w W) => sameints_cb p.b q.b s.nb t.nb p.kb q.kb s.bz t.bz W (h.2.below hb) (k.2.below hb) hbd.2)
  have HBx := Lib.hid (And.intro (show Below w.heap.size w ((w.alloc (.cells #[.slice p.a s.np p.ka, .int .i64 s.p, .int .i64 s.n, .slice p.b s.nb p.kb, .int .i64 s.d] 25)).alloc (.cells #[.slice q.a t.np q.ka, .int .i64 t.p, .int .i64 t.n, .slice q.b t.nb q.kb, .int .i64 t.d] 25)) by repeat' (first | exact Below.refl _ _ | assumption | apply Below.drew | refine Below.setCell ?_ (by first | omega | (simp; done) | (simp; omega)) _ | refine Below.alloc ?_ (by first | omega | (simp; done) | (simp; omega)) _)) (And.intro ((hasBlk_new w 25 #[.slice p.a s.np p.ka, .int .i64 s.p, .int .i64 s.n, .slice p.b s.nb p.kb, .int .i64 s.d]).alloc (.cells #[.slice q.a t.np q.ka, .int .i64 t.p, .int .i64 t.n, .slice q.b t.nb q.kb, .int .i64 t.d] 25)) (show HasBlk ((w.alloc (.cells #[.slice p.a s.np p.ka, .int .i64 s.p, .int .i64 s.n, .slice p.b s.nb p.kb, .int .i64 s.d] 25)).alloc (.cells #[.slice q.a t.np q.ka, .int .i64 t.p, .int .i64 t.n, .slice q.b t.nb q.kb, .int .i64 t.d] 25)) (w.heap.size + 1) 25 #[.slice q.a t.np q.ka, .int .i64 t.p, .int .i64 t.n, .slice q.b t.nb q.kb, .int .i64 t.d] by simpa using hasBlk_new (w.alloc (.cells #[.slice p.a s.np p.ka, .int .i64 s.p, .int .i64 s.n, .slice p.b s.nb p.kb, .int .i64 s.d] 25)) 25 #[.slice q.a t.np q.ka, .int .i64 t.p, .int .i64 t.n, .slice q.b t.nb q.kb, .int .i64 t.d])))
  clear h k hbd
  go_enter Try.func21, Try.ntmps21
  go_wp2_with fail
  refine (h1.out _ HBx.out.1).mono ?_
  rintro e w1 ⟨rfl, bel1⟩
  have HB := Lib.hid (HBx.out.1.trans (bel1.mono HBx.out.1.size))
  have HP := Lib.hid (HBx.out.2.1.below bel1)
  have HQ := Lib.hid (HBx.out.2.2.below bel1)
  clear bel1
  have P_0 := HP.out.cell 0
  have P_1 := HP.out.cell 1
  have P_2 := HP.out.cell 2
  have P_3 := HP.out.cell 3
  have P_4 := HP.out.cell 4
  have Q_0 := HQ.out.cell 0
  have Q_1 := HQ.out.cell 1
  have Q_2 := HQ.out.cell 2
  have Q_3 := HQ.out.cell 3
  have Q_4 := HQ.out.cell 4
  simp at P_0 P_1 P_2 P_3 P_4 Q_0 Q_1 Q_2 Q_3 Q_4
  by_cases x0 : SameI s.np t.np s.ph t.ph
  rotate_left
  · have y0 := cB_no x0
    have Hn := Lib.hid x0
    clear x0
    go_wp2
    go_ret
    exact ⟨ret_bool (cB_no fun h => Hn.out h.1).symm, HB.out⟩
  have y0 := cB_yes x0
  have X0 := Lib.hid x0
  clear x0
  by_cases x1 : s.p = t.p
  rotate_left
  · have y1 : (s.p == t.p) = false := by simpa using x1
    have Hn := Lib.hid x1
    clear x1
    go_wp2
    go_ret
    exact ⟨ret_bool (cB_no fun h => Hn.out h.2.1).symm, HB.out⟩
  have y1 : (s.p == t.p) = true := by simpa using x1
  have X1 := Lib.hid x1
  clear x1
  by_cases x2 : s.n = t.n
  rotate_left
  · have y2 : (s.n == t.n) = false := by simpa using x2
    have Hn := Lib.hid x2
    clear x2
    go_wp2
    go_ret
    exact ⟨ret_bool (cB_no fun h => Hn.out h.2.2.1).symm, HB.out⟩
  have y2 : (s.n == t.n) = true := by simpa using x2
  have X2 := Lib.hid x2
  clear x2
  go_wp2_with fail
  refine (h2.out _ HB.out).mono ?_
  rintro e w2 ⟨rfl, bel2⟩
  clear P_0 P_1 P_2 P_3 P_4 Q_0 Q_1 Q_2 Q_3 Q_4
  have HP2 := Lib.hid (HP.out.below bel2)
  have HQ2 := Lib.hid (HQ.out.below bel2)
  have HB2 := Lib.hid (HB.out.trans (bel2.mono HB.out.size))
  clear bel2 HP HQ HB
  have P_0 := HP2.out.cell 0
  have P_1 := HP2.out.cell 1
  have P_2 := HP2.out.cell 2
  have P_3 := HP2.out.cell 3
  have P_4 := HP2.out.cell 4
  have Q_0 := HQ2.out.cell 0
  have Q_1 := HQ2.out.cell 1
  have Q_2 := HQ2.out.cell 2
  have Q_3 := HQ2.out.cell 3
  have Q_4 := HQ2.out.cell 4
  simp at P_0 P_1 P_2 P_3 P_4 Q_0 Q_1 Q_2 Q_3 Q_4
  by_cases x3 : SameI s.nb t.nb s.bz t.bz
  rotate_left
  · have y3 := cB_no x3
    have Hn := Lib.hid x3
    clear x3
    go_wp2
    go_ret
    exact ⟨ret_bool (cB_no fun h => Hn.out h.2.2.2.1).symm, HB2.out⟩
  have y3 := cB_yes x3
  have X3 := Lib.hid x3
  clear x3
  by_cases x4 : s.d = t.d
  rotate_left
  · have y4 : (s.d == t.d) = false := by simpa using x4
    have Hn := Lib.hid x4
    clear x4
    go_wp2
    go_ret
    exact ⟨ret_bool (cB_no fun h => Hn.out h.2.2.2.2).symm, HB2.out⟩
  have y4 : (s.d == t.d) = true := by simpa using x4
  have X4 := Lib.hid x4
  clear x4
  go_wp2
  go_ret
  exact ⟨ret_bool (cB_yes ⟨X0.out, X1.out, X2.out, X3.out, X4.out⟩).symm, HB2.out⟩

def SD.Great (s : SD) : Prop := 100 < s.np ∨ 200 < s.nb
set_option maxRecDepth 100000 in
set_option maxHeartbeats 1000000 in
theorem great_any (p : SP) (s : SD) (w : World) : Calls Try.prog 14 #[.agg #[.slice p.a s.np p.ka, .int .i64 s.p, .int .i64 s.n, .slice p.b s.nb p.kb, .int .i64 s.d]] w fun e w' => e = .returned (.bool (cB s.Great)) ∧ Below w.heap.size w w' := by
  by_cases h0 : (100 : Int) < (s.np : Int)
  · have g0 : decide ((100 : Int) < (s.np : Int)) = true := decide_eq_true h0
    rw [cB_yes (show s.Great from .inl (by omega))]
    clear h0
    go_enter Try.func14, Try.ntmps14
    go_wp2
    go_ret
    exact ⟨rfl, (Below.refl _ _).alloc (Nat.le_refl _) _⟩
  have g0 : decide ((100 : Int) < (s.np : Int)) = false := decide_eq_false h0
  by_cases h1 : (200 : Int) < (s.nb : Int)
  · have g1 : decide ((200 : Int) < (s.nb : Int)) = true := decide_eq_true h1
    rw [cB_yes (show s.Great from .inr (by omega))]
    clear h0 h1
    go_enter Try.func14, Try.ntmps14
    go_wp2
    go_ret
    exact ⟨rfl, (Below.refl _ _).alloc (Nat.le_refl _) _⟩
  · have g1 : decide ((200 : Int) < (s.nb : Int)) = false := decide_eq_false h1
    rw [cB_no (show ¬ s.Great from fun h => by rcases h with h | h <;> omega)]
    clear h0 h1
    go_enter Try.func14, Try.ntmps14
    go_wp2
    go_ret
    exact ⟨rfl, (Below.refl _ _).alloc (Nat.le_refl _) _⟩
theorem ret_be {a b : Bool} {c d : Int} (h : a = b) (k : c = d) : Ending.returned (.tuple #[.bool a, .int .i64 c]) = .returned (.tuple #[.bool b, .int .i64 d]) := by rw [h, k]
/-- What Ended answers. -/
noncomputable def endB (s : SD) : Bool := cB (s.May ∧ s.p = s.np)

set_option maxRecDepth 100000 in
set_option maxHeartbeats 2000000 in
theorem ended_any (p : SP) (s : SD) (w : World) (h : SOk w p s) :
    Calls Try.prog 12 #[.agg #[.slice p.a s.np p.ka, .int .i64 s.p, .int .i64 s.n, .slice p.b s.nb p.kb, .int .i64 s.d]] w fun e w' => e = .returned (.tuple #[.bool (endB s), .int .i64 (mayv s)]) ∧ Below w.heap.size w w' := by
  have hc := Lib.hid (fun W (hb : Below w.heap.size w W) => check_any p s W (h.below hb))
  have HBx := Lib.hid (And.intro (show Below w.heap.size w (w.alloc (.cells #[.slice p.a s.np p.ka, .int .i64 s.p, .int .i64 s.n, .slice p.b s.nb p.kb, .int .i64 s.d] 25)) by repeat' (first | exact Below.refl _ _ | assumption | apply Below.drew | refine Below.setCell ?_ (by first | omega | (simp; done) | (simp; omega)) _ | refine Below.alloc ?_ (by first | omega | (simp; done) | (simp; omega)) _)) (hasBlk_new w 25 #[.slice p.a s.np p.ka, .int .i64 s.p, .int .i64 s.n, .slice p.b s.nb p.kb, .int .i64 s.d]))
  clear h
  go_enter Try.func12, Try.ntmps12
  go_wp2_with fail
  refine (hc.out _ HBx.out.1).mono ?_
  rintro e w1 ⟨rfl, bel1⟩
  have HB := Lib.hid (HBx.out.1.trans (bel1.mono HBx.out.1.size))
  have HP := Lib.hid (HBx.out.2.below bel1)
  have P_0 := HP.out.cell 0
  have P_1 := HP.out.cell 1
  have P_2 := HP.out.cell 2
  have P_3 := HP.out.cell 3
  have P_4 := HP.out.cell 4
  simp at P_0 P_1 P_2 P_3 P_4
  clear bel1 hc
  by_cases hm : s.May
  rotate_left
  · have Hm := Lib.hid hm
    rw [mayv_no hm]
    have He : Hid (endB s = false) := Lib.hid (cB_no fun h => hm h.1)
    clear hm
    go_wp2
    go_ret2
    exact ⟨ret_be He.out.symm (mayv_no Hm.out).symm, HB.out⟩
  have Hm := Lib.hid hm
  rw [mayv_yes hm]
  clear hm
  go_wp2_with fail
  refine (over_any p s _).mono ?_
  rintro e w2 ⟨rfl, bel2⟩
  have HB2 := Lib.hid (HB.out.trans (bel2.mono HB.out.size))
  clear bel2 P_0 P_1 P_2 P_3 P_4
  go_wp2
  go_ret2
  exact ⟨ret_be (cB_eq (ovB_true.trans ⟨fun h => ⟨Hm.out, h⟩, fun h => h.2⟩)) (mayv_yes Hm.out).symm, HB2.out⟩

set_option maxRecDepth 100000 in
set_option maxHeartbeats 2000000 in
theorem refended_any (p : SP) (s : SD) (w : World) (h : SOk w p s) :
    Calls Try.prog 19 #[.agg #[.slice p.a s.np p.ka, .int .i64 s.p, .int .i64 s.n, .slice p.b s.nb p.kb, .int .i64 s.d]] w fun e w' => e = .returned (.tuple #[.bool (endB s), .int .i64 (mayv s)]) ∧ Below w.heap.size w w' := by
  have hc := Lib.hid (fun W (hb : Below w.heap.size w W) => refcheck_any p s W (h.below hb))
  have HBx := Lib.hid (And.intro (show Below w.heap.size w (w.alloc (.cells #[.slice p.a s.np p.ka, .int .i64 s.p, .int .i64 s.n, .slice p.b s.nb p.kb, .int .i64 s.d] 25)) by repeat' (first | exact Below.refl _ _ | assumption | apply Below.drew | refine Below.setCell ?_ (by first | omega | (simp; done) | (simp; omega)) _ | refine Below.alloc ?_ (by first | omega | (simp; done) | (simp; omega)) _)) (hasBlk_new w 25 #[.slice p.a s.np p.ka, .int .i64 s.p, .int .i64 s.n, .slice p.b s.nb p.kb, .int .i64 s.d]))
  clear h
  go_enter Try.func19, Try.ntmps19
  go_wp2_with fail
  refine (hc.out _ HBx.out.1).mono ?_
  rintro e w1 ⟨rfl, bel1⟩
  have HB := Lib.hid (HBx.out.1.trans (bel1.mono HBx.out.1.size))
  have HP := Lib.hid (HBx.out.2.below bel1)
  have P_0 := HP.out.cell 0
  have P_1 := HP.out.cell 1
  have P_2 := HP.out.cell 2
  have P_3 := HP.out.cell 3
  have P_4 := HP.out.cell 4
  simp at P_0 P_1 P_2 P_3 P_4
  clear bel1 hc
  by_cases hm : s.May
  rotate_left
  · have Hm := Lib.hid hm
    rw [mayv_no hm]
    have He : Hid (endB s = false) := Lib.hid (cB_no fun h => hm h.1)
    clear hm
    go_wp2
    go_ret2
    exact ⟨ret_be He.out.symm (mayv_no Hm.out).symm, HB.out⟩
  have Hm := Lib.hid hm
  rw [mayv_yes hm]
  clear hm
  cases hs : ovB s with
  | true =>
    have y : (s.p == (s.np : Int)) = true := hs
    have Hs := Lib.hid hs
    clear hs
    go_wp2
    go_ret2
    exact ⟨ret_be (cB_yes ⟨Hm.out, ovB_true.1 Hs.out⟩).symm (mayv_yes Hm.out).symm, HB.out⟩
  | false =>
    have y : (s.p == (s.np : Int)) = false := hs
    have Hs := Lib.hid hs
    clear hs
    go_wp2
    go_ret2
    exact ⟨ret_be (cB_no fun h => by have := Hs.out; rw [ovB_true.2 h.2] at this; cases this).symm (mayv_yes Hm.out).symm, HB.out⟩
end Go.Proofs.Ytdilfcpgjkkjmaa
