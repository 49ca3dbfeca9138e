/- sched: maps of ints; Check. -/
import Derived.Test.YtdilfcpgjkkjmaaS3
import Derived.Maps.Own
import Derived.Maps.OwnOps
import Derived.Maps.OwnSet
namespace Go.Proofs.Ytdilfcpgjkkjmaa
open Go.RowKit Go.Maps
set_option linter.unusedVariables false
/-- Block b is a map of at most n entries; f tells what is asked of it. -/
def MapI (w : World) (b n : Nat) (f : Int → Int) : Prop :=
  ∃ D : DataW Unit, w.ownsMap Try.prog 3 (plainElem Try.prog 3) b n D ∧ ∀ x, (Lit.int .i64 x).wf = true → D.atKey (.int .i64 x) (.lit (.int .i64 0)) = .lit (.int .i64 (f x))
def updI (f : Int → Int) (a y : Int) : Int → Int := fun x => if x = a then y else f x
theorem keyedI : Keyed Try.prog 3 := int_keyed Try.underlying3
theorem mapI_made (w : World) : MapI (w.alloc (.map #[] 0)) w.heap.size 0 (fun _ => 0) := ⟨.map [], World.ownsMap_made w _ _ _, fun x _ => rfl⟩
theorem zeroI (w : World) : (zeroValue 3).run Try.prog w = .ok (.int .i64 0) w := by kernel_rfl
section
variable {w w' : World} {b n : Nat} {f : Int → Int}
theorem MapI.look (h : MapI w b n f) {x : Int} (hx : (Lit.int .i64 x).wf = true) : (Instr.lookup 70 (.map (some b)) (.int .i64 x) false).run Try.prog w = .ok (.int .i64 (f x)) w := by
  obtain ⟨D, ho, hf⟩ := h
  obtain ⟨c, hrun, hat, _⟩ := ho.lookup_int keyedI Try.underlying70 Try.underlying3 (zeroI w) (keyOf_int_mk Try.underlying3 hx)
  rw [hf x hx] at hat
  injection hat with hat
  injection hat with _ hat
  rw [hrun, hat]
theorem MapI.upd (h : MapI w b n f) (hn : n < maxLen) {x y : Int} (hx : (Lit.int .i64 x).wf = true) (hy : (Lit.int .i64 y).wf = true) :
    ∃ w', (Instr.mapUpdate 70 (.map (some b)) (.int .i64 x) (.int .i64 y)).run Try.prog w = .ok () w' ∧ MapI w' b (n + 1) (updI f x y) ∧ w.grownBy w' (some b) := by
  obtain ⟨D, ho, hf⟩ := h
  obtain ⟨w', hrun, ho', hg⟩ := ho.update keyedI Try.underlying70 hn (keyOf_int_mk Try.underlying3 hx) (plainElem_int Try.underlying3 hy)
  refine ⟨w', hrun, ⟨_, ho', fun z hz => ?_⟩, hg⟩
  unfold updI
  by_cases e : z = x
  · subst e
    rw [if_pos rfl]
    exact Maps.atKey_put_same ho.isMap (keyedI.key (keyOf_int_mk Try.underlying3 hz)) _ _
  · rw [if_neg e, Maps.atKey_put_other (fun h => e (by injection h))]
    exact hf z hz
theorem MapI.kept (h : MapI w b n f) {row : Option Nat} (hg : w.grownBy w' row) (hne : some b ≠ row) : MapI w' b n f := by
  obtain ⟨D, ho, hf⟩ := h
  exact ⟨D, ho.kept hg hne, hf⟩
theorem MapI.below (h : MapI w b n f) (hb : Below w.heap.size w w') : MapI w' b n f := h.kept (grown_of_below hb) (by simp)
theorem MapI.lt (h : MapI w b n f) : b < w.heap.size := by
  obtain ⟨D, ho, _⟩ := h
  exact ho.lt
theorem MapI.ne_blk (h : MapI w b n f) {g : Nat} {t : TypeId} {cs : Array Value} (hg : HasBlk w g t cs) : b ≠ g := by
  obtain ⟨D, ⟨es, clock, hb, _⟩, _⟩ := h
  rintro rfl
  have hg' : w.heap[b]? = some (.cells cs t (0, 0)) := hg
  rw [hg'] at hb
  cases hb
end
/-- What was seen. -/
def seenF (b : Nat → Int) : Nat → Int → Int
  | 0 => fun _ => 0
  | k + 1 => updI (seenF b k) (b k) 1
theorem seenF_pos (b : Nat → Int) : ∀ k x, 0 < seenF b k x ↔ ∃ i, i < k ∧ b i = x
  | 0, x => by simp [seenF]
  | k + 1, x => by
    show 0 < updI (seenF b k) (b k) 1 x ↔ _
    unfold updI
    by_cases e : x = b k
    · rw [if_pos e]
      exact ⟨fun _ => ⟨k, by omega, e.symm⟩, fun _ => by decide⟩
    · rw [if_neg e, seenF_pos b k x]
      constructor
      · rintro ⟨i, h, h'⟩; exact ⟨i, by omega, h'⟩
      · rintro ⟨i, h, h'⟩
        refine ⟨i, ?_, h'⟩
        rcases Nat.lt_or_ge i k with q | q
        · exact q
        · obtain rfl : i = k := by omega
          exact absurd h'.symm e
open Classical in
noncomputable def mayv (s : SD) : Int := if s.May then 0 else 8
theorem mayv_yes {s : SD} (h : s.May) : mayv s = 0 := if_pos h
theorem mayv_no {s : SD} (h : ¬ s.May) : mayv s = 8 := if_neg h
theorem mayv_spec (s : SD) : MayV s (mayv s) := by
  by_cases h : s.May
  · exact .inl ⟨h, mayv_yes h⟩
  · exact .inr ⟨h, mayv_no h⟩
theorem mayv_zero {s : SD} : mayv s = 0 ↔ s.May := ⟨fun h => Classical.byContradiction fun hn => (by rw [mayv_no hn] at h; cases h), mayv_yes⟩
/-- The first tests. -/
def SD.Pre (s : SD) : Prop := SPh s.np s.ph ∧ (1 ≤ s.nb ∧ s.nb ≤ 64) ∧ (0 ≤ s.p ∧ s.p ≤ s.np) ∧ (0 ≤ s.n ∧ s.n ≤ s.tasks)

set_option maxRecDepth 100000 in
set_option maxHeartbeats 8000000 in
theorem check_any (p : SP) (s : SD) (w : World) (h : SOk w p s) :
    Calls Try.prog 13 #[.agg #[.slice p.a s.np p.ka, .int .i64 s.p, .int .i64 s.n, .slice p.b s.nb p.kb, .int .i64 s.d]] w fun e w' => e = .returned (.int .i64 (mayv s)) ∧ Below w.heap.size w w' := by
  have HS := Lib.hid h
  have HBX := Lib.hid (And.intro (show Below w.heap.size w ((w.alloc (.cells #[.slice p.a s.np p.ka, .int .i64 s.p, .int .i64 s.n, .slice p.b s.nb p.kb, .int .i64 s.d] 25)).alloc (.cells #[.slice p.a s.np p.ka, .int .i64 s.p, .int .i64 s.n, .slice p.b s.nb p.kb, .int .i64 s.d] 63)) by repeat' (first | exact Below.refl _ _ | assumption | apply Below.drew | refine Below.setCell ?_ (by first | omega | (simp; done) | (simp; omega)) _ | refine Below.alloc ?_ (by first | omega | (simp; done) | (simp; omega)) _)) (show HasBlk ((w.alloc (.cells #[.slice p.a s.np p.ka, .int .i64 s.p, .int .i64 s.n, .slice p.b s.nb p.kb, .int .i64 s.d] 25)).alloc (.cells #[.slice p.a s.np p.ka, .int .i64 s.p, .int .i64 s.n, .slice p.b s.nb p.kb, .int .i64 s.d] 63)) (w.heap.size + 1) 63 #[.slice p.a s.np p.ka, .int .i64 s.p, .int .i64 s.n, .slice p.b s.nb p.kb, .int .i64 s.d] by simpa using hasBlk_new (w.alloc (.cells #[.slice p.a s.np p.ka, .int .i64 s.p, .int .i64 s.n, .slice p.b s.nb p.kb, .int .i64 s.d] 25)) 63 #[.slice p.a s.np p.ka, .int .i64 s.p, .int .i64 s.n, .slice p.b s.nb p.kb, .int .i64 s.d]))
  clear h
  by_cases h0 : phv s.np s.ph ≠ 0
  · have g0 : (phv s.np s.ph != 0) = true := by simpa using h0
    have Hn := Lib.hid (show ¬ s.May from fun h => h0 (phv_ok h.1))
    clear h0
    go_enter Try.func13, Try.ntmps13
    go_upto_region 2 with fail
    generalize ((w.alloc (.cells #[.slice p.a s.np p.ka, .int .i64 s.p, .int .i64 s.n, .slice p.b s.nb p.kb, .int .i64 s.d] 25)).alloc (.cells #[.slice p.a s.np p.ka, .int .i64 s.p, .int .i64 s.n, .slice p.b s.nb p.kb, .int .i64 s.d] 63)) = v at *
    have HI := Lib.hid (HS.out.below HBX.out.1)
    have hQ := HBX.out.2
    have ltQ := hQ.lt
    have q0 := hQ.cell 0
    have q1 := hQ.cell 1
    have q2 := hQ.cell 2
    have q3 := hQ.cell 3
    have q4 := hQ.cell 4
    simp at q0 q1 q2 q3 q4
    have r0 := fun b : BW v => BW.cell q0 ltQ b
    have r1 := fun b : BW v => BW.cell q1 ltQ b
    have r2 := fun b : BW v => BW.cell q2 ltQ b
    have r3 := fun b : BW v => BW.cell q3 ltQ b
    have r4 := fun b : BW v => BW.cell q4 ltQ b
    have KP := Lib.hid (fun b : BW v => BW.call (fun W' (h : Below v.heap.size v W') => phased_any p.a s.np p.ka s.ph W' (HI.out.1.below h)) b)
    clear q0 q1 q2 q3 q4 hQ
    refine wp_region_quiet_bw (by kernel_rfl) (by kernel_rfl) ?_
    repeat (go_big_quiet_step ((first | (go_at_call 24; with_reducible exact KP.out _))))
    refine wpQuiet_nil ?_
    intro _ hw'
    obtain ⟨pq, hw''⟩ := hw'
    subst hw''
    have HBQ := Lib.hid (HBX.out.1.trans (pq.h.mono HBX.out.1.size))
    have HQ1 := Lib.hid (HBX.out.2.below pq.h)
    generalize pq.W = w1 at *
    clear pq KP r0 r1 r2 r3 r4
    go_wp2
    go_ret
    exact ⟨ret_int (mayv_no Hn.out).symm, HBQ.out⟩
  have g0 : (phv s.np s.ph != 0) = false := by simpa using h0
  by_cases h1 : (s.nb : Int) < 1
  · have g1 : decide ((s.nb : Int) < 1) = true := decide_eq_true h1
    have Hn := Lib.hid (show ¬ s.May from fun h => by have := h.2.1; omega)
    clear h0 h1
    go_enter Try.func13, Try.ntmps13
    go_upto_region 2 with fail
    generalize ((w.alloc (.cells #[.slice p.a s.np p.ka, .int .i64 s.p, .int .i64 s.n, .slice p.b s.nb p.kb, .int .i64 s.d] 25)).alloc (.cells #[.slice p.a s.np p.ka, .int .i64 s.p, .int .i64 s.n, .slice p.b s.nb p.kb, .int .i64 s.d] 63)) = v at *
    have HI := Lib.hid (HS.out.below HBX.out.1)
    have hQ := HBX.out.2
    have ltQ := hQ.lt
    have q0 := hQ.cell 0
    have q1 := hQ.cell 1
    have q2 := hQ.cell 2
    have q3 := hQ.cell 3
    have q4 := hQ.cell 4
    simp at q0 q1 q2 q3 q4
    have r0 := fun b : BW v => BW.cell q0 ltQ b
    have r1 := fun b : BW v => BW.cell q1 ltQ b
    have r2 := fun b : BW v => BW.cell q2 ltQ b
    have r3 := fun b : BW v => BW.cell q3 ltQ b
    have r4 := fun b : BW v => BW.cell q4 ltQ b
    have KP := Lib.hid (fun b : BW v => BW.call (fun W' (h : Below v.heap.size v W') => phased_any p.a s.np p.ka s.ph W' (HI.out.1.below h)) b)
    clear q0 q1 q2 q3 q4 hQ
    refine wp_region_quiet_bw (by kernel_rfl) (by kernel_rfl) ?_
    repeat (go_big_quiet_step ((first | (go_at_call 24; with_reducible exact KP.out _))))
    refine wpQuiet_nil ?_
    intro _ hw'
    obtain ⟨pq, hw''⟩ := hw'
    subst hw''
    have HBQ := Lib.hid (HBX.out.1.trans (pq.h.mono HBX.out.1.size))
    have HQ1 := Lib.hid (HBX.out.2.below pq.h)
    generalize pq.W = w1 at *
    clear pq KP r0 r1 r2 r3 r4
    go_wp2
    go_ret
    exact ⟨ret_int (mayv_no Hn.out).symm, HBQ.out⟩
  have g1 : decide ((s.nb : Int) < 1) = false := decide_eq_false h1
  by_cases h2 : (64 : Int) < (s.nb : Int)
  · have g2 : decide ((64 : Int) < (s.nb : Int)) = true := decide_eq_true h2
    have Hn := Lib.hid (show ¬ s.May from fun h => by have := h.2.1; omega)
    clear h0 h1 h2
    go_enter Try.func13, Try.ntmps13
    go_upto_region 2 with fail
    generalize ((w.alloc (.cells #[.slice p.a s.np p.ka, .int .i64 s.p, .int .i64 s.n, .slice p.b s.nb p.kb, .int .i64 s.d] 25)).alloc (.cells #[.slice p.a s.np p.ka, .int .i64 s.p, .int .i64 s.n, .slice p.b s.nb p.kb, .int .i64 s.d] 63)) = v at *
    have HI := Lib.hid (HS.out.below HBX.out.1)
    have hQ := HBX.out.2
    have ltQ := hQ.lt
    have q0 := hQ.cell 0
    have q1 := hQ.cell 1
    have q2 := hQ.cell 2
    have q3 := hQ.cell 3
    have q4 := hQ.cell 4
    simp at q0 q1 q2 q3 q4
    have r0 := fun b : BW v => BW.cell q0 ltQ b
    have r1 := fun b : BW v => BW.cell q1 ltQ b
    have r2 := fun b : BW v => BW.cell q2 ltQ b
    have r3 := fun b : BW v => BW.cell q3 ltQ b
    have r4 := fun b : BW v => BW.cell q4 ltQ b
    have KP := Lib.hid (fun b : BW v => BW.call (fun W' (h : Below v.heap.size v W') => phased_any p.a s.np p.ka s.ph W' (HI.out.1.below h)) b)
    clear q0 q1 q2 q3 q4 hQ
    refine wp_region_quiet_bw (by kernel_rfl) (by kernel_rfl) ?_
    repeat (go_big_quiet_step ((first | (go_at_call 24; with_reducible exact KP.out _))))
    refine wpQuiet_nil ?_
    intro _ hw'
    obtain ⟨pq, hw''⟩ := hw'
    subst hw''
    have HBQ := Lib.hid (HBX.out.1.trans (pq.h.mono HBX.out.1.size))
    have HQ1 := Lib.hid (HBX.out.2.below pq.h)
    generalize pq.W = w1 at *
    clear pq KP r0 r1 r2 r3 r4
    go_wp2
    go_ret
    exact ⟨ret_int (mayv_no Hn.out).symm, HBQ.out⟩
  have g2 : decide ((64 : Int) < (s.nb : Int)) = false := decide_eq_false h2
  by_cases h3 : s.p < 0
  · have g3 : decide (s.p < 0) = true := decide_eq_true h3
    have Hn := Lib.hid (show ¬ s.May from fun h => by have := h.2.2.1; omega)
    clear h0 h1 h2 h3
    go_enter Try.func13, Try.ntmps13
    go_upto_region 2 with fail
    generalize ((w.alloc (.cells #[.slice p.a s.np p.ka, .int .i64 s.p, .int .i64 s.n, .slice p.b s.nb p.kb, .int .i64 s.d] 25)).alloc (.cells #[.slice p.a s.np p.ka, .int .i64 s.p, .int .i64 s.n, .slice p.b s.nb p.kb, .int .i64 s.d] 63)) = v at *
    have HI := Lib.hid (HS.out.below HBX.out.1)
    have hQ := HBX.out.2
    have ltQ := hQ.lt
    have q0 := hQ.cell 0
    have q1 := hQ.cell 1
    have q2 := hQ.cell 2
    have q3 := hQ.cell 3
    have q4 := hQ.cell 4
    simp at q0 q1 q2 q3 q4
    have r0 := fun b : BW v => BW.cell q0 ltQ b
    have r1 := fun b : BW v => BW.cell q1 ltQ b
    have r2 := fun b : BW v => BW.cell q2 ltQ b
    have r3 := fun b : BW v => BW.cell q3 ltQ b
    have r4 := fun b : BW v => BW.cell q4 ltQ b
    have KP := Lib.hid (fun b : BW v => BW.call (fun W' (h : Below v.heap.size v W') => phased_any p.a s.np p.ka s.ph W' (HI.out.1.below h)) b)
    clear q0 q1 q2 q3 q4 hQ
    refine wp_region_quiet_bw (by kernel_rfl) (by kernel_rfl) ?_
    repeat (go_big_quiet_step ((first | (go_at_call 24; with_reducible exact KP.out _))))
    refine wpQuiet_nil ?_
    intro _ hw'
    obtain ⟨pq, hw''⟩ := hw'
    subst hw''
    have HBQ := Lib.hid (HBX.out.1.trans (pq.h.mono HBX.out.1.size))
    have HQ1 := Lib.hid (HBX.out.2.below pq.h)
    generalize pq.W = w1 at *
    clear pq KP r0 r1 r2 r3 r4
    go_wp2
    go_ret
    exact ⟨ret_int (mayv_no Hn.out).symm, HBQ.out⟩
  have g3 : decide (s.p < 0) = false := decide_eq_false h3
  by_cases h4 : (s.np : Int) < s.p
  · have g4 : decide ((s.np : Int) < s.p) = true := decide_eq_true h4
    have Hn := Lib.hid (show ¬ s.May from fun h => by have := h.2.2.1; omega)
    clear h0 h1 h2 h3 h4
    go_enter Try.func13, Try.ntmps13
    go_upto_region 2 with fail
    generalize ((w.alloc (.cells #[.slice p.a s.np p.ka, .int .i64 s.p, .int .i64 s.n, .slice p.b s.nb p.kb, .int .i64 s.d] 25)).alloc (.cells #[.slice p.a s.np p.ka, .int .i64 s.p, .int .i64 s.n, .slice p.b s.nb p.kb, .int .i64 s.d] 63)) = v at *
    have HI := Lib.hid (HS.out.below HBX.out.1)
    have hQ := HBX.out.2
    have ltQ := hQ.lt
    have q0 := hQ.cell 0
    have q1 := hQ.cell 1
    have q2 := hQ.cell 2
    have q3 := hQ.cell 3
    have q4 := hQ.cell 4
    simp at q0 q1 q2 q3 q4
    have r0 := fun b : BW v => BW.cell q0 ltQ b
    have r1 := fun b : BW v => BW.cell q1 ltQ b
    have r2 := fun b : BW v => BW.cell q2 ltQ b
    have r3 := fun b : BW v => BW.cell q3 ltQ b
    have r4 := fun b : BW v => BW.cell q4 ltQ b
    have KP := Lib.hid (fun b : BW v => BW.call (fun W' (h : Below v.heap.size v W') => phased_any p.a s.np p.ka s.ph W' (HI.out.1.below h)) b)
    clear q0 q1 q2 q3 q4 hQ
    refine wp_region_quiet_bw (by kernel_rfl) (by kernel_rfl) ?_
    repeat (go_big_quiet_step ((first | (go_at_call 24; with_reducible exact KP.out _))))
    refine wpQuiet_nil ?_
    intro _ hw'
    obtain ⟨pq, hw''⟩ := hw'
    subst hw''
    have HBQ := Lib.hid (HBX.out.1.trans (pq.h.mono HBX.out.1.size))
    have HQ1 := Lib.hid (HBX.out.2.below pq.h)
    generalize pq.W = w1 at *
    clear pq KP r0 r1 r2 r3 r4
    go_wp2
    go_ret
    exact ⟨ret_int (mayv_no Hn.out).symm, HBQ.out⟩
  have g4 : decide ((s.np : Int) < s.p) = false := decide_eq_false h4
  by_cases h5 : s.n < 0
  · have g5 : decide (s.n < 0) = true := decide_eq_true h5
    have Hn := Lib.hid (show ¬ s.May from fun h => by have := h.2.2.2.1; omega)
    clear h0 h1 h2 h3 h4 h5
    go_enter Try.func13, Try.ntmps13
    go_upto_region 2 with fail
    generalize ((w.alloc (.cells #[.slice p.a s.np p.ka, .int .i64 s.p, .int .i64 s.n, .slice p.b s.nb p.kb, .int .i64 s.d] 25)).alloc (.cells #[.slice p.a s.np p.ka, .int .i64 s.p, .int .i64 s.n, .slice p.b s.nb p.kb, .int .i64 s.d] 63)) = v at *
    have HI := Lib.hid (HS.out.below HBX.out.1)
    have hQ := HBX.out.2
    have ltQ := hQ.lt
    have q0 := hQ.cell 0
    have q1 := hQ.cell 1
    have q2 := hQ.cell 2
    have q3 := hQ.cell 3
    have q4 := hQ.cell 4
    simp at q0 q1 q2 q3 q4
    have r0 := fun b : BW v => BW.cell q0 ltQ b
    have r1 := fun b : BW v => BW.cell q1 ltQ b
    have r2 := fun b : BW v => BW.cell q2 ltQ b
    have r3 := fun b : BW v => BW.cell q3 ltQ b
    have r4 := fun b : BW v => BW.cell q4 ltQ b
    have KP := Lib.hid (fun b : BW v => BW.call (fun W' (h : Below v.heap.size v W') => phased_any p.a s.np p.ka s.ph W' (HI.out.1.below h)) b)
    clear q0 q1 q2 q3 q4 hQ
    refine wp_region_quiet_bw (by kernel_rfl) (by kernel_rfl) ?_
    repeat (go_big_quiet_step ((first | (go_at_call 24; with_reducible exact KP.out _))))
    refine wpQuiet_nil ?_
    intro _ hw'
    obtain ⟨pq, hw''⟩ := hw'
    subst hw''
    have HBQ := Lib.hid (HBX.out.1.trans (pq.h.mono HBX.out.1.size))
    have HQ1 := Lib.hid (HBX.out.2.below pq.h)
    generalize pq.W = w1 at *
    clear pq KP r0 r1 r2 r3 r4
    go_wp2
    go_ret
    exact ⟨ret_int (mayv_no Hn.out).symm, HBQ.out⟩
  have g5 : decide (s.n < 0) = false := decide_eq_false h5
  by_cases h6 : s.tasks < s.n
  · have g6 : decide (s.tasks < s.n) = true := decide_eq_true h6
    have Hn := Lib.hid (show ¬ s.May from fun h => by have := h.2.2.2.1; omega)
    have hp0 : 0 ≤ s.p := by omega
    have hp1 : s.p ≤ s.np := by omega
    clear h0 h1 h2 h3 h4 h5 h6
    go_enter Try.func13, Try.ntmps13
    go_upto_region 2 with fail
    generalize ((w.alloc (.cells #[.slice p.a s.np p.ka, .int .i64 s.p, .int .i64 s.n, .slice p.b s.nb p.kb, .int .i64 s.d] 25)).alloc (.cells #[.slice p.a s.np p.ka, .int .i64 s.p, .int .i64 s.n, .slice p.b s.nb p.kb, .int .i64 s.d] 63)) = v at *
    have HI := Lib.hid (HS.out.below HBX.out.1)
    have hQ := HBX.out.2
    have ltQ := hQ.lt
    have q0 := hQ.cell 0
    have q1 := hQ.cell 1
    have q2 := hQ.cell 2
    have q3 := hQ.cell 3
    have q4 := hQ.cell 4
    simp at q0 q1 q2 q3 q4
    have r0 := fun b : BW v => BW.cell q0 ltQ b
    have r1 := fun b : BW v => BW.cell q1 ltQ b
    have r2 := fun b : BW v => BW.cell q2 ltQ b
    have r3 := fun b : BW v => BW.cell q3 ltQ b
    have r4 := fun b : BW v => BW.cell q4 ltQ b
    have KP := Lib.hid (fun b : BW v => BW.call (fun W' (h : Below v.heap.size v W') => phased_any p.a s.np p.ka s.ph W' (HI.out.1.below h)) b)
    have KT := Lib.hid (fun b : BW v => BW.call (fun W' (h : Below v.heap.size v W') => tasks_any p s W' (HI.out.1.below h) hp0 hp1) b)
    clear q0 q1 q2 q3 q4 hQ
    refine wp_region_quiet_bw (by kernel_rfl) (by kernel_rfl) ?_
    repeat (go_big_quiet_step ((first | (go_at_call 24; with_reducible exact KP.out _) | (go_at_call 30; with_reducible exact KT.out _))))
    refine wpQuiet_nil ?_
    intro _ hw'
    obtain ⟨pq, hw''⟩ := hw'
    subst hw''
    have HBQ := Lib.hid (HBX.out.1.trans (pq.h.mono HBX.out.1.size))
    have HQ1 := Lib.hid (HBX.out.2.below pq.h)
    generalize pq.W = w1 at *
    clear pq KP r0 r1 r2 r3 r4 KT
    go_wp2
    go_ret
    exact ⟨ret_int (mayv_no Hn.out).symm, HBQ.out⟩
  have g6 : decide (s.tasks < s.n) = false := decide_eq_false h6
  have hp0 : 0 ≤ s.p := by omega
  have hp1 : s.p ≤ s.np := by omega
  have HPre : Hid s.Pre := Lib.hid ⟨(phv_spec s.np s.ph).zero.1 (by simpa using h0), by omega, by omega, by omega⟩
  have hn0 : 0 ≤ s.n := by omega
  have hnt : s.n ≤ s.tasks := by omega
  have hnb : (s.nb : Int) ≤ 64 := by omega
  have ht64 : s.tasks ≤ 16384 := by
    have h1 := HPre.out.1.2
    by_cases e : s.p = s.np
    · rw [SD.tasks_over e]; omega
    · rw [SD.tasks_at e]; exact (h1 _ (by omega)).2
  clear h0 h1 h2 h3 h4 h5 h6
  have hmm := @run_makeMap Try.prog
  go_enter Try.func13, Try.ntmps13
  go_upto_region 2 with fail
  generalize ((w.alloc (.cells #[.slice p.a s.np p.ka, .int .i64 s.p, .int .i64 s.n, .slice p.b s.nb p.kb, .int .i64 s.d] 25)).alloc (.cells #[.slice p.a s.np p.ka, .int .i64 s.p, .int .i64 s.n, .slice p.b s.nb p.kb, .int .i64 s.d] 63)) = v at *
  have HI := Lib.hid (HS.out.below HBX.out.1)
  have hQ := HBX.out.2
  have ltQ := hQ.lt
  have q0 := hQ.cell 0
  have q1 := hQ.cell 1
  have q2 := hQ.cell 2
  have q3 := hQ.cell 3
  have q4 := hQ.cell 4
  simp at q0 q1 q2 q3 q4
  have r0 := fun b : BW v => BW.cell q0 ltQ b
  have r1 := fun b : BW v => BW.cell q1 ltQ b
  have r2 := fun b : BW v => BW.cell q2 ltQ b
  have r3 := fun b : BW v => BW.cell q3 ltQ b
  have r4 := fun b : BW v => BW.cell q4 ltQ b
  have KP := Lib.hid (fun b : BW v => BW.call (fun W' (h : Below v.heap.size v W') => phased_any p.a s.np p.ka s.ph W' (HI.out.1.below h)) b)
  have KT := Lib.hid (fun b : BW v => BW.call (fun W' (h : Below v.heap.size v W') => tasks_any p s W' (HI.out.1.below h) hp0 hp1) b)
  clear q0 q1 q2 q3 q4 hQ
  refine wp_region_quiet_bw (by kernel_rfl) (by kernel_rfl) ?_
  repeat (go_big_quiet_step ((first | (go_at_call 24; with_reducible exact KP.out _) | (go_at_call 30; with_reducible exact KT.out _))))
  refine wpQuiet_nil ?_
  intro _ hw'
  obtain ⟨pq, hw''⟩ := hw'
  subst hw''
  have HBQ := Lib.hid (HBX.out.1.trans (pq.h.mono HBX.out.1.size))
  have HQ1 := Lib.hid (HBX.out.2.below pq.h)
  generalize pq.W = w1 at *
  clear pq KP r0 r1 r2 r3 r4 KT
  clear g0 g1 g2 g3 g4 g5 g6
  have qb := HQ1.out
  have ltB := qb.lt
  have q3 := qb.cell 3
  simp at q3
  clear qb
  go_wp2_with fail
  clear q3 hmm ltB
  have HI1 := Lib.hid (HS.out.below HBQ.out)
  have m0 := mapI_made w1
  have HQ2 := Lib.hid (HQ1.out.alloc (.map #[] 0))
  have bq2 : Below w.heap.size w (w1.alloc (.map #[] 0)) := HBQ.out.alloc HBQ.out.size _
  have HQ3 := Lib.hid (And.intro m0 (And.intro HQ2.out bq2))
  have zw1 := HBQ.out.size
  clear m0 bq2 HQ1 HBQ HQ2
  go_loopw [63] (fun i wr => ∃ k : Nat, k ≤ s.nb ∧ i = .int .i64 k ∧ (∀ i, i < k → (-1 ≤ s.bz i ∧ s.bz i < s.n) ∧ ∀ j, j < i → 0 ≤ s.bz i → s.bz i ≠ s.bz j) ∧ MapI wr w1.heap.size k (seenF s.bz k) ∧ HasBlk wr (w.heap.size + 1) 63 #[.slice p.a s.np p.ka, .int .i64 s.p, .int .i64 s.n, .slice p.b s.nb p.kb, .int .i64 s.d] ∧ Below w.heap.size w wr) (fun i wr => s.nb - (intOf i).toNat)
  case atStart => exact ⟨0, Nat.zero_le _, rfl, fun i hi => absurd hi (by omega), HQ3.out.1, HQ3.out.2.1, HQ3.out.2.2⟩
  case round =>
    obtain ⟨k, hk, rfl, hall, hm, hq, hbel⟩ := hrel
    have Hall := Lib.hid hall
    have HM := Lib.hid hm
    have HQ := Lib.hid hq
    have HB := Lib.hid hbel
    have ltQ := hq.lt
    have q0 := hq.cell 0
    have q1 := hq.cell 1
    have q2 := hq.cell 2
    have q3 := hq.cell 3
    have q4 := hq.cell 4
    simp at q0 q1 q2 q3 q4
    have zb := hbel.size
    clear hall hm hq hbel
    by_cases hkn : k < s.nb
    · obtain ⟨g, o, hA, hg, hc⟩ := HS.out.2 (by omega)
      have c0 := (HB.out.cell (p := ⟨g, o + k, none⟩) hg).trans (hc k hkn)
      have HA := Lib.hid hA
      have hi0 : (0 : Int) ≤ (k : Int) := by omega
      have hi1 : (k : Int) < (s.nb : Int) := by omega
      clear hc hA hg
      rw [HA.out]
      by_cases h1 : s.bz k < -1
      · have g1 : decide (s.bz k < -1) = true := decide_eq_true h1
        have Hn := Lib.hid (show ¬ s.May from fun h => by have := (h.2.2.2.2.1.1 k hkn).1; omega)
        clear h1
        go_wp2
        go_ret
        exact ⟨ret_int (mayv_no Hn.out).symm, HB.out⟩
      have g1 : decide (s.bz k < -1) = false := decide_eq_false h1
      by_cases h2 : s.n ≤ s.bz k
      · have g2 : decide (s.n ≤ s.bz k) = true := decide_eq_true h2
        have Hn := Lib.hid (show ¬ s.May from fun h => by have := (h.2.2.2.2.1.1 k hkn).2; omega)
        clear h1 h2
        go_wp2
        go_ret
        exact ⟨ret_int (mayv_no Hn.out).symm, HB.out⟩
      have g2 : decide (s.n ≤ s.bz k) = false := decide_eq_false h2
      have hwf : (Lit.int .i64 (s.bz k)).wf = true := WalkArith.wf_i64 (by omega)
      obtain ⟨w2, hup, hm2, hgr⟩ := HM.out.upd (by unfold maxLen; omega) hwf (show (Lit.int .i64 1).wf = true by decide)
      have hlook := HM.out.look hwf
      have HX := Lib.hid (And.intro hm2 (And.intro (HQ.out.grown hgr (by have := HM.out.ne_blk HQ.out; simp; exact this)) (grown_Below hgr zw1 zb)))
      have HBd := Lib.hid (show -1 ≤ s.bz k ∧ s.bz k < s.n by omega)
      have HB2 := Lib.hid (HB.out.trans HX.out.2.2)
      clear hm2 hgr hwf
      by_cases h3 : 0 ≤ s.bz k
      · have g3 : decide (0 ≤ s.bz k) = true := decide_eq_true h3
        by_cases h4 : 0 < seenF s.bz k (s.bz k)
        · have g4 : decide (0 < seenF s.bz k (s.bz k)) = true := decide_eq_true h4
          have Hn := Lib.hid (show ¬ s.May from fun h => by
            obtain ⟨i, hi, he⟩ := (seenF_pos s.bz k _).1 h4
            exact h.2.2.2.2.1.2 k hkn i hi h3 he.symm)
          clear h1 h2 h3 h4 hup
          go_wp2
          go_ret
          exact ⟨ret_int (mayv_no Hn.out).symm, HB.out⟩
        · have g4 : decide (0 < seenF s.bz k (s.bz k)) = false := decide_eq_false h4
          have Hs := Lib.hid (fun i (hi : i < k) (he : s.bz i = s.bz k) => h4 ((seenF_pos s.bz k _).2 ⟨i, hi, he⟩))
          clear h1 h2 h3 h4
          go_wp2
          go_roundw
          case rel =>
            refine ⟨k + 1, by omega, by go_num, fun i hi => ?_, HX.out.1, (by have := HX.out.2.1; rw [HA.out] at this; exact this), HB2.out⟩
            rcases Nat.lt_or_ge i k with h | h
            · exact Hall.out i h
            · obtain rfl : i = k := by omega
              exact ⟨HBd.out, fun j hj _ he => Hs.out j hj he.symm⟩
          case measure => simp [intOf]; omega
      · have g3 : decide (0 ≤ s.bz k) = false := decide_eq_false h3
        have Hs := Lib.hid h3
        clear h1 h2 h3 hlook
        go_wp2
        go_roundw
        case rel =>
          refine ⟨k + 1, by omega, by go_num, fun i hi => ?_, HX.out.1, (by have := HX.out.2.1; rw [HA.out] at this; exact this), HB2.out⟩
          rcases Nat.lt_or_ge i k with h | h
          · exact Hall.out i h
          · obtain rfl : i = k := by omega
            exact ⟨HBd.out, fun j hj h0 => absurd h0 Hs.out⟩
        case measure => simp [intOf]; omega
    · obtain hkk : k = s.nb := by omega
      have Hkk := Lib.hid hkk
      clear hkk
      have HBusy : Hid s.busyOk := Lib.hid ⟨fun i hi => (Hall.out i (by have := Hkk.out; omega)).1, fun i hi j hj h0 => (Hall.out i (by have := Hkk.out; omega)).2 j hj h0⟩
      have HI := Lib.hid (HS.out.below HB.out)
      have hw := wk_le s.bz s.nb
      have hnb' : (s.nb : Int) ≤ 9223372036854775807 := by omega
      go_upto_region 12 with fail
      have r0 := fun b : BW wr => BW.cell q0 ltQ b
      have r1 := fun b : BW wr => BW.cell q1 ltQ b
      have r2 := fun b : BW wr => BW.cell q2 ltQ b
      have r3 := fun b : BW wr => BW.cell q3 ltQ b
      have r4 := fun b : BW wr => BW.cell q4 ltQ b
      clear q0 q1 q2 q3 q4
      have KW := Lib.hid (fun b : BW wr => BW.call (fun W' (h : Below wr.heap.size wr W') => working_any p s W' (HI.out.2.below h) hnb') b)
      have KT := Lib.hid (fun b : BW wr => BW.call (fun W' (h : Below wr.heap.size wr W') => tasks_any p s W' (HI.out.1.below h) hp0 hp1) b)
      have gw : IntKind.i64.wrap (s.n - wk s.bz s.nb) = s.n - wk s.bz s.nb := IntWalk.i64_in _ (by omega)
      by_cases h1 : s.d = s.n - wk s.bz s.nb
      rotate_left
      · have g1 : (s.d != s.n - wk s.bz s.nb) = true := by simpa using h1
        have Hn := Lib.hid (show ¬ s.May from fun h => h1 h.2.2.2.2.2.1)
        clear h1
        refine wp_region_quiet_bw (by kernel_rfl) (by kernel_rfl) ?_
        repeat (go_big_quiet_step ((first | (go_at_call 31; with_reducible exact KW.out _) | (go_at_call 30; with_reducible exact KT.out _))))
        refine wpQuiet_nil ?_
        intro _ hw'
        obtain ⟨pq, hw''⟩ := hw'
        subst hw''
        have HBQ := Lib.hid (HB.out.trans (pq.h.mono zb))
        generalize pq.W = w4 at *
        clear pq KW KT gw r0 r1 r2 r3 r4
        go_wp2
        go_ret
        exact ⟨ret_int (mayv_no Hn.out).symm, HBQ.out⟩
      have g1 : (s.d != s.n - wk s.bz s.nb) = false := by simpa using h1
      have HD := Lib.hid h1
      clear h1
      cases hov : ovB s with
      | true =>
        have KO := Lib.hid (fun b : BW wr => BW.call (fun W' (h : Below wr.heap.size wr W') => over_at p s hov W') b)
        have HM1 := Lib.hid (show s.May from ⟨HPre.out.1, HPre.out.2.1, HPre.out.2.2.1, HPre.out.2.2.2, HBusy.out, HD.out, .inl (ovB_true.1 hov)⟩)
        clear hov
        refine wp_region_quiet_bw (by kernel_rfl) (by kernel_rfl) ?_
        repeat (go_big_quiet_step ((first | (go_at_call 31; with_reducible exact KW.out _) | (go_at_call 32; with_reducible exact KO.out _) | (go_at_call 30; with_reducible exact KT.out _))))
        refine wpQuiet_nil ?_
        intro _ hw'
        obtain ⟨pq, hw''⟩ := hw'
        subst hw''
        have HBQ := Lib.hid (HB.out.trans (pq.h.mono zb))
        generalize pq.W = w4 at *
        clear pq KW KT KO gw r0 r1 r2 r3 r4
        go_wp2
        go_ret
        exact ⟨ret_int (mayv_yes HM1.out).symm, HBQ.out⟩
      | false =>
        have KO := Lib.hid (fun b : BW wr => BW.call (fun W' (h : Below wr.heap.size wr W') => over_at p s hov W') b)
        have Hov := Lib.hid (show s.p ≠ s.np from fun e => by rw [ovB_true.2 e] at hov; cases hov)
        clear hov
        by_cases h2 : s.d = s.tasks
        · have g2 : (s.d == s.tasks) = true := by simpa using h2
          have Hn := Lib.hid (show ¬ s.May from fun h => by rcases h.2.2.2.2.2.2 with a | a; exact Hov.out a; exact a h2)
          clear h2
          refine wp_region_quiet_bw (by kernel_rfl) (by kernel_rfl) ?_
          repeat (go_big_quiet_step ((first | (go_at_call 31; with_reducible exact KW.out _) | (go_at_call 32; with_reducible exact KO.out _) | (go_at_call 30; with_reducible exact KT.out _))))
          refine wpQuiet_nil ?_
          intro _ hw'
          obtain ⟨pq, hw''⟩ := hw'
          subst hw''
          have HBQ := Lib.hid (HB.out.trans (pq.h.mono zb))
          generalize pq.W = w4 at *
          clear pq KW KT KO gw r0 r1 r2 r3 r4
          go_wp2
          go_ret
          exact ⟨ret_int (mayv_no Hn.out).symm, HBQ.out⟩
        · have g2 : (s.d == s.tasks) = false := by simpa using h2
          have HM1 := Lib.hid (show s.May from ⟨HPre.out.1, HPre.out.2.1, HPre.out.2.2.1, HPre.out.2.2.2, HBusy.out, HD.out, .inr h2⟩)
          clear h2
          refine wp_region_quiet_bw (by kernel_rfl) (by kernel_rfl) ?_
          repeat (go_big_quiet_step ((first | (go_at_call 31; with_reducible exact KW.out _) | (go_at_call 32; with_reducible exact KO.out _) | (go_at_call 30; with_reducible exact KT.out _))))
          refine wpQuiet_nil ?_
          intro _ hw'
          obtain ⟨pq, hw''⟩ := hw'
          subst hw''
          have HBQ := Lib.hid (HB.out.trans (pq.h.mono zb))
          generalize pq.W = w4 at *
          clear pq KW KT KO gw r0 r1 r2 r3 r4
          go_wp2
          go_ret
          exact ⟨ret_int (mayv_yes HM1.out).symm, HBQ.out⟩
end Go.Proofs.Ytdilfcpgjkkjmaa
