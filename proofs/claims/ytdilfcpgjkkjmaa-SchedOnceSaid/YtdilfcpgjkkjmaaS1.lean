/- sched: phased, over, tasks, working, can. -/
import Derived.Test.YtdilfcpgjkkjmaaProg
import Derived.Test.YtdilfcpgjkkjmaaPlain2
import Derived.Test.YtdilfcpgjkkjmaaRd
import Derived.Test.YtdilfcpgjkkjmaaRow
import Derived.Test.YtdilfcpgjkkjmaaEq
import Derived.Test.YtdilfcpgjkkjmaaQuiet
import Derived.Deep.QuietTactic
import Derived.BigQuiet
import Derived.Deep.RegionHeld
import Derived.Deep.CutRange
import Derived.Deep.DeepCutAuto
namespace Go.Proofs.Ytdilfcpgjkkjmaa
open Go.RowKit
set_option linter.unusedVariables false

/-- A bool that says whether p holds. -/
def EqR (p : Prop) (e : Ending) : Prop := ∃ b : Bool, e = .returned (.bool b) ∧ (b = true ↔ p)
/-- A slice of the call's own that reads as F. -/
def OwnR (et s n : Nat) (F : Nat → Nat → Value) (B : Nat) (e : Ending) (w' : World) : Prop := ∃ A c, e = .returned (.slice A n c) ∧ w'.ownsRow B et s (.slice A n c) n (cellsR s F n)

/-- The first index at which b holds, or -1. -/
def IdxR (b : Nat → Bool) (n : Nat) (e : Ending) : Prop := (e = .returned (.int .i64 (-1)) ∧ ∀ i, i < n → b i = false) ∨ ∃ k : Nat, e = .returned (.int .i64 k) ∧ k < n ∧ b k = true ∧ ∀ i, i < k → b i = false

theorem int_info : (Try.prog.info? 3).map (fun i => (i.zero, i.size, i.bytes)) = some (some (.int .i64 0), 1, 8) := by kernel_rfl
theorem ret_bool {a b : Bool} (h : a = b) : Ending.returned (.bool a) = .returned (.bool b) := by rw [h]
theorem ret_int {k : IntKind} {a b : Int} (h : a = b) : Ending.returned (.int k a) = .returned (.int k b) := by rw [h]
/-- Where a pool's lists lie. -/
structure SP where
  a : Option Addr
  ka : Nat
  b : Option Addr
  kb : Nat
def ivR (l : Nat → Int) : Nat → Nat → Value := fun k _ => .int .i64 (l k)
theorem is_row {w : World} {n : Nat} {A : Option Addr} {l : Nat → Int} (h : IS w A n l) : Row w A n 1 (ivR l) := fun hn => by
  obtain ⟨g, off, e, hg, hc⟩ := h hn
  refine ⟨g, off, e, hg, fun i hi j hj => ?_⟩
  obtain rfl : j = 0 := by omega
  rw [Nat.mul_one, Nat.add_zero]
  exact hc i hi
theorem is_own {w : World} {B c n : Nat} {A : Option Addr} {l : Nat → Int} (h : w.ownsRow B 3 1 (.slice A n c) n (cellsR 1 (ivR l) n)) : IS w A n l :=
  IS.of_own h l fun i hi => by have := cellsR_at (s := 1) (F := ivR l) hi (show 0 < 1 by omega); simpa [ivR, iv] using this
/-- A pool that reads as s. -/
def SOk (w : World) (p : SP) (s : SD) : Prop := IS w p.a s.np s.ph ∧ IS w p.b s.nb s.bz
theorem SOk.below {w w' : World} {p : SP} {s : SD} (h : SOk w p s) (hb : Below w.heap.size w w') : SOk w' p s := ⟨h.1.below hb, h.2.below hb⟩
/-- A pool's lists are the call's own. -/
def SOwn (B : Nat) (w : World) (p : SP) (s : SD) : Prop := w.ownsRow B 3 1 (.slice p.a s.np p.ka) s.np (cellsR 1 (ivR s.ph) s.np) ∧ w.ownsRow B 3 1 (.slice p.b s.nb p.kb) s.nb (cellsR 1 (ivR s.bz) s.nb)
theorem SOwn.ok {B : Nat} {w : World} {p : SP} {s : SD} (h : SOwn B w p s) : SOk w p s := ⟨is_own h.1, is_own h.2⟩
theorem SOwn.below {B : Nat} {w w' : World} {p : SP} {s : SD} (h : SOwn B w p s) (hb : Below w.heap.size w w') : SOwn B w' p s := ⟨own_below h.1 hb, own_below h.2 hb⟩
/-- The lists fit the machine. -/
def SD.Bd (s : SD) : Prop := (s.np : Int) ≤ 9223372036854775807 ∧ (s.nb : Int) ≤ 9223372036854775807
open Classical in
noncomputable def phv (n : Nat) (l : Nat → Int) : Int := if 16 < n then 4 else if SPh n l then 0 else 2
theorem phv_many {n : Nat} {l : Nat → Int} (h : 16 < n) : phv n l = 4 := if_pos h
theorem phv_ok {n : Nat} {l : Nat → Int} (h : SPh n l) : phv n l = 0 := by unfold phv; rw [if_neg (by have := h.1; omega), if_pos h]
theorem phv_bad {n : Nat} {l : Nat → Int} (h : ¬ 16 < n) (h' : ¬ SPh n l) : phv n l = 2 := by unfold phv; rw [if_neg h, if_neg h']
theorem phv_spec (n : Nat) (l : Nat → Int) : PhV n l (phv n l) := by
  by_cases h : 16 < n
  · exact .inl ⟨h, phv_many h⟩
  · by_cases k : SPh n l
    · exact .inr (.inr ⟨k, phv_ok k⟩)
    · refine .inr (.inl ⟨by omega, ?_, phv_bad h k⟩)
      refine Classical.byContradiction fun hx => k ⟨by omega, fun i hi => ?_⟩
      refine Classical.byContradiction fun hy => hx ⟨i, hi, by omega⟩
theorem PhV.eq {n : Nat} {l : Nat → Int} {e : Int} (h : PhV n l e) : e = phv n l := (phv_spec n l).fn h
/-- May a phase have so many tasks? -/
def badN (x : Int) : Bool := decide (x < 0 ∨ 16384 < x)
set_option maxHeartbeats 400000 in
theorem badn_any (x : Int) (w : World) : Calls Try.prog 38 #[.int .i64 x] w fun e w' => e = .returned (.bool (badN x)) ∧ Below w.heap.size w w' := by
  by_cases h0 : x < 0
  · have e : badN x = true := decide_eq_true (.inl h0)
    rw [e]
    clear e
    go_enter Try.func38, Try.ntmps38
    go_wp2
    go_ret
    exact ⟨rfl, Below.refl _ _⟩
  · by_cases h1 : 16384 < x
    · have e : badN x = true := decide_eq_true (.inr h1)
      have g0 : decide (x < 0) = false := decide_eq_false h0
      have g1 : decide (16384 < x) = true := decide_eq_true h1
      rw [e]
      clear e h0 h1
      go_enter Try.func38, Try.ntmps38
      go_wp2
      go_ret
      exact ⟨rfl, Below.refl _ _⟩
    · have e : badN x = false := decide_eq_false (by omega)
      have g0 : decide (x < 0) = false := decide_eq_false h0
      have g1 : decide (16384 < x) = false := decide_eq_false h1
      rw [e]
      clear e h0 h1
      go_enter Try.func38, Try.ntmps38
      go_wp2
      go_ret
      exact ⟨rfl, Below.refl _ _⟩

set_option maxRecDepth 100000 in
set_option maxHeartbeats 2000000 in
theorem bads_idx (A : Option Addr) (n c : Nat) (F : Nat → Nat → Int)  (w : World) (hA : Row w A n 1 (fun i j => .int .i64 (F i j))) (hn : (n : Int) ≤ 9223372036854775807) (b : Nat → Bool) (hcl : ∀ i, i < n → ∀ W, Below w.heap.size w W → Calls Try.prog 38 #[.int .i64 (F i 0)] W fun e w' => e = .returned (.bool (b i)) ∧ Below W.heap.size W w') :
    Calls Try.prog 41 #[.slice A n c, .func (Fn.func 38) #[] #[]] w fun e w' => IdxR b n e ∧ Below w.heap.size w w' := by
  have HA := Lib.hid hA
  have Hcl := Lib.hid hcl
  clear hA hcl
  go_enter Try.func41, Try.ntmps41
  go_wp2
  go_loopw [8] (fun i wr => ∃ k : Nat, k ≤ n ∧ i = .int .i64 k ∧ Below w.heap.size w wr ∧ ∀ k', k' < k → b k' = false) (fun i wr => n - (intOf i).toNat)
  case atStart => exact ⟨0, Nat.zero_le _, rfl, Below.refl _ _, fun j hj => absurd hj (by omega)⟩
  case round =>
    obtain ⟨k, hk, rfl, hbel, hall⟩ := hrel
    have Hall := Lib.hid hall
    clear hall
    by_cases hkn : k < n
    · obtain ⟨g, o, rfl, hg, hc⟩ := HA.out (by omega)
      have c0 := (hbel.cell (p := ⟨g, o + k * 1 + 0, none⟩) hg).trans (hc k hkn 0 (by omega))
      simp only [Nat.add_zero, Nat.mul_one, if_true, if_pos rfl, reduceCtorEq, if_false] at c0
      have hi : (k : Int) < (n : Int) := by omega
      have hi0 : (0 : Int) ≤ (k : Int) := by omega
      have hc1 := Lib.hid (Hcl.out k hkn)
      have zb := hbel.size
      clear hc
      cases hbk : b k with
      | true =>
        have Hb := Lib.hid hbk
        rw [hbk] at hc1
        clear hbk
        go_wp2_with fail
        refine (hc1.out _ hbel).mono ?_
        rintro e w1 ⟨rfl, bel1⟩
        go_wp2
        go_ret
        exact ⟨.inr ⟨k, rfl, hkn, Hb.out, Hall.out⟩, hbel.trans (bel1.mono zb)⟩
      | false =>
        have Hb := Lib.hid hbk
        rw [hbk] at hc1
        clear hbk
        go_wp2_with fail
        refine (hc1.out _ hbel).mono ?_
        rintro e w1 ⟨rfl, bel1⟩
        go_wp2
        go_roundw
        case rel =>
          refine ⟨k + 1, by omega, by go_num, hbel.trans (bel1.mono zb), fun j hj => ?_⟩
          rcases Nat.lt_or_ge j k with h | h
          · exact Hall.out j h
          · obtain rfl : j = k := by omega
            exact Hb.out
        case measure => simp [intOf]; omega
    · obtain rfl : k = n := by omega
      go_wp2
      go_ret
      exact ⟨.inl ⟨rfl, Hall.out⟩, hbel⟩

set_option maxRecDepth 100000 in
set_option maxHeartbeats 2000000 in
theorem bads_any (A : Option Addr) (n c : Nat) (F : Nat → Nat → Int)  (w : World) (hA : Row w A n 1 (fun i j => .int .i64 (F i j))) (hn : (n : Int) ≤ 9223372036854775807) (b : Nat → Bool) (hcl : ∀ i, i < n → ∀ W, Below w.heap.size w W → Calls Try.prog 38 #[.int .i64 (F i 0)] W fun e w' => e = .returned (.bool (b i)) ∧ Below W.heap.size W w') :
    Calls Try.prog 37 #[.slice A n c, .func (Fn.func 38) #[] #[]] w fun e w' => EqR (∃ i, i < n ∧ b i = true) e ∧ Below w.heap.size w w' := by
  have hi := Lib.hid (bads_idx A n c F  w hA hn b hcl)
  clear hA hcl
  go_enter Try.func37, Try.ntmps37
  go_wp2_with fail
  refine hi.out.mono ?_
  rintro e w1 ⟨hx, bel1⟩
  rcases hx with ⟨rfl, h0⟩ | ⟨k, rfl, hk, hbk, _⟩
  · have H0 := Lib.hid h0
    clear h0
    go_wp2
    go_ret
    exact ⟨⟨false, rfl, ⟨fun h => (by cases h), fun ⟨i, hi, h⟩ => by rw [H0.out i hi] at h; cases h⟩⟩, bel1⟩
  · have Hb := Lib.hid hbk
    clear hbk
    have g0 : decide ((0 : Int) ≤ (k : Int)) = true := decide_eq_true (by omega)
    go_wp2
    go_ret
    exact ⟨⟨true, rfl, ⟨fun _ => ⟨k, hk, Hb.out⟩, fun _ => rfl⟩⟩, bel1⟩

set_option maxRecDepth 100000 in
set_option maxHeartbeats 2000000 in
theorem phased_any (A : Option Addr) (n c : Nat) (l : Nat → Int) (w : World) (h : IS w A n l) :
    Calls Try.prog 24 #[.slice A n c] w fun e w' => e = .returned (.int .i64 (phv n l)) ∧ Below w.heap.size w w' := by
  by_cases h0 : 16 < n
  · have g0 : decide ((16 : Int) < (n : Int)) = true := decide_eq_true (by omega)
    rw [phv_many h0]
    clear h0 h
    go_enter Try.func24, Try.ntmps24
    go_wp2
    go_ret
    exact ⟨rfl, Below.refl _ _⟩
  have g0 : decide ((16 : Int) < (n : Int)) = false := decide_eq_false (by omega)
  have H0 := Lib.hid h0
  have hc := Lib.hid (fun W (hb : Below w.heap.size w W) => bads_any A n c (fun i _ => l i) W (is_row (h.below hb)) (by omega) (fun i => badN (l i)) (fun i _ W' _ => badn_any (l i) W'))
  clear h h0
  go_enter Try.func24, Try.ntmps24
  go_wp2_with fail
  refine (hc.out _ (by repeat' (first | exact Below.refl _ _ | assumption | apply Below.drew | refine Below.setCell ?_ (by first | omega | (simp; done) | (simp; omega)) _ | refine Below.alloc ?_ (by first | omega | (simp; done) | (simp; omega)) _))).mono ?_
  rintro e w1 ⟨⟨b, rfl, hb⟩, bel1⟩
  have Hb := Lib.hid hb
  clear hb hc
  cases b with
  | true =>
    go_wp2
    go_ret
    refine ⟨ret_int (phv_bad H0.out fun hs => ?_).symm, bel1⟩
    obtain ⟨i, hi, hx⟩ := Hb.out.1 (by trivial)
    have := hs.2 i hi
    have hx' : l i < 0 ∨ 16384 < l i := of_decide_eq_true hx
    omega
  | false =>
    go_wp2
    go_ret
    refine ⟨ret_int (phv_ok ⟨by have := H0.out; omega, fun i hi => ?_⟩).symm, bel1⟩
    refine Classical.byContradiction fun hx => ?_
    exact absurd (Hb.out.2 ⟨i, hi, decide_eq_true (by omega)⟩) (by decide)
/-- Is all done? -/
def ovB (s : SD) : Bool := s.p == (s.np : Int)
theorem ovB_true {s : SD} : ovB s = true ↔ s.p = s.np := by unfold ovB; exact beq_iff_eq
set_option maxRecDepth 100000 in
set_option maxHeartbeats 1000000 in
theorem over_any (p : SP) (s : SD) (w : World) : Calls Try.prog 32 #[.agg #[.slice p.a s.np p.ka, .int .i64 s.p, .int .i64 s.n, .slice p.b s.nb p.kb, .int .i64 s.d]] w fun e w' => e = .returned (.bool (ovB s)) ∧ Below w.heap.size w w' := by
  cases hs : ovB s with
  | true =>
    have g : (s.p == (s.np : Int)) = true := hs
    clear hs
    go_enter Try.func32, Try.ntmps32
    go_wp2
    go_ret
    exact ⟨rfl, (Below.refl _ _).alloc (Nat.le_refl _) _⟩
  | false =>
    have g : (s.p == (s.np : Int)) = false := hs
    clear hs
    go_enter Try.func32, Try.ntmps32
    go_wp2
    go_ret
    exact ⟨rfl, (Below.refl _ _).alloc (Nat.le_refl _) _⟩
theorem over_at (p : SP) (s : SD) {b : Bool} (h : ovB s = b) (w : World) : Calls Try.prog 32 #[.agg #[.slice p.a s.np p.ka, .int .i64 s.p, .int .i64 s.n, .slice p.b s.nb p.kb, .int .i64 s.d]] w fun e w' => e = .returned (.bool b) ∧ Below w.heap.size w w' := h ▸ over_any p s w
set_option maxRecDepth 100000 in
set_option maxHeartbeats 1000000 in
theorem tasks_any (p : SP) (s : SD) (w : World) (h : IS w p.a s.np s.ph) (h0 : 0 ≤ s.p) (h1 : s.p ≤ s.np) :
    Calls Try.prog 30 #[.agg #[.slice p.a s.np p.ka, .int .i64 s.p, .int .i64 s.n, .slice p.b s.nb p.kb, .int .i64 s.d]] w fun e w' => e = .returned (.int .i64 s.tasks) ∧ Below w.heap.size w w' := by
  cases hs : ovB s with
  | true =>
    have ho := fun W => over_at p s hs W
    rw [SD.tasks_over (ovB_true.1 hs)]
    clear hs h
    go_enter Try.func30, Try.ntmps30
    go_wp2_with fail
    refine (ho _).mono ?_
    rintro e w1 ⟨rfl, bel1⟩
    clear ho
    go_wp2
    go_ret
    exact ⟨rfl, ((Below.refl _ _).alloc (Nat.le_refl _) _).trans (bel1.mono (by simp))⟩
  | false =>
    have ho := fun W => over_at p s hs W
    have hne : s.p ≠ s.np := fun e => by rw [ovB_true.2 e] at hs; cases hs
    rw [SD.tasks_at hne]
    obtain ⟨g, o, hA, hg, hc⟩ := h (by omega)
    have hq : s.p < (s.np : Int) := by omega
    have hcell := hc s.p.toNat (by omega)
    have HA := Lib.hid hA
    have bx : Below w.heap.size w (w.alloc (.cells #[.slice p.a s.np p.ka, .int .i64 s.p, .int .i64 s.n, .slice p.b s.nb p.kb, .int .i64 s.d] 63)) := (Below.refl _ _).alloc (Nat.le_refl _) _
    have pb := hasBlk_new w 63 #[.slice p.a s.np p.ka, .int .i64 s.p, .int .i64 s.n, .slice p.b s.nb p.kb, .int .i64 s.d]
    have HB := Lib.hid (And.intro bx pb)
    clear hs h hc hne hA bx pb h1
    go_enter Try.func30, Try.ntmps30
    go_wp2_with fail
    refine (ho _).mono ?_
    rintro e w1 ⟨rfl, bel1⟩
    clear ho
    have pb1 := HB.out.2.below bel1
    have bel := HB.out.1.trans (bel1.mono HB.out.1.size)
    have x0 := pb1.cell 0
    have x1 := pb1.cell 1
    have hc1 := (bel.cell (p := ⟨g, o + s.p.toNat, none⟩) hg).trans hcell
    simp at x0 x1
    rw [HA.out] at x0
    have HB2 := Lib.hid bel
    clear bel1 pb1 bel hcell
    go_wp2
    go_ret
    exact ⟨rfl, HB2.out⟩
theorem wk_succ (b : Nat → Int) (k : Nat) : wk b (k + 1) = wk b k + (if 0 ≤ b k then 1 else 0) := rfl
set_option maxRecDepth 100000 in
set_option maxHeartbeats 1000000 in
theorem working_any (p : SP) (s : SD) (w : World) (h : IS w p.b s.nb s.bz) (hn : (s.nb : Int) ≤ 9223372036854775807) :
    Calls Try.prog 31 #[.agg #[.slice p.a s.np p.ka, .int .i64 s.p, .int .i64 s.n, .slice p.b s.nb p.kb, .int .i64 s.d]] w fun e w' => e = .returned (.int .i64 (wk s.bz s.nb)) ∧ Below w.heap.size w w' := by
  have HI := Lib.hid h
  clear h
  go_enter Try.func31, Try.ntmps31
  go_wp2
  go_loop [2, 9] (fun t i => ∃ k : Nat, k ≤ s.nb ∧ i = .int .i64 k ∧ t = .int .i64 (wk s.bz k)) (fun t i => s.nb - (intOf i).toNat)
  case atStart => exact ⟨0, Nat.zero_le _, rfl, rfl⟩
  case round =>
    obtain ⟨k, hk, rfl, rfl⟩ := hrel
    have hw := wk_le s.bz k
    by_cases hkn : k < s.nb
    · obtain ⟨g, o, hA, hg, hc⟩ := HI.out (by omega)
      have c0 := hc k hkn
      have HA := Lib.hid hA
      have HW := Lib.hid (wk_succ s.bz k)
      clear hc hA
      rw [HA.out]
      have hi0 : (0 : Int) ≤ (k : Int) := by omega
      have hi1 : (k : Int) < (s.nb : Int) := by omega
      by_cases hb : 0 ≤ s.bz k
      · have g0 : decide (0 ≤ s.bz k) = true := decide_eq_true hb
        have Hb := Lib.hid hb
        clear hb
        go_wp2
        go_round
        case rel => exact ⟨k + 1, by omega, by go_num, by rw [HW.out, if_pos Hb.out]⟩
        case measure => simp [intOf]; omega
      · have g0 : decide (0 ≤ s.bz k) = false := decide_eq_false hb
        have Hb := Lib.hid hb
        clear hb
        go_wp2
        go_round
        case rel => exact ⟨k + 1, by omega, by go_num, by rw [HW.out, if_neg Hb.out, Int.add_zero]⟩
        case measure => simp [intOf]; omega
    · obtain rfl : k = s.nb := by omega
      go_wp2
      go_ret
      exact ⟨rfl, (Below.refl _ _).alloc (Nat.le_refl _) _⟩

theorem can_one {s : SD} {k : Nat} (h : 0 ≤ s.bz k) : s.can k = true := by unfold SD.can; rw [decide_eq_true h]; rfl
theorem can_two {s : SD} {k : Nat} (h : ¬ 0 ≤ s.bz k) {b : Bool} (hb : decide (s.n < s.tasks) = b) : s.can k = b := by unfold SD.can; rw [decide_eq_false h, hb]; rfl
set_option maxRecDepth 100000 in
set_option maxHeartbeats 1000000 in
theorem can_any (p : SP) (s : SD) (k : Nat) (w : World) (h : SOk w p s) (hk : k < s.nb) (hn : (s.nb : Int) ≤ 9223372036854775807) (h0 : 0 ≤ s.p) (h1 : s.p ≤ s.np) :
    Calls Try.prog 29 #[.agg #[.slice p.a s.np p.ka, .int .i64 s.p, .int .i64 s.n, .slice p.b s.nb p.kb, .int .i64 s.d], .int .i64 k] w fun e w' => e = .returned (.bool (s.can k)) ∧ Below w.heap.size w w' := by
  obtain ⟨g, o, hA, hg, hc⟩ := h.2 (by omega)
  have c0 := hc k hk
  have HA := Lib.hid hA
  have hlt := hg
  have HI := Lib.hid h.1
  have hi0 : (0 : Int) ≤ (k : Int) := by omega
  have hi1 : (k : Int) < (s.nb : Int) := by omega
  clear hc hA h hg
  have bx : Below w.heap.size w (w.alloc (.cells #[.slice p.a s.np p.ka, .int .i64 s.p, .int .i64 s.n, .slice p.b s.nb p.kb, .int .i64 s.d] 63)) := (Below.refl _ _).alloc (Nat.le_refl _) _
  have c1 := (bx.cell (p := ⟨g, o + k, none⟩) hlt).trans c0
  have pb := hasBlk_new w 63 #[.slice p.a s.np p.ka, .int .i64 s.p, .int .i64 s.n, .slice p.b s.nb p.kb, .int .i64 s.d]
  have zx := bx.size
  have hlt1 : g < (w.alloc (.cells #[.slice p.a s.np p.ka, .int .i64 s.p, .int .i64 s.n, .slice p.b s.nb p.kb, .int .i64 s.d] 63)).heap.size := by omega
  have ht := Lib.hid (fun W (hb : Below (w.alloc (.cells #[.slice p.a s.np p.ka, .int .i64 s.p, .int .i64 s.n, .slice p.b s.nb p.kb, .int .i64 s.d] 63)).heap.size (w.alloc (.cells #[.slice p.a s.np p.ka, .int .i64 s.p, .int .i64 s.n, .slice p.b s.nb p.kb, .int .i64 s.d] 63)) W) => tasks_any p s W ((HI.out.below bx).below hb) h0 h1)
  have Hbx := Lib.hid bx
  clear bx c0 zx
  go_enter Try.func29, Try.ntmps29
  go_upto_region 1 with fail
  generalize w.alloc (.cells #[.slice p.a s.np p.ka, .int .i64 s.p, .int .i64 s.n, .slice p.b s.nb p.kb, .int .i64 s.d] 63) = v at *
  have ltp := pb.lt
  have q0 := pb.cell 0
  have q1 := pb.cell 1
  have q2 := pb.cell 2
  have q3 := pb.cell 3
  have q4 := pb.cell 4
  simp at q0 q1 q2 q3 q4
  rw [HA.out] at q3
  have r0 := fun b : BW v => BW.cell q0 ltp b
  have r1 := fun b : BW v => BW.cell q1 ltp b
  have r2 := fun b : BW v => BW.cell q2 ltp b
  have r3 := fun b : BW v => BW.cell q3 ltp b
  have r4 := fun b : BW v => BW.cell q4 ltp b
  have rc := fun b : BW v => BW.cell c1 hlt1 b
  have HT := Lib.hid (fun b : BW v => BW.call ht.out b)
  clear q0 q1 q2 q3 q4 c1 pb ht
  rw [HA.out] at HT
  by_cases hb : 0 ≤ s.bz k
  · have g0 : decide (0 ≤ s.bz k) = true := decide_eq_true hb
    have HC := Lib.hid (can_one hb)
    clear hb
    refine wp_region_quiet_bw (by kernel_rfl) (by kernel_rfl) ?_
    repeat (go_big_quiet_step ((go_at_call 30; with_reducible exact HT.out _)))
    refine wpQuiet_nil ?_
    intro _ hw'
    obtain ⟨pq, hw''⟩ := hw'
    subst hw''
    have belq := pq.h
    go_wp2
    go_ret
    exact ⟨ret_bool HC.out.symm, Hbx.out.trans (belq.mono Hbx.out.size)⟩
  have g0 : decide (0 ≤ s.bz k) = false := decide_eq_false hb
  by_cases hx : s.n < s.tasks
  · have g1 : decide (s.n < s.tasks) = true := decide_eq_true hx
    have HC := Lib.hid (can_two hb g1)
    clear hb hx
    refine wp_region_quiet_bw (by kernel_rfl) (by kernel_rfl) ?_
    repeat (go_big_quiet_step ((go_at_call 30; with_reducible exact HT.out _)))
    refine wpQuiet_nil ?_
    intro _ hw'
    obtain ⟨pq, hw''⟩ := hw'
    subst hw''
    have belq := pq.h
    go_wp2
    go_ret
    exact ⟨ret_bool HC.out.symm, Hbx.out.trans (belq.mono Hbx.out.size)⟩
  have g1 : decide (s.n < s.tasks) = false := decide_eq_false hx
  have HC := Lib.hid (can_two hb g1)
  clear hb hx
  refine wp_region_quiet_bw (by kernel_rfl) (by kernel_rfl) ?_
  repeat (go_big_quiet_step ((go_at_call 30; with_reducible exact HT.out _)))
  refine wpQuiet_nil ?_
  intro _ hw'
  obtain ⟨pq, hw''⟩ := hw'
  subst hw''
  have belq := pq.h
  go_wp2
  go_ret
  exact ⟨ret_bool HC.out.symm, Hbx.out.trans (belq.mono Hbx.out.size)⟩
end Go.Proofs.Ytdilfcpgjkkjmaa
