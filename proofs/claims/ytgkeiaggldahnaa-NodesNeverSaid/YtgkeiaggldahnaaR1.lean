/- arena: closures, Check, Twin, held. -/
import Derived.Test.YtgkeiaggldahnaaProg
import Derived.Test.YtgkeiaggldahnaaRow
import Derived.Test.YtgkeiaggldahnaaEq
import Derived.Test.YtgkeiaggldahnaaCopy
import Derived.Deep.QuietTactic
import Derived.BigQuiet
import Derived.StillTailTactics
import Derived.IntWalk
namespace Go.Proofs.Ytgkeiaggldahnaa
open Go.RowKit
set_option linter.unusedVariables false

/-- A bool that says whether p holds. -/
def EqR (p : Prop) (e : Ending) : Prop := ∃ b : Bool, e = .returned (.bool b) ∧ (b = true ↔ p)
/-- A slice of the call's own that reads as F. -/
def OwnR (et s n : Nat) (F : Nat → Nat → Value) (B : Nat) (e : Ending) (w' : World) : Prop := ∃ A c, e = .returned (.slice A n c) ∧ w'.ownsRow B et s (.slice A n c) n (cellsR s F n)

/-- The first index at which b holds, or -1. -/
def IdxR (b : Nat → Bool) (n : Nat) (e : Ending) : Prop := (e = .returned (.int .i64 (-1)) ∧ ∀ i, i < n → b i = false) ∨ ∃ k : Nat, e = .returned (.int .i64 k) ∧ k < n ∧ b k = true ∧ ∀ i, i < k → b i = false

/-- The cells of a slot. -/
def sv (g : Nat → Int) (b : Nat → Bool) (i j : Nat) : Value := if j = 0 then .int .i64 (g i) else .bool (b i)
theorem sv_one (g : Nat → Int) (b : Nat → Bool) (i j : Nat) : (sv g b i j).oneCell' = true := by unfold sv; split <;> rfl
theorem slot_info : (Try.prog.info? 58).map (fun i => (i.zero, i.size, i.bytes)) = some (some (.agg #[.int .i64 0, .bool false]), 2, 16) := by kernel_rfl
/-- May a slot be? -/
def okS (g : Int) : Bool := decide (1 ≤ g ∧ g ≤ 1073741824)
/-- May an arena be? -/
def MayA (n : Nat) (g : Nat → Int) : Prop := n ≤ 128 ∧ ∀ i, i < n → okS (g i) = true

set_option maxRecDepth 100000 in
set_option maxHeartbeats 1000000 in
theorem slot_any (x : Int) (b : Bool) (w : World) : Calls Try.prog 70 #[.agg #[.int .i64 x, .bool b]] w fun e w' => e = .returned (.bool (!okS x)) ∧ Below w.heap.size w w' := by
  by_cases h0 : x < 1
  · have g0 : decide (x < 1) = true := decide_eq_true h0
    have e : okS x = false := by unfold okS; exact decide_eq_false (by omega)
    rw [e]
    clear e h0
    go_enter Try.func70, Try.ntmps70
    go_wp2
    go_ret
    exact ⟨rfl, by repeat' (first | exact Below.refl _ _ | assumption | apply Below.drew | refine Below.setCell ?_ (by first | omega | (simp; done) | (simp; omega)) _ | refine Below.alloc ?_ (by first | omega | (simp; done) | (simp; omega)) _)⟩
  have g0 : decide (x < 1) = false := decide_eq_false h0
  by_cases h1 : 1073741824 < x
  · have g1 : decide (1073741824 < x) = true := decide_eq_true h1
    have e : okS x = false := by unfold okS; exact decide_eq_false (by omega)
    rw [e]
    clear e h0 h1
    go_enter Try.func70, Try.ntmps70
    go_wp2
    go_ret
    exact ⟨rfl, by repeat' (first | exact Below.refl _ _ | assumption | apply Below.drew | refine Below.setCell ?_ (by first | omega | (simp; done) | (simp; omega)) _ | refine Below.alloc ?_ (by first | omega | (simp; done) | (simp; omega)) _)⟩
  have g1 : decide (1073741824 < x) = false := decide_eq_false h1
  have e : okS x = true := by unfold okS; exact decide_eq_true (by omega)
  rw [e]
  clear e h0 h1
  go_enter Try.func70, Try.ntmps70
  go_wp2
  go_ret
  exact ⟨rfl, by repeat' (first | exact Below.refl _ _ | assumption | apply Below.drew | refine Below.setCell ?_ (by first | omega | (simp; done) | (simp; omega)) _ | refine Below.alloc ?_ (by first | omega | (simp; done) | (simp; omega)) _)⟩

/-- May a slot be given? -/
def freeS (g : Int) (b : Bool) : Bool := !b && decide (g < 1073741824)
set_option maxRecDepth 100000 in
set_option maxHeartbeats 1000000 in
theorem free_any (x : Int) (b : Bool) (w : World) : Calls Try.prog 73 #[.int .i64 1073741824, .agg #[.int .i64 x, .bool b]] w fun e w' => e = .returned (.bool (freeS x b)) ∧ Below w.heap.size w w' := by
  cases b with
  | true =>
    have e : freeS x true = false := rfl
    rw [e]
    clear e
    go_enter Try.func73, Try.ntmps73
    go_wp2
    go_ret
    exact ⟨rfl, by repeat' (first | exact Below.refl _ _ | assumption | apply Below.drew | refine Below.setCell ?_ (by first | omega | (simp; done) | (simp; omega)) _ | refine Below.alloc ?_ (by first | omega | (simp; done) | (simp; omega)) _)⟩
  | false =>
    by_cases h : x < 1073741824
    · have e : freeS x false = true := by unfold freeS; simpa using h
      have g0 : decide (x < 1073741824) = true := decide_eq_true h
      rw [e]
      clear e h
      go_enter Try.func73, Try.ntmps73
      go_wp2
      go_ret
      exact ⟨rfl, by repeat' (first | exact Below.refl _ _ | assumption | apply Below.drew | refine Below.setCell ?_ (by first | omega | (simp; done) | (simp; omega)) _ | refine Below.alloc ?_ (by first | omega | (simp; done) | (simp; omega)) _)⟩
    · have e : freeS x false = false := by unfold freeS; simpa using h
      have g0 : decide (x < 1073741824) = false := decide_eq_false h
      rw [e]
      clear e h
      go_enter Try.func73, Try.ntmps73
      go_wp2
      go_ret
      exact ⟨rfl, by repeat' (first | exact Below.refl _ _ | assumption | apply Below.drew | refine Below.setCell ?_ (by first | omega | (simp; done) | (simp; omega)) _ | refine Below.alloc ?_ (by first | omega | (simp; done) | (simp; omega)) _)⟩

set_option maxRecDepth 100000 in
set_option maxHeartbeats 2000000 in
theorem bads_idx (A : Option Addr) (n c : Nat) (F : Nat → Nat → Int) (Fb : Nat → Bool)  (w : World) (hA : Row w A n 2 (fun i j => if j = 0 then .int .i64 (F i 0) else .bool (Fb i))) (hn : (n : Int) ≤ 9223372036854775807) (b : Nat → Bool) (hcl : ∀ i, i < n → ∀ W, Below w.heap.size w W → Calls Try.prog 70 #[.agg #[.int .i64 (F i 0), .bool (Fb i)]] W fun e w' => e = .returned (.bool (b i)) ∧ Below W.heap.size W w') :
    Calls Try.prog 74 #[.slice A n c, .func (Fn.func 70) #[] #[]] w fun e w' => IdxR b n e ∧ Below w.heap.size w w' := by
  have HA := Lib.hid hA
  have Hcl := Lib.hid hcl
  clear hA hcl
  go_enter Try.func74, Try.ntmps74
  go_wp2
  go_loopw [8] (fun i wr => ∃ k : Nat, k ≤ n ∧ i = .int .i64 k ∧ Below w.heap.size w wr ∧ ∀ k', k' < k → b k' = false) (fun i wr => n - (intOf i).toNat)
  case atStart => exact ⟨0, Nat.zero_le _, rfl, Below.refl _ _, fun j hj => absurd hj (by omega)⟩
  case round =>
    obtain ⟨k, hk, rfl, hbel, hall⟩ := hrel
    have Hall := Lib.hid hall
    clear hall
    by_cases hkn : k < n
    · obtain ⟨g, o, rfl, hg, hc⟩ := HA.out (by omega)
      have c0 := (hbel.cell (p := ⟨g, o + k * 2 + 0, none⟩) hg).trans (hc k hkn 0 (by omega))
      have c1 := (hbel.cell (p := ⟨g, o + k * 2 + 1, none⟩) hg).trans (hc k hkn 1 (by omega))
      simp only [Nat.add_zero, if_true, reduceCtorEq, if_false] at c0 c1
      have hi : (k : Int) < (n : Int) := by omega
      have hi0 : (0 : Int) ≤ (k : Int) := by omega
      have hc1 := Lib.hid (Hcl.out k hkn)
      have zb := hbel.size
      clear hc
      cases hbk : b k with
      | true =>
        have Hb := Lib.hid hbk
        rw [hbk] at hc1
        clear hbk
        go_wp2_with fail
        refine (hc1.out _ hbel).mono ?_
        rintro e w1 ⟨rfl, bel1⟩
        go_wp2
        go_ret
        exact ⟨.inr ⟨k, rfl, hkn, Hb.out, Hall.out⟩, hbel.trans (bel1.mono zb)⟩
      | false =>
        have Hb := Lib.hid hbk
        rw [hbk] at hc1
        clear hbk
        go_wp2_with fail
        refine (hc1.out _ hbel).mono ?_
        rintro e w1 ⟨rfl, bel1⟩
        go_wp2
        go_roundw
        case rel =>
          refine ⟨k + 1, by omega, by go_num, hbel.trans (bel1.mono zb), fun j hj => ?_⟩
          rcases Nat.lt_or_ge j k with h | h
          · exact Hall.out j h
          · obtain rfl : j = k := by omega
            exact Hb.out
        case measure => simp [intOf]; omega
    · obtain rfl : k = n := by omega
      go_wp2
      go_ret
      exact ⟨.inl ⟨rfl, Hall.out⟩, hbel⟩

set_option maxRecDepth 100000 in
set_option maxHeartbeats 2000000 in
theorem bads_any (A : Option Addr) (n c : Nat) (F : Nat → Nat → Int) (Fb : Nat → Bool)  (w : World) (hA : Row w A n 2 (fun i j => if j = 0 then .int .i64 (F i 0) else .bool (Fb i))) (hn : (n : Int) ≤ 9223372036854775807) (b : Nat → Bool) (hcl : ∀ i, i < n → ∀ W, Below w.heap.size w W → Calls Try.prog 70 #[.agg #[.int .i64 (F i 0), .bool (Fb i)]] W fun e w' => e = .returned (.bool (b i)) ∧ Below W.heap.size W w') :
    Calls Try.prog 71 #[.slice A n c, .func (Fn.func 70) #[] #[]] w fun e w' => EqR (∃ i, i < n ∧ b i = true) e ∧ Below w.heap.size w w' := by
  have hi := Lib.hid (bads_idx A n c F Fb  w hA hn b hcl)
  clear hA hcl
  go_enter Try.func71, Try.ntmps71
  go_wp2_with fail
  refine hi.out.mono ?_
  rintro e w1 ⟨hx, bel1⟩
  rcases hx with ⟨rfl, h0⟩ | ⟨k, rfl, hk, hbk, _⟩
  · have H0 := Lib.hid h0
    clear h0
    go_wp2
    go_ret
    exact ⟨⟨false, rfl, ⟨fun h => (by cases h), fun ⟨i, hi, h⟩ => by rw [H0.out i hi] at h; cases h⟩⟩, bel1⟩
  · have Hb := Lib.hid hbk
    clear hbk
    have g0 : decide ((0 : Int) ≤ (k : Int)) = true := decide_eq_true (by omega)
    go_wp2
    go_ret
    exact ⟨⟨true, rfl, ⟨fun _ => ⟨k, hk, Hb.out⟩, fun _ => rfl⟩⟩, bel1⟩

set_option maxRecDepth 100000 in
set_option maxHeartbeats 2000000 in
theorem frees_idx (A : Option Addr) (n c : Nat) (F : Nat → Nat → Int) (Fb : Nat → Bool)  (w : World) (hA : Row w A n 2 (fun i j => if j = 0 then .int .i64 (F i 0) else .bool (Fb i))) (hn : (n : Int) ≤ 9223372036854775807) (b : Nat → Bool) (hcl : ∀ i, i < n → ∀ W, Below w.heap.size w W → Calls Try.prog 73 #[.int .i64 1073741824, .agg #[.int .i64 (F i 0), .bool (Fb i)]] W fun e w' => e = .returned (.bool (b i)) ∧ Below W.heap.size W w') :
    Calls Try.prog 74 #[.slice A n c, .func (Fn.func 73) #[.int .i64 1073741824] #[]] w fun e w' => IdxR b n e ∧ Below w.heap.size w w' := by
  have HA := Lib.hid hA
  have Hcl := Lib.hid hcl
  clear hA hcl
  go_enter Try.func74, Try.ntmps74
  go_wp2
  go_loopw [8] (fun i wr => ∃ k : Nat, k ≤ n ∧ i = .int .i64 k ∧ Below w.heap.size w wr ∧ ∀ k', k' < k → b k' = false) (fun i wr => n - (intOf i).toNat)
  case atStart => exact ⟨0, Nat.zero_le _, rfl, Below.refl _ _, fun j hj => absurd hj (by omega)⟩
  case round =>
    obtain ⟨k, hk, rfl, hbel, hall⟩ := hrel
    have Hall := Lib.hid hall
    clear hall
    by_cases hkn : k < n
    · obtain ⟨g, o, rfl, hg, hc⟩ := HA.out (by omega)
      have c0 := (hbel.cell (p := ⟨g, o + k * 2 + 0, none⟩) hg).trans (hc k hkn 0 (by omega))
      have c1 := (hbel.cell (p := ⟨g, o + k * 2 + 1, none⟩) hg).trans (hc k hkn 1 (by omega))
      simp only [Nat.add_zero, if_true, reduceCtorEq, if_false] at c0 c1
      have hi : (k : Int) < (n : Int) := by omega
      have hi0 : (0 : Int) ≤ (k : Int) := by omega
      have hc1 := Lib.hid (Hcl.out k hkn)
      have zb := hbel.size
      clear hc
      cases hbk : b k with
      | true =>
        have Hb := Lib.hid hbk
        rw [hbk] at hc1
        clear hbk
        go_wp2_with fail
        refine (hc1.out _ hbel).mono ?_
        rintro e w1 ⟨rfl, bel1⟩
        go_wp2
        go_ret
        exact ⟨.inr ⟨k, rfl, hkn, Hb.out, Hall.out⟩, hbel.trans (bel1.mono zb)⟩
      | false =>
        have Hb := Lib.hid hbk
        rw [hbk] at hc1
        clear hbk
        go_wp2_with fail
        refine (hc1.out _ hbel).mono ?_
        rintro e w1 ⟨rfl, bel1⟩
        go_wp2
        go_roundw
        case rel =>
          refine ⟨k + 1, by omega, by go_num, hbel.trans (bel1.mono zb), fun j hj => ?_⟩
          rcases Nat.lt_or_ge j k with h | h
          · exact Hall.out j h
          · obtain rfl : j = k := by omega
            exact Hb.out
        case measure => simp [intOf]; omega
    · obtain rfl : k = n := by omega
      go_wp2
      go_ret
      exact ⟨.inl ⟨rfl, Hall.out⟩, hbel⟩

/-- The error of an arena. -/
def chkA (n : Nat) (g : Nat → Int) (e : Int) : Prop := (MayA n g ∧ e = 0) ∨ (¬ MayA n g ∧ e = 8)
set_option maxRecDepth 100000 in
set_option maxHeartbeats 1000000 in
theorem check_may (A : Option Addr) (n c : Nat) (g : Nat → Int) (b : Nat → Bool) (w : World) (hA : Row w A n 2 (sv g b)) (hn : (n : Int) ≤ 9223372036854775807) :
    Calls Try.prog 52 #[.agg #[.slice A n c]] w fun e w' => (∃ x, e = .returned (.int .i64 x) ∧ chkA n g x) ∧ Below w.heap.size w w' := by
  by_cases h1 : (128 : Int) < (n : Int)
  · have g1 : decide ((128 : Int) < (n : Int)) = true := decide_eq_true h1
    clear hA
    go_enter Try.func52, Try.ntmps52
    go_wp2
    go_ret
    exact ⟨⟨8, rfl, .inr ⟨fun h => by have := h.1; omega, rfl⟩⟩, by repeat' (first | exact Below.refl _ _ | assumption | apply Below.drew | refine Below.setCell ?_ (by first | omega | (simp; done) | (simp; omega)) _ | refine Below.alloc ?_ (by first | omega | (simp; done) | (simp; omega)) _)⟩
  have g1 : decide ((128 : Int) < (n : Int)) = false := decide_eq_false h1
  have hcf := Lib.hid (fun W (h : Below w.heap.size w W) => bads_any A n c (fun i _ => g i) b W (hA.below h) hn (fun i => !okS (g i)) (fun i _ W' _ => slot_any _ _ W'))
  have H1 := Lib.hid h1
  clear hA h1
  go_enter Try.func52, Try.ntmps52
  go_wp2_with fail
  refine (hcf.out _ (by repeat' (first | exact Below.refl _ _ | assumption | apply Below.drew | refine Below.setCell ?_ (by first | omega | (simp; done) | (simp; omega)) _ | refine Below.alloc ?_ (by first | omega | (simp; done) | (simp; omega)) _))).mono ?_
  rintro e w1 ⟨⟨bv, rfl, hb⟩, bel1⟩
  have Hb := Lib.hid hb
  clear hb
  have B1 : Below w.heap.size w w1 := Below.trans (Below.alloc (Below.refl _ _) (Nat.le_refl _) _) (bel1.mono (by simp))
  cases bv with
  | true =>
    go_wp2
    go_ret
    refine ⟨⟨8, rfl, .inr ⟨fun h => ?_, rfl⟩⟩, B1⟩
    obtain ⟨i, hi, hx⟩ := Hb.out.1 (by trivial)
    rw [h.2 i hi] at hx
    exact absurd hx (by decide)
  | false =>
    go_wp2
    go_ret
    refine ⟨⟨0, rfl, .inl ⟨⟨by have := H1.out; omega, fun i hi => ?_⟩, rfl⟩⟩, B1⟩
    cases hx : okS (g i) with
    | true => rfl
    | false => exact absurd (Hb.out.2 ⟨i, hi, by rw [hx]; rfl⟩) (by simp)
theorem check_ok (A : Option Addr) (n c : Nat) (g : Nat → Int) (b : Nat → Bool) (w : World) (hA : Row w A n 2 (sv g b)) (hm : MayA n g) :
    Calls Try.prog 52 #[.agg #[.slice A n c]] w fun e w' => e = .returned (.int .i64 0) ∧ Below w.heap.size w w' :=
  (check_may A n c g b w hA (by have := hm.1; omega)).mono fun e w' ⟨⟨x, he, hx⟩, hb⟩ => ⟨by
    rcases hx with ⟨_, rfl⟩ | ⟨h, _⟩
    · exact he
    · exact absurd hm h, hb⟩
theorem check_bad (A : Option Addr) (n c : Nat) (g : Nat → Int) (b : Nat → Bool) (w : World) (hA : Row w A n 2 (sv g b)) (hn : (n : Int) ≤ 9223372036854775807) (hm : ¬ MayA n g) :
    Calls Try.prog 52 #[.agg #[.slice A n c]] w fun e w' => e = .returned (.int .i64 8) ∧ Below w.heap.size w w' :=
  (check_may A n c g b w hA hn).mono fun e w' ⟨⟨x, he, hx⟩, hb⟩ => ⟨by
    rcases hx with ⟨h, _⟩ | ⟨_, rfl⟩
    · exact absurd h hm
    · exact he, hb⟩

/-- An arena of the call's own: its block. -/
def OwnA (n : Nat) (g : Nat → Int) (b : Nat → Bool) (B : Nat) (v : Value) (w' : World) : Prop := ∃ X, v = .agg #[.slice (some ⟨X, 0, none⟩) n n] ∧ B ≤ X ∧ HasBlk w' X 58 (cellsR 2 (sv g b) n).toArray
set_option maxRecDepth 100000 in
set_option maxHeartbeats 1000000 in
theorem twin_any (A : Option Addr) (n c : Nat) (g : Nat → Int) (b : Nat → Bool) (w : World) (hA : Row w A n 2 (sv g b)) (hn : (n : Int) ≤ 1000000) :
    Calls Try.prog 63 #[.agg #[.slice A n c]] w fun e w' => (∃ v, e = .returned v ∧ OwnA n g b w.heap.size v w') ∧ Below w.heap.size w w' := by
  obtain ⟨i0, hi0, hz0, hz1, hz2⟩ := info_parts slot_info
  have hmk := fun (W : World) => make_full (P := Try.prog) Try.underlying22 hi0 hz0 n (by rw [hz2]; omega) (by omega) W
  have HA := Lib.hid hA
  clear hA
  have hnew : HasBlk (((w.alloc (.cells #[.slice A n c] 24)).alloc (.cells #[.slice none 0 0] 24)).alloc (.cells (madeCells #[.int .i64 0, .bool false] (n * 2)) 58)) (w.heap.size + 1 + 1) 58 (madeCells #[.int .i64 0, .bool false] (n * 2)) := by
    have := hasBlk_new ((w.alloc (.cells #[.slice A n c] 24)).alloc (.cells #[.slice none 0 0] 24)) 58 (madeCells #[.int .i64 0, .bool false] (n * 2))
    simpa using this
  have HL := Lib.hid (cellsR_len 2 (sv g b) n)
  have H1 := Lib.hid (cellsR_one (s := 2) (sv_one g b) n)
  have hR0 : HasBlk ((w.alloc (.cells #[.slice A n c] 24)).alloc (.cells #[.slice none 0 0] 24)) (w.heap.size + 1) 24 #[.slice none 0 0] := by
    have := hasBlk_new (w.alloc (.cells #[.slice A n c] 24)) 24 #[.slice none 0 0]
    simpa using this
  have HN := Lib.hid hnew
  have HR0 := Lib.hid hR0
  clear hnew hR0
  go_enter Try.func63, Try.ntmps63
  go_wp2_with (refine wpList_copy_full rfl (.tmp 8) (.tmp 10) 22 22 rfl 58 i0 2 Try.underlying22 hi0 hz1 (w.heap.size + 1 + 1) n n rfl _ 58 HN.out (size_madeCells _ _) A c rfl (cellsR 2 (sv g b) n) HL.out ((Row.below HA.out (by repeat' (first | exact Below.refl _ _ | assumption | apply Below.drew | refine Below.setCell ?_ (by first | omega | (simp; done) | (simp; omega)) _ | refine Below.alloc ?_ (by first | omega | (simp; done) | (simp; omega)) _))).news (by omega)) H1.out ?_; intro w3 hb3 hgr3; have hR3 := (HR0.out.alloc (.cells (madeCells #[.int .i64 0, .bool false] (n * 2)) 58)).grown hgr3 (by simp); have bel3 := Below.grown (a := w) (B := w.heap.size) (by repeat' (first | exact Below.refl _ _ | assumption | apply Below.drew | refine Below.setCell ?_ (by first | omega | (simp; done) | (simp; omega)) _ | refine Below.alloc ?_ (by first | omega | (simp; done) | (simp; omega)) _)) hgr3 (by simp; omega) (fun k hk => by cases hk; omega); have R3 := Lib.hid hR3; have r0 := hR3.cell 0; have rf0 := hR3.frozen 0; have rl := hR3.lt; have Hb3 := Lib.hid hb3; clear hR3 hgr3 hb3; simp at r0)
  refine bodyPost_ret (v := .agg #[.slice (some ⟨w.heap.size + 1 + 1, 0, none⟩) n n]) (by simp [results, Try.results63, go_sem, *]) rfl ⟨⟨_, rfl, w.heap.size + 1 + 1, rfl, by omega, ?_⟩, ?_⟩
  · exact Hb3.out.far (by simp) _
  · exact bel3.setCell (by simp) _
end Go.Proofs.Ytgkeiaggldahnaa
