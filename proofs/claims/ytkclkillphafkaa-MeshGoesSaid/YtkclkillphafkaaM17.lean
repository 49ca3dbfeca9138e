/- mesh: what Twin makes; Great. -/
import Derived.Test.YtkclkillphafkaaM16
namespace Go.Proofs.Ytkclkillphafkaa
open Go.RowKit
set_option linter.unusedVariables false
/-- A row of the call's own stays behind an append to a row of another type. -/
theorem own_kept_ty {w w' : World} {b e s n b2 e2 s2 n2 : Nat} {v v2 : Value} {xs xs2 : List Value} (h : w.ownsRow b e s v n xs) (ho : w.ownsRow b2 e2 s2 v2 n2 xs2) (hne : e ≠ e2) (hg : w.grownBy w' v2.ownBlock) : w'.ownsRow b e s v n xs := by
  refine h.kept hg ?_
  rcases h.2 with ⟨rfl, _⟩ | ⟨g, cap, cur, rfl, _, hk, _⟩
  · exact .inl rfl
  · refine .inr ?_
    have hb : HasBlk w g e cur := hk
    exact fun he => hb.ne_own ho (Ne.symm hne) he.symm
/-- The numbers' row of a primitive. -/
def ivR (l : Nat → Int) : Nat → Nat → Value := fun k _ => .int .i64 (l k)
/-- A primitive's cells. -/
def pv (D : Nat → PrimD) : Nat → Nat → Value := fun i j => if j = 0 then .int .u8 (D i).k else .slice (D i).a (D i).n (D i).c
theorem pv_one (D : Nat → PrimD) (i j : Nat) : (pv D i j).oneCell' = true := by unfold pv; split <;> rfl
/-- Primitives of the call's own. -/
structure POwn (B : Nat) (w : World) (A : Option Addr) (c m : Nat) (D : Nat → PrimD) : Prop where
  row : w.ownsRow B 24 2 (.slice A m c) m (cellsR 2 (pv D) m)
  ints : ∀ i, i < m → w.ownsRow B 3 1 (.slice (D i).a (D i).n (D i).c) (D i).n (cellsR 1 (ivR (D i).l) (D i).n)
theorem POwn.below {B c m : Nat} {w w' : World} {A : Option Addr} {D : Nat → PrimD} (h : POwn B w A c m D) (hb : Below w.heap.size w w') : POwn B w' A c m D := ⟨own_below h.row hb, fun i hi => own_below (h.ints i hi) hb⟩
theorem is_own {w : World} {B c n : Nat} {A : Option Addr} {l : Nat → Int} (h : w.ownsRow B 3 1 (.slice A n c) n (cellsR 1 (ivR l) n)) : IS w A n l :=
  IS.of_own h l fun i hi => by have := cellsR_at (s := 1) (F := ivR l) hi (show 0 < 1 by omega); simpa [ivR, iv] using this
theorem is_row {w : World} {n : Nat} {A : Option Addr} {l : Nat → Int} (h : IS w A n l) : Row w A n 1 (ivR l) := fun hn => by
  obtain ⟨g, off, e, hg, hc⟩ := h hn
  refine ⟨g, off, e, hg, fun i hi j hj => ?_⟩
  obtain rfl : j = 0 := by omega
  rw [Nat.mul_one, Nat.add_zero]
  exact hc i hi
theorem POwn.pl {B c m : Nat} {w : World} {A : Option Addr} {D : Nat → PrimD} (h : POwn B w A c m D) : PL w A m D := fun hm => by
  obtain ⟨g, off, e, hg, hc⟩ := (Row.of_cells h.row) hm
  refine ⟨g, off, e, hg, fun i hi => ⟨?_, ?_⟩, fun i hi => is_own (h.ints i hi)⟩
  · have := hc i hi 0 (by omega)
    simpa [pv] using this
  · have := hc i hi 1 (by omega)
    simpa [pv] using this
/-- A mesh of the call's own. -/
structure MOwn (B : Nat) (w : World) (A1 A2 A3 : Option Addr) (c1 c2 c3 n1 n2 m : Nat) (V U : Nat → Nat → Int) (D : Nat → PrimD) : Prop where
  v : w.ownsRow B 51 3 (.slice A1 n1 c1) n1 (cellsR 3 (fun i j => .int .i64 (V i j)) n1)
  u : w.ownsRow B 52 2 (.slice A2 n2 c2) n2 (cellsR 2 (fun i j => .int .i64 (U i j)) n2)
  p : POwn B w A3 c3 m D
theorem MOwn.below {B c1 c2 c3 n1 n2 m : Nat} {w w' : World} {A1 A2 A3 : Option Addr} {V U : Nat → Nat → Int} {D : Nat → PrimD} (h : MOwn B w A1 A2 A3 c1 c2 c3 n1 n2 m V U D) (hb : Below w.heap.size w w') : MOwn B w' A1 A2 A3 c1 c2 c3 n1 n2 m V U D :=
  ⟨own_below h.v hb, own_below h.u hb, h.p.below hb⟩
/-- The same primitives, their numbers elsewhere. -/
def reD (D : Nat → PrimD) (a : Nat → Option Addr) (c : Nat → Nat) : Nat → PrimD := fun i => ⟨(D i).k, a i, (D i).n, c i, (D i).l⟩
def updF {α : Type} (f : Nat → α) (k : Nat) (x : α) : Nat → α := fun i => if i = k then x else f i
theorem updF_at {α : Type} (f : Nat → α) (k : Nat) (x : α) : updF f k x k = x := if_pos rfl
theorem updF_ne {α : Type} (f : Nat → α) {k i : Nat} (x : α) (h : i ≠ k) : updF f k x i = f i := if_neg h
/-- What stands in Twin's loop: the boxes P (the argument), R (the result), U (what grows) and the rows. -/
structure TwI (B : Nat) (w0 wr : World) (P0 R0 U0 : Nat) (pc rc uc : Array Value) (B1 B2 B3 : Option Addr) (d1 d2 d3 n1 n2 k : Nat) (V U : Nat → Nat → Int) (D : Nat → PrimD) : Prop where
  bel : Below B w0 wr
  p : HasBlk wr P0 42 pc
  r : HasBlk wr R0 42 rc
  u : HasBlk wr U0 42 uc
  o : MOwn B wr B1 B2 B3 d1 d2 d3 n1 n2 k V U D
section
variable {B : Nat} {w0 wr w' : World} {P0 R0 U0 : Nat} {pc rc uc : Array Value} {B1 B2 B3 : Option Addr} {d1 d2 d3 n1 n2 k : Nat} {V U : Nat → Nat → Int} {D : Nat → PrimD} {a : Nat → Option Addr} {c : Nat → Nat}
theorem TwI.below (h : TwI B w0 wr P0 R0 U0 pc rc uc B1 B2 B3 d1 d2 d3 n1 n2 k V U D) (hB : B ≤ wr.heap.size) (hb : Below wr.heap.size wr w') : TwI B w0 w' P0 R0 U0 pc rc uc B1 B2 B3 d1 d2 d3 n1 n2 k V U D :=
  ⟨h.bel.trans (hb.mono hB), h.p.below hb, h.r.below hb, h.u.below hb, h.o.below hb⟩
/-- The loop's last step: the primitive is appended, and stored. -/
theorem TwI.push (h : TwI B w0 wr P0 R0 U0 pc rc uc B1 B2 B3 d1 d2 d3 n1 n2 k V U (reD D a c)) (hB : B ≤ wr.heap.size) (hU : B ≤ U0) (hpu : P0 ≠ U0) (hru : R0 ≠ U0) {A' : Option Addr} {c' : Nat}
    (hi : wr.ownsRow B 3 1 (.slice A' (D k).n c') (D k).n (cellsR 1 (ivR (D k).l) (D k).n)) (hg : wr.grownBy w' (Value.slice B3 k d3).ownBlock) {X3 : Option Addr} {e3 : Nat}
    (ho : w'.ownsRow B 24 2 (.slice X3 (k + 1) e3) (k + 1) (cellsR 2 (pv (reD D a c)) k ++ [.int .u8 (D k).k, .slice A' (D k).n c'])) :
    TwI B w0 (w'.setCell ⟨U0, 2, none⟩ (.slice X3 (k + 1) e3)) P0 R0 U0 pc rc (uc.setIfInBounds 2 (.slice X3 (k + 1) e3)) B1 B2 X3 d1 d2 e3 n1 n2 (k + 1) V U (reD D (updF a k A') (updF c k c')) := by
  have hu' : HasBlk w' U0 42 uc := h.u.grown hg (h.u.ne_own h.o.p.row (by decide))
  have hp' : HasBlk w' P0 42 pc := h.p.grown hg (h.p.ne_own h.o.p.row (by decide))
  have hr' : HasBlk w' R0 42 rc := h.r.grown hg (h.r.ne_own h.o.p.row (by decide))
  have hv' := own_kept_ty h.o.v h.o.p.row (by decide) hg
  have hw' := own_kept_ty h.o.u h.o.p.row (by decide) hg
  have hb' : Below B w0 w' := below_grown h.bel hg h.o.p.row (Nat.le_refl _) hB
  have far : ∀ {e s n : Nat} {v : Value} {xs : List Value}, w'.ownsRow B e s v n xs → e ≠ 42 → (w'.setCell ⟨U0, 2, none⟩ (.slice X3 (k + 1) e3)).ownsRow B e s v n xs :=
    fun ho hne => ownsRow_setCell_other (a := ⟨U0, 2, none⟩) ho (by have := hu'.ne_own ho hne; simpa using this) _
  have hcells : cellsR 2 (pv (reD D a c)) k ++ [.int .u8 (D k).k, .slice A' (D k).n c'] = cellsR 2 (pv (reD D (updF a k A') (updF c k c'))) (k + 1) := by
    rw [cellsR_succ]
    congr 1
    · refine cellsR_congr fun i hi j hj => ?_
      unfold pv reD
      dsimp only
      rw [updF_ne a A' (by omega), updF_ne c c' (by omega)]
    · show _ = [pv _ k 0, pv _ k 1]
      unfold pv reD
      dsimp only
      rw [updF_at, updF_at, if_pos rfl, if_neg (by decide)]
  refine ⟨hb'.setCell (p := ⟨U0, 2, none⟩) hU _, hp'.far (p := ⟨U0, 2, none⟩) (Ne.symm hpu) _, hr'.far (p := ⟨U0, 2, none⟩) (Ne.symm hru) _, hu'.set 2 _, ⟨far hv' (by decide), far hw' (by decide), ⟨?_, fun i hi' => ?_⟩⟩⟩
  · rw [← hcells]
    exact far ho (by decide)
  · refine far ?_ (by decide)
    rcases Nat.lt_or_ge i k with hlt | hge
    · have := own_kept_ty (h.o.p.ints i hlt) h.o.p.row (by decide) hg
      unfold reD at this ⊢
      dsimp only at this ⊢
      rw [updF_ne a A' (by omega), updF_ne c c' (by omega)]
      exact this
    · obtain rfl : i = k := by omega
      unfold reD
      dsimp only
      rw [updF_at, updF_at]
      exact own_kept_ty hi h.o.p.row (by decide) hg
end

set_option maxRecDepth 100000 in
set_option maxHeartbeats 2000000 in
theorem great17_any (A1 A2 A3 : Option Addr) (n1 n2 m c1 c2 c3 : Nat) (D : Nat → PrimD) (w : World) (hp : PL w A3 m D) :
    Calls Try.prog 17 #[.agg #[.slice A1 n1 c1, .slice A2 n2 c2, .slice A3 m c3]] w fun e w' => EqR (1000 < n1 ∨ 1000 < n2 ∨ 100 < m ∨ ∃ i, i < m ∧ 1000 < (D i).n) e ∧ Below w.heap.size w w' := by
  have HP := Lib.hid hp
  clear hp
  have hb0 : Below w.heap.size w (w.alloc (.cells #[.slice A1 n1 c1, .slice A2 n2 c2, .slice A3 m c3] 42)) := (Below.refl _ _).alloc (Nat.le_refl _) _
  have HB0 := Lib.hid hb0
  clear hb0
  by_cases h0 : ((1000 : Nat) : Int) < ((n1 : Nat) : Int)
  · have g0 : decide (((1000) : Int) < ((n1 : Nat) : Int)) = true := decide_eq_true h0
    have Hk := Lib.hid (show 1000 < n1 by omega)
    clear h0
    go_enter Try.func17, Try.ntmps17
    go_wp2
    go_ret
    exact ⟨⟨true, rfl, ⟨fun _ => .inl Hk.out, fun _ => rfl⟩⟩, HB0.out⟩
  have g0 : decide (((1000) : Int) < ((n1 : Nat) : Int)) = false := decide_eq_false h0
  have H0 := Lib.hid h0
  clear h0
  by_cases h1 : ((1000 : Nat) : Int) < ((n2 : Nat) : Int)
  · have g1 : decide (((1000) : Int) < ((n2 : Nat) : Int)) = true := decide_eq_true h1
    have Hk := Lib.hid (show 1000 < n2 by omega)
    clear h1
    go_enter Try.func17, Try.ntmps17
    go_wp2
    go_ret
    exact ⟨⟨true, rfl, ⟨fun _ => .inr (.inl Hk.out), fun _ => rfl⟩⟩, HB0.out⟩
  have g1 : decide (((1000) : Int) < ((n2 : Nat) : Int)) = false := decide_eq_false h1
  have H1 := Lib.hid h1
  clear h1
  by_cases h2 : ((100 : Nat) : Int) < ((m : Nat) : Int)
  · have g2 : decide (((100) : Int) < ((m : Nat) : Int)) = true := decide_eq_true h2
    have Hk := Lib.hid (show 100 < m by omega)
    clear h2
    go_enter Try.func17, Try.ntmps17
    go_wp2
    go_ret
    exact ⟨⟨true, rfl, ⟨fun _ => .inr (.inr (.inl Hk.out)), fun _ => rfl⟩⟩, HB0.out⟩
  have g2 : decide (((100) : Int) < ((m : Nat) : Int)) = false := decide_eq_false h2
  have H2 := Lib.hid h2
  clear h2
  have m100 : (m : Int) ≤ 100 := by have := H2.out; omega
  go_enter Try.func17, Try.ntmps17
  go_wp2
  go_loop [3] (fun i => ∃ k : Nat, k ≤ m ∧ i = .int .i64 k ∧ ∀ q, q < k → (D q).n ≤ 1000) (fun i => m - (intOf i).toNat)
  case atStart => exact ⟨0, Nat.zero_le _, rfl, fun q hq => absurd hq (by omega)⟩
  case round =>
    obtain ⟨k, hk, rfl, hall⟩ := hrel
    have Hall := Lib.hid hall
    clear hall
    by_cases hkm : k < m
    · obtain ⟨b, off, rfl, hbl, hc, _⟩ := HP.out (by omega)
      have d1 := (hc k hkm).2
      have hi0' : (0 : Int) ≤ (k : Int) := by omega
      have hi1' : (k : Int) < (m : Int) := by omega
      have d1' : (w.alloc (.cells #[.slice (some ⟨b, off, none⟩) m c3] 0)).heap.size = w.heap.size + 1 := by simp
      clear hc d1'
      by_cases hx : (1000 : Int) < ((D k).n : Int)
      · have g4 : decide ((1000 : Int) < ((D k).n : Int)) = true := decide_eq_true hx
        have Hx := Lib.hid (show 1000 < (D k).n by omega)
        clear hx
        go_wp2
        go_ret
        exact ⟨⟨true, rfl, ⟨fun _ => .inr (.inr (.inr ⟨k, hkm, Hx.out⟩)), fun _ => rfl⟩⟩, HB0.out⟩
      have g4 : decide ((1000 : Int) < ((D k).n : Int)) = false := decide_eq_false hx
      have Hx := Lib.hid (show (D k).n ≤ 1000 by omega)
      clear hx
      go_wp2
      go_round
      case rel =>
        refine ⟨k + 1, by omega, by go_num, fun q hq => ?_⟩
        rcases Nat.lt_or_ge q k with h | h
        · exact Hall.out q h
        · obtain rfl : q = k := by omega
          exact Hx.out
      case measure => simp [intOf]; omega
    · obtain rfl : k = m := by omega
      go_wp2
      go_ret
      refine ⟨⟨false, rfl, ⟨fun z => (by cases z), fun z => ?_⟩⟩, HB0.out⟩
      exfalso
      have q0 := H0.out
      have q1 := H1.out
      rcases z with z | z | z | ⟨i, hi, z⟩
      · omega
      · omega
      · omega
      · have := Hall.out i hi
        omega
end Go.Proofs.Ytkclkillphafkaa
