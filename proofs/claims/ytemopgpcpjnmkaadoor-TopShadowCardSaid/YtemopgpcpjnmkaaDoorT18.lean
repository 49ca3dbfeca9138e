/- top: shows as data; whether textures and looks may be. -/
import Derived.Test.YtemopgpcpjnmkaaDoorOwnL
import Derived.Test.YtemopgpcpjnmkaaDoorT8
import Derived.Lib.MinMax
namespace Go.Proofs.YtemopgpcpjnmkaaDoor
open Go.RowKit
set_option linter.unusedVariables false
/-- A texture: its texels are not read. -/
structure Tx where
  W : Int
  H : Int
  A : Option Addr
  n : Nat
  c : Nat
def Tx.cells (t : Tx) : List Value := [.int .i64 t.W, .int .i64 t.H, .slice t.A t.n t.c]
def Tx.Ok (t : Tx) : Prop := ((0 < t.W ∧ t.W ≤ 16) ∧ (0 < t.H ∧ t.H ≤ 16)) ∧ (t.n : Int) = t.W * t.H
theorem Tx.len (a : Tx) : a.cells.length = 3 := rfl
/-- A look. -/
structure Lk where
  c0 : Int
  c1 : Int
  c2 : Int
  c3 : Int
  tex : Int
  cull : Int
  bias : Int
  blend : Bool
  bin : Int
def Lk.cells (l : Lk) : List Value := [.int .u8 l.c0, .int .u8 l.c1, .int .u8 l.c2, .int .u8 l.c3, .int .i64 l.tex, .int .u8 l.cull, .int .i64 l.bias, .bool l.blend, .int .i64 l.bin]
def Lk.Ok (l : Lk) (n : Int) : Prop := (0 ≤ n ∧ n ≤ 16) ∧ (-1 ≤ l.tex ∧ l.tex < n) ∧ l.cull ≤ 2 ∧ (-1024 ≤ l.bias ∧ l.bias ≤ 1024) ∧ (0 ≤ l.bin ∧ l.bin ≤ 15)
def V3.cells (v : V3) : List Value := [.int .i64 v.x, .int .i64 v.y, .int .i64 v.z]
def B3.cells (b : B3) : List Value := [.int .i64 b.lo.x, .int .i64 b.lo.y, .int .i64 b.lo.z, .int .i64 b.hi.x, .int .i64 b.hi.y, .int .i64 b.hi.z]
structure U2 where
  u : Int
  v : Int
def U2.cells (t : U2) : List Value := [.int .i64 t.u, .int .i64 t.v]
structure I3 where
  a : Int
  b : Int
  c : Int
def I3.cells (t : I3) : List Value := [.int .i64 t.a, .int .i64 t.b, .int .i64 t.c]
theorem V3.len (a : V3) : a.cells.length = 3 := rfl
theorem U2.len (a : U2) : a.cells.length = 2 := rfl
theorem I3.len (a : I3) : a.cells.length = 3 := rfl
/-- An item, and where its lists lie. -/
structure It where
  V : List V3
  U : List U2
  T : List I3
  look : Lk
  box : B3
  Av : Option Addr
  cv : Nat
  Au : Option Addr
  cu : Nat
  At : Option Addr
  ct : Nat
def It.cells (i : It) : List Value := [.slice i.Av i.V.length i.cv, .slice i.Au i.U.length i.cu, .slice i.At i.T.length i.ct, .int .u8 i.look.c0, .int .u8 i.look.c1, .int .u8 i.look.c2, .int .u8 i.look.c3, .int .i64 i.look.tex, .int .u8 i.look.cull, .int .i64 i.look.bias, .bool i.look.blend, .int .i64 i.look.bin, .int .i64 i.box.lo.x, .int .i64 i.box.lo.y, .int .i64 i.box.lo.z, .int .i64 i.box.hi.x, .int .i64 i.box.hi.y, .int .i64 i.box.hi.z]
theorem It.len (a : It) : a.cells.length = 18 := rfl
def It.Rd (i : It) (w : World) : Prop := RowL w i.Av 3 V3.cells i.V ∧ RowL w i.Au 2 U2.cells i.U ∧ RowL w i.At 3 I3.cells i.T ∧ i.V.length ≤ i.cv ∧ 0 ≤ i.look.cull
theorem It.Rd.below {i : It} {w w' : World} (h : i.Rd w) (hb : Below w.heap.size w w') : i.Rd w' := ⟨h.1.below hb, h.2.1.below hb, h.2.2.1.below hb, h.2.2.2⟩
/-- A show, and where its lists lie. -/
structure Sh where
  I : List It
  X : List Tx
  Ai : Option Addr
  ci : Nat
  Ax : Option Addr
  cx : Nat
def Sh.cells (s : Sh) : List Value := [.slice s.Ai s.I.length s.ci, .slice s.Ax s.X.length s.cx]
def Sh.Rd (s : Sh) (w : World) : Prop := RowL w s.Ai 18 It.cells s.I ∧ (∀ i ∈ s.I, i.Rd w) ∧ RowL w s.Ax 3 Tx.cells s.X
theorem Sh.Rd.below {s : Sh} {w w' : World} (h : s.Rd w) (hb : Below w.heap.size w w') : s.Rd w' := ⟨h.1.below hb, fun i hi => (h.2.1 i hi).below hb, h.2.2.below hb⟩
theorem sideb_any (n : Int) (b : Bool) (hb : (decide (0 < n) && decide (n ≤ 16)) = b) (w : World) : Calls Tryd.prog 74 #[.int .i64 n] w fun e w' => e = .returned (.bool b) ∧ Below w.heap.size w w' := by
  by_cases h1 : 0 < n
  · have g1 : decide (0 < n) = true := decide_eq_true h1
    rw [g1, Bool.true_and] at hb
    go_enter Tryd.func74, Tryd.ntmps74
    go_wp2
    go_ret
    exact ⟨by first | rfl | rw [hb], Below.refl _ _⟩
  · have g1 : decide (0 < n) = false := decide_eq_false h1
    rw [g1, Bool.false_and] at hb
    subst hb
    go_enter Tryd.func74, Tryd.ntmps74
    go_wp2
    go_ret
    exact ⟨by first | rfl | rw [hb], Below.refl _ _⟩
theorem mul_bd3 {A B a b : Int} (hA : 0 ≤ A) (ha : -A ≤ a ∧ a ≤ A) (hb : -B ≤ b ∧ b ≤ B) : -(A * B) ≤ a * b ∧ a * b ≤ A * B := by
  rcases Int.le_total 0 a with h | h
  · have k1 := Int.mul_le_mul_of_nonneg_left hb.1 h
    have k2 := Int.mul_le_mul_of_nonneg_left hb.2 h
    have hB : 0 ≤ B := by omega
    have k3 := Int.mul_le_mul_of_nonneg_right ha.2 hB
    have e : a * -B = -(a * B) := Int.mul_neg _ _
    omega
  · have k1 := Int.mul_le_mul_of_nonpos_left h hb.1
    have k2 := Int.mul_le_mul_of_nonpos_left h hb.2
    have hB : 0 ≤ B := by omega
    have k3 := Int.mul_le_mul_of_nonneg_right ha.1 hB
    have e : a * -B = -(a * B) := Int.mul_neg _ _
    have e2 : -A * B = -(A * B) := Int.neg_mul _ _
    omega

set_option maxRecDepth 100000 in
set_option maxHeartbeats 8000000 in
theorem tcheck_any (t : Tx) (w : World) : Calls Tryd.prog 65 #[.agg #[.int .i64 t.W, .int .i64 t.H, .slice t.A t.n t.c]] w fun e w' => ∃ q, e = .returned (.int .i64 q) ∧ (q = 0 ↔ t.Ok) ∧ Below w.heap.size w w' := by
  by_cases h1 : 0 < t.W ∧ t.W ≤ 16
  rotate_left
  · have HSW := Lib.hid (show (decide (0 < t.W) && decide (t.W ≤ 16)) = false by rw [← Bool.decide_and]; exact decide_eq_false h1)
    have H1 := Lib.hid h1
    clear h1
    obtain ⟨v0, hv0, BX, HB⟩ := lay1 w 64 #[.int .i64 t.W, .int .i64 t.H, .slice t.A t.n t.c]
    go_enter Tryd.func65, Tryd.ntmps65
    go_upto_region 1 with fail
    rw [← hv0.out]
    clear hv0
    have bx_ := BX.out.c3
    have KX := Lib.hid (sideb_any t.W false HSW.out v0)
    go_wp2_with fail
    refine KX.out.mono ?_
    rintro e v1 ⟨rfl, bel⟩
    clear KX
    clear bx_
    replace BX := mB BX bel
    replace HB := mT HB bel
    clear bel
    have bx_ := BX.out.c3
    go_wp2
    go_ret
    exact ⟨8, rfl, ⟨fun h => absurd h (by decide), fun h => absurd h.1.1 H1.out⟩, HB.out⟩
  have HSW := Lib.hid (show (decide (0 < t.W) && decide (t.W ≤ 16)) = true by rw [← Bool.decide_and]; exact decide_eq_true h1)
  by_cases h2 : 0 < t.H ∧ t.H ≤ 16
  rotate_left
  · have HSH := Lib.hid (show (decide (0 < t.H) && decide (t.H ≤ 16)) = false by rw [← Bool.decide_and]; exact decide_eq_false h2)
    have H2 := Lib.hid h2
    clear h1 h2
    obtain ⟨v0, hv0, BX, HB⟩ := lay1 w 64 #[.int .i64 t.W, .int .i64 t.H, .slice t.A t.n t.c]
    go_enter Tryd.func65, Tryd.ntmps65
    go_upto_region 1 with fail
    rw [← hv0.out]
    clear hv0
    have bx_ := BX.out.c3
    have KX := Lib.hid (sideb_any t.W true HSW.out v0)
    go_wp2_with fail
    refine KX.out.mono ?_
    rintro e v1 ⟨rfl, bel⟩
    clear KX
    clear bx_
    replace BX := mB BX bel
    replace HB := mT HB bel
    clear bel
    have bx_ := BX.out.c3
    have KX := Lib.hid (sideb_any t.H false HSH.out v1)
    go_wp2_with fail
    refine KX.out.mono ?_
    rintro e v2 ⟨rfl, bel⟩
    clear KX
    clear bx_
    replace BX := mB BX bel
    replace HB := mT HB bel
    clear bel
    have bx_ := BX.out.c3
    go_wp2
    go_ret
    exact ⟨8, rfl, ⟨fun h => absurd h (by decide), fun h => absurd h.1.2 H2.out⟩, HB.out⟩
  have HSH := Lib.hid (show (decide (0 < t.H) && decide (t.H ≤ 16)) = true by rw [← Bool.decide_and]; exact decide_eq_true h2)
  have HW := Lib.hid h1
  have HH := Lib.hid h2
  have hm := mul_bd3 (A := 16) (B := 16) (a := t.W) (b := t.H) (by decide) (by omega) (by omega)
  have w1 : IntKind.i64.wrap (t.W * t.H) = t.W * t.H := IntWalk.i64_in _ (by omega)
  clear h1 h2 hm
  by_cases h3 : (t.n : Int) = t.W * t.H
  · have g3 : ((t.n : Int) != t.W * t.H) = false := by simp [h3]
    have H3 := Lib.hid h3
    clear h3
    obtain ⟨v0, hv0, BX, HB⟩ := lay1 w 64 #[.int .i64 t.W, .int .i64 t.H, .slice t.A t.n t.c]
    go_enter Tryd.func65, Tryd.ntmps65
    go_upto_region 1 with fail
    rw [← hv0.out]
    clear hv0
    have bx_ := BX.out.c3
    have KX := Lib.hid (sideb_any t.W true HSW.out v0)
    go_wp2_with fail
    refine KX.out.mono ?_
    rintro e v1 ⟨rfl, bel⟩
    clear KX
    clear bx_
    replace BX := mB BX bel
    replace HB := mT HB bel
    clear bel
    have bx_ := BX.out.c3
    have KX := Lib.hid (sideb_any t.H true HSH.out v1)
    go_wp2_with fail
    refine KX.out.mono ?_
    rintro e v2 ⟨rfl, bel⟩
    clear KX
    clear bx_
    replace BX := mB BX bel
    replace HB := mT HB bel
    clear bel
    have bx_ := BX.out.c3
    go_wp2
    go_ret
    exact ⟨0, rfl, ⟨fun _ => ⟨⟨HW.out, HH.out⟩, H3.out⟩, fun _ => rfl⟩, HB.out⟩
  · have g3 : ((t.n : Int) != t.W * t.H) = true := by simp [h3]
    have H3 := Lib.hid h3
    clear h3
    obtain ⟨v0, hv0, BX, HB⟩ := lay1 w 64 #[.int .i64 t.W, .int .i64 t.H, .slice t.A t.n t.c]
    go_enter Tryd.func65, Tryd.ntmps65
    go_upto_region 1 with fail
    rw [← hv0.out]
    clear hv0
    have bx_ := BX.out.c3
    have KX := Lib.hid (sideb_any t.W true HSW.out v0)
    go_wp2_with fail
    refine KX.out.mono ?_
    rintro e v1 ⟨rfl, bel⟩
    clear KX
    clear bx_
    replace BX := mB BX bel
    replace HB := mT HB bel
    clear bel
    have bx_ := BX.out.c3
    have KX := Lib.hid (sideb_any t.H true HSH.out v1)
    go_wp2_with fail
    refine KX.out.mono ?_
    rintro e v2 ⟨rfl, bel⟩
    clear KX
    clear bx_
    replace BX := mB BX bel
    replace HB := mT HB bel
    clear bel
    have bx_ := BX.out.c3
    go_wp2
    go_ret
    exact ⟨8, rfl, ⟨fun h => absurd h (by decide), fun h => absurd h.2 H3.out⟩, HB.out⟩

set_option maxRecDepth 100000 in
set_option maxHeartbeats 16000000 in
theorem tchecks_any (A : Option Addr) (c : Nat) (L : List Tx) (w : World) (hR : RowL w A 3 Tx.cells L) : Calls Tryd.prog 45 #[.slice A L.length c] w fun e w' => ∃ q, e = .returned (.int .i64 q) ∧ (q = 0 ↔ L.length ≤ 16 ∧ ∀ t ∈ L, t.Ok) ∧ Below w.heap.size w w' := by
  have HR := Lib.hid hR
  clear hR
  obtain ⟨n, hn⟩ : ∃ n, n = L.length := ⟨_, rfl⟩
  rw [← hn]
  have HN := Lib.hid hn
  clear hn
  by_cases h1 : n ≤ 16
  rotate_left
  · have g1 : decide ((16 : Int) < (n : Int)) = true := decide_eq_true (by omega)
    have H1 := Lib.hid h1
    clear h1
    go_enter Tryd.func45, Tryd.ntmps45
    go_wp2
    go_ret
    exact ⟨4, rfl, ⟨fun h => absurd h (by decide), fun h => absurd h.1 H1.out⟩, Below.refl _ _⟩
  have g1 : decide ((16 : Int) < (n : Int)) = false := decide_eq_false (by omega)
  go_enter Tryd.func45, Tryd.ntmps45
  go_wp2
  clear g1
  go_loopw [11] (fun s wr => ∃ k : Nat, k ≤ n ∧ s = .int .i64 k ∧ Below w.heap.size w wr ∧ ∀ i t, i < k → L[i]? = some t → t.Ok) (fun s wr => n - (intOf s).toNat)
  case atStart => exact ⟨0, Nat.zero_le _, rfl, Below.refl _ _, fun i t h => absurd h (by omega)⟩
  case round =>
    obtain ⟨k, hk, rfl, hbel, hall⟩ := hrel
    have HB := Lib.hid hbel
    have HAll := Lib.hid hall
    clear hbel hall
    by_cases hkn : k < n
    rotate_left
    · obtain rfl : n = k := by omega
      have d0 : decide ((n : Int) < (n : Int)) = false := by simp
      go_wp2
      go_ret
      refine ⟨0, rfl, ⟨fun _ => ⟨h1, fun t ht => ?_⟩, fun _ => rfl⟩, HB.out⟩
      obtain ⟨i, hi⟩ := List.getElem?_of_mem ht
      exact HAll.out i t (by have := (List.getElem?_eq_some_iff.1 hi).1; rw [HN.out]; exact this) hi
    have d0 : decide ((k : Int) < (n : Int)) = true := decide_eq_true (by omega)
    obtain ⟨g, o, rfl, hg, hc⟩ := HR.out.below HB.out (by rw [← HN.out]; omega)
    obtain ⟨u, hu⟩ : ∃ u, L[k]? = some u := ⟨_, List.getElem?_eq_getElem (by rw [← HN.out]; exact hkn)⟩
    have c0 := hc k u hu 0 _ rfl
    have c1 := hc k u hu 1 _ rfl
    have c2 := hc k u hu 2 _ rfl
    simp only [Nat.add_zero] at c0 c1 c2
    have HU := Lib.hid hu
    clear hc hu
    have i1 : (k : Int) < (n : Int) := by omega
    have i0 : (0 : Int) ≤ (k : Int) := by omega
    go_upto_region 6 with fail
    obtain ⟨u0, x6, hz, hx', SX, bA⟩ := laidB wr 64 #[.int .i64 u.W, .int .i64 u.H, .slice u.A u.n u.c]
    rw [← hz.out, ← hx'.out]
    replace HB := mT HB bA
    clear hz hx' bA
    clear c0 c1 c2 hg
    have sx_ := SX.out.c3
    have KX := Lib.hid (tcheck_any u u0)
    go_wp2_with fail
    refine KX.out.mono ?_
    rintro e u1 ⟨q, rfl, hq, bel⟩
    clear KX
    clear sx_
    have HQ := Lib.hid hq
    clear hq
    replace SX := mB SX bel
    replace HB := mT HB bel
    clear bel
    by_cases hq0 : q = 0
    · subst hq0
      go_wp2
      go_roundw
      case rel =>
        refine ⟨k + 1, by omega, by go_num, HB.out, fun i t hi ht => ?_⟩
        rcases Nat.lt_or_ge i k with h | h
        · exact HAll.out i t h ht
        · obtain rfl : i = k := by omega
          rw [HU.out] at ht
          injection ht with ht
          subst ht
          exact (by have := HQ.out; simpa using this)
      case measure => simp [intOf]; omega
    · have g0 : (q != 0) = true := by simp [hq0]
      have HQ0 := Lib.hid hq0
      clear hq0
      go_wp2
      go_ret
      exact ⟨q, rfl, ⟨fun h => absurd h HQ0.out, fun h => absurd (HQ.out.2 (h.2 u (List.mem_of_getElem? HU.out))) HQ0.out⟩, HB.out⟩

set_option maxRecDepth 100000 in
set_option maxHeartbeats 16000000 in
theorem look_any (l : Lk) (n : Int) (w : World) : Calls Tryd.prog 67 #[.agg #[.int .u8 l.c0, .int .u8 l.c1, .int .u8 l.c2, .int .u8 l.c3, .int .i64 l.tex, .int .u8 l.cull, .int .i64 l.bias, .bool l.blend, .int .i64 l.bin], .int .i64 n] w fun e w' => ∃ q, e = .returned (.int .i64 q) ∧ (q = 0 ↔ l.Ok n) ∧ Below w.heap.size w w' := by
  by_cases h0 : n < 0
  · have g0 : decide (n < 0) = true := decide_eq_true h0
    have HX := Lib.hid h0
    clear h0
    obtain ⟨v0, hv0, BL, HB⟩ := lay1 w 48 #[.int .u8 l.c0, .int .u8 l.c1, .int .u8 l.c2, .int .u8 l.c3, .int .i64 l.tex, .int .u8 l.cull, .int .i64 l.bias, .bool l.blend, .int .i64 l.bin]
    go_enter Tryd.func67, Tryd.ntmps67
    go_upto_region 1 with fail
    rw [← hv0.out]
    clear hv0
    have bl_ := BL.out.c9
    go_wp2
    go_ret
    exact ⟨2, rfl, ⟨fun h => absurd h (by decide), fun h => absurd HX.out (by have := h.1.1; omega)⟩, HB.out⟩
  have g0 : decide (n < 0) = false := decide_eq_false h0
  by_cases h1 : 16 < n
  · have g1 : decide (16 < n) = true := decide_eq_true h1
    have HX := Lib.hid h1
    clear h0 h1
    obtain ⟨v0, hv0, BL, HB⟩ := lay1 w 48 #[.int .u8 l.c0, .int .u8 l.c1, .int .u8 l.c2, .int .u8 l.c3, .int .i64 l.tex, .int .u8 l.cull, .int .i64 l.bias, .bool l.blend, .int .i64 l.bin]
    go_enter Tryd.func67, Tryd.ntmps67
    go_upto_region 1 with fail
    rw [← hv0.out]
    clear hv0
    have bl_ := BL.out.c9
    go_wp2
    go_ret
    exact ⟨2, rfl, ⟨fun h => absurd h (by decide), fun h => absurd HX.out (by have := h.1.2; omega)⟩, HB.out⟩
  have g1 : decide (16 < n) = false := decide_eq_false h1
  by_cases h2 : l.tex < -1
  · have g2 : decide (l.tex < -1) = true := decide_eq_true h2
    have HX := Lib.hid h2
    clear h0 h1 h2
    obtain ⟨v0, hv0, BL, HB⟩ := lay1 w 48 #[.int .u8 l.c0, .int .u8 l.c1, .int .u8 l.c2, .int .u8 l.c3, .int .i64 l.tex, .int .u8 l.cull, .int .i64 l.bias, .bool l.blend, .int .i64 l.bin]
    go_enter Tryd.func67, Tryd.ntmps67
    go_upto_region 1 with fail
    rw [← hv0.out]
    clear hv0
    have bl_ := BL.out.c9
    go_wp2
    go_ret
    exact ⟨8, rfl, ⟨fun h => absurd h (by decide), fun h => absurd HX.out (by have := h.2.1.1; omega)⟩, HB.out⟩
  have g2 : decide (l.tex < -1) = false := decide_eq_false h2
  by_cases h3 : n ≤ l.tex
  · have g3 : decide (n ≤ l.tex) = true := decide_eq_true h3
    have HX := Lib.hid h3
    clear h0 h1 h2 h3
    obtain ⟨v0, hv0, BL, HB⟩ := lay1 w 48 #[.int .u8 l.c0, .int .u8 l.c1, .int .u8 l.c2, .int .u8 l.c3, .int .i64 l.tex, .int .u8 l.cull, .int .i64 l.bias, .bool l.blend, .int .i64 l.bin]
    go_enter Tryd.func67, Tryd.ntmps67
    go_upto_region 1 with fail
    rw [← hv0.out]
    clear hv0
    have bl_ := BL.out.c9
    go_wp2
    go_ret
    exact ⟨8, rfl, ⟨fun h => absurd h (by decide), fun h => absurd HX.out (by have := h.2.1.2; omega)⟩, HB.out⟩
  have g3 : decide (n ≤ l.tex) = false := decide_eq_false h3
  by_cases h4 : 2 < l.cull
  · have g4 : decide (2 < l.cull) = true := decide_eq_true h4
    have HX := Lib.hid h4
    clear h0 h1 h2 h3 h4
    obtain ⟨v0, hv0, BL, HB⟩ := lay1 w 48 #[.int .u8 l.c0, .int .u8 l.c1, .int .u8 l.c2, .int .u8 l.c3, .int .i64 l.tex, .int .u8 l.cull, .int .i64 l.bias, .bool l.blend, .int .i64 l.bin]
    go_enter Tryd.func67, Tryd.ntmps67
    go_upto_region 1 with fail
    rw [← hv0.out]
    clear hv0
    have bl_ := BL.out.c9
    go_wp2
    go_ret
    exact ⟨8, rfl, ⟨fun h => absurd h (by decide), fun h => absurd HX.out (by have := h.2.2.1; omega)⟩, HB.out⟩
  have g4 : decide (2 < l.cull) = false := decide_eq_false h4
  by_cases h5 : l.bias < -1024
  · have g5 : decide (l.bias < -1024) = true := decide_eq_true h5
    have HX := Lib.hid h5
    clear h0 h1 h2 h3 h4 h5
    obtain ⟨v0, hv0, BL, HB⟩ := lay1 w 48 #[.int .u8 l.c0, .int .u8 l.c1, .int .u8 l.c2, .int .u8 l.c3, .int .i64 l.tex, .int .u8 l.cull, .int .i64 l.bias, .bool l.blend, .int .i64 l.bin]
    go_enter Tryd.func67, Tryd.ntmps67
    go_upto_region 1 with fail
    rw [← hv0.out]
    clear hv0
    have bl_ := BL.out.c9
    go_wp2
    go_ret
    exact ⟨8, rfl, ⟨fun h => absurd h (by decide), fun h => absurd HX.out (by have := h.2.2.2.1.1; omega)⟩, HB.out⟩
  have g5 : decide (l.bias < -1024) = false := decide_eq_false h5
  by_cases h6 : 1024 < l.bias
  · have g6 : decide (1024 < l.bias) = true := decide_eq_true h6
    have HX := Lib.hid h6
    clear h0 h1 h2 h3 h4 h5 h6
    obtain ⟨v0, hv0, BL, HB⟩ := lay1 w 48 #[.int .u8 l.c0, .int .u8 l.c1, .int .u8 l.c2, .int .u8 l.c3, .int .i64 l.tex, .int .u8 l.cull, .int .i64 l.bias, .bool l.blend, .int .i64 l.bin]
    go_enter Tryd.func67, Tryd.ntmps67
    go_upto_region 1 with fail
    rw [← hv0.out]
    clear hv0
    have bl_ := BL.out.c9
    go_wp2
    go_ret
    exact ⟨8, rfl, ⟨fun h => absurd h (by decide), fun h => absurd HX.out (by have := h.2.2.2.1.2; omega)⟩, HB.out⟩
  have g6 : decide (1024 < l.bias) = false := decide_eq_false h6
  by_cases h7 : l.bin < 0
  · have g7 : decide (l.bin < 0) = true := decide_eq_true h7
    have HX := Lib.hid h7
    clear h0 h1 h2 h3 h4 h5 h6 h7
    obtain ⟨v0, hv0, BL, HB⟩ := lay1 w 48 #[.int .u8 l.c0, .int .u8 l.c1, .int .u8 l.c2, .int .u8 l.c3, .int .i64 l.tex, .int .u8 l.cull, .int .i64 l.bias, .bool l.blend, .int .i64 l.bin]
    go_enter Tryd.func67, Tryd.ntmps67
    go_upto_region 1 with fail
    rw [← hv0.out]
    clear hv0
    have bl_ := BL.out.c9
    go_wp2
    go_ret
    exact ⟨8, rfl, ⟨fun h => absurd h (by decide), fun h => absurd HX.out (by have := h.2.2.2.2.1; omega)⟩, HB.out⟩
  have g7 : decide (l.bin < 0) = false := decide_eq_false h7
  by_cases h8 : 15 < l.bin
  · have g8 : decide (15 < l.bin) = true := decide_eq_true h8
    have HX := Lib.hid h8
    clear h0 h1 h2 h3 h4 h5 h6 h7 h8
    obtain ⟨v0, hv0, BL, HB⟩ := lay1 w 48 #[.int .u8 l.c0, .int .u8 l.c1, .int .u8 l.c2, .int .u8 l.c3, .int .i64 l.tex, .int .u8 l.cull, .int .i64 l.bias, .bool l.blend, .int .i64 l.bin]
    go_enter Tryd.func67, Tryd.ntmps67
    go_upto_region 1 with fail
    rw [← hv0.out]
    clear hv0
    have bl_ := BL.out.c9
    go_wp2
    go_ret
    exact ⟨8, rfl, ⟨fun h => absurd h (by decide), fun h => absurd HX.out (by have := h.2.2.2.2.2; omega)⟩, HB.out⟩
  have g8 : decide (15 < l.bin) = false := decide_eq_false h8
  have HX := Lib.hid (show l.Ok n from ⟨⟨by omega, by omega⟩, ⟨by omega, by omega⟩, by omega, ⟨by omega, by omega⟩, ⟨by omega, by omega⟩⟩)
  clear h0 h1 h2 h3 h4 h5 h6 h7 h8
  obtain ⟨v0, hv0, BL, HB⟩ := lay1 w 48 #[.int .u8 l.c0, .int .u8 l.c1, .int .u8 l.c2, .int .u8 l.c3, .int .i64 l.tex, .int .u8 l.cull, .int .i64 l.bias, .bool l.blend, .int .i64 l.bin]
  go_enter Tryd.func67, Tryd.ntmps67
  go_upto_region 1 with fail
  rw [← hv0.out]
  clear hv0
  have bl_ := BL.out.c9
  go_wp2
  go_ret
  exact ⟨0, rfl, ⟨fun _ => HX.out, fun _ => rfl⟩, HB.out⟩
end Go.Proofs.YtemopgpcpjnmkaaDoor
