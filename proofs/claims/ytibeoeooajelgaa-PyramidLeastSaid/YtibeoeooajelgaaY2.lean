/- pyramid: build. -/
import Derived.Test.YtibeoeooajelgaaY1
import Derived.Test.YtibeoeooajelgaaHeldE
import Derived.Deep.AppendLies
import Derived.Deep.CutRange
import Derived.Deep.DeepCutAuto
namespace Go.Proofs.Ytibeoeooajelgaa
open Go.RowKit
set_option linter.unusedVariables false
theorem lv_info : (Try.prog.info? 74).map (fun i => (i.zero, i.size, i.bytes)) = some (some (.agg #[.int .i64 0, .int .i64 0, .slice none 0 0]), 3, 40) := by kernel_rfl
theorem run_min4 {P : Program} (w : World) (ts : Array TypeId) (t : TypeId) (x y z u : Int) : (Builtin.min_ ts t #[.int .i64 x, .int .i64 y, .int .i64 z, .int .i64 u]).run P w = .ok (.int .i64 (min (min (min x y) z) u)) w := by
  have e : ∀ a b : Int, (if b < a then b else a) = min a b := fun a b => by
    rw [Int.min_def]
    split <;> split <;> omega
  simp [Builtin.min_, Builtin.min2, e]
theorem own_low {w : World} {b e s n g : Nat} {v : Value} {xs : List Value} (h : w.ownsRow b e s v n xs) (hg : g < b) : v.ownBlock ≠ some g := by
  intro e1
  rcases h.2 with ⟨h1, h2⟩ | ⟨g', cap, cur, h1, h2, h3⟩
  · rw [h1] at e1
    cases e1
  · rw [h1] at e1
    have e2 : g' = g := by injection e1
    omega
theorem own_lset {w : World} {g B e s n j : Nat} {v : Value} {xs : List Value} (h : w.ownsRow B e s v n xs) (hg : g < B) (u : Value) : (w.setCell ⟨g, j, none⟩ u).ownsRow B e s v n xs := ownsRow_setCell_other (a := ⟨g, j, none⟩) h (own_low h hg) u
theorem own_pset {w : World} {g t B e s n j : Nat} {cs : Array Value} {v : Value} {xs : List Value} (h : w.ownsRow B e s v n xs) (hb : HasBlk w g t cs) (hne : e ≠ t) (u : Value) : (w.setCell ⟨g, j, none⟩ u).ownsRow B e s v n xs := ownsRow_setCell_other h (hb.ne_own h hne) u
/-- How many numbers a level has. -/
def LD.sz (l : LD) (k : Nat) : Nat := (l.lev k).W * (l.lev k).H
/-- The cells of level i. -/
def lvc (l : LD) (KA : Nat → Option Addr) (KC : Nat → Nat) (i j : Nat) : Value := if j = 0 then .int .i64 (l.lev i).W else if j = 1 then .int .i64 (l.lev i).H else .slice (KA i) (l.sz i) (KC i)
/-- The cells of a level's numbers. -/
def lrow (l : LD) (i _ : Nat) : Value := .int .i64 (l.row i)
/-- Levels 1 to k have numbers of their own; level 0 is the one that was given. -/
structure LvI (l : LD) (A : Option Addr) (c B : Nat) (w : World) (KA : Nat → Option Addr) (KC : Nat → Nat) (k : Nat) : Prop where
  A0 : KA 0 = A
  C0 : KC 0 = c
  k6 : k ≤ 6
  no : ∀ j, j < k → ¬ ((l.lev j).W = 1 ∧ (l.lev j).H = 1)
  own : ∀ i, 1 ≤ i → i ≤ k → w.ownsRow B 3 1 (.slice (KA i) (l.sz i) (KC i)) (l.sz i) (cellsR 1 (lrow (l.lev i)) (l.sz i))
theorem LvI.below {l : LD} {A : Option Addr} {c B k : Nat} {w w' : World} {KA : Nat → Option Addr} {KC : Nat → Nat} (h : LvI l A c B w KA KC k) (hb : Below w.heap.size w w') : LvI l A c B w' KA KC k :=
  ⟨h.A0, h.C0, h.k6, h.no, fun i h1 h2 => own_below (h.own i h1 h2) hb⟩
theorem lev_row {l : LD} {A : Option Addr} {c B k n pc : Nat} {w w0 : World} {P : Option Addr} {KA : Nat → Option Addr} {KC : Nat → Nat} (h1 : 1 ≤ l.W) (hA : Row w A (l.W * l.H) 1 (lrow l)) (hl : LvI l A c B w0 KA KC k) (hw : Below w.heap.size w w0) : Row w0 (KA k) ((l.lev k).W * (l.lev k).H) 1 (lrow (l.lev k)) := by
  rcases Nat.eq_zero_or_pos k with rfl | hk
  · rw [hl.A0]
    exact hA.below hw
  · exact Row.of_cells (hl.own k hk (Nat.le_refl _))
/-- What build answers. -/
def BuildR (l : LD) (A : Option Addr) (c B : Nat) (e : Ending) (w' : World) : Prop := ∃ (k pc : Nat) (P : Option Addr) (KA : Nat → Option Addr) (KC : Nat → Nat), l.Top k ∧ e = .returned (.agg #[.slice P (k + 1) pc]) ∧ LvI l A c B w' KA KC k ∧ w'.ownsRow B 74 3 (.slice P (k + 1) pc) (k + 1) (cellsR 3 (lvc l KA KC) (k + 1))
/-- An integer's cell. -/
def cellN (w : World) (g j : Nat) : Nat := match w.cell? ⟨g, j, none⟩ with | some (.int _ n) => n.toNat | _ => 0
theorem cellN_of {w : World} {g j n : Nat} {v : Option Value} (h : w.cell? ⟨g, j, none⟩ = v) (hv : v = some (.int .i64 (n : Int))) : cellN w g j = n := by
  unfold cellN
  rw [h, hv]
  simp
theorem own_keep {w w' : World} {B e s n : Nat} {v : Value} {xs : List Value} {row : Option Nat} (h : w.ownsRow B e s v n xs) (hg : w.grownBy w' row) (hne : v.ownBlock = none ∨ v.ownBlock ≠ row) : w'.ownsRow B e s v n xs := h.kept hg hne
theorem own_types {w : World} {b1 b2 e1 e2 s1 s2 n1 n2 : Nat} {v1 v2 : Value} {x1 x2 : List Value} (h1 : w.ownsRow b1 e1 s1 v1 n1 x1) (h2 : w.ownsRow b2 e2 s2 v2 n2 x2) (hne : e1 ≠ e2) : v1.ownBlock = none ∨ v1.ownBlock ≠ v2.ownBlock := by
  rcases h1.2 with ⟨h, _⟩ | ⟨g, cap, cur, h, _, hg, _⟩
  · left; rw [h]; rfl
  · rcases h2.2 with ⟨h', _⟩ | ⟨g', cap', cur', h', _, hg', _⟩
    · right; rw [h, h']; simp [Value.ownBlock]
    · right
      rw [h, h']
      intro e
      have e3 : g = g' := by simpa [Value.ownBlock] using e
      subst e3
      rw [hg] at hg'
      injection hg' with hg'
      injection hg' with _ e4 _
      exact hne e4
theorem more_iff {a b : Nat} (ha : 1 ≤ a) (hb : 1 ≤ b) : 1 < a * b ↔ (1 < a ∨ 1 < b) := by
  constructor
  · intro h
    rcases Nat.lt_or_ge 1 a with h1 | h1
    · exact .inl h1
    · obtain rfl : a = 1 := by omega
      right; omega
  · rintro (h | h)
    · have := Nat.mul_le_mul (Nat.le_refl a) hb; omega
    · have := Nat.mul_le_mul ha (Nat.le_refl b); omega

set_option maxRecDepth 100000 in
set_option maxHeartbeats 16000000 in
theorem build_any (l : LD) (A : Option Addr) (c : Nat) (w : World) (h1 : 1 ≤ l.W) (h2 : 1 ≤ l.H) (hW : l.W ≤ 64) (hH : l.H ≤ 64) (hA : Row w A (l.W * l.H) 1 (lrow l)) :
    Calls Try.prog 67 #[.agg #[.int .i64 l.W, .int .i64 l.H, .slice A (l.W * l.H) c]] w fun e w' => BuildR l A c w.heap.size e w' ∧ Below w.heap.size w w' := by
  obtain ⟨i0', hi0, hz0, hz1, hz2⟩ := info_parts lv_info
  obtain ⟨i0, hi00⟩ : ∃ i0, i0 = i0' := ⟨_, rfl⟩
  rw [← hi00] at hi0 hz0 hz1 hz2
  clear hi00
  obtain ⟨j0', hj0, hy0, hy1, hy2⟩ := info_parts int_info
  obtain ⟨j0, hj00⟩ : ∃ j0, j0 = j0' := ⟨_, rfl⟩
  rw [← hj00] at hj0 hy0 hy1 hy2
  clear hj00
  have B0 := Lib.hid (show Below w.heap.size w ((w.alloc (.cells #[.int .i64 l.W, .int .i64 l.H, .slice A (l.W * l.H) c] 74)).alloc (.cells #[.slice none 0 0] 51)) by
    repeat' (first | exact Below.refl _ _ | assumption | apply Below.drew | refine Below.setCell ?_ (by first | omega | (simp; done) | (simp; omega)) _ | refine Below.alloc ?_ (by first | omega | (simp; done) | (simp; omega)) _))
  have T1 := Lib.hid (show HasBlk ((w.alloc (.cells #[.int .i64 l.W, .int .i64 l.H, .slice A (l.W * l.H) c] 74)).alloc (.cells #[.slice none 0 0] 51)) w.heap.size 74 #[.int .i64 l.W, .int .i64 l.H, .slice A (l.W * l.H) c] from (hasBlk_new w 74 #[.int .i64 l.W, .int .i64 l.H, .slice A (l.W * l.H) c]).alloc _)
  have T2 := Lib.hid (show HasBlk ((w.alloc (.cells #[.int .i64 l.W, .int .i64 l.H, .slice A (l.W * l.H) c] 74)).alloc (.cells #[.slice none 0 0] 51)) (w.heap.size + 1) 51 #[.slice none 0 0] by simpa using hasBlk_new (w.alloc (.cells #[.int .i64 l.W, .int .i64 l.H, .slice A (l.W * l.H) c] 74)) 51 #[.slice none 0 0])
  have HA := Lib.hid hA
  have PO := Lib.hid (And.intro (And.intro h1 h2) (And.intro hW hH))
  clear hA h1 h2 hW hH
  go_enter Try.func67, Try.ntmps67
  have hnew : (((w.alloc (.cells #[.int .i64 l.W, .int .i64 l.H, .slice A (l.W * l.H) c] 74)).alloc (.cells #[.slice none 0 0] 51)).alloc (.cells #[.int .i64 l.W, .int .i64 l.H, .slice A (l.W * l.H) c] 74)).heap[w.heap.size + 1 + 1]? = some (.cells #[.int .i64 l.W, .int .i64 l.H, .slice A (l.W * l.H) c] 74 (0, 0)) := by
    have := heap_alloc_new ((w.alloc (.cells #[.int .i64 l.W, .int .i64 l.H, .slice A (l.W * l.H) c] 74)).alloc (.cells #[.slice none 0 0] 51)) (.cells #[.int .i64 l.W, .int .i64 l.H, .slice A (l.W * l.H) c] 74)
    simpa using this
  go_wp2_with (at_builtin; refine wpList_append_lies _ rfl (.tmp 8) (.tmp 10) 49 rfl (w.heap.size + 1 + 1) 74 i0 _ 3 40 Try.underlying49 hi0 hz0 hz1 hz2 rfl (by omega) (.slice none 0 0) (0) ([]) rfl ((own_nil ((w.alloc (.cells #[.int .i64 l.W, .int .i64 l.H, .slice A (l.W * l.H) c] 74)).alloc (.cells #[.slice none 0 0] 51)) (w.heap.size + 1 + 1) 74 3).alloc _) ⟨w.heap.size + 1 + 1, 0, none⟩ 1 1 [.int .i64 l.W, .int .i64 l.H, .slice A (l.W * l.H) c] (by rfl) rfl (World.news_of_block (cs := #[.int .i64 l.W, .int .i64 l.H, .slice A (l.W * l.H) c]) (t := 74) (fr := (0, 0)) hnew) (by simp [Value.oneCell']) (by omega) (by unfold maxLen; omega) (by omega) (by first | omega | (simp; done) | (simp; omega)) (w.heap.size + 1 + 1 + 1) (by first | omega | (simp; done) | (simp; omega)) ?_; intro g' cap w3 hown3 hgrow hat hlt; have hT2 := (T2.out.alloc (.cells #[.int .i64 l.W, .int .i64 l.H, .slice A (l.W * l.H) c] 74)).grown hgrow (by simp [Value.ownBlock]); have u0 := hT2.cell 0; have uf := hT2.frozen 0; have uz := hT2.lt; simp at u0)
  have S2 := Lib.hid (show HasBlk (w3.setCell ⟨(w.heap.size + 1), 0, none⟩ (.slice (some ⟨g', 0, none⟩) 1 cap)) (w.heap.size + 1) 51 #[.slice (some ⟨g', 0, none⟩) 1 cap] by simpa using hT2.set 0 (.slice (some ⟨g', 0, none⟩) 1 cap))
  have S1 := Lib.hid (((T1.out.alloc (.cells #[.int .i64 l.W, .int .i64 l.H, .slice A (l.W * l.H) c] 74)).grown hgrow (by simp [Value.ownBlock])).far (p := ⟨(w.heap.size + 1), 0, none⟩) (by simp) (.slice (some ⟨g', 0, none⟩) 1 cap))
  have SO := Lib.hid (own_lset (j := 0) hown3 (show (w.heap.size + 1) < (w.heap.size + 1 + 1) by omega) (.slice (some ⟨g', 0, none⟩) 1 cap))
  have SB := Lib.hid (Below.setCell (p := ⟨(w.heap.size + 1), 0, none⟩) (below_grown (v := .slice none 0 0) (B0.out.alloc B0.out.size (.cells #[.int .i64 l.W, .int .i64 l.H, .slice A (l.W * l.H) c] 74)) hgrow (own_nil _ (w.heap.size + 1 + 1) 74 3) (by omega) (by first | omega | (simp; done) | (simp; omega))) (by simp) (.slice (some ⟨g', 0, none⟩) 1 cap))
  clear hnew hT2 u0 uf uz hown3 hgrow hat hlt T1 T2 B0
  generalize (w3.setCell ⟨(w.heap.size + 1), 0, none⟩ (.slice (some ⟨g', 0, none⟩) 1 cap)) = v1 at *
  go_loopw [33] (fun _ wr => ∃ (k pc : Nat) (P : Option Addr) (KA : Nat → Option Addr) (KC : Nat → Nat), LvI l A c (w.heap.size + 1 + 1) wr KA KC k ∧ wr.ownsRow (w.heap.size + 1 + 1) 74 3 (.slice P (k + 1) pc) (k + 1) (cellsR 3 (lvc l KA KC) (k + 1)) ∧ HasBlk wr w.heap.size 74 #[.int .i64 (l.lev k).W, .int .i64 (l.lev k).H, .slice (KA k) (l.sz k) (KC k)] ∧ HasBlk wr (w.heap.size + 1) 51 #[.slice P (k + 1) pc] ∧ Below w.heap.size w wr) (fun _ wr => cellN wr w.heap.size 0 + cellN wr w.heap.size 1)
  case atStart => exact ⟨0, cap, some ⟨g', 0, none⟩, fun _ => A, fun _ => c, ⟨rfl, rfl, by omega, fun j hj => absurd hj (by omega), fun i hi hi2 => absurd hi (by omega)⟩, SO.out, S1.out, S2.out, SB.out⟩
  case round =>
    clear SO S1 S2 SB
    obtain ⟨k, pc, P, KA, KC, hlv, hown, hS1, hS2, hbel⟩ := hrel
    have LI := Lib.hid hlv
    have HO := Lib.hid hown
    have S1 := Lib.hid hS1
    have S2 := Lib.hid hS2
    have HB := Lib.hid hbel
    have hpos := LD.lev_pos PO.out.1.1 PO.out.1.2 k
    have hsm := LD.lev_small PO.out.2.1 PO.out.2.2 k
    obtain ⟨X, hX⟩ : ∃ X, X = (l.lev k).W := ⟨_, rfl⟩
    obtain ⟨Y, hY⟩ : ∃ Y, Y = (l.lev k).H := ⟨_, rfl⟩
    have hp1 := hpos.1
    have hp2 := hpos.2
    have hm1 := hsm.1
    have hm2 := hsm.2
    rw [← hX] at hp1 hm1
    rw [← hY] at hp2 hm2
    have a0 := hS1.cell 0
    have a1 := hS1.cell 1
    have a2 := hS1.cell 2
    have az := hS1.lt
    simp at a0 a1 a2
    rw [← hX] at a0
    rw [← hY] at a1
    have XX := Lib.hid hX
    have YY := Lib.hid hY
    have hmul : (X : Int) * (Y : Int) = ((X * Y : Nat) : Int) := by push_cast; rfl
    have hzq : X * Y ≤ 4096 := Nat.mul_le_mul hm1 hm2
    have w1 : IntKind.i64.wrap (((X * Y : Nat) : Int)) = ((X * Y : Nat) : Int) := IntWalk.i64_in _ (by omega)
    have hmore := more_iff hp1 hp2
    generalize hZ : X * Y = Z at *
    have ZZ := Lib.hid hZ
    clear hpos hsm hlv hown hS1 hS2 hbel hX hY hZ
    by_cases hm : 1 < Z
    rotate_left
    · have g1 : ¬ (1 : Int) < (Z : Int) := by omega
      have u0 := S2.out.cell 0
      have uf := S2.out.frozen 0
      have uz := S2.out.lt
      simp at u0
      have TOP := Lib.hid (show l.Top k from ⟨by rw [← XX.out]; omega, by rw [← YY.out]; omega, LI.out.no⟩)
      clear hm hmore a2
      go_wp2
      refine bodyPost_ret (v := .agg #[.slice P (k + 1) pc]) (by simp [results, Try.results67, go_sem, *]) rfl ⟨⟨k, pc, P, KA, KC, TOP.out, rfl, ?_, ?_⟩, ?_⟩
      · exact ⟨LI.out.A0, LI.out.C0, LI.out.k6, LI.out.no, fun i h1 h2 => own_base (own_lset (j := 0) (LI.out.own i h1 h2) (by omega) _) (by omega)⟩
      · exact own_base (own_lset (j := 0) HO.out (by omega) _) (by omega)
      · exact Below.setCell HB.out (by simp) _
    have g1 : (1 : Int) < (Z : Int) := by omega
    have MORE := Lib.hid (hmore.1 hm)
    clear hm hmore
    go_upto_region 4 with fail
    obtain ⟨X2, hX2⟩ : ∃ X2 : Nat, ((X : Int) + 1) / 2 = X2 := ⟨(X + 1) / 2, by omega⟩
    obtain ⟨Y2, hY2⟩ : ∃ Y2 : Nat, ((Y : Int) + 1) / 2 = Y2 := ⟨(Y + 1) / 2, by omega⟩
    rw [hX2, hY2]
    have XX2 := Lib.hid (show X2 = (l.lev (k + 1)).W by show X2 = ((l.lev k).W + 1) / 2; rw [← XX.out]; omega)
    have YY2 := Lib.hid (show Y2 = (l.lev (k + 1)).H by show Y2 = ((l.lev k).H + 1) / 2; rw [← YY.out]; omega)
    have hx1 : 1 ≤ X2 := by omega
    have hx2 : X2 ≤ 64 := by omega
    have hy1' : 1 ≤ Y2 := by omega
    have hy2' : Y2 ≤ 64 := by omega
    have hlx : X2 + Y2 < X + Y := by have := MORE.out; omega
    clear hX2 hY2 a0 a1 a2 hmul w1 g1 hzq
    have bA := (Below.refl wr.heap.size wr).alloc (Nat.le_refl _) (.cells #[.int .i64 X2, .int .i64 Y2, .slice none 0 0] 74)
    have S3 := Lib.hid (hasBlk_new wr 74 #[.int .i64 X2, .int .i64 Y2, .slice none 0 0])
    have BI := Lib.hid bA
    have BO := Lib.hid HB.out
    have RK := Lib.hid (lev_row (n := 0) (pc := 0) (P := none) PO.out.1.1 HA.out LI.out HB.out)
    have LSM := Lib.hid (LD.lev_small PO.out.2.1 PO.out.2.2 k)
    have S1' := Lib.hid (S1.out.below bA)
    clear bA
    obtain ⟨wo, rfl⟩ : ∃ wo : World, wo = wr := ⟨wr, rfl⟩
    obtain ⟨v1, hv1⟩ : ∃ v1, wo.alloc (.cells #[.int .i64 X2, .int .i64 Y2, .slice none 0 0] 74) = v1 := ⟨_, rfl⟩
    rw [hv1] at S3 BI S1' ⊢
    clear hv1
    have hmul : (X2 : Int) * (Y2 : Int) = ((X2 * Y2 : Nat) : Int) := by push_cast; rfl
    have hzz : X2 * Y2 ≤ 4096 := Nat.mul_le_mul hx2 hy2'
    have w1 : IntKind.i64.wrap (((X2 * Y2 : Nat) : Int)) = ((X2 * Y2 : Nat) : Int) := IntWalk.i64_in _ (by omega)
    have ZL := Lib.hid hzz
    generalize hZ2 : X2 * Y2 = Z2 at *
    have ZZ2 := Lib.hid hZ2
    clear hZ2 S1'
    have c0 := S3.out.cell 0
    have c1 := S3.out.cell 1
    have cz := S3.out.lt
    simp at c0 c1
    go_wp2
    clear c0 c1 cz hmul w1
    go_loopw [33] (fun t' wr => ∃ (j cx : Nat) (Xa : Option Addr), j ≤ Z2 ∧ t' = .int .i64 j ∧ wr.ownsRow (wo.heap.size + 1) 3 1 (.slice Xa j cx) j (cellsR 1 (lrow (l.lev (k + 1))) j) ∧ HasBlk wr wo.heap.size 74 #[.int .i64 X2, .int .i64 Y2, .slice Xa j cx] ∧ Below wo.heap.size wo wr) (fun t' wr => Z2 - (intOf t').toNat)
    case atStart => exact ⟨0, 0, none, Nat.zero_le _, rfl, own_nil _ _ _ _, S3.out, BI.out⟩
    case round =>
      clear S3 BI
      obtain ⟨j, cx, Xa, hj, rfl, hown, hS3, hbel⟩ := hrel
      have XO := Lib.hid hown
      have S3 := Lib.hid hS3
      have BI := Lib.hid hbel
      have zb := hbel.size
      clear hown hbel
      by_cases hjz : j < Z2
      · have c0 := hS3.cell 0
        have c1 := hS3.cell 1
        have c2 := hS3.cell 2
        have cz := hS3.lt
        simp at c0 c1 c2
        have i1 : (j : Int) < (Z2 : Int) := by omega
        have i0' : (0 : Int) ≤ (j : Int) := by omega
        have nz : ¬ (X2 : Int) = 0 := by omega
        have hq1 : j % X2 < X2 := Nat.mod_lt _ (by omega)
        have hq2 : j / X2 < Y2 := Nat.div_lt_of_lt_mul (by rw [ZZ2.out]; exact hjz)
        have f1 : (j : Int) % (X2 : Int) = ((j % X2 : Nat) : Int) := by push_cast; rfl
        have f2 : (j : Int) / (X2 : Int) = ((j / X2 : Nat) : Int) := by push_cast; rfl
        have f3 : (j : Int).tmod (X2 : Int) = ((j % X2 : Nat) : Int) := by rw [Int.tmod_eq_emod_of_nonneg (by omega)]; exact f1
        have f4 : (j : Int).tdiv (X2 : Int) = ((j / X2 : Nat) : Int) := by rw [Int.tdiv_eq_ediv_of_nonneg (by omega)]; exact f2
        obtain ⟨q, hq⟩ : ∃ q, j % X2 = q := ⟨_, rfl⟩
        obtain ⟨dd, hdd⟩ : ∃ dd, j / X2 = dd := ⟨_, rfl⟩
        rw [hq] at hq1 f1 f3
        rw [hdd] at hq2 f2 f4
        have QQ := Lib.hid (And.intro hq hdd)
        have w5 : IntKind.i64.wrap (2 * (q : Int)) = 2 * (q : Int) := IntWalk.i64_in _ (by omega)
        have w6 : IntKind.i64.wrap (2 * (dd : Int)) = 2 * (dd : Int) := IntWalk.i64_in _ (by omega)
        have e1 := fun b : BW wr => BW.cell c0 cz b
        clear hS3 hq hdd
        go_upto_region 7 with fail
        clear c0 c1 c2
        refine wp_region_quiet_bw (by kernel_rfl) (by kernel_rfl) ?_
        repeat (go_big_quiet_step (fail))
        refine wpQuiet_nil ?_
        intro _ hw'
        obtain ⟨pq, hw''⟩ := hw'
        subst hw''
        clear e1 cz f1 f2 f3 f4 nz w5 w6
        have S1' := Lib.hid (S1.out.below (BI.out.trans (pq.h.mono zb)))
        have BI' := Lib.hid (BI.out.trans (pq.h.mono zb))
        have S3' := Lib.hid (S3.out.below pq.h)
        have XO' := Lib.hid (own_below XO.out pq.h)
        have S0 := Lib.hid S1.out
        clear S1 BI S3 XO
        have S1 := Lib.hid S1'.out
        have BI := Lib.hid BI'.out
        have S3 := Lib.hid S3'.out
        have XO := Lib.hid XO'.out
        clear S1' BI' S3' XO'
        generalize pq.W = v0 at *
        clear pq
        obtain ⟨x5, hx5⟩ : ∃ x5 : Nat, 2 * (q : Int) = x5 := ⟨2 * q, by push_cast; rfl⟩
        obtain ⟨y6, hy6⟩ : ∃ y6 : Nat, 2 * (dd : Int) = y6 := ⟨2 * dd, by push_cast; rfl⟩
        rw [hx5, hy6]
        have QX := Lib.hid (show x5 = 2 * (j % X2) ∧ y6 = 2 * (j / X2) from ⟨by rw [QQ.out.1]; omega, by rw [QQ.out.2]; omega⟩)
        have hx6 : x5 ≤ 130 := by omega
        have hy7 : y6 ≤ 130 := by omega
        have w7 : IntKind.i64.wrap ((x5 : Int) + 1) = (x5 : Int) + 1 := IntWalk.i64_in _ (by omega)
        have w8 : IntKind.i64.wrap ((y6 : Int) + 1) = (y6 : Int) + 1 := IntWalk.i64_in _ (by omega)
        clear hx5 hy6 QQ hq1 hq2
        go_upto_region 8 with fail
        have bd := (Below.refl v0.heap.size v0).drew
        have BI' := Lib.hid (BI.out.trans (bd.mono BI.out.size))
        have S1' := Lib.hid (S1.out.below bd)
        have S3' := Lib.hid (S3.out.below bd)
        have XO' := Lib.hid (own_below XO.out bd)
        clear S1 BI S3 XO bd
        have S1 := Lib.hid S1'.out
        have BI := Lib.hid BI'.out
        have S3 := Lib.hid S3'.out
        have XO := Lib.hid XO'.out
        clear S1' BI' S3' XO'
        have HS := Lib.hid (show (fun Wo => HasBlk Wo w.heap.size 74 #[.int .i64 (l.lev k).W, .int .i64 (l.lev k).H, .slice (KA k) (l.sz k) (KC k)] ∧ HasBlk Wo wo.heap.size 74 #[.int .i64 X2, .int .i64 Y2, .slice Xa j cx]) v0.drew from ⟨S1.out, S3.out⟩)
        refine wp_region_E (fun Wo => HasBlk Wo w.heap.size 74 #[.int .i64 (l.lev k).W, .int .i64 (l.lev k).H, .slice (KA k) (l.sz k) (KC k)] ∧ HasBlk Wo wo.heap.size 74 #[.int .i64 X2, .int .i64 Y2, .slice Xa j cx]) 26 (by kernel_rfl) ?_
        generalize gwd : v0.drew = vd at *
        clear gwd
        refine wpAnyE_take (i := 0) (v := .pointer (some ⟨wo.heap.size, 2, none⟩)) rfl (by kernel_rfl) (fun _ _ _ h => h) (.inl ⟨by kernel_rfl, fun W hW => ?_⟩) HS.out ?_
        · obtain ⟨hWP, hWA⟩ := hW
          have q0 := hWP.cell 0
          have q1 := hWP.cell 1
          have q2 := hWP.cell 2
          have r2 := hWA.cell 2
          simp at q0 q1 q2 r2
          go_simp
        simp only [Act.put, List.setIfInBounds_toArray]
        refine wpAnyE_take (i := 1) (v := .slice Xa j cx) rfl (by kernel_rfl) (fun _ _ _ h => h) (.inl ⟨by kernel_rfl, fun W hW => ?_⟩) HS.out ?_
        · obtain ⟨hWP, hWA⟩ := hW
          have q0 := hWP.cell 0
          have q1 := hWP.cell 1
          have q2 := hWP.cell 2
          have r2 := hWA.cell 2
          simp at q0 q1 q2 r2
          go_simp
        simp only [Act.put]
        refine wpAnyE_take (i := 2) (v := .agg #[.int .i64 (l.lev k).W, .int .i64 (l.lev k).H, .slice (KA k) (l.sz k) (KC k)]) rfl (by kernel_rfl) (fun _ _ _ h => h) (.inl ⟨by kernel_rfl, fun W hW => ?_⟩) HS.out ?_
        · obtain ⟨hWP, hWA⟩ := hW
          have q0 := hWP.cell 0
          have q1 := hWP.cell 1
          have q2 := hWP.cell 2
          have r2 := hWA.cell 2
          simp at q0 q1 q2 r2
          go_simp
        simp only [Act.put]
        refine wpAnyE_take (i := 3) (v := .int .i64 x5) rfl (by kernel_rfl) (fun _ _ _ h => h) (.inl ⟨by kernel_rfl, fun W hW => ?_⟩) HS.out ?_
        · obtain ⟨hWP, hWA⟩ := hW
          have q0 := hWP.cell 0
          have q1 := hWP.cell 1
          have q2 := hWP.cell 2
          have r2 := hWA.cell 2
          simp at q0 q1 q2 r2
          go_simp
        simp only [Act.put]
        refine wpAnyE_take (i := 4) (v := .int .i64 y6) rfl (by kernel_rfl) (fun _ _ _ h => h) (.inl ⟨by kernel_rfl, fun W hW => ?_⟩) HS.out ?_
        · obtain ⟨hWP, hWA⟩ := hW
          have q0 := hWP.cell 0
          have q1 := hWP.cell 1
          have q2 := hWP.cell 2
          have r2 := hWA.cell 2
          simp at q0 q1 q2 r2
          go_simp
        simp only [Act.put]
        refine wpAnyE_take (i := 6) (v := .agg #[.int .i64 (l.lev k).W, .int .i64 (l.lev k).H, .slice (KA k) (l.sz k) (KC k)]) rfl (by kernel_rfl) (fun _ _ _ h => h) (.inl ⟨by kernel_rfl, fun W hW => ?_⟩) HS.out ?_
        · obtain ⟨hWP, hWA⟩ := hW
          have q0 := hWP.cell 0
          have q1 := hWP.cell 1
          have q2 := hWP.cell 2
          have r2 := hWA.cell 2
          simp at q0 q1 q2 r2
          go_simp
        simp only [Act.put]
        refine wpAnyE_take (i := 7) (v := .int .i64 x5) rfl (by kernel_rfl) (fun _ _ _ h => h) (.inl ⟨by kernel_rfl, fun W hW => ?_⟩) HS.out ?_
        · obtain ⟨hWP, hWA⟩ := hW
          have q0 := hWP.cell 0
          have q1 := hWP.cell 1
          have q2 := hWP.cell 2
          have r2 := hWA.cell 2
          simp at q0 q1 q2 r2
          go_simp
        simp only [Act.put]
        refine wpAnyE_take (i := 8) (v := .int .i64 ((x5 : Int) + 1)) rfl (by kernel_rfl) (fun _ _ _ h => h) (.inl ⟨by kernel_rfl, fun W hW => ?_⟩) HS.out ?_
        · obtain ⟨hWP, hWA⟩ := hW
          have q0 := hWP.cell 0
          have q1 := hWP.cell 1
          have q2 := hWP.cell 2
          have r2 := hWA.cell 2
          simp at q0 q1 q2 r2
          go_simp
        simp only [Act.put]
        refine wpAnyE_take (i := 9) (v := .int .i64 y6) rfl (by kernel_rfl) (fun _ _ _ h => h) (.inl ⟨by kernel_rfl, fun W hW => ?_⟩) HS.out ?_
        · obtain ⟨hWP, hWA⟩ := hW
          have q0 := hWP.cell 0
          have q1 := hWP.cell 1
          have q2 := hWP.cell 2
          have r2 := hWA.cell 2
          simp at q0 q1 q2 r2
          go_simp
        simp only [Act.put]
        refine wpAnyE_take (i := 11) (v := .agg #[.int .i64 (l.lev k).W, .int .i64 (l.lev k).H, .slice (KA k) (l.sz k) (KC k)]) rfl (by kernel_rfl) (fun _ _ _ h => h) (.inl ⟨by kernel_rfl, fun W hW => ?_⟩) HS.out ?_
        · obtain ⟨hWP, hWA⟩ := hW
          have q0 := hWP.cell 0
          have q1 := hWP.cell 1
          have q2 := hWP.cell 2
          have r2 := hWA.cell 2
          simp at q0 q1 q2 r2
          go_simp
        simp only [Act.put]
        refine wpAnyE_take (i := 12) (v := .int .i64 x5) rfl (by kernel_rfl) (fun _ _ _ h => h) (.inl ⟨by kernel_rfl, fun W hW => ?_⟩) HS.out ?_
        · obtain ⟨hWP, hWA⟩ := hW
          have q0 := hWP.cell 0
          have q1 := hWP.cell 1
          have q2 := hWP.cell 2
          have r2 := hWA.cell 2
          simp at q0 q1 q2 r2
          go_simp
        simp only [Act.put]
        refine wpAnyE_take (i := 13) (v := .int .i64 y6) rfl (by kernel_rfl) (fun _ _ _ h => h) (.inl ⟨by kernel_rfl, fun W hW => ?_⟩) HS.out ?_
        · obtain ⟨hWP, hWA⟩ := hW
          have q0 := hWP.cell 0
          have q1 := hWP.cell 1
          have q2 := hWP.cell 2
          have r2 := hWA.cell 2
          simp at q0 q1 q2 r2
          go_simp
        simp only [Act.put]
        refine wpAnyE_take (i := 14) (v := .int .i64 ((y6 : Int) + 1)) rfl (by kernel_rfl) (fun _ _ _ h => h) (.inl ⟨by kernel_rfl, fun W hW => ?_⟩) HS.out ?_
        · obtain ⟨hWP, hWA⟩ := hW
          have q0 := hWP.cell 0
          have q1 := hWP.cell 1
          have q2 := hWP.cell 2
          have r2 := hWA.cell 2
          simp at q0 q1 q2 r2
          go_simp
        simp only [Act.put]
        refine wpAnyE_take (i := 16) (v := .agg #[.int .i64 (l.lev k).W, .int .i64 (l.lev k).H, .slice (KA k) (l.sz k) (KC k)]) rfl (by kernel_rfl) (fun _ _ _ h => h) (.inl ⟨by kernel_rfl, fun W hW => ?_⟩) HS.out ?_
        · obtain ⟨hWP, hWA⟩ := hW
          have q0 := hWP.cell 0
          have q1 := hWP.cell 1
          have q2 := hWP.cell 2
          have r2 := hWA.cell 2
          simp at q0 q1 q2 r2
          go_simp
        simp only [Act.put]
        refine wpAnyE_take (i := 17) (v := .int .i64 x5) rfl (by kernel_rfl) (fun _ _ _ h => h) (.inl ⟨by kernel_rfl, fun W hW => ?_⟩) HS.out ?_
        · obtain ⟨hWP, hWA⟩ := hW
          have q0 := hWP.cell 0
          have q1 := hWP.cell 1
          have q2 := hWP.cell 2
          have r2 := hWA.cell 2
          simp at q0 q1 q2 r2
          go_simp
        simp only [Act.put]
        refine wpAnyE_take (i := 18) (v := .int .i64 ((x5 : Int) + 1)) rfl (by kernel_rfl) (fun _ _ _ h => h) (.inl ⟨by kernel_rfl, fun W hW => ?_⟩) HS.out ?_
        · obtain ⟨hWP, hWA⟩ := hW
          have q0 := hWP.cell 0
          have q1 := hWP.cell 1
          have q2 := hWP.cell 2
          have r2 := hWA.cell 2
          simp at q0 q1 q2 r2
          go_simp
        simp only [Act.put]
        refine wpAnyE_take (i := 19) (v := .int .i64 y6) rfl (by kernel_rfl) (fun _ _ _ h => h) (.inl ⟨by kernel_rfl, fun W hW => ?_⟩) HS.out ?_
        · obtain ⟨hWP, hWA⟩ := hW
          have q0 := hWP.cell 0
          have q1 := hWP.cell 1
          have q2 := hWP.cell 2
          have r2 := hWA.cell 2
          simp at q0 q1 q2 r2
          go_simp
        simp only [Act.put]
        refine wpAnyE_take (i := 20) (v := .int .i64 ((y6 : Int) + 1)) rfl (by kernel_rfl) (fun _ _ _ h => h) (.inl ⟨by kernel_rfl, fun W hW => ?_⟩) HS.out ?_
        · obtain ⟨hWP, hWA⟩ := hW
          have q0 := hWP.cell 0
          have q1 := hWP.cell 1
          have q2 := hWP.cell 2
          have r2 := hWA.cell 2
          simp at q0 q1 q2 r2
          go_simp
        simp only [Act.put]
        refine wpAnyE_step (i := 5) rfl (by kernel_rfl) (fun KQ HK => ?_)
        have hk := at_any (l.lev k) (KA k) (KC k) x5 y6 vd LSM.out.1 LSM.out.2 (by omega) (by omega) (RK.out.below BI.out)
        push_cast at hk
        have KX := Lib.hid hk
        clear hk
        go_wp2_with fail
        refine KX.out.mono ?_
        rintro e v1 ⟨rfl, bel⟩
        clear KX
        have BI' := Lib.hid (BI.out.trans (bel.mono BI.out.size))
        have S1' := Lib.hid (S1.out.below bel)
        have S3' := Lib.hid (S3.out.below bel)
        have XO' := Lib.hid (own_below XO.out bel)
        clear BI S1 S3 XO HS bel
        have BI := Lib.hid BI'.out
        have S1 := Lib.hid S1'.out
        have S3 := Lib.hid S3'.out
        have XO := Lib.hid XO'.out
        clear BI' S1' S3' XO'
        have HS := Lib.hid (show (fun Wo => HasBlk Wo w.heap.size 74 #[.int .i64 (l.lev k).W, .int .i64 (l.lev k).H, .slice (KA k) (l.sz k) (KC k)] ∧ HasBlk Wo wo.heap.size 74 #[.int .i64 X2, .int .i64 Y2, .slice Xa j cx]) v1 from ⟨S1.out, S3.out⟩)
        go_wp2
        refine HK _ _ (fun _ => HS.out) ?_
        clear HK
        refine wpAnyE_step (i := 10) rfl (by kernel_rfl) (fun KQ HK => ?_)
        have hk := at_any (l.lev k) (KA k) (KC k) (x5 + 1) y6 v1 LSM.out.1 LSM.out.2 (by omega) (by omega) (RK.out.below BI.out)
        push_cast at hk
        have KX := Lib.hid hk
        clear hk
        go_wp2_with fail
        refine KX.out.mono ?_
        rintro e v2 ⟨rfl, bel⟩
        clear KX
        have BI' := Lib.hid (BI.out.trans (bel.mono BI.out.size))
        have S1' := Lib.hid (S1.out.below bel)
        have S3' := Lib.hid (S3.out.below bel)
        have XO' := Lib.hid (own_below XO.out bel)
        clear BI S1 S3 XO HS bel
        have BI := Lib.hid BI'.out
        have S1 := Lib.hid S1'.out
        have S3 := Lib.hid S3'.out
        have XO := Lib.hid XO'.out
        clear BI' S1' S3' XO'
        have HS := Lib.hid (show (fun Wo => HasBlk Wo w.heap.size 74 #[.int .i64 (l.lev k).W, .int .i64 (l.lev k).H, .slice (KA k) (l.sz k) (KC k)] ∧ HasBlk Wo wo.heap.size 74 #[.int .i64 X2, .int .i64 Y2, .slice Xa j cx]) v2 from ⟨S1.out, S3.out⟩)
        go_wp2
        refine HK _ _ (fun _ => HS.out) ?_
        clear HK
        refine wpAnyE_step (i := 15) rfl (by kernel_rfl) (fun KQ HK => ?_)
        have hk := at_any (l.lev k) (KA k) (KC k) x5 (y6 + 1) v2 LSM.out.1 LSM.out.2 (by omega) (by omega) (RK.out.below BI.out)
        push_cast at hk
        have KX := Lib.hid hk
        clear hk
        go_wp2_with fail
        refine KX.out.mono ?_
        rintro e v3 ⟨rfl, bel⟩
        clear KX
        have BI' := Lib.hid (BI.out.trans (bel.mono BI.out.size))
        have S1' := Lib.hid (S1.out.below bel)
        have S3' := Lib.hid (S3.out.below bel)
        have XO' := Lib.hid (own_below XO.out bel)
        clear BI S1 S3 XO HS bel
        have BI := Lib.hid BI'.out
        have S1 := Lib.hid S1'.out
        have S3 := Lib.hid S3'.out
        have XO := Lib.hid XO'.out
        clear BI' S1' S3' XO'
        have HS := Lib.hid (show (fun Wo => HasBlk Wo w.heap.size 74 #[.int .i64 (l.lev k).W, .int .i64 (l.lev k).H, .slice (KA k) (l.sz k) (KC k)] ∧ HasBlk Wo wo.heap.size 74 #[.int .i64 X2, .int .i64 Y2, .slice Xa j cx]) v3 from ⟨S1.out, S3.out⟩)
        go_wp2
        refine HK _ _ (fun _ => HS.out) ?_
        clear HK
        refine wpAnyE_step (i := 21) rfl (by kernel_rfl) (fun KQ HK => ?_)
        have hk := at_any (l.lev k) (KA k) (KC k) (x5 + 1) (y6 + 1) v3 LSM.out.1 LSM.out.2 (by omega) (by omega) (RK.out.below BI.out)
        push_cast at hk
        have KX := Lib.hid hk
        clear hk
        go_wp2_with fail
        refine KX.out.mono ?_
        rintro e v4 ⟨rfl, bel⟩
        clear KX
        have BI' := Lib.hid (BI.out.trans (bel.mono BI.out.size))
        have S1' := Lib.hid (S1.out.below bel)
        have S3' := Lib.hid (S3.out.below bel)
        have XO' := Lib.hid (own_below XO.out bel)
        clear BI S1 S3 XO HS bel
        have BI := Lib.hid BI'.out
        have S1 := Lib.hid S1'.out
        have S3 := Lib.hid S3'.out
        have XO := Lib.hid XO'.out
        clear BI' S1' S3' XO'
        have HS := Lib.hid (show (fun Wo => HasBlk Wo w.heap.size 74 #[.int .i64 (l.lev k).W, .int .i64 (l.lev k).H, .slice (KA k) (l.sz k) (KC k)] ∧ HasBlk Wo wo.heap.size 74 #[.int .i64 X2, .int .i64 Y2, .slice Xa j cx]) v4 from ⟨S1.out, S3.out⟩)
        go_wp2
        refine HK _ _ (fun _ => HS.out) ?_
        clear HK
        refine wpAnyE_step (i := 22) rfl (by kernel_rfl) (fun KQ HK => ?_)
        have hmin := fun W ts t => run_min4 (P := Try.prog) W ts t ((l.lev k).at x5 y6) ((l.lev k).at (x5 + 1) y6) ((l.lev k).at x5 (y6 + 1)) ((l.lev k).at (x5 + 1) (y6 + 1))
        go_wp2
        refine HK _ _ (fun _ => HS.out) ?_
        clear HK hmin
        obtain ⟨mv, hmv⟩ : ∃ mv, min ((l.lev k).at x5 y6) (min ((l.lev k).at (x5 + 1) y6) (min ((l.lev k).at x5 (y6 + 1)) ((l.lev k).at (x5 + 1) (y6 + 1)))) = mv := ⟨_, rfl⟩
        rw [hmv]
        have MV := Lib.hid (show (l.lev (k + 1)).row j = mv by rw [← hmv, ← Int.min_assoc, ← Int.min_assoc, QX.out.1, QX.out.2, XX2.out]; rfl)
        clear hmv
        refine wpAnyE_step (i := 23) rfl (by kernel_rfl) (fun KQ HK => ?_)
        go_wp2
        have bA := (Below.refl v4.heap.size v4).alloc (Nat.le_refl _) (.cells #[.int .i64 mv] 3)
        have HS5 := Lib.hid (show (fun Wo => HasBlk Wo w.heap.size 74 #[.int .i64 (l.lev k).W, .int .i64 (l.lev k).H, .slice (KA k) (l.sz k) (KC k)] ∧ HasBlk Wo wo.heap.size 74 #[.int .i64 X2, .int .i64 Y2, .slice Xa j cx]) (v4.alloc (.cells #[.int .i64 mv] 3)) from ⟨S1.out.below bA, S3.out.below bA⟩)
        clear bA
        refine HK _ _ (fun _ => HS5.out) ?_
        clear HK
        refine wpAnyE_step (i := 24) rfl (by kernel_rfl) (fun KQ HK => ?_)
        simp only [List.getElem_toArray, List.getElem_cons_succ, List.getElem_cons_zero]
        have hown5 := XO.out.alloc (.cells #[.int .i64 mv] 3)
        have hnew : (v4.alloc (.cells #[.int .i64 mv] 3)).heap[v4.heap.size]? = some (.cells #[.int .i64 mv] 3 (0, 0)) := heap_alloc_new _ _
        have hzL := ZL.out
        have hs3 := S3.out.lt
        go_wp2_with (at_builtin; refine wpList_append_lies _ rfl (.tmp 47) (.tmp 69) 27 rfl (wo.heap.size + 1) 3 j0 _ 1 8 Try.underlying27 hj0 hy0 hy1 hy2 rfl (by omega) (.slice Xa j cx) (j) (cellsR 1 (lrow (l.lev (k + 1))) j) rfl hown5 ⟨v4.heap.size, 0, none⟩ 1 1 [.int .i64 mv] (by rfl) rfl (World.news_of_block (cs := #[.int .i64 mv]) (t := 3) (fr := (0, 0)) hnew) (by simp [Value.oneCell']) (by omega) (by unfold maxLen; omega) (by omega) (by first | omega | (simp; done) | (simp; omega)) (v4.heap.size + 1) (by first | omega | (simp; done) | (simp; omega)) ?_; intro g7 cap7 w7 hown7 hgrow7 hat7 hlt7)
        have HW := Lib.hid hown7
        have nb1 := Lib.hid (own_low XO.out (show w.heap.size < (wo.heap.size + 1) by have := S0.out.lt; omega))
        have nb3 := Lib.hid (own_low XO.out (show wo.heap.size < (wo.heap.size + 1) by omega))
        have S1a := Lib.hid ((S1.out.alloc (.cells #[.int .i64 mv] 3)).grown hgrow7 nb1.out)
        have S3a := Lib.hid ((S3.out.alloc (.cells #[.int .i64 mv] 3)).grown hgrow7 nb3.out)
        have BIa := Lib.hid (below_grown (v := .slice Xa j cx) (BI.out.alloc BI.out.size (.cells #[.int .i64 mv] 3)) hgrow7 hown5 (by omega) (by first | omega | (simp; done) | (simp; omega)))
        have HSa := Lib.hid (show (fun Wo => HasBlk Wo w.heap.size 74 #[.int .i64 (l.lev k).W, .int .i64 (l.lev k).H, .slice (KA k) (l.sz k) (KC k)] ∧ HasBlk Wo wo.heap.size 74 #[.int .i64 X2, .int .i64 Y2, .slice Xa j cx]) w7 from ⟨S1a.out, S3a.out⟩)
        clear HS HS5 hown5 hnew hown7 hgrow7 hat7 hlt7 nb1 nb3 S1 S3 BI XO hs3 hzL
        refine HK _ _ (fun _ => HSa.out) ?_
        clear HK
        refine wpAnyE_step (i := 25) rfl (by kernel_rfl) (fun KQ HK => ?_)
        go_wp2
        refine HK _ _ (fun _ => HSa.out) ?_
        clear HK
        refine wpAnyE_step (i := 26) rfl (by kernel_rfl) (fun KQ HK => ?_)
        have d2 := S3a.out.cell 2
        have df := S3a.out.frozen 2
        have dz := S3a.out.lt
        simp at d2
        go_wp2
        refine HK _ _ (fun h => absurd rfl h) ?_
        clear HK
        refine wpAnyE_done (by kernel_rfl) ?_
        have S3b := Lib.hid (show HasBlk (w7.setCell ⟨wo.heap.size, 2, none⟩ (.slice (some ⟨g7, 0, none⟩) (j + 1) cap7)) wo.heap.size 74 #[.int .i64 X2, .int .i64 Y2, .slice (some ⟨g7, 0, none⟩) (j + 1) cap7] by simpa using S3a.out.set 2 (.slice (some ⟨g7, 0, none⟩) (j + 1) cap7))
        have HWb := Lib.hid (own_lset (g := wo.heap.size) (j := 2) HW.out (by omega) (.slice (some ⟨g7, 0, none⟩) (j + 1) cap7))
        have BIb := Lib.hid (Below.setCell (p := ⟨wo.heap.size, 2, none⟩) BIa.out (Nat.le_refl _) (.slice (some ⟨g7, 0, none⟩) (j + 1) cap7))
        clear d2 df dz S3a HW BIa HSa S1a
        go_wp2
        go_roundw
        case rel =>
          refine ⟨j + 1, cap7, some ⟨g7, 0, none⟩, by omega, by go_num, ?_, S3b.out, BIb.out⟩
          have e : cellsR 1 (lrow (l.lev (k + 1))) (j + 1) = cellsR 1 (lrow (l.lev (k + 1))) j ++ [.int .i64 mv] := by
            rw [cellsR_succ, ← MV.out]
            rfl
          rw [e]
          exact HWb.out
        case measure => simp [intOf]; omega
      · obtain rfl : Z2 = j := by omega
        have S1a := Lib.hid (S1.out.below BI.out)
        have S2a := Lib.hid (S2.out.below BI.out)
        have HOa := Lib.hid (own_below HO.out BI.out)
        have LIa := Lib.hid (LI.out.below BI.out)
        have HBa := Lib.hid (HB.out.trans (BI.out.mono HB.out.size))
        have s0 := S1a.out.cell 0
        have s1 := S1a.out.cell 1
        have s2 := S1a.out.cell 2
        have sf0 := S1a.out.frozen 0
        have sf1 := S1a.out.frozen 1
        have sf2 := S1a.out.frozen 2
        have sz := S1a.out.lt
        have c0 := hS3.cell 0
        have c1 := hS3.cell 1
        have c2 := hS3.cell 2
        have cz := hS3.lt
        simp at s0 s1 s2 c0 c1 c2
        have hne := HB.out.size
        have hne2 := S1.out.lt
        clear hS3 hj hjz
        go_upto_region 11 with fail
        have S1b := Lib.hid (show HasBlk (((wr.setCell ⟨w.heap.size, 0, none⟩ (.int .i64 X2)).setCell ⟨w.heap.size, 1, none⟩ (.int .i64 Y2)).setCell ⟨w.heap.size, 2, none⟩ (.slice Xa Z2 cx)) w.heap.size 74 #[.int .i64 X2, .int .i64 Y2, .slice Xa Z2 cx] by simpa using ((S1a.out.set 0 (.int .i64 X2)).set 1 (.int .i64 Y2)).set 2 (.slice Xa Z2 cx))
        have S2b := Lib.hid (show HasBlk (((wr.setCell ⟨w.heap.size, 0, none⟩ (.int .i64 X2)).setCell ⟨w.heap.size, 1, none⟩ (.int .i64 Y2)).setCell ⟨w.heap.size, 2, none⟩ (.slice Xa Z2 cx)) _ _ _ from (((S2a.out.far (p := ⟨w.heap.size, 0, none⟩) (by simp) (.int .i64 X2)).far (p := ⟨w.heap.size, 1, none⟩) (by simp) (.int .i64 Y2)).far (p := ⟨w.heap.size, 2, none⟩) (by simp) (.slice Xa Z2 cx)))
        have hownL := (show World.ownsRow (((wr.setCell ⟨w.heap.size, 0, none⟩ (.int .i64 X2)).setCell ⟨w.heap.size, 1, none⟩ (.int .i64 Y2)).setCell ⟨w.heap.size, 2, none⟩ (.slice Xa Z2 cx)) _ _ _ _ _ _ from (own_lset (j := 2) (own_lset (j := 1) (own_lset (j := 0) HOa.out (show w.heap.size < (w.heap.size + 1 + 1) by omega) (.int .i64 X2)) (show w.heap.size < (w.heap.size + 1 + 1) by omega) (.int .i64 Y2)) (show w.heap.size < (w.heap.size + 1 + 1) by omega) (.slice Xa Z2 cx)))
        have XOb := Lib.hid (show World.ownsRow (((wr.setCell ⟨w.heap.size, 0, none⟩ (.int .i64 X2)).setCell ⟨w.heap.size, 1, none⟩ (.int .i64 Y2)).setCell ⟨w.heap.size, 2, none⟩ (.slice Xa Z2 cx)) _ _ _ _ _ _ from (own_lset (j := 2) (own_lset (j := 1) (own_lset (j := 0) XO.out (show w.heap.size < (wo.heap.size + 1) by omega) (.int .i64 X2)) (show w.heap.size < (wo.heap.size + 1) by omega) (.int .i64 Y2)) (show w.heap.size < (wo.heap.size + 1) by omega) (.slice Xa Z2 cx)))
        have LIb := Lib.hid (fun i h1 h2 => show World.ownsRow (((wr.setCell ⟨w.heap.size, 0, none⟩ (.int .i64 X2)).setCell ⟨w.heap.size, 1, none⟩ (.int .i64 Y2)).setCell ⟨w.heap.size, 2, none⟩ (.slice Xa Z2 cx)) _ _ _ _ _ _ from (own_lset (j := 2) (own_lset (j := 1) (own_lset (j := 0) (LIa.out.own i h1 h2) (show w.heap.size < (w.heap.size + 1 + 1) by omega) (.int .i64 X2)) (show w.heap.size < (w.heap.size + 1 + 1) by omega) (.int .i64 Y2)) (show w.heap.size < (w.heap.size + 1 + 1) by omega) (.slice Xa Z2 cx)))
        have HBb := Lib.hid (show Below w.heap.size w (((wr.setCell ⟨w.heap.size, 0, none⟩ (.int .i64 X2)).setCell ⟨w.heap.size, 1, none⟩ (.int .i64 Y2)).setCell ⟨w.heap.size, 2, none⟩ (.slice Xa Z2 cx)) from (Below.setCell (p := ⟨w.heap.size, 2, none⟩) (Below.setCell (p := ⟨w.heap.size, 1, none⟩) (Below.setCell (p := ⟨w.heap.size, 0, none⟩) HBa.out (Nat.le_refl _) (.int .i64 X2)) (Nat.le_refl _) (.int .i64 Y2)) (Nat.le_refl _) (.slice Xa Z2 cx)))
        clear s0 s1 s2 sf0 sf1 sf2 sz c0 c1 c2 cz S1a S2a HOa LIa HBa XO S3 BI zb
        generalize (((wr.setCell ⟨w.heap.size, 0, none⟩ (.int .i64 X2)).setCell ⟨w.heap.size, 1, none⟩ (.int .i64 Y2)).setCell ⟨w.heap.size, 2, none⟩ (.slice Xa Z2 cx)) = v9 at *
        have s0 := S1b.out.cell 0
        have s1 := S1b.out.cell 1
        have s2 := S1b.out.cell 2
        have sz := S1b.out.lt
        have t0 := S2b.out.cell 0
        have tz := S2b.out.lt
        simp at s0 s1 s2 t0
        have HL := Lib.hid hownL
        have LK6 := Lib.hid (LD.more PO.out.2.1 PO.out.2.2 LI.out.k6 (by rw [← XX.out, ← YY.out]; exact MORE.out))
        have hk6 := LI.out.k6
        have hnew : (v9.alloc (.cells #[.int .i64 X2, .int .i64 Y2, .slice Xa Z2 cx] 74)).heap[v9.heap.size]? = some (.cells #[.int .i64 X2, .int .i64 Y2, .slice Xa Z2 cx] 74 (0, 0)) := heap_alloc_new _ _
        go_wp2_with (at_builtin; refine wpList_append_lies _ rfl (.tmp 75) (.tmp 77) 49 rfl (w.heap.size + 1 + 1) 74 i0 _ 3 40 Try.underlying49 hi0 hz0 hz1 hz2 rfl (by omega) (.slice P (k + 1) pc) (k + 1) (cellsR 3 (lvc l KA KC) (k + 1)) rfl (hownL.alloc _) ⟨v9.heap.size, 0, none⟩ 1 1 [.int .i64 X2, .int .i64 Y2, .slice Xa Z2 cx] (by rfl) rfl (World.news_of_block (cs := #[.int .i64 X2, .int .i64 Y2, .slice Xa Z2 cx]) (t := 74) (fr := (0, 0)) hnew) (by simp [Value.oneCell']) (by omega) (by unfold maxLen; omega) (by omega) (by first | omega | (simp; done) | (simp; omega)) (v9.heap.size + 1) (by first | omega | (simp; done) | (simp; omega)) ?_; intro g' cap w9 hown3 hgrow hat hlt; have hT2 := (S2b.out.alloc (.cells #[.int .i64 X2, .int .i64 Y2, .slice Xa Z2 cx] 74)).grown hgrow (own_low hownL (show (w.heap.size + 1) < (w.heap.size + 1 + 1) by omega)); have u0 := hT2.cell 0; have uf := hT2.frozen 0; have uz := hT2.lt; simp at u0)
        have S2c := Lib.hid (show HasBlk (w9.setCell ⟨(w.heap.size + 1), 0, none⟩ (.slice (some ⟨g', 0, none⟩) (k + 1 + 1) cap)) (w.heap.size + 1) 51 #[.slice (some ⟨g', 0, none⟩) (k + 1 + 1) cap] by simpa using hT2.set 0 (.slice (some ⟨g', 0, none⟩) (k + 1 + 1) cap))
        have S1c := Lib.hid (((S1b.out.alloc (.cells #[.int .i64 X2, .int .i64 Y2, .slice Xa Z2 cx] 74)).grown hgrow (own_low HL.out (show w.heap.size < (w.heap.size + 1 + 1) by omega))).far (p := ⟨(w.heap.size + 1), 0, none⟩) (by simp) (.slice (some ⟨g', 0, none⟩) (k + 1 + 1) cap))
        have HOc := Lib.hid (own_lset (j := 0) hown3 (show (w.heap.size + 1) < (w.heap.size + 1 + 1) by omega) (.slice (some ⟨g', 0, none⟩) (k + 1 + 1) cap))
        have XOc := Lib.hid (own_lset (g := (w.heap.size + 1)) (j := 0) (own_keep (XOb.out.alloc (.cells #[.int .i64 X2, .int .i64 Y2, .slice Xa Z2 cx] 74)) hgrow (own_types XOb.out HL.out (by decide))) (by omega) (.slice (some ⟨g', 0, none⟩) (k + 1 + 1) cap))
        have LIc := Lib.hid (fun i h1 h2 => own_lset (g := (w.heap.size + 1)) (j := 0) (own_keep ((LIb.out i h1 h2).alloc (.cells #[.int .i64 X2, .int .i64 Y2, .slice Xa Z2 cx] 74)) hgrow (own_types (LIb.out i h1 h2) HL.out (by decide))) (show (w.heap.size + 1) < (w.heap.size + 1 + 1) by omega) (.slice (some ⟨g', 0, none⟩) (k + 1 + 1) cap))
        have HBc := Lib.hid (Below.setCell (p := ⟨(w.heap.size + 1), 0, none⟩) (below_grown (v := .slice P (k + 1) pc) (HBb.out.alloc HBb.out.size (.cells #[.int .i64 X2, .int .i64 Y2, .slice Xa Z2 cx] 74)) hgrow (HL.out.alloc _) (by omega) (by first | omega | (simp; done) | (simp; omega))) (by simp) (.slice (some ⟨g', 0, none⟩) (k + 1 + 1) cap))
        clear s0 s1 s2 sz t0 tz hnew hT2 u0 uf uz hown3 hgrow hat hlt hownL HL LIb XOb S1b S2b HBb
        generalize (w9.setCell ⟨(w.heap.size + 1), 0, none⟩ (.slice (some ⟨g', 0, none⟩) (k + 1 + 1) cap)) = vz at *
        go_roundw
        case rel =>
          have hz3 : l.sz (k + 1) = Z2 := by show (l.lev (k + 1)).W * (l.lev (k + 1)).H = Z2; rw [← XX2.out, ← YY2.out]; exact ZZ2.out
          refine ⟨k + 1, cap, some ⟨g', 0, none⟩, upd KA (k + 1) Xa, upd KC (k + 1) cx, ⟨(upd_ne _ _ (by omega)).trans LI.out.A0, (upd_ne _ _ (by omega)).trans LI.out.C0, LK6.out, ?_, ?_⟩, ?_, ?_, S2c.out, HBc.out⟩
          · intro j hj
            rcases Nat.lt_or_ge j k with h | h
            · exact LI.out.no j h
            · obtain rfl : j = k := by omega
              rw [← XX.out, ← YY.out]
              have := MORE.out
              omega
          · intro i h1 h2
            by_cases e : i = k + 1
            · subst e
              rw [upd_at, upd_at, hz3]
              exact own_base XOc.out (by omega)
            · rw [upd_ne _ _ e, upd_ne _ _ e]
              exact LIc.out i h1 (by omega)
          · have e : cellsR 3 (lvc l (upd KA (k + 1) Xa) (upd KC (k + 1) cx)) (k + 1 + 1) = cellsR 3 (lvc l KA KC) (k + 1) ++ [.int .i64 X2, .int .i64 Y2, .slice Xa Z2 cx] := by
              rw [cellsR_succ, cellsR_congr (F := lvc l (upd KA (k + 1) Xa) (upd KC (k + 1) cx)) (G := lvc l KA KC) (fun i hi j _ => by unfold lvc; rw [upd_ne _ _ (show i ≠ k + 1 by omega), upd_ne _ _ (show i ≠ k + 1 by omega)])]
              congr 1
              show [lvc l (upd KA (k + 1) Xa) (upd KC (k + 1) cx) (k + 1) 0, lvc l (upd KA (k + 1) Xa) (upd KC (k + 1) cx) (k + 1) 1, lvc l (upd KA (k + 1) Xa) (upd KC (k + 1) cx) (k + 1) 2] = _
              unfold lvc
              rw [if_pos rfl, if_neg (by decide), if_pos rfl, if_neg (by decide), if_neg (by decide), upd_at, upd_at, hz3, XX2.out, YY2.out]
            rw [e]
            exact HOc.out
          · rw [upd_at, upd_at, hz3, ← XX2.out, ← YY2.out]
            exact S1c.out
        case measure =>
          have m0 := cellN_of (S1c.out.cell 0) rfl
          have m1 := cellN_of (S1c.out.cell 1) rfl
          have n0 := cellN_of (S1.out.cell 0) rfl
          have n1 := cellN_of (S1.out.cell 1) rfl
          rw [m0, m1, n0, n1, ← XX.out, ← YY.out]
          exact hlx
end Go.Proofs.Ytibeoeooajelgaa
