/- ShadePaints. -/
import Derived.Test.YtgcappooiecaiaaW21
import Derived.Test.YtgcappooiecaiaaW10
namespace Go.Proofs.Ytgcappooiecaiaa
open Go.RowKit
set_option linter.unusedVariables false
attribute [local go_sem ↓] Go.wp_at_zero Go.wp_at_succ

/-- The cells of the textures that are copied. -/
def TE (D : Nat → TexD) (a : Nat → Option Addr) (c : Nat → Nat) (i j : Nat) : Value := if j = 0 then .int .i64 (D i).W else if j = 1 then .int .i64 (D i).H else .slice (a i) (D i).n (c i)
theorem te_one (D : Nat → TexD) (a : Nat → Option Addr) (c : Nat → Nat) (i j : Nat) : (TE D a c i j).oneCell' = true := by
  unfold TE; split
  · rfl
  · split <;> rfl
def DC (D : Nat → TexD) (a : Nat → Option Addr) (c : Nat → Nat) (i : Nat) : TexD := { D i with a := a i, c := c i }
theorem own_apart {w : World} {b1 b2 e1 e2 s1 s2 n1 n2 : Nat} {v1 v2 : Value} {x1 x2 : List Value} (h1 : w.ownsRow b1 e1 s1 v1 n1 x1) (h2 : w.ownsRow b2 e2 s2 v2 n2 x2) (hne : e1 ≠ e2) : v1.ownBlock = none ∨ v1.ownBlock ≠ v2.ownBlock := by
  rcases h1.2 with ⟨rfl, _⟩ | ⟨g, cap, cur, rfl, _, hg, _⟩
  · exact .inl rfl
  · right
    intro he
    rcases h2.2 with ⟨rfl, _⟩ | ⟨g', cap', cur', rfl, _, hg', _⟩
    · simp [Value.ownBlock] at he
    · have hgg : g = g' := by simpa [Value.ownBlock] using he
      subst hgg
      rw [hg] at hg'
      injection hg' with h
      injection h with _ ht
      exact hne ht
theorem tl_own {w : World} {B m c : Nat} {X : Option Addr} {D : Nat → TexD} {a : Nat → Option Addr} {cc : Nat → Nat} (h : w.ownsRow B 30 3 (.slice X m c) m (cellsR 3 (TE D a cc) m)) (hr : ∀ i, i < m → w.ownsRow B 23 4 (.slice (a i) (D i).n (cc i)) (D i).n (cellsR 4 (fun p j => .int .u8 ((D i).f p j)) (D i).n)) : TL w X m (DC D a cc) := by
  intro hm
  obtain ⟨g, off, e, hg, hc⟩ := Row.of_cells h hm
  refine ⟨g, off, e, hg, fun i hi => ?_, fun i hi => Row.of_cells (hr i hi)⟩
  have h0 := hc i hi 0 (by omega)
  have h1 := hc i hi 1 (by omega)
  have h2 := hc i hi 2 (by omega)
  exact ⟨h0, h1, h2⟩
theorem checksE_dc (D : Nat → TexD) (a : Nat → Option Addr) (cc : Nat → Nat) (m : Nat) : checksE (DC D a cc) m = checksE D m := rfl
theorem paintE_dc (D : Nat → TexD) (a : Nat → Option Addr) (cc : Nat → Nat) (m : Nat) (tx cu bi bn u v : Int) : paintE (DC D a cc) m tx cu bi bn u v = paintE D m tx cu bi bn u v := rfl
theorem paintC_dc (D : Nat → TexD) (a : Nat → Option Addr) (cc : Nat → Nat) (q : Nat → Int) (tx u v : Int) (j : Nat) : paintC (DC D a cc) q tx u v j = paintC D q tx u v j := rfl
theorem like_dc (D : Nat → TexD) (a : Nat → Option Addr) (cc : Nat → Nat) (i : Nat) : (DC D a cc i).like (D i) := ⟨rfl, rfl, rfl, fun _ _ => ⟨rfl, rfl, rfl, rfl⟩⟩

/-- What Paint answers. -/
noncomputable def PaintR (D : Nat → TexD) (m : Nat) (cc : Nat → Int) (tx cu bi bn u v : Int) (j : Nat) : Int := if paintE D m tx cu bi bn u v = 0 then paintC D cc tx u v j else 0
theorem paintR32 (A : Option Addr) (m c : Nat) (D : Nat → TexD) (cc : Nat → Int) (tx cu bi : Int) (bl : Bool) (bn u v : Int) (w : World) (hl : TL w A m D) (hb : ∀ j, Byte (cc j)) (hB : ∀ i, i < m → ∀ p, p < (D i).n → ∀ j, j < 4 → Byte ((D i).f p j)) :
    Calls Try.prog 32 #[.agg #[.int .u8 (cc 0), .int .u8 (cc 1), .int .u8 (cc 2), .int .u8 (cc 3), .int .i64 tx, .int .u8 cu, .int .i64 bi, .bool bl, .int .i64 bn], .slice A m c, .int .i64 u, .int .i64 v] w fun e w' => e = .returned (.tuple #[.agg #[.int .u8 (PaintR D m cc tx cu bi bn u v 0), .int .u8 (PaintR D m cc tx cu bi bn u v 1), .int .u8 (PaintR D m cc tx cu bi bn u v 2), .int .u8 (PaintR D m cc tx cu bi bn u v 3)], .int .i64 (paintE D m tx cu bi bn u v)]) ∧ Below w.heap.size w w' := paint_any A m c D cc tx cu bi bl bn u v w hl hb hB
theorem paintR33 (A : Option Addr) (m c : Nat) (D : Nat → TexD) (cc : Nat → Int) (tx cu bi : Int) (bl : Bool) (bn u v : Int) (w : World) (hl : TL w A m D) (hb : ∀ j, Byte (cc j)) (hB : ∀ i, i < m → ∀ p, p < (D i).n → ∀ j, j < 4 → Byte ((D i).f p j)) :
    Calls Try.prog 33 #[.agg #[.int .u8 (cc 0), .int .u8 (cc 1), .int .u8 (cc 2), .int .u8 (cc 3), .int .i64 tx, .int .u8 cu, .int .i64 bi, .bool bl, .int .i64 bn], .slice A m c, .int .i64 u, .int .i64 v] w fun e w' => e = .returned (.tuple #[.agg #[.int .u8 (PaintR D m cc tx cu bi bn u v 0), .int .u8 (PaintR D m cc tx cu bi bn u v 1), .int .u8 (PaintR D m cc tx cu bi bn u v 2), .int .u8 (PaintR D m cc tx cu bi bn u v 3)], .int .i64 (paintE D m tx cu bi bn u v)]) ∧ Below w.heap.size w w' := refpaint_any A m c D cc tx cu bi bl bn u v w hl hb hB
theorem paintR_dc (D : Nat → TexD) (a : Nat → Option Addr) (c : Nat → Nat) (m : Nat) (cc : Nat → Int) (tx cu bi bn u v : Int) (j : Nat) : PaintR (DC D a c) m cc tx cu bi bn u v j = PaintR D m cc tx cu bi bn u v j := rfl

set_option maxRecDepth 100000 in
set_option maxHeartbeats 4000000 in
theorem shadePaints_walk (A : Option Addr) (m c : Nat) (D : Nat → TexD) (cc : Nat → Int) (tx cu bi : Int) (bl : Bool) (bn t u v : Int) (w : World) (hl : TL w A m D) (hm : (m : Int) ≤ 9223372036854775807) (hD : ∀ i, ((D i).n : Int) ≤ 9223372036854775807) (hb : ∀ j, Byte (cc j)) (hB : ∀ i, i < m → ∀ p, p < (D i).n → ∀ j, j < 4 → Byte ((D i).f p j)) : Calls Try.prog 10 #[.agg #[.int .u8 (cc 0), .int .u8 (cc 1), .int .u8 (cc 2), .int .u8 (cc 3), .int .i64 tx, .int .u8 cu, .int .i64 bi, .bool bl, .int .i64 bn], .slice A m c, .int .i64 t, .int .i64 u, .int .i64 v] w fun e w' => e = .returned (.bool true) ∧ Below w.heap.size w w' := by
  have Hl := Lib.hid hl
  have hp1 := Lib.hid (fun X cx a' c' W (h : TL W X m (DC D a' c')) => paintR32 X m cx (DC D a' c') cc tx cu bi bl bn u v W h hb hB)
  have hp2 := Lib.hid (fun W (h : TL W A m D) => paintR33 A m c D cc tx cu bi bl bn u v W h hb hB)
  have HD := Lib.hid hD
  have hq := eql_col
  obtain ⟨i0, hi0, hz0, hz1, hz2⟩ := info_parts tex_info
  have hck := Lib.hid (fun w => checklook_any (cc 0) (cc 1) (cc 2) (cc 3) tx cu bi bl bn t w)
  have hck2 := Lib.hid (fun w => refchecklook_any (cc 0) (cc 1) (cc 2) (cc 3) tx cu bi bl bn t w)
  clear hb hB hD
  go_enter Try.func10, Try.ntmps10
  go_wp2_with fail
  refine (great_any A m c D _ (Hl.out.below (by repeat' (first | exact Below.refl _ _ | assumption | apply Below.drew | refine Below.setCell ?_ (by first | omega | (simp; done) | (simp; omega)) _ | refine Below.alloc ?_ (by first | omega | (simp; done) | (simp; omega)) _))) hm HD.out).mono ?_
  rintro e w1 ⟨hg, rfl⟩
  rcases hg with rfl | ⟨rfl, hm40, hD20⟩
  · go_wp2
    go_ret
    exact ⟨rfl, by repeat' (first | exact Below.refl _ _ | assumption | apply Below.drew | refine Below.setCell ?_ (by first | omega | (simp; done) | (simp; omega)) _ | refine Below.alloc ?_ (by first | omega | (simp; done) | (simp; omega)) _)⟩
  have HD20 := Lib.hid hD20
  clear hD20
  go_wp2
  go_loopw [11, 12] (fun o i wr => ∃ k : Nat, k ≤ m ∧ i = .int .i64 k ∧ (∃ X cx a' c', o = .slice X k cx ∧ wr.ownsRow w.heap.size 30 3 (.slice X k cx) k (cellsR 3 (TE D a' c') k) ∧ ∀ i, i < k → wr.ownsRow w.heap.size 23 4 (.slice (a' i) (D i).n (c' i)) (D i).n (cellsR 4 (fun p j => .int .u8 ((D i).f p j)) (D i).n)) ∧ HasBlk wr w.heap.size 49 #[.int .u8 (cc 0), .int .u8 (cc 1), .int .u8 (cc 2), .int .u8 (cc 3), .int .i64 tx, .int .u8 cu, .int .i64 bi, .bool bl, .int .i64 bn] ∧ Below w.heap.size w wr) (fun o i wr => m - (intOf i).toNat)
  case atStart => exact ⟨0, Nat.zero_le _, rfl, ⟨none, 0, fun _ => none, fun _ => 0, rfl, own_nil _ _ _ _, fun i hi => absurd hi (by omega)⟩, hasBlk_new _ _ _, by repeat' (first | exact Below.refl _ _ | assumption | apply Below.drew | refine Below.setCell ?_ (by first | omega | (simp; done) | (simp; omega)) _ | refine Below.alloc ?_ (by first | omega | (simp; done) | (simp; omega)) _)⟩
  case round =>
    obtain ⟨k, hk, rfl, ⟨X, cx, a', c', rfl, hown, hrows⟩, hL, hbel⟩ := hrel
    have z0 := hL.lt
    by_cases hkm : k < m
    · obtain ⟨b, off, rfl, hbl, hc, hpx⟩ := Hl.out.below hbel (by omega)
      obtain ⟨d0, d1, d2⟩ := hc k hkm
      have htw := Lib.hid (twin25 (D k).W (D k).H (D k).a (D k).n (D k).c (fun p j => .int .u8 ((D k).f p j)) wr (hpx k hkm) (fun _ _ => rfl) (by have := HD20.out k hkm; omega))
      have Hown := Lib.hid hown
      have Hrows := Lib.hid hrows
      have HL := Lib.hid hL
      have Hbel := Lib.hid hbel
      have hi : (k : Int) < (m : Int) := by omega
      have hk00 : (0 : Int) ≤ (k : Int) := by omega
      have zb := hbel.size
      clear hc hpx hown hrows hL hbel
      go_wp2_with fail
      refine (htw.out).mono ?_
      rintro e w2 ⟨⟨A1, c1, rfl, h1⟩, bel2⟩
      have z2 := bel2.size
      have hown2 := own_below Hown.out bel2
      have H1 := Lib.hid (own_base (b := w.heap.size) h1 zb)
      have Hb2 := Lib.hid bel2
      clear h1 bel2 d0 d1 d2 htw
      have Hl2 := Lib.hid (cellsR_succ 3 (TE D (fun i => if i = k then A1 else a' i) (fun i => if i = k then c1 else c' i)) k)
      go_wp2_with (at_builtin; refine wpList_append_lies _ rfl (.tmp 25) (.tmp 31) _ rfl w.heap.size 30 i0 _ 3 40 Try.underlying39 hi0 hz0 hz1 hz2 rfl (by omega) (.slice X k cx) (k) (cellsR 3 (TE D a' c') k) rfl (hown2.alloc _) ⟨w2.heap.size, 0, none⟩ 1 1 [.int .i64 (D k).W, .int .i64 (D k).H, .slice A1 (D k).n c1] (by rfl) rfl (World.news_of_block (cs := #[.int .i64 (D k).W, .int .i64 (D k).H, .slice A1 (D k).n c1]) (t := 30) (fr := (0, 0)) (heap_alloc_new w2 _)) (by simp [Value.oneCell']) (by omega) (by unfold maxLen; omega) (by omega) (by simp; omega) (w2.heap.size + 1) (by simp) ?_; intro g' cap w3 hown3 hgrow hat hlt)
      have hcg : cellsR 3 (TE D a' c') k = cellsR 3 (TE D (fun i => if i = k then A1 else a' i) (fun i => if i = k then c1 else c' i)) k := cellsR_congr fun i hi j hj => by
        unfold TE
        dsimp only
        rw [if_neg (show ¬ i = k by omega), if_neg (show ¬ i = k by omega)]
      rw [hcg] at hown3
      have Hown3 := Lib.hid hown3
      have Hg := Lib.hid hgrow
      have Ho2 := Lib.hid hown2
      clear hcg hown3 hgrow hat hown2
      go_wp2
      go_roundw
      case rel =>
        refine ⟨k + 1, by omega, by go_num, ⟨some ⟨g', 0, none⟩, cap, fun i => if i = k then A1 else a' i, fun i => if i = k then c1 else c' i, rfl, ?_, fun i hi => ?_⟩, ?_, ?_⟩
        · rw [Hl2.out]
          have e : (List.range 3).map (TE D (fun i => if i = k then A1 else a' i) (fun i => if i = k then c1 else c' i) k) = [.int .i64 (D k).W, .int .i64 (D k).H, .slice A1 (D k).n c1] := by
            simp [List.range, List.range.loop, TE]
          rw [e]
          exact Hown3.out
        · by_cases hik : i = k
          · subst hik
            simp only [if_true, if_pos rfl]
            exact World.ownsRow.kept (H1.out.alloc _) Hg.out (own_apart H1.out Ho2.out (by decide))
          · simp only [if_neg hik]
            have hh := (own_below (Hrows.out i (by omega)) Hb2.out).alloc (.cells #[.int .i64 (D k).W, .int .i64 (D k).H, .slice A1 (D k).n c1] 30)
            exact World.ownsRow.kept hh Hg.out (own_apart (own_below (Hrows.out i (by omega)) Hb2.out) Ho2.out (by decide))
        · exact ((HL.out.below Hb2.out).alloc _).grown Hg.out ((HL.out.below Hb2.out).ne_own Ho2.out (by decide))
        · refine below_grown (v := .slice X k cx) (Below.alloc (Hbel.out.trans (Hb2.out.mono zb)) (by omega) _) Hg.out (Ho2.out.alloc _) (Nat.le_refl _) (by simp; omega)
      case measure => simp [intOf]; omega
    · obtain rfl : k = m := by omega
      have HT := Lib.hid (tl_own hown hrows)
      have LK := Lib.hid hL
      have HB0 := Lib.hid hbel
      clear hown hrows hL hbel
      have lt_LK := LK.out.lt
      have LK_0 := LK.out.cell 0
      have LK_1 := LK.out.cell 1
      have LK_2 := LK.out.cell 2
      have LK_3 := LK.out.cell 3
      have LK_4 := LK.out.cell 4
      have LK_5 := LK.out.cell 5
      have LK_6 := LK.out.cell 6
      have LK_7 := LK.out.cell 7
      have LK_8 := LK.out.cell 8
      simp at LK_0 LK_1 LK_2 LK_3 LK_4 LK_5 LK_6 LK_7 LK_8
      go_wp2_with fail
      refine (hp1.out _ _ _ _ _ HT.out).mono ?_
      simp only [paintE_dc, paintR_dc]
      rintro e w3 ⟨rfl, bel3⟩
      clear lt_LK LK_0 LK_1 LK_2 LK_3 LK_4 LK_5 LK_6 LK_7 LK_8
      have BB1 : Below w.heap.size w w3 := by
        have bel0 := HB0.out
        refine Below.trans ?_ (bel3.mono (by first | omega | (simp; done) | (simp; omega)))
        repeat' (first | exact Below.refl _ _ | assumption | apply Below.drew | refine Below.setCell ?_ (by first | omega | (simp; done) | (simp; omega)) _ | refine Below.alloc ?_ (by first | omega | (simp; done) | (simp; omega)) _)
      have t_LK : HasBlk w3 (w.heap.size) 49 #[.int .u8 (cc 0), .int .u8 (cc 1), .int .u8 (cc 2), .int .u8 (cc 3), .int .i64 tx, .int .u8 cu, .int .i64 bi, .bool bl, .int .i64 bn] := by first | exact LK.out.below bel3 | exact (LK.out.alloc _).below bel3 | exact ((LK.out.alloc _).alloc _).below bel3 | exact (((LK.out.alloc _).alloc _).alloc _).below bel3
      clear LK
      have LK := Lib.hid t_LK
      clear t_LK
      clear HB0
      have BB1s := BB1.size
      have HBB1 := Lib.hid BB1
      clear BB1
      have lt_LK := LK.out.lt
      have LK_0 := LK.out.cell 0
      have LK_1 := LK.out.cell 1
      have LK_2 := LK.out.cell 2
      have LK_3 := LK.out.cell 3
      have LK_4 := LK.out.cell 4
      have LK_5 := LK.out.cell 5
      have LK_6 := LK.out.cell 6
      have LK_7 := LK.out.cell 7
      have LK_8 := LK.out.cell 8
      simp at LK_0 LK_1 LK_2 LK_3 LK_4 LK_5 LK_6 LK_7 LK_8
      go_wp2_with fail
      refine (hp2.out _ (Hl.out.below (by have bel0 := HBB1.out; repeat' (first | exact Below.refl _ _ | assumption | apply Below.drew | refine Below.setCell ?_ (by first | omega | (simp; done) | (simp; omega)) _ | refine Below.alloc ?_ (by first | omega | (simp; done) | (simp; omega)) _)))).mono ?_
      rintro e w4 ⟨rfl, bel4⟩
      clear lt_LK LK_0 LK_1 LK_2 LK_3 LK_4 LK_5 LK_6 LK_7 LK_8
      have BB2 : Below w.heap.size w w4 := by
        have bel0 := HBB1.out
        refine Below.trans ?_ (bel4.mono (by first | omega | (simp; done) | (simp; omega)))
        repeat' (first | exact Below.refl _ _ | assumption | apply Below.drew | refine Below.setCell ?_ (by first | omega | (simp; done) | (simp; omega)) _ | refine Below.alloc ?_ (by first | omega | (simp; done) | (simp; omega)) _)
      have t_LK : HasBlk w4 (w.heap.size) 49 #[.int .u8 (cc 0), .int .u8 (cc 1), .int .u8 (cc 2), .int .u8 (cc 3), .int .i64 tx, .int .u8 cu, .int .i64 bi, .bool bl, .int .i64 bn] := by first | exact LK.out.below bel4 | exact (LK.out.alloc _).below bel4 | exact ((LK.out.alloc _).alloc _).below bel4 | exact (((LK.out.alloc _).alloc _).alloc _).below bel4
      clear LK
      have LK := Lib.hid t_LK
      clear t_LK
      have C1 : Hid (HasBlk w4 (w3.heap.size) 23 #[.int .u8 (PaintR D k cc tx cu bi bn u v 0), .int .u8 (PaintR D k cc tx cu bi bn u v 1), .int .u8 (PaintR D k cc tx cu bi bn u v 2), .int .u8 (PaintR D k cc tx cu bi bn u v 3)]) := Lib.hid (by have := (hasBlk_new w3 23 #[.int .u8 (PaintR D k cc tx cu bi bn u v 0), .int .u8 (PaintR D k cc tx cu bi bn u v 1), .int .u8 (PaintR D k cc tx cu bi bn u v 2), .int .u8 (PaintR D k cc tx cu bi bn u v 3)]).below bel4; simpa using this)
      clear HBB1
      have BB2s := BB2.size
      have HBB2 := Lib.hid BB2
      clear BB2
      have lt_LK := LK.out.lt
      have LK_0 := LK.out.cell 0
      have LK_1 := LK.out.cell 1
      have LK_2 := LK.out.cell 2
      have LK_3 := LK.out.cell 3
      have LK_4 := LK.out.cell 4
      have LK_5 := LK.out.cell 5
      have LK_6 := LK.out.cell 6
      have LK_7 := LK.out.cell 7
      have LK_8 := LK.out.cell 8
      simp at LK_0 LK_1 LK_2 LK_3 LK_4 LK_5 LK_6 LK_7 LK_8
      have lt_C1 := C1.out.lt
      have C1_0 := C1.out.cell 0
      have C1_1 := C1.out.cell 1
      have C1_2 := C1.out.cell 2
      have C1_3 := C1.out.cell 3
      simp at C1_0 C1_1 C1_2 C1_3
      have hkp : Keeps (fun Wo => (Below w4.heap.size w4 Wo ∧ w4.heap.size ≤ Wo.heap.size) ∧ w4.heap.size < Wo.heap.size ∧ Wo.cell? ⟨w.heap.size, 0, none⟩ = some (.int .u8 (cc 0)) ∧ Wo.cell? ⟨w.heap.size, 1, none⟩ = some (.int .u8 (cc 1)) ∧ Wo.cell? ⟨w.heap.size, 2, none⟩ = some (.int .u8 (cc 2)) ∧ Wo.cell? ⟨w.heap.size, 3, none⟩ = some (.int .u8 (cc 3)) ∧ Wo.cell? ⟨w.heap.size, 4, none⟩ = some (.int .i64 tx) ∧ Wo.cell? ⟨w.heap.size, 5, none⟩ = some (.int .u8 cu) ∧ Wo.cell? ⟨w.heap.size, 6, none⟩ = some (.int .i64 bi) ∧ Wo.cell? ⟨w.heap.size, 7, none⟩ = some (.bool bl) ∧ Wo.cell? ⟨w.heap.size, 8, none⟩ = some (.int .i64 bn) ∧ Wo.cell? ⟨w3.heap.size, 0, none⟩ = some (.int .u8 (PaintR D k cc tx cu bi bn u v 0)) ∧ Wo.cell? ⟨w3.heap.size, 1, none⟩ = some (.int .u8 (PaintR D k cc tx cu bi bn u v 1)) ∧ Wo.cell? ⟨w3.heap.size, 2, none⟩ = some (.int .u8 (PaintR D k cc tx cu bi bn u v 2)) ∧ Wo.cell? ⟨w3.heap.size, 3, none⟩ = some (.int .u8 (PaintR D k cc tx cu bi bn u v 3)) ∧ Wo.cell? ⟨w4.heap.size, 0, none⟩ = some (.int .u8 (PaintR D k cc tx cu bi bn u v 0)) ∧ Wo.cell? ⟨w4.heap.size, 1, none⟩ = some (.int .u8 (PaintR D k cc tx cu bi bn u v 1)) ∧ Wo.cell? ⟨w4.heap.size, 2, none⟩ = some (.int .u8 (PaintR D k cc tx cu bi bn u v 2)) ∧ Wo.cell? ⟨w4.heap.size, 3, none⟩ = some (.int .u8 (PaintR D k cc tx cu bi bn u v 3))) := by
        repeat' (first | exact Keeps.below _ | exact Keeps.size _ | exact Keeps.cell _ _ | apply Keeps.and)
      have z3 := bel3.size
      have z4 := bel4.size
      simp at z4
      have hwr4 : Below wr.heap.size wr w4 := Below.trans (Below.alloc bel3 (by omega) _) (bel4.mono (by simp; omega))
      have hsa := Lib.hid (fun W (h : Below w4.heap.size w4 W) => sameall_true X A k cx c (DC D a' c') D W ((HT.out.below hwr4).below h) ((Hl.out.below (HBB2.out)).below h) hm (fun i _ => HD.out i) (fun i _ => like_dc D a' c' i))
      have hbb := Lib.hid (HBB2.out)
      clear bel3 bel4 hwr4
      have ge : (lookE tx cu bi bn t == lookE tx cu bi bn t) = true := by simp
      go_wp2_with fail
      go_region_held3 (fun Wo => (Below w4.heap.size w4 Wo ∧ w4.heap.size ≤ Wo.heap.size) ∧ w4.heap.size < Wo.heap.size ∧ Wo.cell? ⟨w.heap.size, 0, none⟩ = some (.int .u8 (cc 0)) ∧ Wo.cell? ⟨w.heap.size, 1, none⟩ = some (.int .u8 (cc 1)) ∧ Wo.cell? ⟨w.heap.size, 2, none⟩ = some (.int .u8 (cc 2)) ∧ Wo.cell? ⟨w.heap.size, 3, none⟩ = some (.int .u8 (cc 3)) ∧ Wo.cell? ⟨w.heap.size, 4, none⟩ = some (.int .i64 tx) ∧ Wo.cell? ⟨w.heap.size, 5, none⟩ = some (.int .u8 cu) ∧ Wo.cell? ⟨w.heap.size, 6, none⟩ = some (.int .i64 bi) ∧ Wo.cell? ⟨w.heap.size, 7, none⟩ = some (.bool bl) ∧ Wo.cell? ⟨w.heap.size, 8, none⟩ = some (.int .i64 bn) ∧ Wo.cell? ⟨w3.heap.size, 0, none⟩ = some (.int .u8 (PaintR D k cc tx cu bi bn u v 0)) ∧ Wo.cell? ⟨w3.heap.size, 1, none⟩ = some (.int .u8 (PaintR D k cc tx cu bi bn u v 1)) ∧ Wo.cell? ⟨w3.heap.size, 2, none⟩ = some (.int .u8 (PaintR D k cc tx cu bi bn u v 2)) ∧ Wo.cell? ⟨w3.heap.size, 3, none⟩ = some (.int .u8 (PaintR D k cc tx cu bi bn u v 3)) ∧ Wo.cell? ⟨w4.heap.size, 0, none⟩ = some (.int .u8 (PaintR D k cc tx cu bi bn u v 0)) ∧ Wo.cell? ⟨w4.heap.size, 1, none⟩ = some (.int .u8 (PaintR D k cc tx cu bi bn u v 1)) ∧ Wo.cell? ⟨w4.heap.size, 2, none⟩ = some (.int .u8 (PaintR D k cc tx cu bi bn u v 2)) ∧ Wo.cell? ⟨w4.heap.size, 3, none⟩ = some (.int .u8 (PaintR D k cc tx cu bi bn u v 3)))
        (first | exact hkp _ _ hbel (by assumption) | (refine ⟨⟨?_, by first | omega | (simp; done) | (simp; omega)⟩, by first | omega | (simp; done) | (simp; omega), by simp [go_sem, *], by simp [go_sem, *], by simp [go_sem, *], by simp [go_sem, *], by simp [go_sem, *], by simp [go_sem, *], by simp [go_sem, *], by simp [go_sem, *], by simp [go_sem, *], by simp [go_sem, *], by simp [go_sem, *], by simp [go_sem, *], by simp [go_sem, *], by simp [go_sem, *], by simp [go_sem, *], by simp [go_sem, *], by simp [go_sem, *]⟩; repeat' (first | exact Below.refl _ _ | assumption | apply Below.drew | refine Below.setCell ?_ (by first | omega | (simp; done) | (simp; omega)) _ | refine Below.alloc ?_ (by first | omega | (simp; done) | (simp; omega)) _)) | fail "keep")
        (first | (go_at_call 34; (with_reducible refine (hck.out _).mono ?_); rintro e w' ⟨rfl, hbel⟩) | (go_at_call 35; (with_reducible refine (hck2.out _).mono ?_); rintro e w' ⟨rfl, hbel⟩) | (go_at_call 36; (with_reducible refine (hsa.out _ ?_).mono ?_); (first | exact (‹(Below w4.heap.size w4 _ ∧ _) ∧ _›).1.1 | (repeat' (first | exact Below.refl _ _ | assumption | apply Below.drew | refine Below.setCell ?_ (by first | omega | (simp; done) | (simp; omega)) _ | refine Below.alloc ?_ (by first | omega | (simp; done) | (simp; omega)) _))); rintro e w' ⟨rfl, hbel⟩))
      go_wp2
      go_ret
      exact ⟨rfl, hbb.out.trans (((‹(Below w4.heap.size w4 _ ∧ _) ∧ _›).1.1).mono hbb.out.size)⟩
end Go.Proofs.Ytgcappooiecaiaa
