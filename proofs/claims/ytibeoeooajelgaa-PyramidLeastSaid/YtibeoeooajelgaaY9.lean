/- pyramid: the reference's built. -/
import Derived.Test.YtibeoeooajelgaaY8
import Derived.Deep.AppendLies
namespace Go.Proofs.Ytibeoeooajelgaa
open Go.RowKit
set_option linter.unusedVariables false
theorem own_one {w : World} {g B : Nat} {x y z : Value} (h : HasBlk w g 74 #[x, y, z]) (hB : B ≤ g) : w.ownsRow B 74 3 (.slice (some ⟨g, 0, none⟩) 1 1) 1 [x, y, z] := ⟨rfl, .inr ⟨g, 1, _, rfl, hB, h, by omega, by unfold maxLen; omega, rfl, rfl⟩⟩

set_option maxRecDepth 100000 in
set_option maxHeartbeats 16000000 in
theorem refbuilt_any (l : LD) (A : Option Addr) (c : Nat) (w : World) (h1 : 1 ≤ l.W) (hW : l.W ≤ 64) (h2 : 1 ≤ l.H) (hH : l.H ≤ 64) (hle : l.Le) (hA : Row w A (l.W * l.H) 1 (lrow l)) :
    Calls Try.prog 68 #[.agg #[.int .i64 l.W, .int .i64 l.H, .slice A (l.W * l.H) c]] w fun e w' => BuildR l A c w.heap.size e w' ∧ Below w.heap.size w w' := by
  obtain ⟨i0', hi0, hz0, hz1, hz2⟩ := info_parts lv_info
  obtain ⟨i0, hi00⟩ : ∃ i0, i0 = i0' := ⟨_, rfl⟩
  rw [← hi00] at hi0 hz0 hz1 hz2
  clear hi00
  have HA := Lib.hid hA
  have LE := Lib.hid hle
  have PO := Lib.hid (And.intro (And.intro h1 h2) (And.intro hW hH))
  clear hA h1 h2 hW hH hle
  go_enter Try.func68, Try.ntmps68
  go_wp2
  have B0 := Lib.hid (show Below w.heap.size w ((((w.alloc (.cells #[.int .i64 l.W, .int .i64 l.H, .slice A (l.W * l.H) c] 74)).alloc (.cells #[.slice none 0 0] 51)).alloc (.cells #[.int .i64 l.W, .int .i64 l.H, .slice A (l.W * l.H) c] 74)).alloc (.cells #[.slice (some ⟨(w.heap.size + 1 + 1), 0, none⟩) 1 1] 51)) by
    repeat' (first | exact Below.refl _ _ | refine Below.alloc ?_ (by first | omega | (simp; done) | (simp; omega)) _))
  have S1 := Lib.hid (show HasBlk ((((w.alloc (.cells #[.int .i64 l.W, .int .i64 l.H, .slice A (l.W * l.H) c] 74)).alloc (.cells #[.slice none 0 0] 51)).alloc (.cells #[.int .i64 l.W, .int .i64 l.H, .slice A (l.W * l.H) c] 74)).alloc (.cells #[.slice (some ⟨(w.heap.size + 1 + 1), 0, none⟩) 1 1] 51)) w.heap.size 74 #[.int .i64 l.W, .int .i64 l.H, .slice A (l.W * l.H) c] from (((hasBlk_new w 74 #[.int .i64 l.W, .int .i64 l.H, .slice A (l.W * l.H) c]).alloc _).alloc _).alloc _)
  have S2 := Lib.hid (show HasBlk ((((w.alloc (.cells #[.int .i64 l.W, .int .i64 l.H, .slice A (l.W * l.H) c] 74)).alloc (.cells #[.slice none 0 0] 51)).alloc (.cells #[.int .i64 l.W, .int .i64 l.H, .slice A (l.W * l.H) c] 74)).alloc (.cells #[.slice (some ⟨(w.heap.size + 1 + 1), 0, none⟩) 1 1] 51)) (w.heap.size + 1) 51 #[.slice none 0 0] by simpa using ((hasBlk_new (w.alloc (.cells #[.int .i64 l.W, .int .i64 l.H, .slice A (l.W * l.H) c] 74)) 51 #[.slice none 0 0]).alloc (.cells #[.int .i64 l.W, .int .i64 l.H, .slice A (l.W * l.H) c] 74)).alloc (.cells #[.slice (some ⟨(w.heap.size + 1 + 1), 0, none⟩) 1 1] 51))
  have SO := Lib.hid (own_one (B := (w.heap.size + 1 + 1)) (show HasBlk ((((w.alloc (.cells #[.int .i64 l.W, .int .i64 l.H, .slice A (l.W * l.H) c] 74)).alloc (.cells #[.slice none 0 0] 51)).alloc (.cells #[.int .i64 l.W, .int .i64 l.H, .slice A (l.W * l.H) c] 74)).alloc (.cells #[.slice (some ⟨(w.heap.size + 1 + 1), 0, none⟩) 1 1] 51)) (w.heap.size + 1 + 1) 74 #[.int .i64 l.W, .int .i64 l.H, .slice A (l.W * l.H) c] by simpa using (hasBlk_new ((w.alloc (.cells #[.int .i64 l.W, .int .i64 l.H, .slice A (l.W * l.H) c] 74)).alloc (.cells #[.slice none 0 0] 51)) 74 #[.int .i64 l.W, .int .i64 l.H, .slice A (l.W * l.H) c]).alloc (.cells #[.slice (some ⟨(w.heap.size + 1 + 1), 0, none⟩) 1 1] 51)) (Nat.le_refl _))
  have S3 := Lib.hid (show HasBlk ((((w.alloc (.cells #[.int .i64 l.W, .int .i64 l.H, .slice A (l.W * l.H) c] 74)).alloc (.cells #[.slice none 0 0] 51)).alloc (.cells #[.int .i64 l.W, .int .i64 l.H, .slice A (l.W * l.H) c] 74)).alloc (.cells #[.slice (some ⟨(w.heap.size + 1 + 1), 0, none⟩) 1 1] 51)) (w.heap.size + 1 + 1 + 1) 51 #[.slice (some ⟨(w.heap.size + 1 + 1), 0, none⟩) 1 1] by simpa using hasBlk_new (((w.alloc (.cells #[.int .i64 l.W, .int .i64 l.H, .slice A (l.W * l.H) c] 74)).alloc (.cells #[.slice none 0 0] 51)).alloc (.cells #[.int .i64 l.W, .int .i64 l.H, .slice A (l.W * l.H) c] 74)) 51 #[.slice (some ⟨(w.heap.size + 1 + 1), 0, none⟩) 1 1])
  generalize (((w.alloc (.cells #[.int .i64 l.W, .int .i64 l.H, .slice A (l.W * l.H) c] 74)).alloc (.cells #[.slice none 0 0] 51)).alloc (.cells #[.int .i64 l.W, .int .i64 l.H, .slice A (l.W * l.H) c] 74)).alloc (.cells #[.slice (some ⟨(w.heap.size + 1 + 1), 0, none⟩) 1 1] 51) = v1 at *
  go_loopw [7] (fun _ wr => ∃ (k pc : Nat) (P : Option Addr) (KA : Nat → Option Addr) (KC : Nat → Nat), LvI l A c (w.heap.size + 1 + 1) wr KA KC k ∧ wr.ownsRow (w.heap.size + 1 + 1) 74 3 (.slice P (k + 1) pc) (k + 1) (cellsR 3 (lvc l KA KC) (k + 1)) ∧ HasBlk wr w.heap.size 74 #[.int .i64 (l.lev k).W, .int .i64 (l.lev k).H, .slice (KA k) (l.sz k) (KC k)] ∧ HasBlk wr (w.heap.size + 1) 51 #[.slice none 0 0] ∧ HasBlk wr (w.heap.size + 1 + 1 + 1) 51 #[.slice P (k + 1) pc] ∧ Below w.heap.size w wr) (fun _ wr => cellN wr w.heap.size 0 + cellN wr w.heap.size 1)
  case atStart => exact ⟨0, 1, some ⟨(w.heap.size + 1 + 1), 0, none⟩, fun _ => A, fun _ => c, ⟨rfl, rfl, by omega, fun j hj => absurd hj (by omega), fun i hi hi2 => absurd hi (by omega)⟩, SO.out, S1.out, S2.out, S3.out, B0.out⟩
  case round =>
    clear SO S1 S2 S3 B0
    obtain ⟨k, pc, P, KA, KC, hlv, hown, hS1, hS2, hS3, hbel⟩ := hrel
    have LI := Lib.hid hlv
    have HO := Lib.hid hown
    have S1 := Lib.hid hS1
    have S2 := Lib.hid hS2
    have S3 := Lib.hid hS3
    have HB := Lib.hid hbel
    have hpos := LD.lev_pos PO.out.1.1 PO.out.1.2 k
    have hsm := LD.lev_small PO.out.2.1 PO.out.2.2 k
    have hp1 := hpos.1
    have hp2 := hpos.2
    have hm1 := hsm.1
    have hm2 := hsm.2
    have a0 := hS1.cell 0
    have a1 := hS1.cell 1
    have a2 := hS1.cell 2
    have az := hS1.lt
    simp at a0 a1 a2
    obtain ⟨X, hX⟩ : ∃ X, (l.lev k).W = X := ⟨_, rfl⟩
    obtain ⟨Y, hY⟩ : ∃ Y, (l.lev k).H = Y := ⟨_, rfl⟩
    have q1 := hp1
    have q2 := hp2
    rw [hX] at a0 q1
    rw [hY] at a1 q2
    clear hpos hsm hlv hown hS1 hS2 hS3 hbel
    by_cases c1 : 1 < X
    · have d1 : decide ((1 : Int) < (X : Int)) = true := decide_eq_true (by omega)
      have hmore : 1 < X ∨ 1 < Y := .inl c1
      have MORE := Lib.hid hmore
      have hk := refnext_any (l.lev k) (KA k) (KC k) wr hp1 hp2 hm1 hm2 (LD.lev_le LE.out k) (lev_row (n := 0) (pc := 0) (P := none) PO.out.1.1 HA.out LI.out HB.out)
      rw [show (l.lev k).W * (l.lev k).H = l.sz k from rfl, show (l.lev k).nxt.W * (l.lev k).nxt.H = l.sz (k + 1) from rfl] at hk
      obtain ⟨X2, hX2⟩ : ∃ X2, (l.lev k).nxt.W = X2 := ⟨_, rfl⟩
      obtain ⟨Y2, hY2⟩ : ∃ Y2, (l.lev k).nxt.H = Y2 := ⟨_, rfl⟩
      obtain ⟨Z2, hZ2⟩ : ∃ Z2, l.sz (k + 1) = Z2 := ⟨_, rfl⟩
      rw [hX2, hY2, hZ2, hX, hY] at hk
      have hlx : X2 + Y2 < X + Y := by
        rw [← hX2, ← hY2]
        show ((l.lev k).W + 1) / 2 + ((l.lev k).H + 1) / 2 < X + Y
        rw [hX, hY]
        omega
      have hzz2 : Z2 ≤ 4096 := by
        rw [← hZ2]
        exact Nat.mul_le_mul (LD.lev_small PO.out.2.1 PO.out.2.2 (k + 1)).1 (LD.lev_small PO.out.2.1 PO.out.2.2 (k + 1)).2
      have XX := Lib.hid hX
      have YY := Lib.hid hY
      have XX2 := Lib.hid (show (l.lev (k + 1)).W = X2 from hX2)
      have YY2 := Lib.hid (show (l.lev (k + 1)).H = Y2 from hY2)
      have ZZ2 := Lib.hid hZ2
      clear hX hY hX2 hY2 hZ2
      have KX := Lib.hid hk
      clear hk hmore
      go_wp2_with fail
      refine KX.out.mono ?_
      rintro e v4 ⟨⟨Xa, cx, rfl, hown⟩, bel⟩
      have XO := Lib.hid hown
      have S1a := Lib.hid (S1.out.below bel)
      have S2a := Lib.hid (S2.out.below bel)
      have S3a := Lib.hid (S3.out.below bel)
      have HOa := Lib.hid (own_below HO.out bel)
      have LIa := Lib.hid (LI.out.below bel)
      have HBa := Lib.hid (HB.out.trans (bel.mono HB.out.size))
      have hwz := S3.out.lt
      clear a0 a1 a2 az KX hown bel
      have s0 := S1a.out.cell 0
      have s1 := S1a.out.cell 1
      have s2 := S1a.out.cell 2
      have sf0 := S1a.out.frozen 0
      have sf1 := S1a.out.frozen 1
      have sf2 := S1a.out.frozen 2
      have sz := S1a.out.lt
      simp at s0 s1 s2
      go_upto_region 4 with fail
      have S1b := Lib.hid (show HasBlk (((v4.setCell ⟨w.heap.size, 0, none⟩ (.int .i64 X2)).setCell ⟨w.heap.size, 1, none⟩ (.int .i64 Y2)).setCell ⟨w.heap.size, 2, none⟩ (.slice Xa Z2 cx)) w.heap.size 74 #[.int .i64 X2, .int .i64 Y2, .slice Xa Z2 cx] by simpa using ((S1a.out.set 0 (.int .i64 X2)).set 1 (.int .i64 Y2)).set 2 (.slice Xa Z2 cx))
      have S2b := Lib.hid (show HasBlk (((v4.setCell ⟨w.heap.size, 0, none⟩ (.int .i64 X2)).setCell ⟨w.heap.size, 1, none⟩ (.int .i64 Y2)).setCell ⟨w.heap.size, 2, none⟩ (.slice Xa Z2 cx)) (w.heap.size + 1) 51 _ from (((S2a.out.far (p := ⟨w.heap.size, 0, none⟩) (by simp) (.int .i64 X2)).far (p := ⟨w.heap.size, 1, none⟩) (by simp) (.int .i64 Y2)).far (p := ⟨w.heap.size, 2, none⟩) (by simp) (.slice Xa Z2 cx)))
      have S3b := Lib.hid (show HasBlk (((v4.setCell ⟨w.heap.size, 0, none⟩ (.int .i64 X2)).setCell ⟨w.heap.size, 1, none⟩ (.int .i64 Y2)).setCell ⟨w.heap.size, 2, none⟩ (.slice Xa Z2 cx)) (w.heap.size + 1 + 1 + 1) 51 _ from (((S3a.out.far (p := ⟨w.heap.size, 0, none⟩) (by simp; omega) (.int .i64 X2)).far (p := ⟨w.heap.size, 1, none⟩) (by simp; omega) (.int .i64 Y2)).far (p := ⟨w.heap.size, 2, none⟩) (by simp; omega) (.slice Xa Z2 cx)))
      have HOb := Lib.hid (show World.ownsRow (((v4.setCell ⟨w.heap.size, 0, none⟩ (.int .i64 X2)).setCell ⟨w.heap.size, 1, none⟩ (.int .i64 Y2)).setCell ⟨w.heap.size, 2, none⟩ (.slice Xa Z2 cx)) _ _ _ _ _ _ from (own_lset (j := 2) (own_lset (j := 1) (own_lset (j := 0) HOa.out (show w.heap.size < (w.heap.size + 1 + 1) by omega) (.int .i64 X2)) (show w.heap.size < (w.heap.size + 1 + 1) by omega) (.int .i64 Y2)) (show w.heap.size < (w.heap.size + 1 + 1) by omega) (.slice Xa Z2 cx)))
      have XOb := Lib.hid (show World.ownsRow (((v4.setCell ⟨w.heap.size, 0, none⟩ (.int .i64 X2)).setCell ⟨w.heap.size, 1, none⟩ (.int .i64 Y2)).setCell ⟨w.heap.size, 2, none⟩ (.slice Xa Z2 cx)) _ _ _ _ _ _ from (own_lset (j := 2) (own_lset (j := 1) (own_lset (j := 0) XO.out (show w.heap.size < wr.heap.size by omega) (.int .i64 X2)) (show w.heap.size < wr.heap.size by omega) (.int .i64 Y2)) (show w.heap.size < wr.heap.size by omega) (.slice Xa Z2 cx)))
      have LIb := Lib.hid (fun i h1 h2 => show World.ownsRow (((v4.setCell ⟨w.heap.size, 0, none⟩ (.int .i64 X2)).setCell ⟨w.heap.size, 1, none⟩ (.int .i64 Y2)).setCell ⟨w.heap.size, 2, none⟩ (.slice Xa Z2 cx)) _ _ _ _ _ _ from (own_lset (j := 2) (own_lset (j := 1) (own_lset (j := 0) (LIa.out.own i h1 h2) (show w.heap.size < (w.heap.size + 1 + 1) by omega) (.int .i64 X2)) (show w.heap.size < (w.heap.size + 1 + 1) by omega) (.int .i64 Y2)) (show w.heap.size < (w.heap.size + 1 + 1) by omega) (.slice Xa Z2 cx)))
      have HBb := Lib.hid (show Below w.heap.size w (((v4.setCell ⟨w.heap.size, 0, none⟩ (.int .i64 X2)).setCell ⟨w.heap.size, 1, none⟩ (.int .i64 Y2)).setCell ⟨w.heap.size, 2, none⟩ (.slice Xa Z2 cx)) from (Below.setCell (p := ⟨w.heap.size, 2, none⟩) (Below.setCell (p := ⟨w.heap.size, 1, none⟩) (Below.setCell (p := ⟨w.heap.size, 0, none⟩) HBa.out (Nat.le_refl _) (.int .i64 X2)) (Nat.le_refl _) (.int .i64 Y2)) (Nat.le_refl _) (.slice Xa Z2 cx)))
      clear s0 s1 s2 sf0 sf1 sf2 sz S1a S2a S3a HOa LIa HBa XO
      generalize (((v4.setCell ⟨w.heap.size, 0, none⟩ (.int .i64 X2)).setCell ⟨w.heap.size, 1, none⟩ (.int .i64 Y2)).setCell ⟨w.heap.size, 2, none⟩ (.slice Xa Z2 cx)) = v9 at *
      have s0 := S1b.out.cell 0
      have s1 := S1b.out.cell 1
      have s2 := S1b.out.cell 2
      have sz := S1b.out.lt
      have t0 := S3b.out.cell 0
      have tz := S3b.out.lt
      simp at s0 s1 s2 t0
      have LK6 := Lib.hid (LD.more PO.out.2.1 PO.out.2.2 LI.out.k6 (by rw [XX.out, YY.out]; exact MORE.out))
      have hk6 := LI.out.k6
      have hnew : (v9.alloc (.cells #[.int .i64 X2, .int .i64 Y2, .slice Xa Z2 cx] 74)).heap[v9.heap.size]? = some (.cells #[.int .i64 X2, .int .i64 Y2, .slice Xa Z2 cx] 74 (0, 0)) := heap_alloc_new _ _
      go_wp2_with (at_builtin; refine wpList_append_lies _ rfl (.tmp 18) (.tmp 20) 49 rfl (w.heap.size + 1 + 1) 74 i0 _ 3 40 Try.underlying49 hi0 hz0 hz1 hz2 rfl (by omega) (.slice P (k + 1) pc) (k + 1) (cellsR 3 (lvc l KA KC) (k + 1)) rfl (HOb.out.alloc _) ⟨v9.heap.size, 0, none⟩ 1 1 [.int .i64 X2, .int .i64 Y2, .slice Xa Z2 cx] (by rfl) rfl (World.news_of_block (cs := #[.int .i64 X2, .int .i64 Y2, .slice Xa Z2 cx]) (t := 74) (fr := (0, 0)) hnew) (by simp [Value.oneCell']) (by omega) (by unfold maxLen; omega) (by omega) (by first | omega | (simp; done) | (simp; omega)) (v9.heap.size + 1) (by first | omega | (simp; done) | (simp; omega)) ?_; intro g' cap w9 hown3 hgrow hat hlt; have hT3 := (S3b.out.alloc (.cells #[.int .i64 X2, .int .i64 Y2, .slice Xa Z2 cx] 74)).grown hgrow (S3b.out.ne_own HOb.out (by decide)); have u0 := hT3.cell 0; have uf := hT3.frozen 0; have uz := hT3.lt; simp at u0)
      have S3c := Lib.hid (show HasBlk (w9.setCell ⟨(w.heap.size + 1 + 1 + 1), 0, none⟩ (.slice (some ⟨g', 0, none⟩) (k + 1 + 1) cap)) (w.heap.size + 1 + 1 + 1) 51 #[(.slice (some ⟨g', 0, none⟩) (k + 1 + 1) cap)] by simpa using hT3.set 0 (.slice (some ⟨g', 0, none⟩) (k + 1 + 1) cap))
      have S1c := Lib.hid (((S1b.out.alloc (.cells #[.int .i64 X2, .int .i64 Y2, .slice Xa Z2 cx] 74)).grown hgrow (own_low HOb.out (show w.heap.size < (w.heap.size + 1 + 1) by omega))).far (p := ⟨(w.heap.size + 1 + 1 + 1), 0, none⟩) (by simp; omega) (.slice (some ⟨g', 0, none⟩) (k + 1 + 1) cap))
      have S2c := Lib.hid (((S2b.out.alloc (.cells #[.int .i64 X2, .int .i64 Y2, .slice Xa Z2 cx] 74)).grown hgrow (own_low HOb.out (show (w.heap.size + 1) < (w.heap.size + 1 + 1) by omega))).far (p := ⟨(w.heap.size + 1 + 1 + 1), 0, none⟩) (by simp; omega) (.slice (some ⟨g', 0, none⟩) (k + 1 + 1) cap))
      have HOc := Lib.hid (own_pset (j := 0) hown3 hT3 (by decide) (.slice (some ⟨g', 0, none⟩) (k + 1 + 1) cap))
      have XOc := Lib.hid (own_pset (j := 0) (own_keep (XOb.out.alloc (.cells #[.int .i64 X2, .int .i64 Y2, .slice Xa Z2 cx] 74)) hgrow (own_types XOb.out HOb.out (by decide))) hT3 (by decide) (.slice (some ⟨g', 0, none⟩) (k + 1 + 1) cap))
      have LIc := Lib.hid (fun i h1 h2 => own_pset (j := 0) (own_keep ((LIb.out i h1 h2).alloc (.cells #[.int .i64 X2, .int .i64 Y2, .slice Xa Z2 cx] 74)) hgrow (own_types (LIb.out i h1 h2) HOb.out (by decide))) hT3 (by decide) (.slice (some ⟨g', 0, none⟩) (k + 1 + 1) cap))
      have HBc := Lib.hid (Below.setCell (p := ⟨(w.heap.size + 1 + 1 + 1), 0, none⟩) (below_grown (v := .slice P (k + 1) pc) (HBb.out.alloc HBb.out.size (.cells #[.int .i64 X2, .int .i64 Y2, .slice Xa Z2 cx] 74)) hgrow (HOb.out.alloc _) (by omega) (by first | omega | (simp; done) | (simp; omega))) (show w.heap.size ≤ (w.heap.size + 1 + 1 + 1) by omega) (.slice (some ⟨g', 0, none⟩) (k + 1 + 1) cap))
      clear s0 s1 s2 sz t0 tz hnew hT3 u0 uf uz hown3 hgrow hat hlt HOb LIb XOb S1b S2b S3b HBb
      generalize (w9.setCell ⟨(w.heap.size + 1 + 1 + 1), 0, none⟩ (.slice (some ⟨g', 0, none⟩) (k + 1 + 1) cap)) = vz at *
      go_roundw
      case rel =>
        refine ⟨k + 1, cap, some ⟨g', 0, none⟩, upd KA (k + 1) Xa, upd KC (k + 1) cx, ⟨(upd_ne _ _ (by omega)).trans LI.out.A0, (upd_ne _ _ (by omega)).trans LI.out.C0, LK6.out, ?_, ?_⟩, ?_, ?_, S2c.out, S3c.out, HBc.out⟩
        · intro j hj
          rcases Nat.lt_or_ge j k with h | h
          · exact LI.out.no j h
          · obtain rfl : j = k := by omega
            rw [XX.out, YY.out]
            have := MORE.out
            omega
        · intro i h1 h2
          by_cases e : i = k + 1
          · subst e
            rw [upd_at, upd_at, ZZ2.out]
            exact own_base XOc.out (by omega)
          · rw [upd_ne _ _ e, upd_ne _ _ e]
            exact LIc.out i h1 (by omega)
        · have e : cellsR 3 (lvc l (upd KA (k + 1) Xa) (upd KC (k + 1) cx)) (k + 1 + 1) = cellsR 3 (lvc l KA KC) (k + 1) ++ [.int .i64 X2, .int .i64 Y2, .slice Xa Z2 cx] := by
            rw [cellsR_succ, cellsR_congr (F := lvc l (upd KA (k + 1) Xa) (upd KC (k + 1) cx)) (G := lvc l KA KC) (fun i hi j _ => by unfold lvc; rw [upd_ne _ _ (show i ≠ k + 1 by omega), upd_ne _ _ (show i ≠ k + 1 by omega)])]
            congr 1
            show [lvc l (upd KA (k + 1) Xa) (upd KC (k + 1) cx) (k + 1) 0, lvc l (upd KA (k + 1) Xa) (upd KC (k + 1) cx) (k + 1) 1, lvc l (upd KA (k + 1) Xa) (upd KC (k + 1) cx) (k + 1) 2] = _
            unfold lvc
            rw [if_pos rfl, if_neg (by decide), if_pos rfl, if_neg (by decide), if_neg (by decide), upd_at, upd_at, ZZ2.out, XX2.out, YY2.out]
          rw [e]
          exact HOc.out
        · rw [upd_at, upd_at, ZZ2.out, XX2.out, YY2.out]
          exact S1c.out
      case measure =>
        have m0 := cellN_of (S1c.out.cell 0) rfl
        have m1 := cellN_of (S1c.out.cell 1) rfl
        have n0 := cellN_of (S1.out.cell 0) rfl
        have n1 := cellN_of (S1.out.cell 1) rfl
        rw [m0, m1, n0, n1, XX.out, YY.out]
        exact hlx
    by_cases c2 : 1 < Y
    · have d1 : decide ((1 : Int) < (X : Int)) = false := decide_eq_false (by omega)
      have d2 : decide ((1 : Int) < (Y : Int)) = true := decide_eq_true (by omega)
      have hmore : 1 < X ∨ 1 < Y := .inr c2
      have MORE := Lib.hid hmore
      have hk := refnext_any (l.lev k) (KA k) (KC k) wr hp1 hp2 hm1 hm2 (LD.lev_le LE.out k) (lev_row (n := 0) (pc := 0) (P := none) PO.out.1.1 HA.out LI.out HB.out)
      rw [show (l.lev k).W * (l.lev k).H = l.sz k from rfl, show (l.lev k).nxt.W * (l.lev k).nxt.H = l.sz (k + 1) from rfl] at hk
      obtain ⟨X2, hX2⟩ : ∃ X2, (l.lev k).nxt.W = X2 := ⟨_, rfl⟩
      obtain ⟨Y2, hY2⟩ : ∃ Y2, (l.lev k).nxt.H = Y2 := ⟨_, rfl⟩
      obtain ⟨Z2, hZ2⟩ : ∃ Z2, l.sz (k + 1) = Z2 := ⟨_, rfl⟩
      rw [hX2, hY2, hZ2, hX, hY] at hk
      have hlx : X2 + Y2 < X + Y := by
        rw [← hX2, ← hY2]
        show ((l.lev k).W + 1) / 2 + ((l.lev k).H + 1) / 2 < X + Y
        rw [hX, hY]
        omega
      have hzz2 : Z2 ≤ 4096 := by
        rw [← hZ2]
        exact Nat.mul_le_mul (LD.lev_small PO.out.2.1 PO.out.2.2 (k + 1)).1 (LD.lev_small PO.out.2.1 PO.out.2.2 (k + 1)).2
      have XX := Lib.hid hX
      have YY := Lib.hid hY
      have XX2 := Lib.hid (show (l.lev (k + 1)).W = X2 from hX2)
      have YY2 := Lib.hid (show (l.lev (k + 1)).H = Y2 from hY2)
      have ZZ2 := Lib.hid hZ2
      clear hX hY hX2 hY2 hZ2
      have KX := Lib.hid hk
      clear hk hmore
      go_wp2_with fail
      refine KX.out.mono ?_
      rintro e v4 ⟨⟨Xa, cx, rfl, hown⟩, bel⟩
      have XO := Lib.hid hown
      have S1a := Lib.hid (S1.out.below bel)
      have S2a := Lib.hid (S2.out.below bel)
      have S3a := Lib.hid (S3.out.below bel)
      have HOa := Lib.hid (own_below HO.out bel)
      have LIa := Lib.hid (LI.out.below bel)
      have HBa := Lib.hid (HB.out.trans (bel.mono HB.out.size))
      have hwz := S3.out.lt
      clear a0 a1 a2 az KX hown bel
      have s0 := S1a.out.cell 0
      have s1 := S1a.out.cell 1
      have s2 := S1a.out.cell 2
      have sf0 := S1a.out.frozen 0
      have sf1 := S1a.out.frozen 1
      have sf2 := S1a.out.frozen 2
      have sz := S1a.out.lt
      simp at s0 s1 s2
      go_upto_region 4 with fail
      have S1b := Lib.hid (show HasBlk (((v4.setCell ⟨w.heap.size, 0, none⟩ (.int .i64 X2)).setCell ⟨w.heap.size, 1, none⟩ (.int .i64 Y2)).setCell ⟨w.heap.size, 2, none⟩ (.slice Xa Z2 cx)) w.heap.size 74 #[.int .i64 X2, .int .i64 Y2, .slice Xa Z2 cx] by simpa using ((S1a.out.set 0 (.int .i64 X2)).set 1 (.int .i64 Y2)).set 2 (.slice Xa Z2 cx))
      have S2b := Lib.hid (show HasBlk (((v4.setCell ⟨w.heap.size, 0, none⟩ (.int .i64 X2)).setCell ⟨w.heap.size, 1, none⟩ (.int .i64 Y2)).setCell ⟨w.heap.size, 2, none⟩ (.slice Xa Z2 cx)) (w.heap.size + 1) 51 _ from (((S2a.out.far (p := ⟨w.heap.size, 0, none⟩) (by simp) (.int .i64 X2)).far (p := ⟨w.heap.size, 1, none⟩) (by simp) (.int .i64 Y2)).far (p := ⟨w.heap.size, 2, none⟩) (by simp) (.slice Xa Z2 cx)))
      have S3b := Lib.hid (show HasBlk (((v4.setCell ⟨w.heap.size, 0, none⟩ (.int .i64 X2)).setCell ⟨w.heap.size, 1, none⟩ (.int .i64 Y2)).setCell ⟨w.heap.size, 2, none⟩ (.slice Xa Z2 cx)) (w.heap.size + 1 + 1 + 1) 51 _ from (((S3a.out.far (p := ⟨w.heap.size, 0, none⟩) (by simp; omega) (.int .i64 X2)).far (p := ⟨w.heap.size, 1, none⟩) (by simp; omega) (.int .i64 Y2)).far (p := ⟨w.heap.size, 2, none⟩) (by simp; omega) (.slice Xa Z2 cx)))
      have HOb := Lib.hid (show World.ownsRow (((v4.setCell ⟨w.heap.size, 0, none⟩ (.int .i64 X2)).setCell ⟨w.heap.size, 1, none⟩ (.int .i64 Y2)).setCell ⟨w.heap.size, 2, none⟩ (.slice Xa Z2 cx)) _ _ _ _ _ _ from (own_lset (j := 2) (own_lset (j := 1) (own_lset (j := 0) HOa.out (show w.heap.size < (w.heap.size + 1 + 1) by omega) (.int .i64 X2)) (show w.heap.size < (w.heap.size + 1 + 1) by omega) (.int .i64 Y2)) (show w.heap.size < (w.heap.size + 1 + 1) by omega) (.slice Xa Z2 cx)))
      have XOb := Lib.hid (show World.ownsRow (((v4.setCell ⟨w.heap.size, 0, none⟩ (.int .i64 X2)).setCell ⟨w.heap.size, 1, none⟩ (.int .i64 Y2)).setCell ⟨w.heap.size, 2, none⟩ (.slice Xa Z2 cx)) _ _ _ _ _ _ from (own_lset (j := 2) (own_lset (j := 1) (own_lset (j := 0) XO.out (show w.heap.size < wr.heap.size by omega) (.int .i64 X2)) (show w.heap.size < wr.heap.size by omega) (.int .i64 Y2)) (show w.heap.size < wr.heap.size by omega) (.slice Xa Z2 cx)))
      have LIb := Lib.hid (fun i h1 h2 => show World.ownsRow (((v4.setCell ⟨w.heap.size, 0, none⟩ (.int .i64 X2)).setCell ⟨w.heap.size, 1, none⟩ (.int .i64 Y2)).setCell ⟨w.heap.size, 2, none⟩ (.slice Xa Z2 cx)) _ _ _ _ _ _ from (own_lset (j := 2) (own_lset (j := 1) (own_lset (j := 0) (LIa.out.own i h1 h2) (show w.heap.size < (w.heap.size + 1 + 1) by omega) (.int .i64 X2)) (show w.heap.size < (w.heap.size + 1 + 1) by omega) (.int .i64 Y2)) (show w.heap.size < (w.heap.size + 1 + 1) by omega) (.slice Xa Z2 cx)))
      have HBb := Lib.hid (show Below w.heap.size w (((v4.setCell ⟨w.heap.size, 0, none⟩ (.int .i64 X2)).setCell ⟨w.heap.size, 1, none⟩ (.int .i64 Y2)).setCell ⟨w.heap.size, 2, none⟩ (.slice Xa Z2 cx)) from (Below.setCell (p := ⟨w.heap.size, 2, none⟩) (Below.setCell (p := ⟨w.heap.size, 1, none⟩) (Below.setCell (p := ⟨w.heap.size, 0, none⟩) HBa.out (Nat.le_refl _) (.int .i64 X2)) (Nat.le_refl _) (.int .i64 Y2)) (Nat.le_refl _) (.slice Xa Z2 cx)))
      clear s0 s1 s2 sf0 sf1 sf2 sz S1a S2a S3a HOa LIa HBa XO
      generalize (((v4.setCell ⟨w.heap.size, 0, none⟩ (.int .i64 X2)).setCell ⟨w.heap.size, 1, none⟩ (.int .i64 Y2)).setCell ⟨w.heap.size, 2, none⟩ (.slice Xa Z2 cx)) = v9 at *
      have s0 := S1b.out.cell 0
      have s1 := S1b.out.cell 1
      have s2 := S1b.out.cell 2
      have sz := S1b.out.lt
      have t0 := S3b.out.cell 0
      have tz := S3b.out.lt
      simp at s0 s1 s2 t0
      have LK6 := Lib.hid (LD.more PO.out.2.1 PO.out.2.2 LI.out.k6 (by rw [XX.out, YY.out]; exact MORE.out))
      have hk6 := LI.out.k6
      have hnew : (v9.alloc (.cells #[.int .i64 X2, .int .i64 Y2, .slice Xa Z2 cx] 74)).heap[v9.heap.size]? = some (.cells #[.int .i64 X2, .int .i64 Y2, .slice Xa Z2 cx] 74 (0, 0)) := heap_alloc_new _ _
      go_wp2_with (at_builtin; refine wpList_append_lies _ rfl (.tmp 18) (.tmp 20) 49 rfl (w.heap.size + 1 + 1) 74 i0 _ 3 40 Try.underlying49 hi0 hz0 hz1 hz2 rfl (by omega) (.slice P (k + 1) pc) (k + 1) (cellsR 3 (lvc l KA KC) (k + 1)) rfl (HOb.out.alloc _) ⟨v9.heap.size, 0, none⟩ 1 1 [.int .i64 X2, .int .i64 Y2, .slice Xa Z2 cx] (by rfl) rfl (World.news_of_block (cs := #[.int .i64 X2, .int .i64 Y2, .slice Xa Z2 cx]) (t := 74) (fr := (0, 0)) hnew) (by simp [Value.oneCell']) (by omega) (by unfold maxLen; omega) (by omega) (by first | omega | (simp; done) | (simp; omega)) (v9.heap.size + 1) (by first | omega | (simp; done) | (simp; omega)) ?_; intro g' cap w9 hown3 hgrow hat hlt; have hT3 := (S3b.out.alloc (.cells #[.int .i64 X2, .int .i64 Y2, .slice Xa Z2 cx] 74)).grown hgrow (S3b.out.ne_own HOb.out (by decide)); have u0 := hT3.cell 0; have uf := hT3.frozen 0; have uz := hT3.lt; simp at u0)
      have S3c := Lib.hid (show HasBlk (w9.setCell ⟨(w.heap.size + 1 + 1 + 1), 0, none⟩ (.slice (some ⟨g', 0, none⟩) (k + 1 + 1) cap)) (w.heap.size + 1 + 1 + 1) 51 #[(.slice (some ⟨g', 0, none⟩) (k + 1 + 1) cap)] by simpa using hT3.set 0 (.slice (some ⟨g', 0, none⟩) (k + 1 + 1) cap))
      have S1c := Lib.hid (((S1b.out.alloc (.cells #[.int .i64 X2, .int .i64 Y2, .slice Xa Z2 cx] 74)).grown hgrow (own_low HOb.out (show w.heap.size < (w.heap.size + 1 + 1) by omega))).far (p := ⟨(w.heap.size + 1 + 1 + 1), 0, none⟩) (by simp; omega) (.slice (some ⟨g', 0, none⟩) (k + 1 + 1) cap))
      have S2c := Lib.hid (((S2b.out.alloc (.cells #[.int .i64 X2, .int .i64 Y2, .slice Xa Z2 cx] 74)).grown hgrow (own_low HOb.out (show (w.heap.size + 1) < (w.heap.size + 1 + 1) by omega))).far (p := ⟨(w.heap.size + 1 + 1 + 1), 0, none⟩) (by simp; omega) (.slice (some ⟨g', 0, none⟩) (k + 1 + 1) cap))
      have HOc := Lib.hid (own_pset (j := 0) hown3 hT3 (by decide) (.slice (some ⟨g', 0, none⟩) (k + 1 + 1) cap))
      have XOc := Lib.hid (own_pset (j := 0) (own_keep (XOb.out.alloc (.cells #[.int .i64 X2, .int .i64 Y2, .slice Xa Z2 cx] 74)) hgrow (own_types XOb.out HOb.out (by decide))) hT3 (by decide) (.slice (some ⟨g', 0, none⟩) (k + 1 + 1) cap))
      have LIc := Lib.hid (fun i h1 h2 => own_pset (j := 0) (own_keep ((LIb.out i h1 h2).alloc (.cells #[.int .i64 X2, .int .i64 Y2, .slice Xa Z2 cx] 74)) hgrow (own_types (LIb.out i h1 h2) HOb.out (by decide))) hT3 (by decide) (.slice (some ⟨g', 0, none⟩) (k + 1 + 1) cap))
      have HBc := Lib.hid (Below.setCell (p := ⟨(w.heap.size + 1 + 1 + 1), 0, none⟩) (below_grown (v := .slice P (k + 1) pc) (HBb.out.alloc HBb.out.size (.cells #[.int .i64 X2, .int .i64 Y2, .slice Xa Z2 cx] 74)) hgrow (HOb.out.alloc _) (by omega) (by first | omega | (simp; done) | (simp; omega))) (show w.heap.size ≤ (w.heap.size + 1 + 1 + 1) by omega) (.slice (some ⟨g', 0, none⟩) (k + 1 + 1) cap))
      clear s0 s1 s2 sz t0 tz hnew hT3 u0 uf uz hown3 hgrow hat hlt HOb LIb XOb S1b S2b S3b HBb
      generalize (w9.setCell ⟨(w.heap.size + 1 + 1 + 1), 0, none⟩ (.slice (some ⟨g', 0, none⟩) (k + 1 + 1) cap)) = vz at *
      go_roundw
      case rel =>
        refine ⟨k + 1, cap, some ⟨g', 0, none⟩, upd KA (k + 1) Xa, upd KC (k + 1) cx, ⟨(upd_ne _ _ (by omega)).trans LI.out.A0, (upd_ne _ _ (by omega)).trans LI.out.C0, LK6.out, ?_, ?_⟩, ?_, ?_, S2c.out, S3c.out, HBc.out⟩
        · intro j hj
          rcases Nat.lt_or_ge j k with h | h
          · exact LI.out.no j h
          · obtain rfl : j = k := by omega
            rw [XX.out, YY.out]
            have := MORE.out
            omega
        · intro i h1 h2
          by_cases e : i = k + 1
          · subst e
            rw [upd_at, upd_at, ZZ2.out]
            exact own_base XOc.out (by omega)
          · rw [upd_ne _ _ e, upd_ne _ _ e]
            exact LIc.out i h1 (by omega)
        · have e : cellsR 3 (lvc l (upd KA (k + 1) Xa) (upd KC (k + 1) cx)) (k + 1 + 1) = cellsR 3 (lvc l KA KC) (k + 1) ++ [.int .i64 X2, .int .i64 Y2, .slice Xa Z2 cx] := by
            rw [cellsR_succ, cellsR_congr (F := lvc l (upd KA (k + 1) Xa) (upd KC (k + 1) cx)) (G := lvc l KA KC) (fun i hi j _ => by unfold lvc; rw [upd_ne _ _ (show i ≠ k + 1 by omega), upd_ne _ _ (show i ≠ k + 1 by omega)])]
            congr 1
            show [lvc l (upd KA (k + 1) Xa) (upd KC (k + 1) cx) (k + 1) 0, lvc l (upd KA (k + 1) Xa) (upd KC (k + 1) cx) (k + 1) 1, lvc l (upd KA (k + 1) Xa) (upd KC (k + 1) cx) (k + 1) 2] = _
            unfold lvc
            rw [if_pos rfl, if_neg (by decide), if_pos rfl, if_neg (by decide), if_neg (by decide), upd_at, upd_at, ZZ2.out, XX2.out, YY2.out]
          rw [e]
          exact HOc.out
        · rw [upd_at, upd_at, ZZ2.out, XX2.out, YY2.out]
          exact S1c.out
      case measure =>
        have m0 := cellN_of (S1c.out.cell 0) rfl
        have m1 := cellN_of (S1c.out.cell 1) rfl
        have n0 := cellN_of (S1.out.cell 0) rfl
        have n1 := cellN_of (S1.out.cell 1) rfl
        rw [m0, m1, n0, n1, XX.out, YY.out]
        exact hlx
    have d1 : decide ((1 : Int) < (X : Int)) = false := decide_eq_false (by omega)
    have d2 : decide ((1 : Int) < (Y : Int)) = false := decide_eq_false (by omega)
    have TOP := Lib.hid (show l.Top k from ⟨by rw [hX]; omega, by rw [hY]; omega, LI.out.no⟩)
    have t0 := S2.out.cell 0
    have tf := S2.out.frozen 0
    have tz := S2.out.lt
    have u0 := S3.out.cell 0
    have uz := S3.out.lt
    simp at t0 u0
    clear a2 hX hY hp1 hp2 hm1 hm2
    go_wp2
    refine bodyPost_ret (v := .agg #[.slice P (k + 1) pc]) (by simp [results, Try.results68, go_sem, *]) rfl ⟨⟨k, pc, P, KA, KC, TOP.out, rfl, ?_, ?_⟩, ?_⟩
    · exact ⟨LI.out.A0, LI.out.C0, LI.out.k6, LI.out.no, fun i h1 h2 => own_base (own_lset (j := 0) (LI.out.own i h1 h2) (by omega) _) (by omega)⟩
    · exact own_base (own_lset (j := 0) HO.out (by omega) _) (by omega)
    · exact Below.setCell HB.out (by simp) _
end Go.Proofs.Ytibeoeooajelgaa
