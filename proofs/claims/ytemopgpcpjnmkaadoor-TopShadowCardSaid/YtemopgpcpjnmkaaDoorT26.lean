/- top: the winner, where one part alone has a pixel. -/
import Derived.Test.YtemopgpcpjnmkaaDoorT25
namespace Go.Proofs.YtemopgpcpjnmkaaDoor
open Go.RowKit
set_option linter.unusedVariables false
theorem bld_54w (a b c : Int) (w : World) : (Instr.build 54 #[(0, .int .i64 a), (1, .int .i64 b), (2, .int .i64 c)]).run Tryd.prog w = .ok (.agg #[.int .i64 a, .int .i64 b, .int .i64 c, .int .i64 0, .int .i64 0, .int .i64 0]) w := by kernel_rfl

set_option maxRecDepth 100000 in
set_option maxHeartbeats 16000000 in
theorem win1 (i gi oi nI ci g3 g7 g6 : Nat) (sx sp z0 z1 z2 z3 z4 z5 : Value) (f : Fr) (hi : i < nI) (hne : ¬ g6 = g7) (Ai : Option Addr) (hA : Ai = some ⟨gi, oi, none⟩) (w : World) (h3 : HasBlk w g3 67 #[.slice Ai nI ci, sx, sp]) (h6 : HasBlk w g6 54 #[z0, z1, z2, z3, z4, z5]) (h7 : HasBlk w g7 4 #[.bool false]) (hc : gi < w.heap.size ∧ w.cell? ⟨gi, oi + i * 18 + 10, none⟩ = some (.bool false)) : Calls Tryd.prog 30 #[.agg #[.int .i64 f.D, .int .i64 ((i : Int)), .int .i64 f.k, .int .i64 f.j, .int .i64 f.u, .int .i64 f.v], .pointer (some ⟨g3, 0, none⟩), .pointer (some ⟨g7, 0, none⟩), .pointer (some ⟨g6, 0, none⟩)] w fun e w' => e = .returned (.tuple #[]) ∧ ∃ w1, Below w.heap.size w w1 ∧ w' = (((((((w1.setCell ⟨g6, 0, none⟩ (.int .i64 f.D)).setCell ⟨g6, 1, none⟩ (.int .i64 ((i : Int)))).setCell ⟨g6, 2, none⟩ (.int .i64 f.k)).setCell ⟨g6, 3, none⟩ (.int .i64 f.j)).setCell ⟨g6, 4, none⟩ (.int .i64 f.u)).setCell ⟨g6, 5, none⟩ (.int .i64 f.v)).setCell ⟨g7, 0, none⟩ (.bool true)) := by
  subst hA
  have G3 := Lib.hid h3
  have G6 := Lib.hid h6
  have G7 := Lib.hid h7
  have CB := Lib.hid hc
  clear h3 h6 h7 hc
  obtain ⟨v0, hv0, BF, HB⟩ := lay1 w 54 #[.int .i64 f.D, .int .i64 ((i : Int)), .int .i64 f.k, .int .i64 f.j, .int .i64 f.u, .int .i64 f.v]
  replace G3 := Lib.hid (G3.out.below HB.out)
  replace G6 := Lib.hid (G6.out.below HB.out)
  replace G7 := Lib.hid (G7.out.below HB.out)
  go_enter Tryd.func30, Tryd.ntmps30
  go_upto_region 1 with fail
  rw [← hv0.out]
  clear hv0
  have cb := (HB.out.cell (p := ⟨gi, oi + i * 18 + 10, none⟩) CB.out.1).trans CB.out.2
  have a0 := G3.out.cell 0
  have az := G3.out.lt
  have b0 := G7.out.cell 0
  have bz := G7.out.lt
  have bf := G7.out.frozen 0
  simp at a0 b0
  have i1 : (i : Int) < (nI : Int) := by omega
  have i0 : (0 : Int) ≤ (i : Int) := by omega
  have n1 : ¬ g6 = g7 := hne
  have n2 : ¬ g7 = g6 := fun h => hne h.symm
  have q0 := G6.out.cell 0
  have qf0 := G6.out.frozen 0
  have q1 := G6.out.cell 1
  have qf1 := G6.out.frozen 1
  have q2 := G6.out.cell 2
  have qf2 := G6.out.frozen 2
  have q3 := G6.out.cell 3
  have qf3 := G6.out.frozen 3
  have q4 := G6.out.cell 4
  have qf4 := G6.out.frozen 4
  have q5 := G6.out.cell 5
  have qf5 := G6.out.frozen 5
  have qz := G6.out.lt
  simp at q0 q1 q2 q3 q4 q5
  have bf_ := BF.out.c6
  go_wp2
  go_end0
  exact ⟨rfl, v0, HB.out, rfl⟩

set_option maxRecDepth 100000 in
set_option maxHeartbeats 32000000 in
theorem winner_one (s : Sh) (p : Pt) (A : Option Addr) (c base i : Nat) (it : It) (x y : Int) (hp : Pix x y) (hpo : p.Ok) (hcov : p.t.cov x y = true) (hi : s.I[i]? = some it) (hpi : p.i = (i : Int)) (hbl : it.look.blend = false) (w : World) (hR : RowL w s.Ai 18 It.cells s.I) (hb : base ≤ w.heap.size) (ho : OwnL w base 89 21 Pt.cells [p] (.slice A 1 c)) : Calls Tryd.prog 19 #[.agg #[.slice s.Ai s.I.length s.ci, .slice s.Ax s.X.length s.cx, .slice A 1 c], .int .i64 x, .int .i64 y] w fun e w' => e = .returned (.tuple #[.agg #[.int .i64 ((p.frag x y).D), .int .i64 ((p.frag x y).i), .int .i64 ((p.frag x y).k), .int .i64 ((p.frag x y).j), .int .i64 ((p.frag x y).u), .int .i64 ((p.frag x y).v)], .bool true]) ∧ Below w.heap.size w w' := by
  have HR := Lib.hid hR
  have OO := Lib.hid (ho.low (Nat.le_refl _))
  have HPX := Lib.hid hp
  have HPO := Lib.hid hpo
  have HCV := Lib.hid hcov
  have HBL := Lib.hid hbl
  have HI := Lib.hid hi
  have HBS := Lib.hid hb
  clear hR ho hp hpo hcov hbl hi hb
  obtain ⟨v0, hv0, BQ3, B6, B7, HB⟩ := lay3 w 67 #[.slice s.Ai s.I.length s.ci, .slice s.Ax s.X.length s.cx, .slice A 1 c] 54 #[.int .i64 0, .int .i64 0, .int .i64 0, .int .i64 0, .int .i64 0, .int .i64 0] 4 #[.bool false]
  replace OO := Lib.hid (OO.out.below HB.out)
  go_enter Tryd.func19, Tryd.ntmps19
  go_upto_region 1 with fail
  rw [← hv0.out]
  clear hv0
  have hbw := bld_54w (-2048) (-1) (-1)
  have b6_ := B6.out.f6
  go_upto_region 2 with fail
  clear b6_
  clear hbw
  have NO := OO.out.ne B6.out (by decide)
  have q3 := ((((((BQ3.out.far (p := ⟨(w.heap.size + 1), 0, none⟩) (by first | omega | (simp; done) | (simp; omega)) (.int .i64 (-2048))).far (p := ⟨(w.heap.size + 1), 1, none⟩) (by first | omega | (simp; done) | (simp; omega)) (.int .i64 (-1))).far (p := ⟨(w.heap.size + 1), 2, none⟩) (by first | omega | (simp; done) | (simp; omega)) (.int .i64 (-1))).far (p := ⟨(w.heap.size + 1), 3, none⟩) (by first | omega | (simp; done) | (simp; omega)) (.int .i64 0)).far (p := ⟨(w.heap.size + 1), 4, none⟩) (by first | omega | (simp; done) | (simp; omega)) (.int .i64 0)).far (p := ⟨(w.heap.size + 1), 5, none⟩) (by first | omega | (simp; done) | (simp; omega)) (.int .i64 0))
  have q7 := ((((((B7.out.far (p := ⟨(w.heap.size + 1), 0, none⟩) (by first | omega | (simp; done) | (simp; omega)) (.int .i64 (-2048))).far (p := ⟨(w.heap.size + 1), 1, none⟩) (by first | omega | (simp; done) | (simp; omega)) (.int .i64 (-1))).far (p := ⟨(w.heap.size + 1), 2, none⟩) (by first | omega | (simp; done) | (simp; omega)) (.int .i64 (-1))).far (p := ⟨(w.heap.size + 1), 3, none⟩) (by first | omega | (simp; done) | (simp; omega)) (.int .i64 0)).far (p := ⟨(w.heap.size + 1), 4, none⟩) (by first | omega | (simp; done) | (simp; omega)) (.int .i64 0)).far (p := ⟨(w.heap.size + 1), 5, none⟩) (by first | omega | (simp; done) | (simp; omega)) (.int .i64 0))
  have qO := ((((((OO.out.far (p := ⟨(w.heap.size + 1), 0, none⟩) NO (.int .i64 (-2048))).far (p := ⟨(w.heap.size + 1), 1, none⟩) NO (.int .i64 (-1))).far (p := ⟨(w.heap.size + 1), 2, none⟩) NO (.int .i64 (-1))).far (p := ⟨(w.heap.size + 1), 3, none⟩) NO (.int .i64 0)).far (p := ⟨(w.heap.size + 1), 4, none⟩) NO (.int .i64 0)).far (p := ⟨(w.heap.size + 1), 5, none⟩) NO (.int .i64 0))
  have q6 : HasBlk ((((((v0.setCell ⟨(w.heap.size + 1), 0, none⟩ (.int .i64 (-2048))).setCell ⟨(w.heap.size + 1), 1, none⟩ (.int .i64 (-1))).setCell ⟨(w.heap.size + 1), 2, none⟩ (.int .i64 (-1))).setCell ⟨(w.heap.size + 1), 3, none⟩ (.int .i64 0)).setCell ⟨(w.heap.size + 1), 4, none⟩ (.int .i64 0)).setCell ⟨(w.heap.size + 1), 5, none⟩ (.int .i64 0)) (w.heap.size + 1) 54 #[.int .i64 (-2048), .int .i64 (-1), .int .i64 (-1), .int .i64 0, .int .i64 0, .int .i64 0] := by simpa using ((((((B6.out.set 0 (.int .i64 (-2048))).set 1 (.int .i64 (-1))).set 2 (.int .i64 (-1))).set 3 (.int .i64 0)).set 4 (.int .i64 0)).set 5 (.int .i64 0))
  have qB : Below w.heap.size w ((((((v0.setCell ⟨(w.heap.size + 1), 0, none⟩ (.int .i64 (-2048))).setCell ⟨(w.heap.size + 1), 1, none⟩ (.int .i64 (-1))).setCell ⟨(w.heap.size + 1), 2, none⟩ (.int .i64 (-1))).setCell ⟨(w.heap.size + 1), 3, none⟩ (.int .i64 0)).setCell ⟨(w.heap.size + 1), 4, none⟩ (.int .i64 0)).setCell ⟨(w.heap.size + 1), 5, none⟩ (.int .i64 0)) := (Below.setCell (p := ⟨(w.heap.size + 1), 5, none⟩) (Below.setCell (p := ⟨(w.heap.size + 1), 4, none⟩) (Below.setCell (p := ⟨(w.heap.size + 1), 3, none⟩) (Below.setCell (p := ⟨(w.heap.size + 1), 2, none⟩) (Below.setCell (p := ⟨(w.heap.size + 1), 1, none⟩) (Below.setCell (p := ⟨(w.heap.size + 1), 0, none⟩) HB.out (by show w.heap.size ≤ w.heap.size + 1; omega) (.int .i64 (-2048))) (by show w.heap.size ≤ w.heap.size + 1; omega) (.int .i64 (-1))) (by show w.heap.size ≤ w.heap.size + 1; omega) (.int .i64 (-1))) (by show w.heap.size ≤ w.heap.size + 1; omega) (.int .i64 0)) (by show w.heap.size ≤ w.heap.size + 1; omega) (.int .i64 0)) (by show w.heap.size ≤ w.heap.size + 1; omega) (.int .i64 0))
  generalize ((((((v0.setCell ⟨(w.heap.size + 1), 0, none⟩ (.int .i64 (-2048))).setCell ⟨(w.heap.size + 1), 1, none⟩ (.int .i64 (-1))).setCell ⟨(w.heap.size + 1), 2, none⟩ (.int .i64 (-1))).setCell ⟨(w.heap.size + 1), 3, none⟩ (.int .i64 0)).setCell ⟨(w.heap.size + 1), 4, none⟩ (.int .i64 0)).setCell ⟨(w.heap.size + 1), 5, none⟩ (.int .i64 0)) = v1 at *
  clear BQ3 B7 OO B6 HB NO
  have BQ3 := Lib.hid q3
  have B7 := Lib.hid q7
  have OO := Lib.hid qO
  have B6 := Lib.hid q6
  have HB := Lib.hid qB
  clear q3 q7 qO q6 qB
  obtain ⟨bk, hbk⟩ : ∃ bk : Nat → Array Value, bk = (fun k => match k with | 0 => #[.int .i64 (-2048), .int .i64 (-1), .int .i64 (-1), .int .i64 0, .int .i64 0, .int .i64 0] | _ => #[.int .i64 ((p.frag x y).D), .int .i64 ((p.frag x y).i), .int .i64 ((p.frag x y).k), .int .i64 ((p.frag x y).j), .int .i64 ((p.frag x y).u), .int .i64 ((p.frag x y).v)]) := ⟨_, rfl⟩
  obtain ⟨fb, hfb⟩ : ∃ fb : Nat → Bool, fb = (fun k => match k with | 0 => false | _ => true) := ⟨_, rfl⟩
  have HK0 := Lib.hid (show bk 0 = #[.int .i64 (-2048), .int .i64 (-1), .int .i64 (-1), .int .i64 0, .int .i64 0, .int .i64 0] by rw [hbk]; rfl)
  have HK1 := Lib.hid (show bk 1 = #[.int .i64 ((p.frag x y).D), .int .i64 ((p.frag x y).i), .int .i64 ((p.frag x y).k), .int .i64 ((p.frag x y).j), .int .i64 ((p.frag x y).u), .int .i64 ((p.frag x y).v)] by rw [hbk]; rfl)
  have HF0 := Lib.hid (show fb 0 = false by rw [hfb]; rfl)
  have HF1 := Lib.hid (show fb 1 = true by rw [hfb]; rfl)
  clear hbk hfb
  have KX := Lib.hid (frags30 w.heap.size (w.heap.size + 1 + 1) (w.heap.size + 1) [p] x y s.Ai s.Ax A s.I.length s.ci s.X.length s.cx c (by simp) HPX.out (fun q hq => by obtain rfl := List.mem_singleton.1 hq; exact HPO.out) (fun k W => HasBlk W (w.heap.size + 1) 54 (bk k) ∧ HasBlk W (w.heap.size + 1 + 1) 4 #[.bool (fb k)] ∧ HasBlk W w.heap.size 67 #[.slice s.Ai s.I.length s.ci, .slice s.Ax s.X.length s.cx, .slice A 1 c] ∧ OwnL W base 89 21 Pt.cells [p] (.slice A 1 c) ∧ Below w.heap.size w W)
    (fun k W h => (h.2.2.2.1.row Pt.len).2)
    (fun k W W' hb h => ⟨h.1.below hb, h.2.1.below hb, h.2.2.1.below hb, h.2.2.2.1.below hb, h.2.2.2.2.trans (hb.mono h.2.2.2.2.size)⟩)
    (fun k q W hk hcov h => by
      obtain rfl : k = 0 := by have := (List.getElem?_eq_some_iff.1 hk).1; simpa using this
      obtain rfl : p = q := by simpa using hk
      obtain ⟨h6, h7, h3, ho, hB⟩ := h
      rw [HK0.out] at h6
      rw [HF0.out] at h7
      obtain ⟨gi, oi, hA, hg, hc⟩ := (HR.out.below hB) (Nat.lt_of_le_of_lt (Nat.zero_le i) (List.getElem?_eq_some_iff.1 HI.out).1)
      have hcell := hc i it HI.out 10 (.bool it.look.blend) rfl
      rw [HBL.out] at hcell
      have hw := win1 i gi oi s.I.length s.ci w.heap.size (w.heap.size + 1 + 1) (w.heap.size + 1) (.slice s.Ax s.X.length s.cx) (.slice A 1 c) (.int .i64 (-2048)) (.int .i64 (-1)) (.int .i64 (-1)) (.int .i64 0) (.int .i64 0) (.int .i64 0) (p.frag x y) (List.getElem?_eq_some_iff.1 HI.out).1 (by omega) s.Ai hA W h3 h6 h7 ⟨hg, hcell⟩
      rw [show (i : Int) = (p.frag x y).i from hpi.symm] at hw
      refine hw.mono ?_
      rintro e W' ⟨rfl, w1, b1, rfl⟩
      have h6' := h6.below b1
      have h7' := h7.below b1
      have h3' := h3.below b1
      have ho' := ho.below b1
      have hB' := hB.trans (b1.mono hB.size)
      have n6 := ho'.ne h6' (by decide)
      have n7 := ho'.ne h7' (by decide)
      refine ⟨rfl, ?_, ?_, ?_, ?_, ?_⟩
      · rw [HK1.out]
        exact (((((((h6'.set 0 (.int .i64 ((p.frag x y).D))).set 1 (.int .i64 ((p.frag x y).i))).set 2 (.int .i64 ((p.frag x y).k))).set 3 (.int .i64 ((p.frag x y).j))).set 4 (.int .i64 ((p.frag x y).u))).set 5 (.int .i64 ((p.frag x y).v)))).far (p := ⟨(w.heap.size + 1 + 1), 0, none⟩) (by first | omega | (simp; done) | (simp; omega)) (.bool true)
      · rw [HF1.out]
        simpa using (((((((h7'.far (p := ⟨(w.heap.size + 1), 0, none⟩) (by first | omega | (simp; done) | (simp; omega)) (.int .i64 ((p.frag x y).D))).far (p := ⟨(w.heap.size + 1), 1, none⟩) (by first | omega | (simp; done) | (simp; omega)) (.int .i64 ((p.frag x y).i))).far (p := ⟨(w.heap.size + 1), 2, none⟩) (by first | omega | (simp; done) | (simp; omega)) (.int .i64 ((p.frag x y).k))).far (p := ⟨(w.heap.size + 1), 3, none⟩) (by first | omega | (simp; done) | (simp; omega)) (.int .i64 ((p.frag x y).j))).far (p := ⟨(w.heap.size + 1), 4, none⟩) (by first | omega | (simp; done) | (simp; omega)) (.int .i64 ((p.frag x y).u))).far (p := ⟨(w.heap.size + 1), 5, none⟩) (by first | omega | (simp; done) | (simp; omega)) (.int .i64 ((p.frag x y).v)))).set 0 (.bool true)
      · exact (((((((h3'.far (p := ⟨(w.heap.size + 1), 0, none⟩) (by first | omega | (simp; done) | (simp; omega)) (.int .i64 ((p.frag x y).D))).far (p := ⟨(w.heap.size + 1), 1, none⟩) (by first | omega | (simp; done) | (simp; omega)) (.int .i64 ((p.frag x y).i))).far (p := ⟨(w.heap.size + 1), 2, none⟩) (by first | omega | (simp; done) | (simp; omega)) (.int .i64 ((p.frag x y).k))).far (p := ⟨(w.heap.size + 1), 3, none⟩) (by first | omega | (simp; done) | (simp; omega)) (.int .i64 ((p.frag x y).j))).far (p := ⟨(w.heap.size + 1), 4, none⟩) (by first | omega | (simp; done) | (simp; omega)) (.int .i64 ((p.frag x y).u))).far (p := ⟨(w.heap.size + 1), 5, none⟩) (by first | omega | (simp; done) | (simp; omega)) (.int .i64 ((p.frag x y).v)))).far (p := ⟨(w.heap.size + 1 + 1), 0, none⟩) (by first | omega | (simp; done) | (simp; omega)) (.bool true)
      · exact (((((((ho'.far (p := ⟨(w.heap.size + 1), 0, none⟩) n6 (.int .i64 ((p.frag x y).D))).far (p := ⟨(w.heap.size + 1), 1, none⟩) n6 (.int .i64 ((p.frag x y).i))).far (p := ⟨(w.heap.size + 1), 2, none⟩) n6 (.int .i64 ((p.frag x y).k))).far (p := ⟨(w.heap.size + 1), 3, none⟩) n6 (.int .i64 ((p.frag x y).j))).far (p := ⟨(w.heap.size + 1), 4, none⟩) n6 (.int .i64 ((p.frag x y).u))).far (p := ⟨(w.heap.size + 1), 5, none⟩) n6 (.int .i64 ((p.frag x y).v)))).far (p := ⟨(w.heap.size + 1 + 1), 0, none⟩) n7 (.bool true)
      · exact Below.setCell (p := ⟨(w.heap.size + 1 + 1), 0, none⟩) ((Below.setCell (p := ⟨(w.heap.size + 1), 5, none⟩) (Below.setCell (p := ⟨(w.heap.size + 1), 4, none⟩) (Below.setCell (p := ⟨(w.heap.size + 1), 3, none⟩) (Below.setCell (p := ⟨(w.heap.size + 1), 2, none⟩) (Below.setCell (p := ⟨(w.heap.size + 1), 1, none⟩) (Below.setCell (p := ⟨(w.heap.size + 1), 0, none⟩) hB' (by show w.heap.size ≤ w.heap.size + 1; omega) (.int .i64 ((p.frag x y).D))) (by show w.heap.size ≤ w.heap.size + 1; omega) (.int .i64 ((p.frag x y).i))) (by show w.heap.size ≤ w.heap.size + 1; omega) (.int .i64 ((p.frag x y).k))) (by show w.heap.size ≤ w.heap.size + 1; omega) (.int .i64 ((p.frag x y).j))) (by show w.heap.size ≤ w.heap.size + 1; omega) (.int .i64 ((p.frag x y).u))) (by show w.heap.size ≤ w.heap.size + 1; omega) (.int .i64 ((p.frag x y).v)))) (by show w.heap.size ≤ w.heap.size + 1 + 1; omega) (.bool true))
    (fun k q W hk hcov h => by
      obtain rfl : k = 0 := by have := (List.getElem?_eq_some_iff.1 hk).1; simpa using this
      obtain rfl : p = q := by simpa using hk
      rw [HCV.out] at hcov
      cases hcov)
    v1 ⟨by rw [HK0.out]; exact B6.out, by rw [HF0.out]; exact B7.out, BQ3.out, OO.out, HB.out⟩)
  have bq3_ := BQ3.out.c3
  go_wp2_with fail
  refine KX.out.mono ?_
  rintro e v2 ⟨rfl, q6, q7, q3, qO, qB⟩
  clear KX
  clear bq3_
  clear BQ3 B6 B7 OO HB q3 qO
  rw [show [p].length = 1 from rfl, HK1.out] at q6
  rw [show [p].length = 1 from rfl, HF1.out] at q7
  have B6 := Lib.hid q6
  have B7 := Lib.hid q7
  have HB := Lib.hid qB
  clear q6 q7 qB
  go_upto_region 3 with fail
  have LB6 := Lib.hid (show w.heap.size ≤ w.heap.size + 1 by omega)
  have LB7 := Lib.hid (show w.heap.size ≤ w.heap.size + 1 + 1 by omega)
  have bd := (Below.refl v2.heap.size v2).drew
  replace B6 := mB B6 bd
  replace B7 := mB B7 bd
  replace HB := mT HB bd
  clear bd
  obtain ⟨SS, hSS⟩ : ∃ SS : World → Prop, SS = (fun Wo => HasBlk Wo (w.heap.size + 1) 54 #[.int .i64 ((p.frag x y).D), .int .i64 ((p.frag x y).i), .int .i64 ((p.frag x y).k), .int .i64 ((p.frag x y).j), .int .i64 ((p.frag x y).u), .int .i64 ((p.frag x y).v)] ∧ HasBlk Wo (w.heap.size + 1 + 1) 4 #[.bool true]) := ⟨_, rfl⟩
  have HSS := Lib.hid hSS
  clear hSS
  have HS := Lib.hid (show SS v2.drew by rw [HSS.out]; exact ⟨B6.out, B7.out⟩)
  refine wp_region_E SS 99 (by kernel_rfl) ?_
  generalize gwd : v2.drew = z0 at *
  clear gwd
  refine wpAnyE_takeA (i := 0) (v := .agg #[.int .i64 ((p.frag x y).D), .int .i64 ((p.frag x y).i), .int .i64 ((p.frag x y).k), .int .i64 ((p.frag x y).j), .int .i64 ((p.frag x y).u), .int .i64 ((p.frag x y).v)]) rfl (by kernel_rfl) (fun _ _ _ h => h) (.inl ⟨by first | kernel_rfl | rfl, fun W hW => ?_⟩) HS.out ?_
  · rw [HSS.out] at hW
    obtain ⟨hWB6, hWB7⟩ := hW
    have qB60 := hWB6.cell 0
    have qB61 := hWB6.cell 1
    have qB62 := hWB6.cell 2
    have qB63 := hWB6.cell 3
    have qB64 := hWB6.cell 4
    have qB65 := hWB6.cell 5
    have qzB6 := hWB6.lt
    simp at qB60 qB61 qB62 qB63 qB64 qB65
    go_simp
  simp only [Act.put, List.setIfInBounds_toArray]
  refine wpAnyE_takeA (i := 1) (v := .bool true) rfl (by kernel_rfl) (fun _ _ _ h => h) (.inl ⟨by first | kernel_rfl | rfl, fun W hW => ?_⟩) HS.out ?_
  · rw [HSS.out] at hW
    obtain ⟨hWB6, hWB7⟩ := hW
    have qB70 := hWB7.cell 0
    have qzB7 := hWB7.lt
    simp at qB70
    go_simp
  simp only [Act.put]
  refine wpAnyE_step (i := 2) rfl (by kernel_rfl) (fun KQ HK => ?_)
  (try go_simp)
  refine wpList_storeB rfl 54 _ _ rfl _ _ _ rfl rfl (by kernel_rfl) B6.out rfl (by simp [Value.oneCell']) ?_
  intro ya hSt hgr
  have hl1 := LB6.out
  replace B7 := Lib.hid (B7.out.grown hgr (fun e => by injection e with e; omega))
  replace B6 := Lib.hid hSt
  replace HB := Lib.hid (HB.out.grown hgr HB.out.size (fun k hk => by injection hk with hk; omega))
  clear HS hl1 hSt hgr
  have HS := Lib.hid (show SS ya by rw [HSS.out]; exact ⟨B6.out, B7.out⟩)
  (try simp only [Act.put])
  go_wp2
  refine HK _ _ (fun _ => HS.out) ?_
  clear HK
  refine wpAnyE_step (i := 3) rfl (by kernel_rfl) (fun KQ HK => ?_)
  have b7_ := B7.out.f1
  go_wp2
  clear b7_ HS
  obtain ⟨yb, hw, qB, hgr⟩ := set1 B7 0 (.bool true)
  rw [← hw.out]
  replace B6 := gB B6 hgr (by omega)
  replace B7 := Lib.hid (show HasBlk yb ((w.heap.size + 1 + 1)) 4 #[.bool true] by simpa using qB)
  replace HB := gT HB hgr (by omega)
  clear hw qB hgr
  have HS := Lib.hid (show SS yb by rw [HSS.out]; exact ⟨B6.out, B7.out⟩)
  refine HK _ _ (fun _ => HS.out) ?_
  clear HK
  refine wpAnyE_done (by kernel_rfl) ?_
  clear HS
  have b6_ := B6.out.c6
  have b7_ := B7.out.c1
  go_wp2
  refine bodyPost_ret (v := .tuple #[.agg #[.int .i64 ((p.frag x y).D), .int .i64 ((p.frag x y).i), .int .i64 ((p.frag x y).k), .int .i64 ((p.frag x y).j), .int .i64 ((p.frag x y).u), .int .i64 ((p.frag x y).v)], .bool true]) (by simp [results, Tryd.results19, go_sem, *]) rfl ⟨rfl, HB.out⟩

set_option maxRecDepth 100000 in
set_option maxHeartbeats 32000000 in
theorem Winner_one (s : Sh) (c : CD) (p : Pt) (i : Nat) (it : It) (x y : Int) (hg : Good s c x y) (hP : s.pts c = [p]) (hcov : p.t.cov x y = true) (hi : s.I[i]? = some it) (hpi : p.i = (i : Int)) (hbl : it.look.blend = false) (w : World) (hR : s.Rd w) : Calls Tryd.prog 10 #[.agg #[.slice s.Ai s.I.length s.ci, .slice s.Ax s.X.length s.cx], .agg #[.int .i64 c.p.x, .int .i64 c.p.y, .int .i64 c.p.z, .int .i64 (c.m 0), .int .i64 (c.m 1), .int .i64 (c.m 2), .int .i64 (c.m 3), .int .i64 (c.m 4), .int .i64 (c.m 5), .int .i64 (c.m 6), .int .i64 (c.m 7), .int .i64 (c.m 8), .int .i64 c.F, .int .i64 c.N, .int .i64 c.W, .int .i64 c.H], .int .i64 x, .int .i64 y] w fun e w' => e = .returned (.tuple #[.agg #[.int .i64 ((p.frag x y).D), .int .i64 ((p.frag x y).i), .int .i64 ((p.frag x y).k), .int .i64 ((p.frag x y).j), .int .i64 ((p.frag x y).u), .int .i64 ((p.frag x y).v)], .bool true, .int .i64 0]) ∧ Below w.heap.size w w' := by
  have HR := Lib.hid hR
  have HG := Lib.hid hg
  have HPP := Lib.hid hP
  have HCV := Lib.hid hcov
  have HBL := Lib.hid hbl
  have HI := Lib.hid hi
  clear hR hg hP hcov hbl hi
  obtain ⟨v0, hv0, BS, BC, B8, HB⟩ := lay3 w 25 #[.slice s.Ai s.I.length s.ci, .slice s.Ax s.X.length s.cx] 31 #[.int .i64 c.p.x, .int .i64 c.p.y, .int .i64 c.p.z, .int .i64 (c.m 0), .int .i64 (c.m 1), .int .i64 (c.m 2), .int .i64 (c.m 3), .int .i64 (c.m 4), .int .i64 (c.m 5), .int .i64 (c.m 6), .int .i64 (c.m 7), .int .i64 (c.m 8), .int .i64 c.F, .int .i64 c.N, .int .i64 c.W, .int .i64 c.H] 54 #[.int .i64 0, .int .i64 0, .int .i64 0, .int .i64 0, .int .i64 0, .int .i64 0]
  replace HR := Lib.hid (HR.out.below HB.out)
  go_enter Tryd.func10, Tryd.ntmps10
  go_upto_region 1 with fail
  rw [← hv0.out]
  clear hv0
  have KX := Lib.hid (at_any s c x y v0 HR.out)
  have bs_ := BS.out.c2
  go_wp2_with (refine wpList_loadB rfl 31 _ rfl ((w.heap.size + 1)) rfl #[.int .i64 c.p.x, .int .i64 c.p.y, .int .i64 c.p.z, .int .i64 (c.m 0), .int .i64 (c.m 1), .int .i64 (c.m 2), .int .i64 (c.m 3), .int .i64 (c.m 4), .int .i64 (c.m 5), .int .i64 (c.m 6), .int .i64 (c.m 7), .int .i64 (c.m 8), .int .i64 c.F, .int .i64 c.N, .int .i64 c.W, .int .i64 c.H] agg31 BC.out ?_)
  have HBZ := Lib.hid HB.out.size
  refine KX.out.mono ?_
  rintro e v1 (⟨q, rfl, hq0, hng, bel⟩ | ⟨v, rfl, hg, ho, bel⟩)
  · exact absurd HG.out hng
  clear KX hg
  clear bs_
  have OO := Lib.hid (ho.low HBZ.out)
  clear ho HBZ
  replace BS := mB BS bel
  replace BC := mB BC bel
  replace B8 := mB B8 bel
  replace HR := Lib.hid (HR.out.below bel)
  replace HB := mT HB bel
  clear bel
  rw [HPP.out] at OO
  obtain ⟨A9, n9, c9, hv9⟩ := OO.out.shape
  subst hv9
  obtain rfl : n9 = 1 := (OO.out.row Pt.len).1
  go_upto_region 2 with fail
  obtain ⟨v2, x10, hz, hx', BT_, bA⟩ := laidB v1 67 #[.slice s.Ai s.I.length s.ci, .slice s.Ax s.X.length s.cx, .slice A9 1 c9]
  rw [← hz.out, ← hx'.out]
  replace BS := mB BS bA
  replace BC := mB BC bA
  replace B8 := mB B8 bA
  replace HR := Lib.hid (HR.out.below bA)
  replace OO := Lib.hid (OO.out.below bA)
  replace HB := mT HB bA
  clear hz hx' bA
  have HPO := Lib.hid (pts_ok HG.out.1.1 HG.out.1.2 p (by rw [HPP.out]; exact List.mem_singleton.2 rfl))
  have KX := Lib.hid (winner_one s p A9 c9 w.heap.size i it x y HG.out.pix HPO.out HCV.out HI.out hpi HBL.out v2 HR.out.1 HB.out.size OO.out)
  have bt__ := BT_.out.c3
  go_wp2_with fail
  refine KX.out.mono ?_
  rintro e v3 ⟨rfl, bel⟩
  clear KX
  clear bt__
  clear BT_
  replace BS := mB BS bel
  replace BC := mB BC bel
  replace B8 := mB B8 bel
  replace HR := Lib.hid (HR.out.below bel)
  replace OO := Lib.hid (OO.out.below bel)
  replace HB := mT HB bel
  clear bel
  go_upto_region 5 with fail
  obtain ⟨v4, x13, hz, hx', BW_, bA⟩ := laidB v3 54 #[.int .i64 ((p.frag x y).D), .int .i64 ((p.frag x y).i), .int .i64 ((p.frag x y).k), .int .i64 ((p.frag x y).j), .int .i64 ((p.frag x y).u), .int .i64 ((p.frag x y).v)]
  rw [← hz.out, ← hx'.out]
  replace BS := mB BS bA
  replace BC := mB BC bA
  replace B8 := mB B8 bA
  replace HR := Lib.hid (HR.out.below bA)
  replace OO := Lib.hid (OO.out.below bA)
  replace HB := mT HB bA
  clear hz hx' bA
  have bw__ := BW_.out.c6
  have b8_ := B8.out.f6
  go_wp2
  refine bodyPost_ret (v := .tuple #[.agg #[.int .i64 ((p.frag x y).D), .int .i64 ((p.frag x y).i), .int .i64 ((p.frag x y).k), .int .i64 ((p.frag x y).j), .int .i64 ((p.frag x y).u), .int .i64 ((p.frag x y).v)], .bool true, .int .i64 0]) (by simp [results, Tryd.results10, go_sem, *]) rfl ⟨rfl, ?_⟩
  repeat (refine Below.setCell ?_ (by first | omega | (simp; done) | (simp; omega)) _)
  exact HB.out
end Go.Proofs.YtemopgpcpjnmkaaDoor
