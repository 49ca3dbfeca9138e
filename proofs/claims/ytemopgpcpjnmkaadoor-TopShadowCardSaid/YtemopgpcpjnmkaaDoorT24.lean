/- top: the fragments of a pixel. -/
import Derived.Test.YtemopgpcpjnmkaaDoorT23
import Derived.Test.YtemopgpcpjnmkaaDoorT17
namespace Go.Proofs.YtemopgpcpjnmkaaDoor
open Go.RowKit
set_option linter.unusedVariables false
/-- A fragment. -/
structure Fr where
  D : Int
  i : Int
  k : Int
  j : Int
  u : Int
  v : Int
def Fr.cells (f : Fr) : List Value := [.int .i64 f.D, .int .i64 f.i, .int .i64 f.k, .int .i64 f.j, .int .i64 f.u, .int .i64 f.v]
theorem Fr.len (a : Fr) : a.cells.length = 6 := rfl
theorem Fr.one (a : Fr) : ∀ u ∈ a.cells, u.oneCell' = true := by simp [Fr.cells, Value.oneCell']
theorem inf36 : Inf Tryd.prog 36 54 6 48 := ⟨by kernel_rfl, by kernel_rfl⟩
theorem agg89 : Agg Tryd.prog 89 21 := ⟨_, Tryd.underlying89, rfl, by kernel_rfl⟩
theorem agg54 : Agg Tryd.prog 54 6 := ⟨_, Tryd.underlying54, rfl, by kernel_rfl⟩
/-- What a part has at a pixel. -/
def Pt.frag (p : Pt) (x y : Int) : Fr := ⟨p.D + (p.t.at x y).d, p.i, p.k, p.j, (p.t.at x y).u, (p.t.at x y).v⟩
def Pt.Ok (p : Pt) : Prop := p.t.Ok ∧ 0 < p.t.area ∧ (-1024 ≤ p.D ∧ p.D ≤ 1024)
/-- The fragments of the first k parts. -/
def fragsTo (P : List Pt) (x y : Int) (k : Nat) : List Fr := (P.take k).flatMap fun p => if p.t.cov x y then [p.frag x y] else []
theorem fragsTo_yes {P : List Pt} {x y : Int} {k : Nat} {p : Pt} (h : P[k]? = some p) (hc : p.t.cov x y = true) : fragsTo P x y (k + 1) = fragsTo P x y k ++ [p.frag x y] := by
  unfold fragsTo
  rw [List.take_add_one, h, Option.toList_some, List.flatMap_append]
  simp [hc]
theorem fragsTo_no {P : List Pt} {x y : Int} {k : Nat} {p : Pt} (h : P[k]? = some p) (hc : p.t.cov x y = false) : fragsTo P x y (k + 1) = fragsTo P x y k := by
  unfold fragsTo
  rw [List.take_add_one, h, Option.toList_some, List.flatMap_append]
  simp [hc]
theorem fragsTo_len (P : List Pt) (x y : Int) (k : Nat) : (fragsTo P x y k).length ≤ k := by
  unfold fragsTo
  have h : ∀ L : List Pt, (L.flatMap fun p => if p.t.cov x y then [p.frag x y] else []).length ≤ L.length := fun L => by
    induction L with
    | nil => simp
    | cons p L ih =>
      rw [List.flatMap_cons, List.length_append, List.length_cons]
      have : (if p.t.cov x y then [p.frag x y] else []).length ≤ 1 := by split <;> simp
      omega
  exact Nat.le_trans (h _) (List.length_take_le _ _)
theorem at_d_bd {t : T3} {x y : Int} (ht : t.Ok) (ha : 0 < t.area) (hp : Pix x y) (hc : t.cov x y = true) : 0 ≤ (t.at x y).d ∧ (t.at x y).d ≤ 6755399441055744 := by
  have wb := T3.wts ht ha hp hc
  have b0 := prd_bd (n := t.a.u) wb.1.1 ht.1.2.1 ht.1.2.2.1
  have b1 := prd_bd (n := t.b.u) wb.1.2.1 ht.2.1.2.1 ht.2.1.2.2.1
  have b2 := prd_bd (n := t.c.u) wb.1.2.2 ht.2.2.2.1 ht.2.2.2.2.1
  unfold T3.at
  dsimp only
  constructor
  · exact Int.ediv_nonneg (by omega) (by omega)
  · refine Int.le_trans (Int.ediv_le_self _ (by omega)) (by omega)
theorem HasBlk.atl {w : World} {g : Nat} {t : TypeId} {cs : Array Value} {L : List Value} (h : HasBlk w g t cs) (hL : cs.toList = L) (i : Nat) (u : Value) (hi : L[i]? = some u) : w.cell? ⟨g, i, none⟩ = some u := by
  rw [h.cell, ← hi, ← hL]
  simp
theorem Pt.pre {p : Pt} {j : Nat} {u : Value} (h : p.t.cells[j]? = some u) : p.cells[j]? = some u := by
  have hl := (List.getElem?_eq_some_iff.1 h).1
  show (p.t.cells ++ [.int .i64 p.D, .int .i64 p.i, .int .i64 p.k, .int .i64 p.j, .int .i64 0, .int .i64 0])[j]? = some u
  rw [List.getElem?_append_left hl]
  exact h
theorem Pt.post {p : Pt} {j : Nat} {u : Value} (h : [.int .i64 p.D, .int .i64 p.i, .int .i64 p.k, .int .i64 p.j, .int .i64 0, .int .i64 0][j]? = some u) : p.cells[15 + j]? = some u := by
  show (p.t.cells ++ [.int .i64 p.D, .int .i64 p.i, .int .i64 p.k, .int .i64 p.j, .int .i64 0, .int .i64 0])[15 + j]? = some u
  rw [List.getElem?_append_right (by simp [T3.cells])]
  rw [show 15 + j - p.t.cells.length = j by simp [T3.cells]]
  exact h

set_option maxRecDepth 100000 in
set_option maxHeartbeats 32000000 in
theorem frags13 (g8 : Nat) (P : List Pt) (x y : Int) (Ai Ax A : Option Addr) (nI ci nX cx c : Nat) (hlen : P.length ≤ 1000000) (hp : Pix x y) (hP : ∀ p ∈ P, p.Ok) (R : Nat → World → Prop) (hrow : ∀ k W, R k W → RowL W A 21 Pt.cells P) (hkeep : ∀ k W W', Below W.heap.size W W' → R k W → R k W') (hgo : ∀ k p W, P[k]? = some p → p.t.cov x y = true → R k W → Calls Tryd.prog 13 #[.agg #[.int .i64 ((p.frag x y).D), .int .i64 ((p.frag x y).i), .int .i64 ((p.frag x y).k), .int .i64 ((p.frag x y).j), .int .i64 ((p.frag x y).u), .int .i64 ((p.frag x y).v)], .pointer (some ⟨g8, 0, none⟩)] W fun e W' => e = .returned (.tuple #[]) ∧ R (k + 1) W') (hskip : ∀ k p W, P[k]? = some p → p.t.cov x y = false → R k W → R (k + 1) W) (w : World) (hR : R 0 w) : Calls Tryd.prog 12 #[.agg #[.slice Ai nI ci, .slice Ax nX cx, .slice A P.length c], .int .i64 x, .int .i64 y, .func (.func 13) #[] #[.pointer (some ⟨g8, 0, none⟩)]] w fun e w' => e = .returned (.tuple #[]) ∧ R P.length w' := by
  have HGO := Lib.hid hgo
  have HSK := Lib.hid hskip
  have HROW := Lib.hid hrow
  have HKEEP := Lib.hid hkeep
  have HPX := Lib.hid hp
  have HPO := Lib.hid hP
  have HR0 := Lib.hid hR
  clear hgo hskip hrow hkeep hp hP hR
  obtain ⟨n, hn⟩ : ∃ n, n = P.length := ⟨_, rfl⟩
  rw [← hn]
  have HN := Lib.hid hn
  have HN6 := Lib.hid (show n ≤ 1000000 by rw [hn]; exact hlen)
  clear hn hlen
  obtain ⟨v0, hv0, B4, HB⟩ := lay1 w 67 #[.slice Ai nI ci, .slice Ax nX cx, .slice A n c]
  go_enter Tryd.func12, Tryd.ntmps12
  go_upto_region 1 with fail
  rw [← hv0.out]
  clear hv0
  have b4_ := B4.out.c3
  go_wp2
  clear b4_
  clear B4
  go_loopw [16] (fun s16 wr => ∃ k : Nat, k ≤ n ∧ s16 = .int .i64 (k : Int) ∧ R k wr) (fun s16 wr => n - (intOf s16).toNat)
  case atStart => exact ⟨0, Nat.zero_le _, rfl, HKEEP.out _ _ _ (by simpa using (HB.out)) HR0.out⟩
  case round =>
    clear HB
    obtain ⟨k, hk, rfl, hRk⟩ := hrel
    have HRK := Lib.hid hRk
    clear hRk
    by_cases hkn : k < n
    rotate_left
    · obtain rfl : n = k := by omega
      have d0 : decide ((n : Int) < (n : Int)) = false := by simp
      go_wp2
      go_end0
      exact ⟨rfl, HRK.out⟩
    have d0 : decide ((k : Int) < (n : Int)) = true := decide_eq_true (by omega)
    have ik1 : (k : Int) < (n : Int) := by omega
    have ik0 : (0 : Int) ≤ (k : Int) := by omega
    obtain ⟨p, hpk⟩ : ∃ p, P[k]? = some p := ⟨_, List.getElem?_eq_getElem (by rw [← HN.out]; exact hkn)⟩
    obtain ⟨g, o, rfl, hg, hc⟩ := HROW.out _ _ HRK.out (by rw [← HN.out]; omega)
    have HCL := Lib.hid (show ∀ e u, (#[.int .i64 p.t.a.x, .int .i64 p.t.a.y, .int .i64 p.t.a.d, .int .i64 p.t.a.u, .int .i64 p.t.a.v, .int .i64 p.t.b.x, .int .i64 p.t.b.y, .int .i64 p.t.b.d, .int .i64 p.t.b.u, .int .i64 p.t.b.v, .int .i64 p.t.c.x, .int .i64 p.t.c.y, .int .i64 p.t.c.d, .int .i64 p.t.c.u, .int .i64 p.t.c.v, .int .i64 p.D, .int .i64 p.i, .int .i64 p.k, .int .i64 p.j, .int .i64 0, .int .i64 0] : Array Value).toList[e]? = some u → wr.cell? ⟨g, o + k * 21 + e, none⟩ = some u from fun e u he => hc k p hpk e u he)
    have HPK := Lib.hid hpk
    have POK := Lib.hid (HPO.out p (List.mem_of_getElem? hpk))
    clear hc hpk
    have HB := Lib.hid (Below.refl wr.heap.size wr)
    go_upto_region 4 with (first | (refine wpList_loadL rfl 89 _ rfl (g) (o + k * 21) rfl #[.int .i64 p.t.a.x, .int .i64 p.t.a.y, .int .i64 p.t.a.d, .int .i64 p.t.a.u, .int .i64 p.t.a.v, .int .i64 p.t.b.x, .int .i64 p.t.b.y, .int .i64 p.t.b.d, .int .i64 p.t.b.u, .int .i64 p.t.b.v, .int .i64 p.t.c.x, .int .i64 p.t.c.y, .int .i64 p.t.c.d, .int .i64 p.t.c.u, .int .i64 p.t.c.v, .int .i64 p.D, .int .i64 p.i, .int .i64 p.k, .int .i64 p.j, .int .i64 0, .int .i64 0] agg89 HCL.out ?_) | (refine wpList_storeN rfl 89 _ _ rfl #[.int .i64 0, .int .i64 0, .int .i64 0, .int .i64 0, .int .i64 0, .int .i64 0, .int .i64 0, .int .i64 0, .int .i64 0, .int .i64 0, .int .i64 0, .int .i64 0, .int .i64 0, .int .i64 0, .int .i64 0, .int .i64 0, .int .i64 0, .int .i64 0, .int .i64 0, .int .i64 0, .int .i64 0] #[.int .i64 p.t.a.x, .int .i64 p.t.a.y, .int .i64 p.t.a.d, .int .i64 p.t.a.u, .int .i64 p.t.a.v, .int .i64 p.t.b.x, .int .i64 p.t.b.y, .int .i64 p.t.b.d, .int .i64 p.t.b.u, .int .i64 p.t.b.v, .int .i64 p.t.c.x, .int .i64 p.t.c.y, .int .i64 p.t.c.d, .int .i64 p.t.c.u, .int .i64 p.t.c.v, .int .i64 p.D, .int .i64 p.i, .int .i64 p.k, .int .i64 p.j, .int .i64 0, .int .i64 0] rfl rfl (by kernel_rfl) rfl (by simp [Value.oneCell']) ?_))
    obtain ⟨u0, x9, hz, hx', BP_, bA⟩ := laidB wr 89 #[.int .i64 p.t.a.x, .int .i64 p.t.a.y, .int .i64 p.t.a.d, .int .i64 p.t.a.u, .int .i64 p.t.a.v, .int .i64 p.t.b.x, .int .i64 p.t.b.y, .int .i64 p.t.b.d, .int .i64 p.t.b.u, .int .i64 p.t.b.v, .int .i64 p.t.c.x, .int .i64 p.t.c.y, .int .i64 p.t.c.d, .int .i64 p.t.c.u, .int .i64 p.t.c.v, .int .i64 p.D, .int .i64 p.i, .int .i64 p.k, .int .i64 p.j, .int .i64 0, .int .i64 0]
    rw [← hz.out, ← hx'.out]
    replace HB := mT HB bA
    clear hz hx' bA
    clear HCL hg d0 ik1 ik0
    have H15 := Lib.hid (show ∀ e u, (#[.int .i64 p.t.a.x, .int .i64 p.t.a.y, .int .i64 p.t.a.d, .int .i64 p.t.a.u, .int .i64 p.t.a.v, .int .i64 p.t.b.x, .int .i64 p.t.b.y, .int .i64 p.t.b.d, .int .i64 p.t.b.u, .int .i64 p.t.b.v, .int .i64 p.t.c.x, .int .i64 p.t.c.y, .int .i64 p.t.c.d, .int .i64 p.t.c.u, .int .i64 p.t.c.v] : Array Value).toList[e]? = some u → u0.cell? ⟨x9, 0 + e, none⟩ = some u from fun e u he => by
      rw [Nat.zero_add]
      exact BP_.out.atl (L := p.cells) rfl e u (Pt.pre (p := p) he))
    by_cases hcov : p.t.cov x y = true
    rotate_left
    · have hcf : p.t.cov x y = false := by simpa using hcov
      have HF := Lib.hid hcf
      have hat : p.t.atv x y = .tuple #[.agg #[.int .i64 0, .int .i64 0, .int .i64 0, .int .i64 0, .int .i64 0], .int .i64 6] := by unfold T3.atv; rw [hcf]; rfl
      have KX := Lib.hid (at_ok p.t x y POK.out.1 POK.out.2.1 HPX.out u0)
      rw [hat] at KX
      clear hat hcf hcov
      go_wp2_with (refine wpList_loadL rfl 87 _ rfl (x9) (0) rfl #[.int .i64 p.t.a.x, .int .i64 p.t.a.y, .int .i64 p.t.a.d, .int .i64 p.t.a.u, .int .i64 p.t.a.v, .int .i64 p.t.b.x, .int .i64 p.t.b.y, .int .i64 p.t.b.d, .int .i64 p.t.b.u, .int .i64 p.t.b.v, .int .i64 p.t.c.x, .int .i64 p.t.c.y, .int .i64 p.t.c.d, .int .i64 p.t.c.u, .int .i64 p.t.c.v] agg87 H15.out ?_)
      refine KX.out.mono ?_
      rintro e u1 ⟨rfl, bel⟩
      clear KX H15
      replace BP_ := mB BP_ bel
      replace HB := mT HB bel
      clear bel
      go_upto_region 5 with fail
      obtain ⟨u2, x10, hz, hx', BQ_, bA⟩ := laidB u1 86 #[.int .i64 0, .int .i64 0, .int .i64 0, .int .i64 0, .int .i64 0]
      rw [← hz.out, ← hx'.out]
      replace BP_ := mB BP_ bA
      replace HB := mT HB bA
      clear hz hx' bA
      have hb6 := HN6.out
      go_wp2
      go_roundw
      case rel => exact ⟨k + 1, by omega, by go_num, HSK.out k p _ HPK.out HF.out (HKEEP.out _ _ _ HB.out HRK.out)⟩
      case measure => simp [intOf]; omega
    have HF := Lib.hid hcov
    have hat : p.t.atv x y = .tuple #[.agg #[.int .i64 ((p.t.at x y).x), .int .i64 ((p.t.at x y).y), .int .i64 ((p.t.at x y).d), .int .i64 ((p.t.at x y).u), .int .i64 ((p.t.at x y).v)], .int .i64 0] := by unfold T3.atv; rw [hcov]; rfl
    have KX := Lib.hid (at_ok p.t x y POK.out.1 POK.out.2.1 HPX.out u0)
    rw [hat] at KX
    clear hat
    have DB := Lib.hid (at_d_bd POK.out.1 POK.out.2.1 HPX.out hcov)
    clear hcov
    go_wp2_with (refine wpList_loadL rfl 87 _ rfl (x9) (0) rfl #[.int .i64 p.t.a.x, .int .i64 p.t.a.y, .int .i64 p.t.a.d, .int .i64 p.t.a.u, .int .i64 p.t.a.v, .int .i64 p.t.b.x, .int .i64 p.t.b.y, .int .i64 p.t.b.d, .int .i64 p.t.b.u, .int .i64 p.t.b.v, .int .i64 p.t.c.x, .int .i64 p.t.c.y, .int .i64 p.t.c.d, .int .i64 p.t.c.u, .int .i64 p.t.c.v] agg87 H15.out ?_)
    refine KX.out.mono ?_
    rintro e u1 ⟨rfl, bel⟩
    clear KX H15
    replace BP_ := mB BP_ bel
    replace HB := mT HB bel
    clear bel
    go_upto_region 5 with fail
    obtain ⟨u2, x10, hz, hx', BQ_, bA⟩ := laidB u1 86 #[.int .i64 ((p.t.at x y).x), .int .i64 ((p.t.at x y).y), .int .i64 ((p.t.at x y).d), .int .i64 ((p.t.at x y).u), .int .i64 ((p.t.at x y).v)]
    rw [← hz.out, ← hx'.out]
    replace BP_ := mB BP_ bA
    replace HB := mT HB bA
    clear hz hx' bA
    have H6 := Lib.hid (show ∀ e u, (#[.int .i64 p.D, .int .i64 p.i, .int .i64 p.k, .int .i64 p.j, .int .i64 0, .int .i64 0] : Array Value).toList[e]? = some u → u2.cell? ⟨x9, 15 + e, none⟩ = some u from fun e u he => BP_.out.atl (L := p.cells) rfl (15 + e) u (Pt.post (p := p) he))
    go_upto_region 7 with (first | (refine wpList_loadL rfl 54 _ rfl (x9) (15) rfl #[.int .i64 p.D, .int .i64 p.i, .int .i64 p.k, .int .i64 p.j, .int .i64 0, .int .i64 0] agg54 H6.out ?_) | (refine wpList_storeN rfl 54 _ _ rfl #[.int .i64 0, .int .i64 0, .int .i64 0, .int .i64 0, .int .i64 0, .int .i64 0] #[.int .i64 p.D, .int .i64 p.i, .int .i64 p.k, .int .i64 p.j, .int .i64 0, .int .i64 0] rfl rfl (by kernel_rfl) rfl (by simp [Value.oneCell']) ?_))
    have LF := Lib.hid (show (x9 < u2.heap.size ∧ x10 < u2.heap.size) from ⟨BP_.out.lt, BQ_.out.lt⟩)
    have LW := Lib.hid (show wr.heap.size ≤ u2.heap.size from HB.out.size)
    obtain ⟨u3, x12, hz, hx', BF, bA⟩ := laidB u2 54 #[.int .i64 p.D, .int .i64 p.i, .int .i64 p.k, .int .i64 p.j, .int .i64 0, .int .i64 0]
    rw [← hz.out, ← hx'.out]
    rw [← hx'.out] at LF LW
    replace BP_ := mB BP_ bA
    replace BQ_ := mB BQ_ bA
    replace HB := mT HB bA
    clear hz hx' bA
    clear H6
    have hd := DB.out
    have hD := POK.out.2.2
    have wD : IntKind.i64.wrap (p.D + (p.t.at x y).d) = p.D + (p.t.at x y).d := IntWalk.i64_in _ (by omega)
    clear hd hD
    have bf_ := BF.out.f6
    have bq__ := BQ_.out.c5
    go_upto_region 8 with fail
    clear bf_
    clear bq__
    clear wD
    have qBP_ := BP_.out.far (p := ⟨x12, 0, none⟩) (by have := LF.out; first | omega | (simp; done) | (simp; omega)) (.int .i64 ((p.D + (p.t.at x y).d)))
    have qBQ_ := BQ_.out.far (p := ⟨x12, 0, none⟩) (by have := LF.out; first | omega | (simp; done) | (simp; omega)) (.int .i64 ((p.D + (p.t.at x y).d)))
    have qBF : HasBlk (u3.setCell ⟨x12, 0, none⟩ (.int .i64 ((p.D + (p.t.at x y).d)))) x12 54 #[.int .i64 ((p.D + (p.t.at x y).d)), .int .i64 p.i, .int .i64 p.k, .int .i64 p.j, .int .i64 0, .int .i64 0] := by simpa using BF.out.set 0 (.int .i64 ((p.D + (p.t.at x y).d)))
    have qHB := Below.setCell (p := ⟨x12, 0, none⟩) HB.out (by show wr.heap.size ≤ x12; have := LW.out; omega) (.int .i64 ((p.D + (p.t.at x y).d)))
    clear BP_ BQ_ BF HB
    have BP_ := Lib.hid qBP_
    have BQ_ := Lib.hid qBQ_
    have BF := Lib.hid qBF
    have HB := Lib.hid qHB
    clear qBP_ qBQ_ qBF qHB
    generalize (u3.setCell ⟨x12, 0, none⟩ (.int .i64 ((p.D + (p.t.at x y).d)))) = u4 at *
    clear BP_
    have bd := (Below.refl u4.heap.size u4).drew
    replace BQ_ := mB BQ_ bd
    replace BF := mB BF bd
    replace HB := mT HB bd
    clear bd
    obtain ⟨SS, hSS⟩ : ∃ SS : World → Prop, SS = (fun Wo => HasBlk Wo x10 86 #[.int .i64 ((p.t.at x y).x), .int .i64 ((p.t.at x y).y), .int .i64 ((p.t.at x y).d), .int .i64 ((p.t.at x y).u), .int .i64 ((p.t.at x y).v)]) := ⟨_, rfl⟩
    have HSS := Lib.hid hSS
    clear hSS
    have HS := Lib.hid (show SS u4.drew by rw [HSS.out]; exact BQ_.out)
    refine wp_region_E SS 99 (by kernel_rfl) ?_
    generalize gwd : u4.drew = z0 at *
    clear gwd
    refine wpAnyE_takeA (i := 0) (v := .pointer (some ⟨x10, 3, none⟩)) rfl (by kernel_rfl) (fun _ _ _ h => h) (.inl ⟨by first | kernel_rfl | rfl, fun W hW => by go_simp⟩) HS.out ?_
    simp only [Act.put, List.setIfInBounds_toArray]
    refine wpAnyE_takeA (i := 1) (v := .int .i64 ((p.t.at x y).u)) rfl (by kernel_rfl) (fun _ _ _ h => h) (.inl ⟨by first | kernel_rfl | rfl, fun W hW => ?_⟩) HS.out ?_
    · rw [HSS.out] at hW
      have hWBQ_ := hW
      have qBQ_0 := hWBQ_.cell 0
      have qBQ_1 := hWBQ_.cell 1
      have qBQ_2 := hWBQ_.cell 2
      have qBQ_3 := hWBQ_.cell 3
      have qBQ_4 := hWBQ_.cell 4
      have qzBQ_ := hWBQ_.lt
      simp at qBQ_0 qBQ_1 qBQ_2 qBQ_3 qBQ_4
      go_simp
    simp only [Act.put]
    refine wpAnyE_takeA (i := 2) (v := .pointer (some ⟨x10, 4, none⟩)) rfl (by kernel_rfl) (fun _ _ _ h => h) (.inl ⟨by first | kernel_rfl | rfl, fun W hW => by go_simp⟩) HS.out ?_
    simp only [Act.put]
    refine wpAnyE_takeA (i := 3) (v := .int .i64 ((p.t.at x y).v)) rfl (by kernel_rfl) (fun _ _ _ h => h) (.inl ⟨by first | kernel_rfl | rfl, fun W hW => ?_⟩) HS.out ?_
    · rw [HSS.out] at hW
      have hWBQ_ := hW
      have qBQ_0 := hWBQ_.cell 0
      have qBQ_1 := hWBQ_.cell 1
      have qBQ_2 := hWBQ_.cell 2
      have qBQ_3 := hWBQ_.cell 3
      have qBQ_4 := hWBQ_.cell 4
      have qzBQ_ := hWBQ_.lt
      simp at qBQ_0 qBQ_1 qBQ_2 qBQ_3 qBQ_4
      go_simp
    simp only [Act.put]
    refine wpAnyE_takeA (i := 4) (v := .pointer (some ⟨x12, 4, none⟩)) rfl (by kernel_rfl) (fun _ _ _ h => h) (.inl ⟨by first | kernel_rfl | rfl, fun W hW => by go_simp⟩) HS.out ?_
    simp only [Act.put]
    refine wpAnyE_step (i := 5) rfl (by kernel_rfl) (fun KQ HK => ?_)
    have bf_ := BF.out.f6
    go_wp2
    clear bf_
    have qBQ_ := BQ_.out.far (p := ⟨x12, 4, none⟩) (by have := LF.out; first | omega | (simp; done) | (simp; omega)) (.int .i64 ((p.t.at x y).u))
    have qBF : HasBlk (z0.setCell ⟨x12, 4, none⟩ (.int .i64 ((p.t.at x y).u))) x12 54 #[.int .i64 ((p.D + (p.t.at x y).d)), .int .i64 p.i, .int .i64 p.k, .int .i64 p.j, .int .i64 ((p.t.at x y).u), .int .i64 0] := by simpa using BF.out.set 4 (.int .i64 ((p.t.at x y).u))
    have qHB := Below.setCell (p := ⟨x12, 4, none⟩) HB.out (by show wr.heap.size ≤ x12; have := LW.out; omega) (.int .i64 ((p.t.at x y).u))
    clear BQ_ BF HB HS
    have BQ_ := Lib.hid qBQ_
    have BF := Lib.hid qBF
    have HB := Lib.hid qHB
    clear qBQ_ qBF qHB
    have HS := Lib.hid (show SS (z0.setCell ⟨x12, 4, none⟩ (.int .i64 ((p.t.at x y).u))) by rw [HSS.out]; exact BQ_.out)
    refine HK _ _ (fun _ => HS.out) ?_
    clear HK
    generalize (z0.setCell ⟨x12, 4, none⟩ (.int .i64 ((p.t.at x y).u))) = z1 at *
    refine wpAnyE_takeA (i := 6) (v := .pointer (some ⟨x12, 5, none⟩)) rfl (by kernel_rfl) (fun _ _ _ h => h) (.inl ⟨by first | kernel_rfl | rfl, fun W hW => by go_simp⟩) HS.out ?_
    simp only [Act.put, List.setIfInBounds_toArray]
    refine wpAnyE_step (i := 7) rfl (by kernel_rfl) (fun KQ HK => ?_)
    have bf_ := BF.out.f6
    go_wp2
    clear bf_
    have qBQ_ := BQ_.out.far (p := ⟨x12, 5, none⟩) (by have := LF.out; first | omega | (simp; done) | (simp; omega)) (.int .i64 ((p.t.at x y).v))
    have qBF : HasBlk (z1.setCell ⟨x12, 5, none⟩ (.int .i64 ((p.t.at x y).v))) x12 54 #[.int .i64 ((p.D + (p.t.at x y).d)), .int .i64 p.i, .int .i64 p.k, .int .i64 p.j, .int .i64 ((p.t.at x y).u), .int .i64 ((p.t.at x y).v)] := by simpa using BF.out.set 5 (.int .i64 ((p.t.at x y).v))
    have qHB := Below.setCell (p := ⟨x12, 5, none⟩) HB.out (by show wr.heap.size ≤ x12; have := LW.out; omega) (.int .i64 ((p.t.at x y).v))
    clear BQ_ BF HB HS
    have BQ_ := Lib.hid qBQ_
    have BF := Lib.hid qBF
    have HB := Lib.hid qHB
    clear qBQ_ qBF qHB
    have HS := Lib.hid (show SS (z1.setCell ⟨x12, 5, none⟩ (.int .i64 ((p.t.at x y).v))) by rw [HSS.out]; exact BQ_.out)
    refine HK _ _ (fun _ => HS.out) ?_
    clear HK
    generalize (z1.setCell ⟨x12, 5, none⟩ (.int .i64 ((p.t.at x y).v))) = z2 at *
    refine wpAnyE_done (by kernel_rfl) ?_
    clear HS
    have KX := Lib.hid (HGO.out k p z2 HPK.out HF.out (HKEEP.out _ _ _ HB.out HRK.out))
    have bf_ := BF.out.c6
    go_wp2_with fail
    refine KX.out.mono ?_
    rintro e w3 ⟨rfl, hR3⟩
    have HR3 := Lib.hid hR3
    clear KX hR3
    clear bf_
    clear BQ_ BF HB
    have hb6 := HN6.out
    go_wp2
    go_roundw
    case rel => exact ⟨k + 1, by omega, by go_num, HR3.out⟩
    case measure => simp [intOf]; omega

set_option maxRecDepth 100000 in
set_option maxHeartbeats 32000000 in
theorem frags30 (g3 g7 g6 : Nat) (P : List Pt) (x y : Int) (Ai Ax A : Option Addr) (nI ci nX cx c : Nat) (hlen : P.length ≤ 1000000) (hp : Pix x y) (hP : ∀ p ∈ P, p.Ok) (R : Nat → World → Prop) (hrow : ∀ k W, R k W → RowL W A 21 Pt.cells P) (hkeep : ∀ k W W', Below W.heap.size W W' → R k W → R k W') (hgo : ∀ k p W, P[k]? = some p → p.t.cov x y = true → R k W → Calls Tryd.prog 30 #[.agg #[.int .i64 ((p.frag x y).D), .int .i64 ((p.frag x y).i), .int .i64 ((p.frag x y).k), .int .i64 ((p.frag x y).j), .int .i64 ((p.frag x y).u), .int .i64 ((p.frag x y).v)], .pointer (some ⟨g3, 0, none⟩), .pointer (some ⟨g7, 0, none⟩), .pointer (some ⟨g6, 0, none⟩)] W fun e W' => e = .returned (.tuple #[]) ∧ R (k + 1) W') (hskip : ∀ k p W, P[k]? = some p → p.t.cov x y = false → R k W → R (k + 1) W) (w : World) (hR : R 0 w) : Calls Tryd.prog 12 #[.agg #[.slice Ai nI ci, .slice Ax nX cx, .slice A P.length c], .int .i64 x, .int .i64 y, .func (.func 30) #[] #[.pointer (some ⟨g3, 0, none⟩), .pointer (some ⟨g7, 0, none⟩), .pointer (some ⟨g6, 0, none⟩)]] w fun e w' => e = .returned (.tuple #[]) ∧ R P.length w' := by
  have HGO := Lib.hid hgo
  have HSK := Lib.hid hskip
  have HROW := Lib.hid hrow
  have HKEEP := Lib.hid hkeep
  have HPX := Lib.hid hp
  have HPO := Lib.hid hP
  have HR0 := Lib.hid hR
  clear hgo hskip hrow hkeep hp hP hR
  obtain ⟨n, hn⟩ : ∃ n, n = P.length := ⟨_, rfl⟩
  rw [← hn]
  have HN := Lib.hid hn
  have HN6 := Lib.hid (show n ≤ 1000000 by rw [hn]; exact hlen)
  clear hn hlen
  obtain ⟨v0, hv0, B4, HB⟩ := lay1 w 67 #[.slice Ai nI ci, .slice Ax nX cx, .slice A n c]
  go_enter Tryd.func12, Tryd.ntmps12
  go_upto_region 1 with fail
  rw [← hv0.out]
  clear hv0
  have b4_ := B4.out.c3
  go_wp2
  clear b4_
  clear B4
  go_loopw [16] (fun s16 wr => ∃ k : Nat, k ≤ n ∧ s16 = .int .i64 (k : Int) ∧ R k wr) (fun s16 wr => n - (intOf s16).toNat)
  case atStart => exact ⟨0, Nat.zero_le _, rfl, HKEEP.out _ _ _ (by simpa using (HB.out)) HR0.out⟩
  case round =>
    clear HB
    obtain ⟨k, hk, rfl, hRk⟩ := hrel
    have HRK := Lib.hid hRk
    clear hRk
    by_cases hkn : k < n
    rotate_left
    · obtain rfl : n = k := by omega
      have d0 : decide ((n : Int) < (n : Int)) = false := by simp
      go_wp2
      go_end0
      exact ⟨rfl, HRK.out⟩
    have d0 : decide ((k : Int) < (n : Int)) = true := decide_eq_true (by omega)
    have ik1 : (k : Int) < (n : Int) := by omega
    have ik0 : (0 : Int) ≤ (k : Int) := by omega
    obtain ⟨p, hpk⟩ : ∃ p, P[k]? = some p := ⟨_, List.getElem?_eq_getElem (by rw [← HN.out]; exact hkn)⟩
    obtain ⟨g, o, rfl, hg, hc⟩ := HROW.out _ _ HRK.out (by rw [← HN.out]; omega)
    have HCL := Lib.hid (show ∀ e u, (#[.int .i64 p.t.a.x, .int .i64 p.t.a.y, .int .i64 p.t.a.d, .int .i64 p.t.a.u, .int .i64 p.t.a.v, .int .i64 p.t.b.x, .int .i64 p.t.b.y, .int .i64 p.t.b.d, .int .i64 p.t.b.u, .int .i64 p.t.b.v, .int .i64 p.t.c.x, .int .i64 p.t.c.y, .int .i64 p.t.c.d, .int .i64 p.t.c.u, .int .i64 p.t.c.v, .int .i64 p.D, .int .i64 p.i, .int .i64 p.k, .int .i64 p.j, .int .i64 0, .int .i64 0] : Array Value).toList[e]? = some u → wr.cell? ⟨g, o + k * 21 + e, none⟩ = some u from fun e u he => hc k p hpk e u he)
    have HPK := Lib.hid hpk
    have POK := Lib.hid (HPO.out p (List.mem_of_getElem? hpk))
    clear hc hpk
    have HB := Lib.hid (Below.refl wr.heap.size wr)
    go_upto_region 4 with (first | (refine wpList_loadL rfl 89 _ rfl (g) (o + k * 21) rfl #[.int .i64 p.t.a.x, .int .i64 p.t.a.y, .int .i64 p.t.a.d, .int .i64 p.t.a.u, .int .i64 p.t.a.v, .int .i64 p.t.b.x, .int .i64 p.t.b.y, .int .i64 p.t.b.d, .int .i64 p.t.b.u, .int .i64 p.t.b.v, .int .i64 p.t.c.x, .int .i64 p.t.c.y, .int .i64 p.t.c.d, .int .i64 p.t.c.u, .int .i64 p.t.c.v, .int .i64 p.D, .int .i64 p.i, .int .i64 p.k, .int .i64 p.j, .int .i64 0, .int .i64 0] agg89 HCL.out ?_) | (refine wpList_storeN rfl 89 _ _ rfl #[.int .i64 0, .int .i64 0, .int .i64 0, .int .i64 0, .int .i64 0, .int .i64 0, .int .i64 0, .int .i64 0, .int .i64 0, .int .i64 0, .int .i64 0, .int .i64 0, .int .i64 0, .int .i64 0, .int .i64 0, .int .i64 0, .int .i64 0, .int .i64 0, .int .i64 0, .int .i64 0, .int .i64 0] #[.int .i64 p.t.a.x, .int .i64 p.t.a.y, .int .i64 p.t.a.d, .int .i64 p.t.a.u, .int .i64 p.t.a.v, .int .i64 p.t.b.x, .int .i64 p.t.b.y, .int .i64 p.t.b.d, .int .i64 p.t.b.u, .int .i64 p.t.b.v, .int .i64 p.t.c.x, .int .i64 p.t.c.y, .int .i64 p.t.c.d, .int .i64 p.t.c.u, .int .i64 p.t.c.v, .int .i64 p.D, .int .i64 p.i, .int .i64 p.k, .int .i64 p.j, .int .i64 0, .int .i64 0] rfl rfl (by kernel_rfl) rfl (by simp [Value.oneCell']) ?_))
    obtain ⟨u0, x9, hz, hx', BP_, bA⟩ := laidB wr 89 #[.int .i64 p.t.a.x, .int .i64 p.t.a.y, .int .i64 p.t.a.d, .int .i64 p.t.a.u, .int .i64 p.t.a.v, .int .i64 p.t.b.x, .int .i64 p.t.b.y, .int .i64 p.t.b.d, .int .i64 p.t.b.u, .int .i64 p.t.b.v, .int .i64 p.t.c.x, .int .i64 p.t.c.y, .int .i64 p.t.c.d, .int .i64 p.t.c.u, .int .i64 p.t.c.v, .int .i64 p.D, .int .i64 p.i, .int .i64 p.k, .int .i64 p.j, .int .i64 0, .int .i64 0]
    rw [← hz.out, ← hx'.out]
    replace HB := mT HB bA
    clear hz hx' bA
    clear HCL hg d0 ik1 ik0
    have H15 := Lib.hid (show ∀ e u, (#[.int .i64 p.t.a.x, .int .i64 p.t.a.y, .int .i64 p.t.a.d, .int .i64 p.t.a.u, .int .i64 p.t.a.v, .int .i64 p.t.b.x, .int .i64 p.t.b.y, .int .i64 p.t.b.d, .int .i64 p.t.b.u, .int .i64 p.t.b.v, .int .i64 p.t.c.x, .int .i64 p.t.c.y, .int .i64 p.t.c.d, .int .i64 p.t.c.u, .int .i64 p.t.c.v] : Array Value).toList[e]? = some u → u0.cell? ⟨x9, 0 + e, none⟩ = some u from fun e u he => by
      rw [Nat.zero_add]
      exact BP_.out.atl (L := p.cells) rfl e u (Pt.pre (p := p) he))
    by_cases hcov : p.t.cov x y = true
    rotate_left
    · have hcf : p.t.cov x y = false := by simpa using hcov
      have HF := Lib.hid hcf
      have hat : p.t.atv x y = .tuple #[.agg #[.int .i64 0, .int .i64 0, .int .i64 0, .int .i64 0, .int .i64 0], .int .i64 6] := by unfold T3.atv; rw [hcf]; rfl
      have KX := Lib.hid (at_ok p.t x y POK.out.1 POK.out.2.1 HPX.out u0)
      rw [hat] at KX
      clear hat hcf hcov
      go_wp2_with (refine wpList_loadL rfl 87 _ rfl (x9) (0) rfl #[.int .i64 p.t.a.x, .int .i64 p.t.a.y, .int .i64 p.t.a.d, .int .i64 p.t.a.u, .int .i64 p.t.a.v, .int .i64 p.t.b.x, .int .i64 p.t.b.y, .int .i64 p.t.b.d, .int .i64 p.t.b.u, .int .i64 p.t.b.v, .int .i64 p.t.c.x, .int .i64 p.t.c.y, .int .i64 p.t.c.d, .int .i64 p.t.c.u, .int .i64 p.t.c.v] agg87 H15.out ?_)
      refine KX.out.mono ?_
      rintro e u1 ⟨rfl, bel⟩
      clear KX H15
      replace BP_ := mB BP_ bel
      replace HB := mT HB bel
      clear bel
      go_upto_region 5 with fail
      obtain ⟨u2, x10, hz, hx', BQ_, bA⟩ := laidB u1 86 #[.int .i64 0, .int .i64 0, .int .i64 0, .int .i64 0, .int .i64 0]
      rw [← hz.out, ← hx'.out]
      replace BP_ := mB BP_ bA
      replace HB := mT HB bA
      clear hz hx' bA
      have hb6 := HN6.out
      go_wp2
      go_roundw
      case rel => exact ⟨k + 1, by omega, by go_num, HSK.out k p _ HPK.out HF.out (HKEEP.out _ _ _ HB.out HRK.out)⟩
      case measure => simp [intOf]; omega
    have HF := Lib.hid hcov
    have hat : p.t.atv x y = .tuple #[.agg #[.int .i64 ((p.t.at x y).x), .int .i64 ((p.t.at x y).y), .int .i64 ((p.t.at x y).d), .int .i64 ((p.t.at x y).u), .int .i64 ((p.t.at x y).v)], .int .i64 0] := by unfold T3.atv; rw [hcov]; rfl
    have KX := Lib.hid (at_ok p.t x y POK.out.1 POK.out.2.1 HPX.out u0)
    rw [hat] at KX
    clear hat
    have DB := Lib.hid (at_d_bd POK.out.1 POK.out.2.1 HPX.out hcov)
    clear hcov
    go_wp2_with (refine wpList_loadL rfl 87 _ rfl (x9) (0) rfl #[.int .i64 p.t.a.x, .int .i64 p.t.a.y, .int .i64 p.t.a.d, .int .i64 p.t.a.u, .int .i64 p.t.a.v, .int .i64 p.t.b.x, .int .i64 p.t.b.y, .int .i64 p.t.b.d, .int .i64 p.t.b.u, .int .i64 p.t.b.v, .int .i64 p.t.c.x, .int .i64 p.t.c.y, .int .i64 p.t.c.d, .int .i64 p.t.c.u, .int .i64 p.t.c.v] agg87 H15.out ?_)
    refine KX.out.mono ?_
    rintro e u1 ⟨rfl, bel⟩
    clear KX H15
    replace BP_ := mB BP_ bel
    replace HB := mT HB bel
    clear bel
    go_upto_region 5 with fail
    obtain ⟨u2, x10, hz, hx', BQ_, bA⟩ := laidB u1 86 #[.int .i64 ((p.t.at x y).x), .int .i64 ((p.t.at x y).y), .int .i64 ((p.t.at x y).d), .int .i64 ((p.t.at x y).u), .int .i64 ((p.t.at x y).v)]
    rw [← hz.out, ← hx'.out]
    replace BP_ := mB BP_ bA
    replace HB := mT HB bA
    clear hz hx' bA
    have H6 := Lib.hid (show ∀ e u, (#[.int .i64 p.D, .int .i64 p.i, .int .i64 p.k, .int .i64 p.j, .int .i64 0, .int .i64 0] : Array Value).toList[e]? = some u → u2.cell? ⟨x9, 15 + e, none⟩ = some u from fun e u he => BP_.out.atl (L := p.cells) rfl (15 + e) u (Pt.post (p := p) he))
    go_upto_region 7 with (first | (refine wpList_loadL rfl 54 _ rfl (x9) (15) rfl #[.int .i64 p.D, .int .i64 p.i, .int .i64 p.k, .int .i64 p.j, .int .i64 0, .int .i64 0] agg54 H6.out ?_) | (refine wpList_storeN rfl 54 _ _ rfl #[.int .i64 0, .int .i64 0, .int .i64 0, .int .i64 0, .int .i64 0, .int .i64 0] #[.int .i64 p.D, .int .i64 p.i, .int .i64 p.k, .int .i64 p.j, .int .i64 0, .int .i64 0] rfl rfl (by kernel_rfl) rfl (by simp [Value.oneCell']) ?_))
    have LF := Lib.hid (show (x9 < u2.heap.size ∧ x10 < u2.heap.size) from ⟨BP_.out.lt, BQ_.out.lt⟩)
    have LW := Lib.hid (show wr.heap.size ≤ u2.heap.size from HB.out.size)
    obtain ⟨u3, x12, hz, hx', BF, bA⟩ := laidB u2 54 #[.int .i64 p.D, .int .i64 p.i, .int .i64 p.k, .int .i64 p.j, .int .i64 0, .int .i64 0]
    rw [← hz.out, ← hx'.out]
    rw [← hx'.out] at LF LW
    replace BP_ := mB BP_ bA
    replace BQ_ := mB BQ_ bA
    replace HB := mT HB bA
    clear hz hx' bA
    clear H6
    have hd := DB.out
    have hD := POK.out.2.2
    have wD : IntKind.i64.wrap (p.D + (p.t.at x y).d) = p.D + (p.t.at x y).d := IntWalk.i64_in _ (by omega)
    clear hd hD
    have bf_ := BF.out.f6
    have bq__ := BQ_.out.c5
    go_upto_region 8 with fail
    clear bf_
    clear bq__
    clear wD
    have qBP_ := BP_.out.far (p := ⟨x12, 0, none⟩) (by have := LF.out; first | omega | (simp; done) | (simp; omega)) (.int .i64 ((p.D + (p.t.at x y).d)))
    have qBQ_ := BQ_.out.far (p := ⟨x12, 0, none⟩) (by have := LF.out; first | omega | (simp; done) | (simp; omega)) (.int .i64 ((p.D + (p.t.at x y).d)))
    have qBF : HasBlk (u3.setCell ⟨x12, 0, none⟩ (.int .i64 ((p.D + (p.t.at x y).d)))) x12 54 #[.int .i64 ((p.D + (p.t.at x y).d)), .int .i64 p.i, .int .i64 p.k, .int .i64 p.j, .int .i64 0, .int .i64 0] := by simpa using BF.out.set 0 (.int .i64 ((p.D + (p.t.at x y).d)))
    have qHB := Below.setCell (p := ⟨x12, 0, none⟩) HB.out (by show wr.heap.size ≤ x12; have := LW.out; omega) (.int .i64 ((p.D + (p.t.at x y).d)))
    clear BP_ BQ_ BF HB
    have BP_ := Lib.hid qBP_
    have BQ_ := Lib.hid qBQ_
    have BF := Lib.hid qBF
    have HB := Lib.hid qHB
    clear qBP_ qBQ_ qBF qHB
    generalize (u3.setCell ⟨x12, 0, none⟩ (.int .i64 ((p.D + (p.t.at x y).d)))) = u4 at *
    clear BP_
    have bd := (Below.refl u4.heap.size u4).drew
    replace BQ_ := mB BQ_ bd
    replace BF := mB BF bd
    replace HB := mT HB bd
    clear bd
    obtain ⟨SS, hSS⟩ : ∃ SS : World → Prop, SS = (fun Wo => HasBlk Wo x10 86 #[.int .i64 ((p.t.at x y).x), .int .i64 ((p.t.at x y).y), .int .i64 ((p.t.at x y).d), .int .i64 ((p.t.at x y).u), .int .i64 ((p.t.at x y).v)]) := ⟨_, rfl⟩
    have HSS := Lib.hid hSS
    clear hSS
    have HS := Lib.hid (show SS u4.drew by rw [HSS.out]; exact BQ_.out)
    refine wp_region_E SS 99 (by kernel_rfl) ?_
    generalize gwd : u4.drew = z0 at *
    clear gwd
    refine wpAnyE_takeA (i := 0) (v := .pointer (some ⟨x10, 3, none⟩)) rfl (by kernel_rfl) (fun _ _ _ h => h) (.inl ⟨by first | kernel_rfl | rfl, fun W hW => by go_simp⟩) HS.out ?_
    simp only [Act.put, List.setIfInBounds_toArray]
    refine wpAnyE_takeA (i := 1) (v := .int .i64 ((p.t.at x y).u)) rfl (by kernel_rfl) (fun _ _ _ h => h) (.inl ⟨by first | kernel_rfl | rfl, fun W hW => ?_⟩) HS.out ?_
    · rw [HSS.out] at hW
      have hWBQ_ := hW
      have qBQ_0 := hWBQ_.cell 0
      have qBQ_1 := hWBQ_.cell 1
      have qBQ_2 := hWBQ_.cell 2
      have qBQ_3 := hWBQ_.cell 3
      have qBQ_4 := hWBQ_.cell 4
      have qzBQ_ := hWBQ_.lt
      simp at qBQ_0 qBQ_1 qBQ_2 qBQ_3 qBQ_4
      go_simp
    simp only [Act.put]
    refine wpAnyE_takeA (i := 2) (v := .pointer (some ⟨x10, 4, none⟩)) rfl (by kernel_rfl) (fun _ _ _ h => h) (.inl ⟨by first | kernel_rfl | rfl, fun W hW => by go_simp⟩) HS.out ?_
    simp only [Act.put]
    refine wpAnyE_takeA (i := 3) (v := .int .i64 ((p.t.at x y).v)) rfl (by kernel_rfl) (fun _ _ _ h => h) (.inl ⟨by first | kernel_rfl | rfl, fun W hW => ?_⟩) HS.out ?_
    · rw [HSS.out] at hW
      have hWBQ_ := hW
      have qBQ_0 := hWBQ_.cell 0
      have qBQ_1 := hWBQ_.cell 1
      have qBQ_2 := hWBQ_.cell 2
      have qBQ_3 := hWBQ_.cell 3
      have qBQ_4 := hWBQ_.cell 4
      have qzBQ_ := hWBQ_.lt
      simp at qBQ_0 qBQ_1 qBQ_2 qBQ_3 qBQ_4
      go_simp
    simp only [Act.put]
    refine wpAnyE_takeA (i := 4) (v := .pointer (some ⟨x12, 4, none⟩)) rfl (by kernel_rfl) (fun _ _ _ h => h) (.inl ⟨by first | kernel_rfl | rfl, fun W hW => by go_simp⟩) HS.out ?_
    simp only [Act.put]
    refine wpAnyE_step (i := 5) rfl (by kernel_rfl) (fun KQ HK => ?_)
    have bf_ := BF.out.f6
    go_wp2
    clear bf_
    have qBQ_ := BQ_.out.far (p := ⟨x12, 4, none⟩) (by have := LF.out; first | omega | (simp; done) | (simp; omega)) (.int .i64 ((p.t.at x y).u))
    have qBF : HasBlk (z0.setCell ⟨x12, 4, none⟩ (.int .i64 ((p.t.at x y).u))) x12 54 #[.int .i64 ((p.D + (p.t.at x y).d)), .int .i64 p.i, .int .i64 p.k, .int .i64 p.j, .int .i64 ((p.t.at x y).u), .int .i64 0] := by simpa using BF.out.set 4 (.int .i64 ((p.t.at x y).u))
    have qHB := Below.setCell (p := ⟨x12, 4, none⟩) HB.out (by show wr.heap.size ≤ x12; have := LW.out; omega) (.int .i64 ((p.t.at x y).u))
    clear BQ_ BF HB HS
    have BQ_ := Lib.hid qBQ_
    have BF := Lib.hid qBF
    have HB := Lib.hid qHB
    clear qBQ_ qBF qHB
    have HS := Lib.hid (show SS (z0.setCell ⟨x12, 4, none⟩ (.int .i64 ((p.t.at x y).u))) by rw [HSS.out]; exact BQ_.out)
    refine HK _ _ (fun _ => HS.out) ?_
    clear HK
    generalize (z0.setCell ⟨x12, 4, none⟩ (.int .i64 ((p.t.at x y).u))) = z1 at *
    refine wpAnyE_takeA (i := 6) (v := .pointer (some ⟨x12, 5, none⟩)) rfl (by kernel_rfl) (fun _ _ _ h => h) (.inl ⟨by first | kernel_rfl | rfl, fun W hW => by go_simp⟩) HS.out ?_
    simp only [Act.put, List.setIfInBounds_toArray]
    refine wpAnyE_step (i := 7) rfl (by kernel_rfl) (fun KQ HK => ?_)
    have bf_ := BF.out.f6
    go_wp2
    clear bf_
    have qBQ_ := BQ_.out.far (p := ⟨x12, 5, none⟩) (by have := LF.out; first | omega | (simp; done) | (simp; omega)) (.int .i64 ((p.t.at x y).v))
    have qBF : HasBlk (z1.setCell ⟨x12, 5, none⟩ (.int .i64 ((p.t.at x y).v))) x12 54 #[.int .i64 ((p.D + (p.t.at x y).d)), .int .i64 p.i, .int .i64 p.k, .int .i64 p.j, .int .i64 ((p.t.at x y).u), .int .i64 ((p.t.at x y).v)] := by simpa using BF.out.set 5 (.int .i64 ((p.t.at x y).v))
    have qHB := Below.setCell (p := ⟨x12, 5, none⟩) HB.out (by show wr.heap.size ≤ x12; have := LW.out; omega) (.int .i64 ((p.t.at x y).v))
    clear BQ_ BF HB HS
    have BQ_ := Lib.hid qBQ_
    have BF := Lib.hid qBF
    have HB := Lib.hid qHB
    clear qBQ_ qBF qHB
    have HS := Lib.hid (show SS (z1.setCell ⟨x12, 5, none⟩ (.int .i64 ((p.t.at x y).v))) by rw [HSS.out]; exact BQ_.out)
    refine HK _ _ (fun _ => HS.out) ?_
    clear HK
    generalize (z1.setCell ⟨x12, 5, none⟩ (.int .i64 ((p.t.at x y).v))) = z2 at *
    refine wpAnyE_done (by kernel_rfl) ?_
    clear HS
    have KX := Lib.hid (HGO.out k p z2 HPK.out HF.out (HKEEP.out _ _ _ HB.out HRK.out))
    have bf_ := BF.out.c6
    go_wp2_with fail
    refine KX.out.mono ?_
    rintro e w3 ⟨rfl, hR3⟩
    have HR3 := Lib.hid hR3
    clear KX hR3
    clear bf_
    clear BQ_ BF HB
    have hb6 := HN6.out
    go_wp2
    go_roundw
    case rel => exact ⟨k + 1, by omega, by go_num, HR3.out⟩
    case measure => simp [intOf]; omega
end Go.Proofs.YtemopgpcpjnmkaaDoor
