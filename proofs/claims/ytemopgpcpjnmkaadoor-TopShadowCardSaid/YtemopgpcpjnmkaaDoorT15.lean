/- top: what is left of a triangle in front of the near plane. -/
import Derived.Test.YtemopgpcpjnmkaaDoorT14
namespace Go.Proofs.YtemopgpcpjnmkaaDoor
open Go.RowKit
set_option linter.unusedVariables false
def P5.cells (a : P5) : List Value := [.int .i64 a.p.x, .int .i64 a.p.y, .int .i64 a.p.z, .int .i64 a.u, .int .i64 a.v]
/-- Three corners in view. -/
structure Q3 where
  a : P5
  b : P5
  c : P5
def Q3.cells (t : Q3) : List Value := [.int .i64 t.a.p.x, .int .i64 t.a.p.y, .int .i64 t.a.p.z, .int .i64 t.a.u, .int .i64 t.a.v, .int .i64 t.b.p.x, .int .i64 t.b.p.y, .int .i64 t.b.p.z, .int .i64 t.b.u, .int .i64 t.b.v, .int .i64 t.c.p.x, .int .i64 t.c.p.y, .int .i64 t.c.p.z, .int .i64 t.c.u, .int .i64 t.c.v]
theorem P5.len (a : P5) : a.cells.length = 5 := rfl
theorem Q3.len (a : Q3) : a.cells.length = 15 := rfl
theorem P5.one (a : P5) : ∀ u ∈ a.cells, u.oneCell' = true := by simp [P5.cells, Value.oneCell']
theorem Q3.one (a : Q3) : ∀ u ∈ a.cells, u.oneCell' = true := by simp [Q3.cells, Value.oneCell']
theorem inf153 : Inf Tryd.prog 153 124 5 40 := ⟨by kernel_rfl, by kernel_rfl⟩
theorem inf129 : Inf Tryd.prog 129 125 15 120 := ⟨by kernel_rfl, by kernel_rfl⟩
/-- What a side from a to b gives. -/
def crn (n : Int) (a b : P5) : List P5 := if n ≤ a.p.z then (if n ≤ b.p.z then [a] else [a, P5.cut n b a]) else (if n ≤ b.p.z then [P5.cut n a b] else [])
def crns (n : Int) (a b c : P5) : Nat → List P5
  | 0 => []
  | 1 => [] ++ crn n a b
  | 2 => ([] ++ crn n a b) ++ crn n b c
  | _ => (([] ++ crn n a b) ++ crn n b c) ++ crn n c a
theorem crn_len (n : Int) (a b : P5) : (crn n a b).length ≤ 2 := by unfold crn; split <;> split <;> simp
theorem crns_len (n : Int) (a b c : P5) (k : Nat) : (crns n a b c k).length ≤ 6 := by
  have h1 := crn_len n a b
  have h2 := crn_len n b c
  have h3 := crn_len n c a
  unfold crns
  split <;> simp <;> omega
def P5.zero : P5 := ⟨⟨0, 0, 0⟩, 0, 0⟩
def fan1 (L : List P5) (q : Nat) : Q3 := ⟨L.getD 0 P5.zero, L.getD (q - 1) P5.zero, L.getD q P5.zero⟩
def fanN (L : List P5) (k : Nat) : List Q3 := (List.range k).map fun i => fan1 L (i + 2)
/-- What is left of a triangle. -/
def near (n : Int) (t : Q3) : List Q3 := fanN (crns n t.a t.b t.c 3) ((crns n t.a t.b t.c 3).length - 2)
theorem fanN_succ (L : List P5) (k : Nat) : fanN L (k + 1) = fanN L k ++ [fan1 L (k + 2)] := by unfold fanN; rw [List.range_succ, List.map_append]; rfl
theorem getD_get {L : List P5} {q : Nat} (h : q < L.length) : L[q]? = some (L.getD q P5.zero) := by rw [List.getD_eq_getElem?_getD, List.getElem?_eq_getElem h]; rfl
theorem ix_pt0 (a b c : P5) (W : World) : (Instr.index 125 (.agg #[.int .i64 a.p.x, .int .i64 a.p.y, .int .i64 a.p.z, .int .i64 a.u, .int .i64 a.v, .int .i64 b.p.x, .int .i64 b.p.y, .int .i64 b.p.z, .int .i64 b.u, .int .i64 b.v, .int .i64 c.p.x, .int .i64 c.p.y, .int .i64 c.p.z, .int .i64 c.u, .int .i64 c.v]) (.int .i64 0)).run Tryd.prog W = .ok (.agg #[.int .i64 a.p.x, .int .i64 a.p.y, .int .i64 a.p.z, .int .i64 a.u, .int .i64 a.v]) W := by kernel_rfl
theorem ix_pt1 (a b c : P5) (W : World) : (Instr.index 125 (.agg #[.int .i64 a.p.x, .int .i64 a.p.y, .int .i64 a.p.z, .int .i64 a.u, .int .i64 a.v, .int .i64 b.p.x, .int .i64 b.p.y, .int .i64 b.p.z, .int .i64 b.u, .int .i64 b.v, .int .i64 c.p.x, .int .i64 c.p.y, .int .i64 c.p.z, .int .i64 c.u, .int .i64 c.v]) (.int .i64 1)).run Tryd.prog W = .ok (.agg #[.int .i64 b.p.x, .int .i64 b.p.y, .int .i64 b.p.z, .int .i64 b.u, .int .i64 b.v]) W := by kernel_rfl
theorem ix_pt2 (a b c : P5) (W : World) : (Instr.index 125 (.agg #[.int .i64 a.p.x, .int .i64 a.p.y, .int .i64 a.p.z, .int .i64 a.u, .int .i64 a.v, .int .i64 b.p.x, .int .i64 b.p.y, .int .i64 b.p.z, .int .i64 b.u, .int .i64 b.v, .int .i64 c.p.x, .int .i64 c.p.y, .int .i64 c.p.z, .int .i64 c.u, .int .i64 c.v]) (.int .i64 2)).run Tryd.prog W = .ok (.agg #[.int .i64 c.p.x, .int .i64 c.p.y, .int .i64 c.p.z, .int .i64 c.u, .int .i64 c.v]) W := by kernel_rfl

set_option maxRecDepth 100000 in
set_option maxHeartbeats 32000000 in
theorem near_ok (n : Int) (a b c : P5) (hn : Wi n 256 4096) (ha : a.Ok) (hb : b.Ok) (hc : c.Ok) (w : World) : Calls Tryd.prog 50 #[.int .i64 n, .agg #[.int .i64 a.p.x, .int .i64 a.p.y, .int .i64 a.p.z, .int .i64 a.u, .int .i64 a.v, .int .i64 b.p.x, .int .i64 b.p.y, .int .i64 b.p.z, .int .i64 b.u, .int .i64 b.v, .int .i64 c.p.x, .int .i64 c.p.y, .int .i64 c.p.z, .int .i64 c.u, .int .i64 c.v]] w fun e w' => ∃ v, e = .returned (.tuple #[v, .int .i64 0]) ∧ OwnL w' w.heap.size 125 15 Q3.cells (near n ⟨a, b, c⟩) v ∧ Below w.heap.size w w' := by
  have HN := Lib.hid hn
  have HA0 := Lib.hid ha
  have HA1 := Lib.hid hb
  have HA2 := Lib.hid hc
  clear hn ha hb hc
  obtain ⟨v0, hv0, BP, HB⟩ := lay1 w 125 #[.int .i64 a.p.x, .int .i64 a.p.y, .int .i64 a.p.z, .int .i64 a.u, .int .i64 a.v, .int .i64 b.p.x, .int .i64 b.p.y, .int .i64 b.p.z, .int .i64 b.u, .int .i64 b.v, .int .i64 c.p.x, .int .i64 c.p.y, .int .i64 c.p.z, .int .i64 c.u, .int .i64 c.v]
  go_enter Tryd.func50, Tryd.ntmps50
  go_upto_region 1 with fail
  rw [← hv0.out]
  clear hv0
  have bp_ := BP.out.c15
  have KX := Lib.hid (asked3 n HN.out w.heap.size 125 a b c HA0.out HA1.out HA2.out v0 BP.out)
  go_wp2_with fail
  refine KX.out.mono ?_
  rintro e v1 ⟨rfl, bel⟩
  clear KX
  clear bp_
  replace BP := mB BP bel
  replace HB := mT HB bel
  clear bel
  have OWN := Lib.hid (OwnL.nil v1 w.heap.size 124 5 P5.cells)
  have bp_ := BP.out.c15
  go_wp2
  clear bp_
  go_loopw [7, 23] (fun s7 s23 wr => RowKit.Hid ((∃ v7, v7 = s7 ∧ s23 = .int .i64 (0 : Nat) ∧ OwnL wr w.heap.size 124 5 P5.cells (crns n a b c 0) v7 ∧ HasBlk wr w.heap.size 125 #[.int .i64 a.p.x, .int .i64 a.p.y, .int .i64 a.p.z, .int .i64 a.u, .int .i64 a.v, .int .i64 b.p.x, .int .i64 b.p.y, .int .i64 b.p.z, .int .i64 b.u, .int .i64 b.v, .int .i64 c.p.x, .int .i64 c.p.y, .int .i64 c.p.z, .int .i64 c.u, .int .i64 c.v] ∧ Below w.heap.size w wr) ∨ ((∃ v7, v7 = s7 ∧ s23 = .int .i64 (1 : Nat) ∧ OwnL wr w.heap.size 124 5 P5.cells (crns n a b c 1) v7 ∧ HasBlk wr w.heap.size 125 #[.int .i64 a.p.x, .int .i64 a.p.y, .int .i64 a.p.z, .int .i64 a.u, .int .i64 a.v, .int .i64 b.p.x, .int .i64 b.p.y, .int .i64 b.p.z, .int .i64 b.u, .int .i64 b.v, .int .i64 c.p.x, .int .i64 c.p.y, .int .i64 c.p.z, .int .i64 c.u, .int .i64 c.v] ∧ Below w.heap.size w wr) ∨ ((∃ v7, v7 = s7 ∧ s23 = .int .i64 (2 : Nat) ∧ OwnL wr w.heap.size 124 5 P5.cells (crns n a b c 2) v7 ∧ HasBlk wr w.heap.size 125 #[.int .i64 a.p.x, .int .i64 a.p.y, .int .i64 a.p.z, .int .i64 a.u, .int .i64 a.v, .int .i64 b.p.x, .int .i64 b.p.y, .int .i64 b.p.z, .int .i64 b.u, .int .i64 b.v, .int .i64 c.p.x, .int .i64 c.p.y, .int .i64 c.p.z, .int .i64 c.u, .int .i64 c.v] ∧ Below w.heap.size w wr) ∨ ((∃ v7, v7 = s7 ∧ s23 = .int .i64 (3 : Nat) ∧ OwnL wr w.heap.size 124 5 P5.cells (crns n a b c 3) v7 ∧ HasBlk wr w.heap.size 125 #[.int .i64 a.p.x, .int .i64 a.p.y, .int .i64 a.p.z, .int .i64 a.u, .int .i64 a.v, .int .i64 b.p.x, .int .i64 b.p.y, .int .i64 b.p.z, .int .i64 b.u, .int .i64 b.v, .int .i64 c.p.x, .int .i64 c.p.y, .int .i64 c.p.z, .int .i64 c.u, .int .i64 c.v] ∧ Below w.heap.size w wr)))))) (fun s7 s23 wr => 3 - (intOf s23).toNat)
  case atStart => exact Lib.hid (.inl ⟨_, rfl, rfl, OWN.out, BP.out, HB.out⟩)
  case round =>
    clear BP HB OWN
    rcases hrel.out with ⟨v7, rfl, rfl, qO, qBP, qHB⟩ | ⟨v7, rfl, rfl, qO, qBP, qHB⟩ | ⟨v7, rfl, rfl, qO, qBP, qHB⟩ | ⟨v7, rfl, rfl, qO, qBP, qHB⟩
    · have BP := Lib.hid qBP
      have HB := Lib.hid qHB
      clear qBP qHB
      have OWN := Lib.hid qO
      clear qO
      have hx := ix_pt0 a b c
      have hlen := crns_len n a b c 0
      generalize hL : crns n a b c 0 = L at OWN hlen
      have HL := Lib.hid hL
      clear hL
      go_upto_region 8 with fail
      have NA := Lib.hid (show Value.ownBlock v7 ≠ some wr.heap.size from fun hh => absurd (OWN.out.lt _ hh).2 (Nat.lt_irrefl _))
      have LA := Lib.hid (show w.heap.size < wr.heap.size from BP.out.lt)
      obtain ⟨u0, xa, hz, hx', SA, bA⟩ := laidB wr 124 #[.int .i64 a.p.x, .int .i64 a.p.y, .int .i64 a.p.z, .int .i64 a.u, .int .i64 a.v]
      rw [← hz.out, ← hx'.out]
      rw [← hx'.out] at NA LA
      replace BP := mB BP bA
      replace OWN := Lib.hid (OWN.out.below bA)
      replace HB := mT HB bA
      clear hz hx' bA
      clear hx
      have bp_ := BP.out.c15
      go_upto_region 9 with fail
      clear bp_
      have NB := Lib.hid (show Value.ownBlock v7 ≠ some u0.heap.size from fun hh => absurd (OWN.out.lt _ hh).2 (Nat.lt_irrefl _))
      have LB := Lib.hid (show xa < u0.heap.size from SA.out.lt)
      obtain ⟨u1, xb, hz, hx', SB, bA⟩ := laidB u0 124 #[.int .i64 b.p.x, .int .i64 b.p.y, .int .i64 b.p.z, .int .i64 b.u, .int .i64 b.v]
      rw [← hz.out, ← hx'.out]
      rw [← hx'.out] at NB LB
      replace BP := mB BP bA
      replace SA := mB SA bA
      replace OWN := Lib.hid (OWN.out.below bA)
      replace HB := mT HB bA
      clear hz hx' bA
      by_cases hia : n ≤ a.p.z
      · have g1 : decide (n ≤ a.p.z) = true := by simp [hia]
        have Hia := Lib.hid hia
        clear hia
        by_cases hib : n ≤ b.p.z
        · have g2 : decide (n ≤ b.p.z) = true := by simp [hib]
          have Hib := Lib.hid hib
          clear hib
          have e0 := fun pb : BW u1 => BW.cell (SA.out.at 2 rfl) SA.out.lt pb
          have e1 := fun pb : BW u1 => BW.cell (SB.out.at 2 rfl) SB.out.lt pb
          refine wp_region_quiet_bw (by kernel_rfl) (by kernel_rfl) ?_
          repeat (go_big_quiet_step (fail))
          refine wpQuiet_nil ?_
          intro _ hw'
          obtain ⟨pq, hw''⟩ := hw'
          subst hw''
          clear e0 e1
          replace BP := mB BP pq.h
          replace SA := mB SA pq.h
          replace SB := mB SB pq.h
          replace OWN := Lib.hid (OWN.out.below pq.h)
          replace HB := mT HB pq.h
          generalize pq.W = u2 at *
          clear pq
          have hlen2 : L.length ≤ 1000000 := by omega
          have sa_ := SA.out.c5
          go_upto_region 12 with (at_builtin; refine wpList_appL rfl (.tmp 43) (.tmp 45) 153 rfl (w.heap.size) inf153 (by decide) (by decide) P5.cells P5.len P5.one (L) _ rfl (OWN.out.alloc _) (a) _ 1 rfl _ (hasBlk_new _ _ _) rfl (by first | assumption | omega) (by have := HB.out.size; simp; omega) ?_; intro v9 u3 ho hgr hnb)
          clear sa_
          have qHB := (OWN.out.alloc (.cells #[.int .i64 a.p.x, .int .i64 a.p.y, .int .i64 a.p.z, .int .i64 a.u, .int .i64 a.v] 124)).bel (HB.out.alloc HB.out.size (.cells #[.int .i64 a.p.x, .int .i64 a.p.y, .int .i64 a.p.z, .int .i64 a.u, .int .i64 a.v] 124)) hgr (Nat.le_refl _) (by have := HB.out.size; simp; omega)
          have qBP := (BP.out.alloc (.cells #[.int .i64 a.p.x, .int .i64 a.p.y, .int .i64 a.p.z, .int .i64 a.u, .int .i64 a.v] 124)).grown hgr (OWN.out.ne BP.out (by decide))
          have qSA := (SA.out.alloc (.cells #[.int .i64 a.p.x, .int .i64 a.p.y, .int .i64 a.p.z, .int .i64 a.u, .int .i64 a.v] 124)).grown hgr (NA.out)
          have qSB := (SB.out.alloc (.cells #[.int .i64 a.p.x, .int .i64 a.p.y, .int .i64 a.p.z, .int .i64 a.u, .int .i64 a.v] 124)).grown hgr (NB.out)
          have ltBP := BP.out.lt
          have ltSA := SA.out.lt
          have ltSB := SB.out.lt
          clear BP SA SB OWN HB hgr
          have OWN := Lib.hid ho
          have HB := Lib.hid qHB
          have BP := Lib.hid qBP
          have SA := Lib.hid qSA
          have SB := Lib.hid qSB
          clear ho qHB qBP qSA qSB
          have NA2 := Lib.hid (hnb xa (by simp; omega) NA.out)
          have NB2 := Lib.hid (hnb xb (by simp; omega) NB.out)
          clear NA NB hnb hlen2 ltBP ltSA ltSB
          clear SA SB
          go_wp2
          have ow := OWN.out
          have hA : n ≤ a.p.z := by have := Hia.out; omega
          have hB : n ≤ b.p.z := by have := Hib.out; omega
          rw [show (L ++ [a]) = crns n a b c 1 by rw [show crns n a b c 1 = crns n a b c 0 ++ crn n a b from rfl, ← HL.out]; simp [crn, hA, hB]] at ow
          go_roundw
          case rel => exact Lib.hid (.inr ((.inl ⟨_, rfl, by go_num, ow, BP.out, HB.out⟩)))
          case measure => simp [intOf]
        · have g2 : decide (n ≤ b.p.z) = false := by simp [hib]
          have Hib := Lib.hid hib
          clear hib
          have e0 := fun pb : BW u1 => BW.cell (SA.out.at 2 rfl) SA.out.lt pb
          have e1 := fun pb : BW u1 => BW.cell (SB.out.at 2 rfl) SB.out.lt pb
          refine wp_region_quiet_bw (by kernel_rfl) (by kernel_rfl) ?_
          repeat (go_big_quiet_step (fail))
          refine wpQuiet_nil ?_
          intro _ hw'
          obtain ⟨pq, hw''⟩ := hw'
          subst hw''
          clear e0 e1
          replace BP := mB BP pq.h
          replace SA := mB SA pq.h
          replace SB := mB SB pq.h
          replace OWN := Lib.hid (OWN.out.below pq.h)
          replace HB := mT HB pq.h
          generalize pq.W = u2 at *
          clear pq
          have hlen2 : L.length ≤ 1000000 := by omega
          have sa_ := SA.out.c5
          go_upto_region 12 with (at_builtin; refine wpList_appL rfl (.tmp 43) (.tmp 45) 153 rfl (w.heap.size) inf153 (by decide) (by decide) P5.cells P5.len P5.one (L) _ rfl (OWN.out.alloc _) (a) _ 1 rfl _ (hasBlk_new _ _ _) rfl (by first | assumption | omega) (by have := HB.out.size; simp; omega) ?_; intro v9 u3 ho hgr hnb)
          clear sa_
          have qHB := (OWN.out.alloc (.cells #[.int .i64 a.p.x, .int .i64 a.p.y, .int .i64 a.p.z, .int .i64 a.u, .int .i64 a.v] 124)).bel (HB.out.alloc HB.out.size (.cells #[.int .i64 a.p.x, .int .i64 a.p.y, .int .i64 a.p.z, .int .i64 a.u, .int .i64 a.v] 124)) hgr (Nat.le_refl _) (by have := HB.out.size; simp; omega)
          have qBP := (BP.out.alloc (.cells #[.int .i64 a.p.x, .int .i64 a.p.y, .int .i64 a.p.z, .int .i64 a.u, .int .i64 a.v] 124)).grown hgr (OWN.out.ne BP.out (by decide))
          have qSA := (SA.out.alloc (.cells #[.int .i64 a.p.x, .int .i64 a.p.y, .int .i64 a.p.z, .int .i64 a.u, .int .i64 a.v] 124)).grown hgr (NA.out)
          have qSB := (SB.out.alloc (.cells #[.int .i64 a.p.x, .int .i64 a.p.y, .int .i64 a.p.z, .int .i64 a.u, .int .i64 a.v] 124)).grown hgr (NB.out)
          have ltBP := BP.out.lt
          have ltSA := SA.out.lt
          have ltSB := SB.out.lt
          clear BP SA SB OWN HB hgr
          have OWN := Lib.hid ho
          have HB := Lib.hid qHB
          have BP := Lib.hid qBP
          have SA := Lib.hid qSA
          have SB := Lib.hid qSB
          clear ho qHB qBP qSA qSB
          have NA2 := Lib.hid (hnb xa (by simp; omega) NA.out)
          have NB2 := Lib.hid (hnb xb (by simp; omega) NB.out)
          clear NA NB hnb hlen2 ltBP ltSA ltSB
          have na : ¬ xa = xb := by have := LB.out; omega
          have nb : ¬ xb = xa := by have := LB.out; omega
          have sa_ := SA.out.f5
          have sb_ := SB.out.f5
          go_upto_region 15 with fail
          clear sa_
          clear sb_
          clear nb
          have np : w.heap.size < xa ∧ w.heap.size < xb := by have := LA.out; have := LB.out; omega
          have NA2' := NA2.out
          have NB2' := NB2.out
          have qSA : HasBlk ((((((((((u3.setCell ⟨xa, 0, none⟩ (.int .i64 b.p.x)).setCell ⟨xa, 1, none⟩ (.int .i64 b.p.y)).setCell ⟨xa, 2, none⟩ (.int .i64 b.p.z)).setCell ⟨xa, 3, none⟩ (.int .i64 b.u)).setCell ⟨xa, 4, none⟩ (.int .i64 b.v)).setCell ⟨xb, 0, none⟩ (.int .i64 a.p.x)).setCell ⟨xb, 1, none⟩ (.int .i64 a.p.y)).setCell ⟨xb, 2, none⟩ (.int .i64 a.p.z)).setCell ⟨xb, 3, none⟩ (.int .i64 a.u)).setCell ⟨xb, 4, none⟩ (.int .i64 a.v)) xa 124 #[.int .i64 b.p.x, .int .i64 b.p.y, .int .i64 b.p.z, .int .i64 b.u, .int .i64 b.v] := by simpa using ((((((((((SA.out.set 0 (.int .i64 b.p.x)).set 1 (.int .i64 b.p.y)).set 2 (.int .i64 b.p.z)).set 3 (.int .i64 b.u)).set 4 (.int .i64 b.v)).far (p := ⟨xb, 0, none⟩) (by first | omega | (simp; omega)) (.int .i64 a.p.x)).far (p := ⟨xb, 1, none⟩) (by first | omega | (simp; omega)) (.int .i64 a.p.y)).far (p := ⟨xb, 2, none⟩) (by first | omega | (simp; omega)) (.int .i64 a.p.z)).far (p := ⟨xb, 3, none⟩) (by first | omega | (simp; omega)) (.int .i64 a.u)).far (p := ⟨xb, 4, none⟩) (by first | omega | (simp; omega)) (.int .i64 a.v))
          have qSB : HasBlk ((((((((((u3.setCell ⟨xa, 0, none⟩ (.int .i64 b.p.x)).setCell ⟨xa, 1, none⟩ (.int .i64 b.p.y)).setCell ⟨xa, 2, none⟩ (.int .i64 b.p.z)).setCell ⟨xa, 3, none⟩ (.int .i64 b.u)).setCell ⟨xa, 4, none⟩ (.int .i64 b.v)).setCell ⟨xb, 0, none⟩ (.int .i64 a.p.x)).setCell ⟨xb, 1, none⟩ (.int .i64 a.p.y)).setCell ⟨xb, 2, none⟩ (.int .i64 a.p.z)).setCell ⟨xb, 3, none⟩ (.int .i64 a.u)).setCell ⟨xb, 4, none⟩ (.int .i64 a.v)) xb 124 #[.int .i64 a.p.x, .int .i64 a.p.y, .int .i64 a.p.z, .int .i64 a.u, .int .i64 a.v] := by simpa using ((((((((((SB.out.far (p := ⟨xa, 0, none⟩) (by first | omega | (simp; omega)) (.int .i64 b.p.x)).far (p := ⟨xa, 1, none⟩) (by first | omega | (simp; omega)) (.int .i64 b.p.y)).far (p := ⟨xa, 2, none⟩) (by first | omega | (simp; omega)) (.int .i64 b.p.z)).far (p := ⟨xa, 3, none⟩) (by first | omega | (simp; omega)) (.int .i64 b.u)).far (p := ⟨xa, 4, none⟩) (by first | omega | (simp; omega)) (.int .i64 b.v)).set 0 (.int .i64 a.p.x)).set 1 (.int .i64 a.p.y)).set 2 (.int .i64 a.p.z)).set 3 (.int .i64 a.u)).set 4 (.int .i64 a.v))
          have qBP : HasBlk ((((((((((u3.setCell ⟨xa, 0, none⟩ (.int .i64 b.p.x)).setCell ⟨xa, 1, none⟩ (.int .i64 b.p.y)).setCell ⟨xa, 2, none⟩ (.int .i64 b.p.z)).setCell ⟨xa, 3, none⟩ (.int .i64 b.u)).setCell ⟨xa, 4, none⟩ (.int .i64 b.v)).setCell ⟨xb, 0, none⟩ (.int .i64 a.p.x)).setCell ⟨xb, 1, none⟩ (.int .i64 a.p.y)).setCell ⟨xb, 2, none⟩ (.int .i64 a.p.z)).setCell ⟨xb, 3, none⟩ (.int .i64 a.u)).setCell ⟨xb, 4, none⟩ (.int .i64 a.v)) w.heap.size 125 #[.int .i64 a.p.x, .int .i64 a.p.y, .int .i64 a.p.z, .int .i64 a.u, .int .i64 a.v, .int .i64 b.p.x, .int .i64 b.p.y, .int .i64 b.p.z, .int .i64 b.u, .int .i64 b.v, .int .i64 c.p.x, .int .i64 c.p.y, .int .i64 c.p.z, .int .i64 c.u, .int .i64 c.v] := ((((((((((BP.out.far (p := ⟨xa, 0, none⟩) (by first | omega | (simp; omega)) (.int .i64 b.p.x)).far (p := ⟨xa, 1, none⟩) (by first | omega | (simp; omega)) (.int .i64 b.p.y)).far (p := ⟨xa, 2, none⟩) (by first | omega | (simp; omega)) (.int .i64 b.p.z)).far (p := ⟨xa, 3, none⟩) (by first | omega | (simp; omega)) (.int .i64 b.u)).far (p := ⟨xa, 4, none⟩) (by first | omega | (simp; omega)) (.int .i64 b.v)).far (p := ⟨xb, 0, none⟩) (by first | omega | (simp; omega)) (.int .i64 a.p.x)).far (p := ⟨xb, 1, none⟩) (by first | omega | (simp; omega)) (.int .i64 a.p.y)).far (p := ⟨xb, 2, none⟩) (by first | omega | (simp; omega)) (.int .i64 a.p.z)).far (p := ⟨xb, 3, none⟩) (by first | omega | (simp; omega)) (.int .i64 a.u)).far (p := ⟨xb, 4, none⟩) (by first | omega | (simp; omega)) (.int .i64 a.v))
          have qO := ((((((((((OWN.out.far (p := ⟨xa, 0, none⟩) NA2' (.int .i64 b.p.x)).far (p := ⟨xa, 1, none⟩) NA2' (.int .i64 b.p.y)).far (p := ⟨xa, 2, none⟩) NA2' (.int .i64 b.p.z)).far (p := ⟨xa, 3, none⟩) NA2' (.int .i64 b.u)).far (p := ⟨xa, 4, none⟩) NA2' (.int .i64 b.v)).far (p := ⟨xb, 0, none⟩) NB2' (.int .i64 a.p.x)).far (p := ⟨xb, 1, none⟩) NB2' (.int .i64 a.p.y)).far (p := ⟨xb, 2, none⟩) NB2' (.int .i64 a.p.z)).far (p := ⟨xb, 3, none⟩) NB2' (.int .i64 a.u)).far (p := ⟨xb, 4, none⟩) NB2' (.int .i64 a.v))
          have qHB : Below w.heap.size w ((((((((((u3.setCell ⟨xa, 0, none⟩ (.int .i64 b.p.x)).setCell ⟨xa, 1, none⟩ (.int .i64 b.p.y)).setCell ⟨xa, 2, none⟩ (.int .i64 b.p.z)).setCell ⟨xa, 3, none⟩ (.int .i64 b.u)).setCell ⟨xa, 4, none⟩ (.int .i64 b.v)).setCell ⟨xb, 0, none⟩ (.int .i64 a.p.x)).setCell ⟨xb, 1, none⟩ (.int .i64 a.p.y)).setCell ⟨xb, 2, none⟩ (.int .i64 a.p.z)).setCell ⟨xb, 3, none⟩ (.int .i64 a.u)).setCell ⟨xb, 4, none⟩ (.int .i64 a.v)) := (Below.setCell (p := ⟨xb, 4, none⟩) (Below.setCell (p := ⟨xb, 3, none⟩) (Below.setCell (p := ⟨xb, 2, none⟩) (Below.setCell (p := ⟨xb, 1, none⟩) (Below.setCell (p := ⟨xb, 0, none⟩) (Below.setCell (p := ⟨xa, 4, none⟩) (Below.setCell (p := ⟨xa, 3, none⟩) (Below.setCell (p := ⟨xa, 2, none⟩) (Below.setCell (p := ⟨xa, 1, none⟩) (Below.setCell (p := ⟨xa, 0, none⟩) HB.out (by first | omega | (simp; omega)) (.int .i64 b.p.x)) (by first | omega | (simp; omega)) (.int .i64 b.p.y)) (by first | omega | (simp; omega)) (.int .i64 b.p.z)) (by first | omega | (simp; omega)) (.int .i64 b.u)) (by first | omega | (simp; omega)) (.int .i64 b.v)) (by first | omega | (simp; omega)) (.int .i64 a.p.x)) (by first | omega | (simp; omega)) (.int .i64 a.p.y)) (by first | omega | (simp; omega)) (.int .i64 a.p.z)) (by first | omega | (simp; omega)) (.int .i64 a.u)) (by first | omega | (simp; omega)) (.int .i64 a.v))
          generalize ((((((((((u3.setCell ⟨xa, 0, none⟩ (.int .i64 b.p.x)).setCell ⟨xa, 1, none⟩ (.int .i64 b.p.y)).setCell ⟨xa, 2, none⟩ (.int .i64 b.p.z)).setCell ⟨xa, 3, none⟩ (.int .i64 b.u)).setCell ⟨xa, 4, none⟩ (.int .i64 b.v)).setCell ⟨xb, 0, none⟩ (.int .i64 a.p.x)).setCell ⟨xb, 1, none⟩ (.int .i64 a.p.y)).setCell ⟨xb, 2, none⟩ (.int .i64 a.p.z)).setCell ⟨xb, 3, none⟩ (.int .i64 a.u)).setCell ⟨xb, 4, none⟩ (.int .i64 a.v)) = u4 at *
          clear SA SB BP OWN HB na np NA2' NB2' NA2 NB2
          have SA := Lib.hid qSA
          have SB := Lib.hid qSB
          have BP := Lib.hid qBP
          have OWN := Lib.hid qO
          have HB := Lib.hid qHB
          clear qSA qSB qBP qO qHB
          have sa_ := SA.out.c5
          have sb_ := SB.out.c5
          have KX := Lib.hid (cut_ok n b a HN.out HA1.out HA0.out (by have := Hia.out; have := Hib.out; omega) (by have := Hia.out; have := Hib.out; omega) u4)
          go_wp2_with fail
          refine KX.out.mono ?_
          rintro e ya ⟨rfl, bel⟩
          clear KX
          clear sa_
          clear sb_
          replace BP := mB BP bel
          replace SA := mB SA bel
          replace SB := mB SB bel
          replace OWN := Lib.hid (OWN.out.below bel)
          replace HB := mT HB bel
          clear bel
          clear SA SB
          go_upto_region 16 with fail
          obtain ⟨yb, xc, hz, hx', SC, bA⟩ := laidB ya 124 #[.int .i64 ((P5.cut n b a).p.x), .int .i64 ((P5.cut n b a).p.y), .int .i64 ((P5.cut n b a).p.z), .int .i64 ((P5.cut n b a).u), .int .i64 ((P5.cut n b a).v)]
          rw [← hz.out, ← hx'.out]
          replace BP := mB BP bA
          replace OWN := Lib.hid (OWN.out.below bA)
          replace HB := mT HB bA
          clear hz hx' bA
          have hlen2 : ((L ++ [a])).length ≤ 1000000 := by first | omega | (simp; omega)
          have sc_ := SC.out.c5
          go_upto_region 17 with (at_builtin; refine wpList_appL rfl (.tmp 60) (.tmp 62) 153 rfl (w.heap.size) inf153 (by decide) (by decide) P5.cells P5.len P5.one ((L ++ [a])) _ rfl (OWN.out.alloc _) (P5.cut n b a) _ 1 rfl _ (hasBlk_new _ _ _) rfl (by first | assumption | omega) (by have := HB.out.size; simp; omega) ?_; intro v8 yc ho hgr hnb)
          clear sc_
          have qHB := (OWN.out.alloc (.cells #[.int .i64 ((P5.cut n b a).p.x), .int .i64 ((P5.cut n b a).p.y), .int .i64 ((P5.cut n b a).p.z), .int .i64 ((P5.cut n b a).u), .int .i64 ((P5.cut n b a).v)] 124)).bel (HB.out.alloc HB.out.size (.cells #[.int .i64 ((P5.cut n b a).p.x), .int .i64 ((P5.cut n b a).p.y), .int .i64 ((P5.cut n b a).p.z), .int .i64 ((P5.cut n b a).u), .int .i64 ((P5.cut n b a).v)] 124)) hgr (Nat.le_refl _) (by have := HB.out.size; simp; omega)
          have qBP := (BP.out.alloc (.cells #[.int .i64 ((P5.cut n b a).p.x), .int .i64 ((P5.cut n b a).p.y), .int .i64 ((P5.cut n b a).p.z), .int .i64 ((P5.cut n b a).u), .int .i64 ((P5.cut n b a).v)] 124)).grown hgr (OWN.out.ne BP.out (by decide))
          have ltBP := BP.out.lt
          clear BP SC OWN HB hgr
          have OWN := Lib.hid ho
          have HB := Lib.hid qHB
          have BP := Lib.hid qBP
          clear ho qHB qBP
          go_wp2
          have ow := OWN.out
          have hA : n ≤ a.p.z := by have := Hia.out; omega
          have hB : ¬ n ≤ b.p.z := by have := Hib.out; omega
          rw [show ((L ++ [a]) ++ [P5.cut n b a]) = crns n a b c 1 by rw [show crns n a b c 1 = crns n a b c 0 ++ crn n a b from rfl, ← HL.out]; simp [crn, hA, hB]] at ow
          go_roundw
          case rel => exact Lib.hid (.inr ((.inl ⟨_, rfl, by go_num, ow, BP.out, HB.out⟩)))
          case measure => simp [intOf]
      · have g1 : decide (n ≤ a.p.z) = false := by simp [hia]
        have Hia := Lib.hid hia
        clear hia
        by_cases hib : n ≤ b.p.z
        · have g2 : decide (n ≤ b.p.z) = true := by simp [hib]
          have Hib := Lib.hid hib
          clear hib
          have e0 := fun pb : BW u1 => BW.cell (SA.out.at 2 rfl) SA.out.lt pb
          have e1 := fun pb : BW u1 => BW.cell (SB.out.at 2 rfl) SB.out.lt pb
          refine wp_region_quiet_bw (by kernel_rfl) (by kernel_rfl) ?_
          repeat (go_big_quiet_step (fail))
          refine wpQuiet_nil ?_
          intro _ hw'
          obtain ⟨pq, hw''⟩ := hw'
          subst hw''
          clear e0 e1
          replace BP := mB BP pq.h
          replace SA := mB SA pq.h
          replace SB := mB SB pq.h
          replace OWN := Lib.hid (OWN.out.below pq.h)
          replace HB := mT HB pq.h
          generalize pq.W = u2 at *
          clear pq
          have sa_ := SA.out.c5
          have sb_ := SB.out.c5
          have KX := Lib.hid (cut_ok n a b HN.out HA0.out HA1.out (by have := Hia.out; have := Hib.out; omega) (by have := Hia.out; have := Hib.out; omega) u2)
          go_wp2_with fail
          refine KX.out.mono ?_
          rintro e ya ⟨rfl, bel⟩
          clear KX
          clear sa_
          clear sb_
          replace BP := mB BP bel
          replace SA := mB SA bel
          replace SB := mB SB bel
          replace OWN := Lib.hid (OWN.out.below bel)
          replace HB := mT HB bel
          clear bel
          clear SA SB
          go_upto_region 16 with fail
          obtain ⟨yb, xc, hz, hx', SC, bA⟩ := laidB ya 124 #[.int .i64 ((P5.cut n a b).p.x), .int .i64 ((P5.cut n a b).p.y), .int .i64 ((P5.cut n a b).p.z), .int .i64 ((P5.cut n a b).u), .int .i64 ((P5.cut n a b).v)]
          rw [← hz.out, ← hx'.out]
          replace BP := mB BP bA
          replace OWN := Lib.hid (OWN.out.below bA)
          replace HB := mT HB bA
          clear hz hx' bA
          have hlen2 : (L).length ≤ 1000000 := by first | omega | (simp; omega)
          have sc_ := SC.out.c5
          go_upto_region 17 with (at_builtin; refine wpList_appL rfl (.tmp 60) (.tmp 62) 153 rfl (w.heap.size) inf153 (by decide) (by decide) P5.cells P5.len P5.one (L) _ rfl (OWN.out.alloc _) (P5.cut n a b) _ 1 rfl _ (hasBlk_new _ _ _) rfl (by first | assumption | omega) (by have := HB.out.size; simp; omega) ?_; intro v8 yc ho hgr hnb)
          clear sc_
          have qHB := (OWN.out.alloc (.cells #[.int .i64 ((P5.cut n a b).p.x), .int .i64 ((P5.cut n a b).p.y), .int .i64 ((P5.cut n a b).p.z), .int .i64 ((P5.cut n a b).u), .int .i64 ((P5.cut n a b).v)] 124)).bel (HB.out.alloc HB.out.size (.cells #[.int .i64 ((P5.cut n a b).p.x), .int .i64 ((P5.cut n a b).p.y), .int .i64 ((P5.cut n a b).p.z), .int .i64 ((P5.cut n a b).u), .int .i64 ((P5.cut n a b).v)] 124)) hgr (Nat.le_refl _) (by have := HB.out.size; simp; omega)
          have qBP := (BP.out.alloc (.cells #[.int .i64 ((P5.cut n a b).p.x), .int .i64 ((P5.cut n a b).p.y), .int .i64 ((P5.cut n a b).p.z), .int .i64 ((P5.cut n a b).u), .int .i64 ((P5.cut n a b).v)] 124)).grown hgr (OWN.out.ne BP.out (by decide))
          have ltBP := BP.out.lt
          clear BP SC OWN HB hgr
          have OWN := Lib.hid ho
          have HB := Lib.hid qHB
          have BP := Lib.hid qBP
          clear ho qHB qBP
          go_wp2
          have ow := OWN.out
          have hA : ¬ n ≤ a.p.z := by have := Hia.out; omega
          have hB : n ≤ b.p.z := by have := Hib.out; omega
          rw [show (L ++ [P5.cut n a b]) = crns n a b c 1 by rw [show crns n a b c 1 = crns n a b c 0 ++ crn n a b from rfl, ← HL.out]; simp [crn, hA, hB]] at ow
          go_roundw
          case rel => exact Lib.hid (.inr ((.inl ⟨_, rfl, by go_num, ow, BP.out, HB.out⟩)))
          case measure => simp [intOf]
        · have g2 : decide (n ≤ b.p.z) = false := by simp [hib]
          have Hib := Lib.hid hib
          clear hib
          have e0 := fun pb : BW u1 => BW.cell (SA.out.at 2 rfl) SA.out.lt pb
          have e1 := fun pb : BW u1 => BW.cell (SB.out.at 2 rfl) SB.out.lt pb
          refine wp_region_quiet_bw (by kernel_rfl) (by kernel_rfl) ?_
          repeat (go_big_quiet_step (fail))
          refine wpQuiet_nil ?_
          intro _ hw'
          obtain ⟨pq, hw''⟩ := hw'
          subst hw''
          clear e0 e1
          replace BP := mB BP pq.h
          replace SA := mB SA pq.h
          replace SB := mB SB pq.h
          replace OWN := Lib.hid (OWN.out.below pq.h)
          replace HB := mT HB pq.h
          generalize pq.W = u2 at *
          clear pq
          clear SA SB
          go_wp2
          have ow := OWN.out
          have hA : ¬ n ≤ a.p.z := by have := Hia.out; omega
          have hB : ¬ n ≤ b.p.z := by have := Hib.out; omega
          rw [show L = crns n a b c 1 by rw [show crns n a b c 1 = crns n a b c 0 ++ crn n a b from rfl, ← HL.out]; simp [crn, hA, hB]] at ow
          go_roundw
          case rel => exact Lib.hid (.inr ((.inl ⟨_, rfl, by go_num, ow, BP.out, HB.out⟩)))
          case measure => simp [intOf]
    · have BP := Lib.hid qBP
      have HB := Lib.hid qHB
      clear qBP qHB
      have OWN := Lib.hid qO
      clear qO
      have hx := ix_pt1 a b c
      have hlen := crns_len n a b c 1
      generalize hL : crns n a b c 1 = L at OWN hlen
      have HL := Lib.hid hL
      clear hL
      go_upto_region 8 with fail
      have NA := Lib.hid (show Value.ownBlock v7 ≠ some wr.heap.size from fun hh => absurd (OWN.out.lt _ hh).2 (Nat.lt_irrefl _))
      have LA := Lib.hid (show w.heap.size < wr.heap.size from BP.out.lt)
      obtain ⟨u0, xa, hz, hx', SA, bA⟩ := laidB wr 124 #[.int .i64 b.p.x, .int .i64 b.p.y, .int .i64 b.p.z, .int .i64 b.u, .int .i64 b.v]
      rw [← hz.out, ← hx'.out]
      rw [← hx'.out] at NA LA
      replace BP := mB BP bA
      replace OWN := Lib.hid (OWN.out.below bA)
      replace HB := mT HB bA
      clear hz hx' bA
      clear hx
      have bp_ := BP.out.c15
      go_upto_region 9 with fail
      clear bp_
      have NB := Lib.hid (show Value.ownBlock v7 ≠ some u0.heap.size from fun hh => absurd (OWN.out.lt _ hh).2 (Nat.lt_irrefl _))
      have LB := Lib.hid (show xa < u0.heap.size from SA.out.lt)
      obtain ⟨u1, xb, hz, hx', SB, bA⟩ := laidB u0 124 #[.int .i64 c.p.x, .int .i64 c.p.y, .int .i64 c.p.z, .int .i64 c.u, .int .i64 c.v]
      rw [← hz.out, ← hx'.out]
      rw [← hx'.out] at NB LB
      replace BP := mB BP bA
      replace SA := mB SA bA
      replace OWN := Lib.hid (OWN.out.below bA)
      replace HB := mT HB bA
      clear hz hx' bA
      by_cases hia : n ≤ b.p.z
      · have g1 : decide (n ≤ b.p.z) = true := by simp [hia]
        have Hia := Lib.hid hia
        clear hia
        by_cases hib : n ≤ c.p.z
        · have g2 : decide (n ≤ c.p.z) = true := by simp [hib]
          have Hib := Lib.hid hib
          clear hib
          have e0 := fun pb : BW u1 => BW.cell (SA.out.at 2 rfl) SA.out.lt pb
          have e1 := fun pb : BW u1 => BW.cell (SB.out.at 2 rfl) SB.out.lt pb
          refine wp_region_quiet_bw (by kernel_rfl) (by kernel_rfl) ?_
          repeat (go_big_quiet_step (fail))
          refine wpQuiet_nil ?_
          intro _ hw'
          obtain ⟨pq, hw''⟩ := hw'
          subst hw''
          clear e0 e1
          replace BP := mB BP pq.h
          replace SA := mB SA pq.h
          replace SB := mB SB pq.h
          replace OWN := Lib.hid (OWN.out.below pq.h)
          replace HB := mT HB pq.h
          generalize pq.W = u2 at *
          clear pq
          have hlen2 : L.length ≤ 1000000 := by omega
          have sa_ := SA.out.c5
          go_upto_region 12 with (at_builtin; refine wpList_appL rfl (.tmp 43) (.tmp 45) 153 rfl (w.heap.size) inf153 (by decide) (by decide) P5.cells P5.len P5.one (L) _ rfl (OWN.out.alloc _) (b) _ 1 rfl _ (hasBlk_new _ _ _) rfl (by first | assumption | omega) (by have := HB.out.size; simp; omega) ?_; intro v9 u3 ho hgr hnb)
          clear sa_
          have qHB := (OWN.out.alloc (.cells #[.int .i64 b.p.x, .int .i64 b.p.y, .int .i64 b.p.z, .int .i64 b.u, .int .i64 b.v] 124)).bel (HB.out.alloc HB.out.size (.cells #[.int .i64 b.p.x, .int .i64 b.p.y, .int .i64 b.p.z, .int .i64 b.u, .int .i64 b.v] 124)) hgr (Nat.le_refl _) (by have := HB.out.size; simp; omega)
          have qBP := (BP.out.alloc (.cells #[.int .i64 b.p.x, .int .i64 b.p.y, .int .i64 b.p.z, .int .i64 b.u, .int .i64 b.v] 124)).grown hgr (OWN.out.ne BP.out (by decide))
          have qSA := (SA.out.alloc (.cells #[.int .i64 b.p.x, .int .i64 b.p.y, .int .i64 b.p.z, .int .i64 b.u, .int .i64 b.v] 124)).grown hgr (NA.out)
          have qSB := (SB.out.alloc (.cells #[.int .i64 b.p.x, .int .i64 b.p.y, .int .i64 b.p.z, .int .i64 b.u, .int .i64 b.v] 124)).grown hgr (NB.out)
          have ltBP := BP.out.lt
          have ltSA := SA.out.lt
          have ltSB := SB.out.lt
          clear BP SA SB OWN HB hgr
          have OWN := Lib.hid ho
          have HB := Lib.hid qHB
          have BP := Lib.hid qBP
          have SA := Lib.hid qSA
          have SB := Lib.hid qSB
          clear ho qHB qBP qSA qSB
          have NA2 := Lib.hid (hnb xa (by simp; omega) NA.out)
          have NB2 := Lib.hid (hnb xb (by simp; omega) NB.out)
          clear NA NB hnb hlen2 ltBP ltSA ltSB
          clear SA SB
          go_wp2
          have ow := OWN.out
          have hA : n ≤ b.p.z := by have := Hia.out; omega
          have hB : n ≤ c.p.z := by have := Hib.out; omega
          rw [show (L ++ [b]) = crns n a b c 2 by rw [show crns n a b c 2 = crns n a b c 1 ++ crn n b c from rfl, ← HL.out]; simp [crn, hA, hB]] at ow
          go_roundw
          case rel => exact Lib.hid (.inr (.inr ((.inl ⟨_, rfl, by go_num, ow, BP.out, HB.out⟩))))
          case measure => simp [intOf]
        · have g2 : decide (n ≤ c.p.z) = false := by simp [hib]
          have Hib := Lib.hid hib
          clear hib
          have e0 := fun pb : BW u1 => BW.cell (SA.out.at 2 rfl) SA.out.lt pb
          have e1 := fun pb : BW u1 => BW.cell (SB.out.at 2 rfl) SB.out.lt pb
          refine wp_region_quiet_bw (by kernel_rfl) (by kernel_rfl) ?_
          repeat (go_big_quiet_step (fail))
          refine wpQuiet_nil ?_
          intro _ hw'
          obtain ⟨pq, hw''⟩ := hw'
          subst hw''
          clear e0 e1
          replace BP := mB BP pq.h
          replace SA := mB SA pq.h
          replace SB := mB SB pq.h
          replace OWN := Lib.hid (OWN.out.below pq.h)
          replace HB := mT HB pq.h
          generalize pq.W = u2 at *
          clear pq
          have hlen2 : L.length ≤ 1000000 := by omega
          have sa_ := SA.out.c5
          go_upto_region 12 with (at_builtin; refine wpList_appL rfl (.tmp 43) (.tmp 45) 153 rfl (w.heap.size) inf153 (by decide) (by decide) P5.cells P5.len P5.one (L) _ rfl (OWN.out.alloc _) (b) _ 1 rfl _ (hasBlk_new _ _ _) rfl (by first | assumption | omega) (by have := HB.out.size; simp; omega) ?_; intro v9 u3 ho hgr hnb)
          clear sa_
          have qHB := (OWN.out.alloc (.cells #[.int .i64 b.p.x, .int .i64 b.p.y, .int .i64 b.p.z, .int .i64 b.u, .int .i64 b.v] 124)).bel (HB.out.alloc HB.out.size (.cells #[.int .i64 b.p.x, .int .i64 b.p.y, .int .i64 b.p.z, .int .i64 b.u, .int .i64 b.v] 124)) hgr (Nat.le_refl _) (by have := HB.out.size; simp; omega)
          have qBP := (BP.out.alloc (.cells #[.int .i64 b.p.x, .int .i64 b.p.y, .int .i64 b.p.z, .int .i64 b.u, .int .i64 b.v] 124)).grown hgr (OWN.out.ne BP.out (by decide))
          have qSA := (SA.out.alloc (.cells #[.int .i64 b.p.x, .int .i64 b.p.y, .int .i64 b.p.z, .int .i64 b.u, .int .i64 b.v] 124)).grown hgr (NA.out)
          have qSB := (SB.out.alloc (.cells #[.int .i64 b.p.x, .int .i64 b.p.y, .int .i64 b.p.z, .int .i64 b.u, .int .i64 b.v] 124)).grown hgr (NB.out)
          have ltBP := BP.out.lt
          have ltSA := SA.out.lt
          have ltSB := SB.out.lt
          clear BP SA SB OWN HB hgr
          have OWN := Lib.hid ho
          have HB := Lib.hid qHB
          have BP := Lib.hid qBP
          have SA := Lib.hid qSA
          have SB := Lib.hid qSB
          clear ho qHB qBP qSA qSB
          have NA2 := Lib.hid (hnb xa (by simp; omega) NA.out)
          have NB2 := Lib.hid (hnb xb (by simp; omega) NB.out)
          clear NA NB hnb hlen2 ltBP ltSA ltSB
          have na : ¬ xa = xb := by have := LB.out; omega
          have nb : ¬ xb = xa := by have := LB.out; omega
          have sa_ := SA.out.f5
          have sb_ := SB.out.f5
          go_upto_region 15 with fail
          clear sa_
          clear sb_
          clear nb
          have np : w.heap.size < xa ∧ w.heap.size < xb := by have := LA.out; have := LB.out; omega
          have NA2' := NA2.out
          have NB2' := NB2.out
          have qSA : HasBlk ((((((((((u3.setCell ⟨xa, 0, none⟩ (.int .i64 c.p.x)).setCell ⟨xa, 1, none⟩ (.int .i64 c.p.y)).setCell ⟨xa, 2, none⟩ (.int .i64 c.p.z)).setCell ⟨xa, 3, none⟩ (.int .i64 c.u)).setCell ⟨xa, 4, none⟩ (.int .i64 c.v)).setCell ⟨xb, 0, none⟩ (.int .i64 b.p.x)).setCell ⟨xb, 1, none⟩ (.int .i64 b.p.y)).setCell ⟨xb, 2, none⟩ (.int .i64 b.p.z)).setCell ⟨xb, 3, none⟩ (.int .i64 b.u)).setCell ⟨xb, 4, none⟩ (.int .i64 b.v)) xa 124 #[.int .i64 c.p.x, .int .i64 c.p.y, .int .i64 c.p.z, .int .i64 c.u, .int .i64 c.v] := by simpa using ((((((((((SA.out.set 0 (.int .i64 c.p.x)).set 1 (.int .i64 c.p.y)).set 2 (.int .i64 c.p.z)).set 3 (.int .i64 c.u)).set 4 (.int .i64 c.v)).far (p := ⟨xb, 0, none⟩) (by first | omega | (simp; omega)) (.int .i64 b.p.x)).far (p := ⟨xb, 1, none⟩) (by first | omega | (simp; omega)) (.int .i64 b.p.y)).far (p := ⟨xb, 2, none⟩) (by first | omega | (simp; omega)) (.int .i64 b.p.z)).far (p := ⟨xb, 3, none⟩) (by first | omega | (simp; omega)) (.int .i64 b.u)).far (p := ⟨xb, 4, none⟩) (by first | omega | (simp; omega)) (.int .i64 b.v))
          have qSB : HasBlk ((((((((((u3.setCell ⟨xa, 0, none⟩ (.int .i64 c.p.x)).setCell ⟨xa, 1, none⟩ (.int .i64 c.p.y)).setCell ⟨xa, 2, none⟩ (.int .i64 c.p.z)).setCell ⟨xa, 3, none⟩ (.int .i64 c.u)).setCell ⟨xa, 4, none⟩ (.int .i64 c.v)).setCell ⟨xb, 0, none⟩ (.int .i64 b.p.x)).setCell ⟨xb, 1, none⟩ (.int .i64 b.p.y)).setCell ⟨xb, 2, none⟩ (.int .i64 b.p.z)).setCell ⟨xb, 3, none⟩ (.int .i64 b.u)).setCell ⟨xb, 4, none⟩ (.int .i64 b.v)) xb 124 #[.int .i64 b.p.x, .int .i64 b.p.y, .int .i64 b.p.z, .int .i64 b.u, .int .i64 b.v] := by simpa using ((((((((((SB.out.far (p := ⟨xa, 0, none⟩) (by first | omega | (simp; omega)) (.int .i64 c.p.x)).far (p := ⟨xa, 1, none⟩) (by first | omega | (simp; omega)) (.int .i64 c.p.y)).far (p := ⟨xa, 2, none⟩) (by first | omega | (simp; omega)) (.int .i64 c.p.z)).far (p := ⟨xa, 3, none⟩) (by first | omega | (simp; omega)) (.int .i64 c.u)).far (p := ⟨xa, 4, none⟩) (by first | omega | (simp; omega)) (.int .i64 c.v)).set 0 (.int .i64 b.p.x)).set 1 (.int .i64 b.p.y)).set 2 (.int .i64 b.p.z)).set 3 (.int .i64 b.u)).set 4 (.int .i64 b.v))
          have qBP : HasBlk ((((((((((u3.setCell ⟨xa, 0, none⟩ (.int .i64 c.p.x)).setCell ⟨xa, 1, none⟩ (.int .i64 c.p.y)).setCell ⟨xa, 2, none⟩ (.int .i64 c.p.z)).setCell ⟨xa, 3, none⟩ (.int .i64 c.u)).setCell ⟨xa, 4, none⟩ (.int .i64 c.v)).setCell ⟨xb, 0, none⟩ (.int .i64 b.p.x)).setCell ⟨xb, 1, none⟩ (.int .i64 b.p.y)).setCell ⟨xb, 2, none⟩ (.int .i64 b.p.z)).setCell ⟨xb, 3, none⟩ (.int .i64 b.u)).setCell ⟨xb, 4, none⟩ (.int .i64 b.v)) w.heap.size 125 #[.int .i64 a.p.x, .int .i64 a.p.y, .int .i64 a.p.z, .int .i64 a.u, .int .i64 a.v, .int .i64 b.p.x, .int .i64 b.p.y, .int .i64 b.p.z, .int .i64 b.u, .int .i64 b.v, .int .i64 c.p.x, .int .i64 c.p.y, .int .i64 c.p.z, .int .i64 c.u, .int .i64 c.v] := ((((((((((BP.out.far (p := ⟨xa, 0, none⟩) (by first | omega | (simp; omega)) (.int .i64 c.p.x)).far (p := ⟨xa, 1, none⟩) (by first | omega | (simp; omega)) (.int .i64 c.p.y)).far (p := ⟨xa, 2, none⟩) (by first | omega | (simp; omega)) (.int .i64 c.p.z)).far (p := ⟨xa, 3, none⟩) (by first | omega | (simp; omega)) (.int .i64 c.u)).far (p := ⟨xa, 4, none⟩) (by first | omega | (simp; omega)) (.int .i64 c.v)).far (p := ⟨xb, 0, none⟩) (by first | omega | (simp; omega)) (.int .i64 b.p.x)).far (p := ⟨xb, 1, none⟩) (by first | omega | (simp; omega)) (.int .i64 b.p.y)).far (p := ⟨xb, 2, none⟩) (by first | omega | (simp; omega)) (.int .i64 b.p.z)).far (p := ⟨xb, 3, none⟩) (by first | omega | (simp; omega)) (.int .i64 b.u)).far (p := ⟨xb, 4, none⟩) (by first | omega | (simp; omega)) (.int .i64 b.v))
          have qO := ((((((((((OWN.out.far (p := ⟨xa, 0, none⟩) NA2' (.int .i64 c.p.x)).far (p := ⟨xa, 1, none⟩) NA2' (.int .i64 c.p.y)).far (p := ⟨xa, 2, none⟩) NA2' (.int .i64 c.p.z)).far (p := ⟨xa, 3, none⟩) NA2' (.int .i64 c.u)).far (p := ⟨xa, 4, none⟩) NA2' (.int .i64 c.v)).far (p := ⟨xb, 0, none⟩) NB2' (.int .i64 b.p.x)).far (p := ⟨xb, 1, none⟩) NB2' (.int .i64 b.p.y)).far (p := ⟨xb, 2, none⟩) NB2' (.int .i64 b.p.z)).far (p := ⟨xb, 3, none⟩) NB2' (.int .i64 b.u)).far (p := ⟨xb, 4, none⟩) NB2' (.int .i64 b.v))
          have qHB : Below w.heap.size w ((((((((((u3.setCell ⟨xa, 0, none⟩ (.int .i64 c.p.x)).setCell ⟨xa, 1, none⟩ (.int .i64 c.p.y)).setCell ⟨xa, 2, none⟩ (.int .i64 c.p.z)).setCell ⟨xa, 3, none⟩ (.int .i64 c.u)).setCell ⟨xa, 4, none⟩ (.int .i64 c.v)).setCell ⟨xb, 0, none⟩ (.int .i64 b.p.x)).setCell ⟨xb, 1, none⟩ (.int .i64 b.p.y)).setCell ⟨xb, 2, none⟩ (.int .i64 b.p.z)).setCell ⟨xb, 3, none⟩ (.int .i64 b.u)).setCell ⟨xb, 4, none⟩ (.int .i64 b.v)) := (Below.setCell (p := ⟨xb, 4, none⟩) (Below.setCell (p := ⟨xb, 3, none⟩) (Below.setCell (p := ⟨xb, 2, none⟩) (Below.setCell (p := ⟨xb, 1, none⟩) (Below.setCell (p := ⟨xb, 0, none⟩) (Below.setCell (p := ⟨xa, 4, none⟩) (Below.setCell (p := ⟨xa, 3, none⟩) (Below.setCell (p := ⟨xa, 2, none⟩) (Below.setCell (p := ⟨xa, 1, none⟩) (Below.setCell (p := ⟨xa, 0, none⟩) HB.out (by first | omega | (simp; omega)) (.int .i64 c.p.x)) (by first | omega | (simp; omega)) (.int .i64 c.p.y)) (by first | omega | (simp; omega)) (.int .i64 c.p.z)) (by first | omega | (simp; omega)) (.int .i64 c.u)) (by first | omega | (simp; omega)) (.int .i64 c.v)) (by first | omega | (simp; omega)) (.int .i64 b.p.x)) (by first | omega | (simp; omega)) (.int .i64 b.p.y)) (by first | omega | (simp; omega)) (.int .i64 b.p.z)) (by first | omega | (simp; omega)) (.int .i64 b.u)) (by first | omega | (simp; omega)) (.int .i64 b.v))
          generalize ((((((((((u3.setCell ⟨xa, 0, none⟩ (.int .i64 c.p.x)).setCell ⟨xa, 1, none⟩ (.int .i64 c.p.y)).setCell ⟨xa, 2, none⟩ (.int .i64 c.p.z)).setCell ⟨xa, 3, none⟩ (.int .i64 c.u)).setCell ⟨xa, 4, none⟩ (.int .i64 c.v)).setCell ⟨xb, 0, none⟩ (.int .i64 b.p.x)).setCell ⟨xb, 1, none⟩ (.int .i64 b.p.y)).setCell ⟨xb, 2, none⟩ (.int .i64 b.p.z)).setCell ⟨xb, 3, none⟩ (.int .i64 b.u)).setCell ⟨xb, 4, none⟩ (.int .i64 b.v)) = u4 at *
          clear SA SB BP OWN HB na np NA2' NB2' NA2 NB2
          have SA := Lib.hid qSA
          have SB := Lib.hid qSB
          have BP := Lib.hid qBP
          have OWN := Lib.hid qO
          have HB := Lib.hid qHB
          clear qSA qSB qBP qO qHB
          have sa_ := SA.out.c5
          have sb_ := SB.out.c5
          have KX := Lib.hid (cut_ok n c b HN.out HA2.out HA1.out (by have := Hia.out; have := Hib.out; omega) (by have := Hia.out; have := Hib.out; omega) u4)
          go_wp2_with fail
          refine KX.out.mono ?_
          rintro e ya ⟨rfl, bel⟩
          clear KX
          clear sa_
          clear sb_
          replace BP := mB BP bel
          replace SA := mB SA bel
          replace SB := mB SB bel
          replace OWN := Lib.hid (OWN.out.below bel)
          replace HB := mT HB bel
          clear bel
          clear SA SB
          go_upto_region 16 with fail
          obtain ⟨yb, xc, hz, hx', SC, bA⟩ := laidB ya 124 #[.int .i64 ((P5.cut n c b).p.x), .int .i64 ((P5.cut n c b).p.y), .int .i64 ((P5.cut n c b).p.z), .int .i64 ((P5.cut n c b).u), .int .i64 ((P5.cut n c b).v)]
          rw [← hz.out, ← hx'.out]
          replace BP := mB BP bA
          replace OWN := Lib.hid (OWN.out.below bA)
          replace HB := mT HB bA
          clear hz hx' bA
          have hlen2 : ((L ++ [b])).length ≤ 1000000 := by first | omega | (simp; omega)
          have sc_ := SC.out.c5
          go_upto_region 17 with (at_builtin; refine wpList_appL rfl (.tmp 60) (.tmp 62) 153 rfl (w.heap.size) inf153 (by decide) (by decide) P5.cells P5.len P5.one ((L ++ [b])) _ rfl (OWN.out.alloc _) (P5.cut n c b) _ 1 rfl _ (hasBlk_new _ _ _) rfl (by first | assumption | omega) (by have := HB.out.size; simp; omega) ?_; intro v8 yc ho hgr hnb)
          clear sc_
          have qHB := (OWN.out.alloc (.cells #[.int .i64 ((P5.cut n c b).p.x), .int .i64 ((P5.cut n c b).p.y), .int .i64 ((P5.cut n c b).p.z), .int .i64 ((P5.cut n c b).u), .int .i64 ((P5.cut n c b).v)] 124)).bel (HB.out.alloc HB.out.size (.cells #[.int .i64 ((P5.cut n c b).p.x), .int .i64 ((P5.cut n c b).p.y), .int .i64 ((P5.cut n c b).p.z), .int .i64 ((P5.cut n c b).u), .int .i64 ((P5.cut n c b).v)] 124)) hgr (Nat.le_refl _) (by have := HB.out.size; simp; omega)
          have qBP := (BP.out.alloc (.cells #[.int .i64 ((P5.cut n c b).p.x), .int .i64 ((P5.cut n c b).p.y), .int .i64 ((P5.cut n c b).p.z), .int .i64 ((P5.cut n c b).u), .int .i64 ((P5.cut n c b).v)] 124)).grown hgr (OWN.out.ne BP.out (by decide))
          have ltBP := BP.out.lt
          clear BP SC OWN HB hgr
          have OWN := Lib.hid ho
          have HB := Lib.hid qHB
          have BP := Lib.hid qBP
          clear ho qHB qBP
          go_wp2
          have ow := OWN.out
          have hA : n ≤ b.p.z := by have := Hia.out; omega
          have hB : ¬ n ≤ c.p.z := by have := Hib.out; omega
          rw [show ((L ++ [b]) ++ [P5.cut n c b]) = crns n a b c 2 by rw [show crns n a b c 2 = crns n a b c 1 ++ crn n b c from rfl, ← HL.out]; simp [crn, hA, hB]] at ow
          go_roundw
          case rel => exact Lib.hid (.inr (.inr ((.inl ⟨_, rfl, by go_num, ow, BP.out, HB.out⟩))))
          case measure => simp [intOf]
      · have g1 : decide (n ≤ b.p.z) = false := by simp [hia]
        have Hia := Lib.hid hia
        clear hia
        by_cases hib : n ≤ c.p.z
        · have g2 : decide (n ≤ c.p.z) = true := by simp [hib]
          have Hib := Lib.hid hib
          clear hib
          have e0 := fun pb : BW u1 => BW.cell (SA.out.at 2 rfl) SA.out.lt pb
          have e1 := fun pb : BW u1 => BW.cell (SB.out.at 2 rfl) SB.out.lt pb
          refine wp_region_quiet_bw (by kernel_rfl) (by kernel_rfl) ?_
          repeat (go_big_quiet_step (fail))
          refine wpQuiet_nil ?_
          intro _ hw'
          obtain ⟨pq, hw''⟩ := hw'
          subst hw''
          clear e0 e1
          replace BP := mB BP pq.h
          replace SA := mB SA pq.h
          replace SB := mB SB pq.h
          replace OWN := Lib.hid (OWN.out.below pq.h)
          replace HB := mT HB pq.h
          generalize pq.W = u2 at *
          clear pq
          have sa_ := SA.out.c5
          have sb_ := SB.out.c5
          have KX := Lib.hid (cut_ok n b c HN.out HA1.out HA2.out (by have := Hia.out; have := Hib.out; omega) (by have := Hia.out; have := Hib.out; omega) u2)
          go_wp2_with fail
          refine KX.out.mono ?_
          rintro e ya ⟨rfl, bel⟩
          clear KX
          clear sa_
          clear sb_
          replace BP := mB BP bel
          replace SA := mB SA bel
          replace SB := mB SB bel
          replace OWN := Lib.hid (OWN.out.below bel)
          replace HB := mT HB bel
          clear bel
          clear SA SB
          go_upto_region 16 with fail
          obtain ⟨yb, xc, hz, hx', SC, bA⟩ := laidB ya 124 #[.int .i64 ((P5.cut n b c).p.x), .int .i64 ((P5.cut n b c).p.y), .int .i64 ((P5.cut n b c).p.z), .int .i64 ((P5.cut n b c).u), .int .i64 ((P5.cut n b c).v)]
          rw [← hz.out, ← hx'.out]
          replace BP := mB BP bA
          replace OWN := Lib.hid (OWN.out.below bA)
          replace HB := mT HB bA
          clear hz hx' bA
          have hlen2 : (L).length ≤ 1000000 := by first | omega | (simp; omega)
          have sc_ := SC.out.c5
          go_upto_region 17 with (at_builtin; refine wpList_appL rfl (.tmp 60) (.tmp 62) 153 rfl (w.heap.size) inf153 (by decide) (by decide) P5.cells P5.len P5.one (L) _ rfl (OWN.out.alloc _) (P5.cut n b c) _ 1 rfl _ (hasBlk_new _ _ _) rfl (by first | assumption | omega) (by have := HB.out.size; simp; omega) ?_; intro v8 yc ho hgr hnb)
          clear sc_
          have qHB := (OWN.out.alloc (.cells #[.int .i64 ((P5.cut n b c).p.x), .int .i64 ((P5.cut n b c).p.y), .int .i64 ((P5.cut n b c).p.z), .int .i64 ((P5.cut n b c).u), .int .i64 ((P5.cut n b c).v)] 124)).bel (HB.out.alloc HB.out.size (.cells #[.int .i64 ((P5.cut n b c).p.x), .int .i64 ((P5.cut n b c).p.y), .int .i64 ((P5.cut n b c).p.z), .int .i64 ((P5.cut n b c).u), .int .i64 ((P5.cut n b c).v)] 124)) hgr (Nat.le_refl _) (by have := HB.out.size; simp; omega)
          have qBP := (BP.out.alloc (.cells #[.int .i64 ((P5.cut n b c).p.x), .int .i64 ((P5.cut n b c).p.y), .int .i64 ((P5.cut n b c).p.z), .int .i64 ((P5.cut n b c).u), .int .i64 ((P5.cut n b c).v)] 124)).grown hgr (OWN.out.ne BP.out (by decide))
          have ltBP := BP.out.lt
          clear BP SC OWN HB hgr
          have OWN := Lib.hid ho
          have HB := Lib.hid qHB
          have BP := Lib.hid qBP
          clear ho qHB qBP
          go_wp2
          have ow := OWN.out
          have hA : ¬ n ≤ b.p.z := by have := Hia.out; omega
          have hB : n ≤ c.p.z := by have := Hib.out; omega
          rw [show (L ++ [P5.cut n b c]) = crns n a b c 2 by rw [show crns n a b c 2 = crns n a b c 1 ++ crn n b c from rfl, ← HL.out]; simp [crn, hA, hB]] at ow
          go_roundw
          case rel => exact Lib.hid (.inr (.inr ((.inl ⟨_, rfl, by go_num, ow, BP.out, HB.out⟩))))
          case measure => simp [intOf]
        · have g2 : decide (n ≤ c.p.z) = false := by simp [hib]
          have Hib := Lib.hid hib
          clear hib
          have e0 := fun pb : BW u1 => BW.cell (SA.out.at 2 rfl) SA.out.lt pb
          have e1 := fun pb : BW u1 => BW.cell (SB.out.at 2 rfl) SB.out.lt pb
          refine wp_region_quiet_bw (by kernel_rfl) (by kernel_rfl) ?_
          repeat (go_big_quiet_step (fail))
          refine wpQuiet_nil ?_
          intro _ hw'
          obtain ⟨pq, hw''⟩ := hw'
          subst hw''
          clear e0 e1
          replace BP := mB BP pq.h
          replace SA := mB SA pq.h
          replace SB := mB SB pq.h
          replace OWN := Lib.hid (OWN.out.below pq.h)
          replace HB := mT HB pq.h
          generalize pq.W = u2 at *
          clear pq
          clear SA SB
          go_wp2
          have ow := OWN.out
          have hA : ¬ n ≤ b.p.z := by have := Hia.out; omega
          have hB : ¬ n ≤ c.p.z := by have := Hib.out; omega
          rw [show L = crns n a b c 2 by rw [show crns n a b c 2 = crns n a b c 1 ++ crn n b c from rfl, ← HL.out]; simp [crn, hA, hB]] at ow
          go_roundw
          case rel => exact Lib.hid (.inr (.inr ((.inl ⟨_, rfl, by go_num, ow, BP.out, HB.out⟩))))
          case measure => simp [intOf]
    · have BP := Lib.hid qBP
      have HB := Lib.hid qHB
      clear qBP qHB
      have OWN := Lib.hid qO
      clear qO
      have hx := ix_pt2 a b c
      have hlen := crns_len n a b c 2
      generalize hL : crns n a b c 2 = L at OWN hlen
      have HL := Lib.hid hL
      clear hL
      go_upto_region 8 with fail
      have NA := Lib.hid (show Value.ownBlock v7 ≠ some wr.heap.size from fun hh => absurd (OWN.out.lt _ hh).2 (Nat.lt_irrefl _))
      have LA := Lib.hid (show w.heap.size < wr.heap.size from BP.out.lt)
      obtain ⟨u0, xa, hz, hx', SA, bA⟩ := laidB wr 124 #[.int .i64 c.p.x, .int .i64 c.p.y, .int .i64 c.p.z, .int .i64 c.u, .int .i64 c.v]
      rw [← hz.out, ← hx'.out]
      rw [← hx'.out] at NA LA
      replace BP := mB BP bA
      replace OWN := Lib.hid (OWN.out.below bA)
      replace HB := mT HB bA
      clear hz hx' bA
      clear hx
      have bp_ := BP.out.c15
      go_upto_region 9 with fail
      clear bp_
      have NB := Lib.hid (show Value.ownBlock v7 ≠ some u0.heap.size from fun hh => absurd (OWN.out.lt _ hh).2 (Nat.lt_irrefl _))
      have LB := Lib.hid (show xa < u0.heap.size from SA.out.lt)
      obtain ⟨u1, xb, hz, hx', SB, bA⟩ := laidB u0 124 #[.int .i64 a.p.x, .int .i64 a.p.y, .int .i64 a.p.z, .int .i64 a.u, .int .i64 a.v]
      rw [← hz.out, ← hx'.out]
      rw [← hx'.out] at NB LB
      replace BP := mB BP bA
      replace SA := mB SA bA
      replace OWN := Lib.hid (OWN.out.below bA)
      replace HB := mT HB bA
      clear hz hx' bA
      by_cases hia : n ≤ c.p.z
      · have g1 : decide (n ≤ c.p.z) = true := by simp [hia]
        have Hia := Lib.hid hia
        clear hia
        by_cases hib : n ≤ a.p.z
        · have g2 : decide (n ≤ a.p.z) = true := by simp [hib]
          have Hib := Lib.hid hib
          clear hib
          have e0 := fun pb : BW u1 => BW.cell (SA.out.at 2 rfl) SA.out.lt pb
          have e1 := fun pb : BW u1 => BW.cell (SB.out.at 2 rfl) SB.out.lt pb
          refine wp_region_quiet_bw (by kernel_rfl) (by kernel_rfl) ?_
          repeat (go_big_quiet_step (fail))
          refine wpQuiet_nil ?_
          intro _ hw'
          obtain ⟨pq, hw''⟩ := hw'
          subst hw''
          clear e0 e1
          replace BP := mB BP pq.h
          replace SA := mB SA pq.h
          replace SB := mB SB pq.h
          replace OWN := Lib.hid (OWN.out.below pq.h)
          replace HB := mT HB pq.h
          generalize pq.W = u2 at *
          clear pq
          have hlen2 : L.length ≤ 1000000 := by omega
          have sa_ := SA.out.c5
          go_upto_region 12 with (at_builtin; refine wpList_appL rfl (.tmp 43) (.tmp 45) 153 rfl (w.heap.size) inf153 (by decide) (by decide) P5.cells P5.len P5.one (L) _ rfl (OWN.out.alloc _) (c) _ 1 rfl _ (hasBlk_new _ _ _) rfl (by first | assumption | omega) (by have := HB.out.size; simp; omega) ?_; intro v9 u3 ho hgr hnb)
          clear sa_
          have qHB := (OWN.out.alloc (.cells #[.int .i64 c.p.x, .int .i64 c.p.y, .int .i64 c.p.z, .int .i64 c.u, .int .i64 c.v] 124)).bel (HB.out.alloc HB.out.size (.cells #[.int .i64 c.p.x, .int .i64 c.p.y, .int .i64 c.p.z, .int .i64 c.u, .int .i64 c.v] 124)) hgr (Nat.le_refl _) (by have := HB.out.size; simp; omega)
          have qBP := (BP.out.alloc (.cells #[.int .i64 c.p.x, .int .i64 c.p.y, .int .i64 c.p.z, .int .i64 c.u, .int .i64 c.v] 124)).grown hgr (OWN.out.ne BP.out (by decide))
          have qSA := (SA.out.alloc (.cells #[.int .i64 c.p.x, .int .i64 c.p.y, .int .i64 c.p.z, .int .i64 c.u, .int .i64 c.v] 124)).grown hgr (NA.out)
          have qSB := (SB.out.alloc (.cells #[.int .i64 c.p.x, .int .i64 c.p.y, .int .i64 c.p.z, .int .i64 c.u, .int .i64 c.v] 124)).grown hgr (NB.out)
          have ltBP := BP.out.lt
          have ltSA := SA.out.lt
          have ltSB := SB.out.lt
          clear BP SA SB OWN HB hgr
          have OWN := Lib.hid ho
          have HB := Lib.hid qHB
          have BP := Lib.hid qBP
          have SA := Lib.hid qSA
          have SB := Lib.hid qSB
          clear ho qHB qBP qSA qSB
          have NA2 := Lib.hid (hnb xa (by simp; omega) NA.out)
          have NB2 := Lib.hid (hnb xb (by simp; omega) NB.out)
          clear NA NB hnb hlen2 ltBP ltSA ltSB
          clear SA SB
          go_wp2
          have ow := OWN.out
          have hA : n ≤ c.p.z := by have := Hia.out; omega
          have hB : n ≤ a.p.z := by have := Hib.out; omega
          rw [show (L ++ [c]) = crns n a b c 3 by rw [show crns n a b c 3 = crns n a b c 2 ++ crn n c a from rfl, ← HL.out]; simp [crn, hA, hB]] at ow
          go_roundw
          case rel => exact Lib.hid (.inr (.inr (.inr (⟨_, rfl, by go_num, ow, BP.out, HB.out⟩))))
          case measure => simp [intOf]
        · have g2 : decide (n ≤ a.p.z) = false := by simp [hib]
          have Hib := Lib.hid hib
          clear hib
          have e0 := fun pb : BW u1 => BW.cell (SA.out.at 2 rfl) SA.out.lt pb
          have e1 := fun pb : BW u1 => BW.cell (SB.out.at 2 rfl) SB.out.lt pb
          refine wp_region_quiet_bw (by kernel_rfl) (by kernel_rfl) ?_
          repeat (go_big_quiet_step (fail))
          refine wpQuiet_nil ?_
          intro _ hw'
          obtain ⟨pq, hw''⟩ := hw'
          subst hw''
          clear e0 e1
          replace BP := mB BP pq.h
          replace SA := mB SA pq.h
          replace SB := mB SB pq.h
          replace OWN := Lib.hid (OWN.out.below pq.h)
          replace HB := mT HB pq.h
          generalize pq.W = u2 at *
          clear pq
          have hlen2 : L.length ≤ 1000000 := by omega
          have sa_ := SA.out.c5
          go_upto_region 12 with (at_builtin; refine wpList_appL rfl (.tmp 43) (.tmp 45) 153 rfl (w.heap.size) inf153 (by decide) (by decide) P5.cells P5.len P5.one (L) _ rfl (OWN.out.alloc _) (c) _ 1 rfl _ (hasBlk_new _ _ _) rfl (by first | assumption | omega) (by have := HB.out.size; simp; omega) ?_; intro v9 u3 ho hgr hnb)
          clear sa_
          have qHB := (OWN.out.alloc (.cells #[.int .i64 c.p.x, .int .i64 c.p.y, .int .i64 c.p.z, .int .i64 c.u, .int .i64 c.v] 124)).bel (HB.out.alloc HB.out.size (.cells #[.int .i64 c.p.x, .int .i64 c.p.y, .int .i64 c.p.z, .int .i64 c.u, .int .i64 c.v] 124)) hgr (Nat.le_refl _) (by have := HB.out.size; simp; omega)
          have qBP := (BP.out.alloc (.cells #[.int .i64 c.p.x, .int .i64 c.p.y, .int .i64 c.p.z, .int .i64 c.u, .int .i64 c.v] 124)).grown hgr (OWN.out.ne BP.out (by decide))
          have qSA := (SA.out.alloc (.cells #[.int .i64 c.p.x, .int .i64 c.p.y, .int .i64 c.p.z, .int .i64 c.u, .int .i64 c.v] 124)).grown hgr (NA.out)
          have qSB := (SB.out.alloc (.cells #[.int .i64 c.p.x, .int .i64 c.p.y, .int .i64 c.p.z, .int .i64 c.u, .int .i64 c.v] 124)).grown hgr (NB.out)
          have ltBP := BP.out.lt
          have ltSA := SA.out.lt
          have ltSB := SB.out.lt
          clear BP SA SB OWN HB hgr
          have OWN := Lib.hid ho
          have HB := Lib.hid qHB
          have BP := Lib.hid qBP
          have SA := Lib.hid qSA
          have SB := Lib.hid qSB
          clear ho qHB qBP qSA qSB
          have NA2 := Lib.hid (hnb xa (by simp; omega) NA.out)
          have NB2 := Lib.hid (hnb xb (by simp; omega) NB.out)
          clear NA NB hnb hlen2 ltBP ltSA ltSB
          have na : ¬ xa = xb := by have := LB.out; omega
          have nb : ¬ xb = xa := by have := LB.out; omega
          have sa_ := SA.out.f5
          have sb_ := SB.out.f5
          go_upto_region 15 with fail
          clear sa_
          clear sb_
          clear nb
          have np : w.heap.size < xa ∧ w.heap.size < xb := by have := LA.out; have := LB.out; omega
          have NA2' := NA2.out
          have NB2' := NB2.out
          have qSA : HasBlk ((((((((((u3.setCell ⟨xa, 0, none⟩ (.int .i64 a.p.x)).setCell ⟨xa, 1, none⟩ (.int .i64 a.p.y)).setCell ⟨xa, 2, none⟩ (.int .i64 a.p.z)).setCell ⟨xa, 3, none⟩ (.int .i64 a.u)).setCell ⟨xa, 4, none⟩ (.int .i64 a.v)).setCell ⟨xb, 0, none⟩ (.int .i64 c.p.x)).setCell ⟨xb, 1, none⟩ (.int .i64 c.p.y)).setCell ⟨xb, 2, none⟩ (.int .i64 c.p.z)).setCell ⟨xb, 3, none⟩ (.int .i64 c.u)).setCell ⟨xb, 4, none⟩ (.int .i64 c.v)) xa 124 #[.int .i64 a.p.x, .int .i64 a.p.y, .int .i64 a.p.z, .int .i64 a.u, .int .i64 a.v] := by simpa using ((((((((((SA.out.set 0 (.int .i64 a.p.x)).set 1 (.int .i64 a.p.y)).set 2 (.int .i64 a.p.z)).set 3 (.int .i64 a.u)).set 4 (.int .i64 a.v)).far (p := ⟨xb, 0, none⟩) (by first | omega | (simp; omega)) (.int .i64 c.p.x)).far (p := ⟨xb, 1, none⟩) (by first | omega | (simp; omega)) (.int .i64 c.p.y)).far (p := ⟨xb, 2, none⟩) (by first | omega | (simp; omega)) (.int .i64 c.p.z)).far (p := ⟨xb, 3, none⟩) (by first | omega | (simp; omega)) (.int .i64 c.u)).far (p := ⟨xb, 4, none⟩) (by first | omega | (simp; omega)) (.int .i64 c.v))
          have qSB : HasBlk ((((((((((u3.setCell ⟨xa, 0, none⟩ (.int .i64 a.p.x)).setCell ⟨xa, 1, none⟩ (.int .i64 a.p.y)).setCell ⟨xa, 2, none⟩ (.int .i64 a.p.z)).setCell ⟨xa, 3, none⟩ (.int .i64 a.u)).setCell ⟨xa, 4, none⟩ (.int .i64 a.v)).setCell ⟨xb, 0, none⟩ (.int .i64 c.p.x)).setCell ⟨xb, 1, none⟩ (.int .i64 c.p.y)).setCell ⟨xb, 2, none⟩ (.int .i64 c.p.z)).setCell ⟨xb, 3, none⟩ (.int .i64 c.u)).setCell ⟨xb, 4, none⟩ (.int .i64 c.v)) xb 124 #[.int .i64 c.p.x, .int .i64 c.p.y, .int .i64 c.p.z, .int .i64 c.u, .int .i64 c.v] := by simpa using ((((((((((SB.out.far (p := ⟨xa, 0, none⟩) (by first | omega | (simp; omega)) (.int .i64 a.p.x)).far (p := ⟨xa, 1, none⟩) (by first | omega | (simp; omega)) (.int .i64 a.p.y)).far (p := ⟨xa, 2, none⟩) (by first | omega | (simp; omega)) (.int .i64 a.p.z)).far (p := ⟨xa, 3, none⟩) (by first | omega | (simp; omega)) (.int .i64 a.u)).far (p := ⟨xa, 4, none⟩) (by first | omega | (simp; omega)) (.int .i64 a.v)).set 0 (.int .i64 c.p.x)).set 1 (.int .i64 c.p.y)).set 2 (.int .i64 c.p.z)).set 3 (.int .i64 c.u)).set 4 (.int .i64 c.v))
          have qBP : HasBlk ((((((((((u3.setCell ⟨xa, 0, none⟩ (.int .i64 a.p.x)).setCell ⟨xa, 1, none⟩ (.int .i64 a.p.y)).setCell ⟨xa, 2, none⟩ (.int .i64 a.p.z)).setCell ⟨xa, 3, none⟩ (.int .i64 a.u)).setCell ⟨xa, 4, none⟩ (.int .i64 a.v)).setCell ⟨xb, 0, none⟩ (.int .i64 c.p.x)).setCell ⟨xb, 1, none⟩ (.int .i64 c.p.y)).setCell ⟨xb, 2, none⟩ (.int .i64 c.p.z)).setCell ⟨xb, 3, none⟩ (.int .i64 c.u)).setCell ⟨xb, 4, none⟩ (.int .i64 c.v)) w.heap.size 125 #[.int .i64 a.p.x, .int .i64 a.p.y, .int .i64 a.p.z, .int .i64 a.u, .int .i64 a.v, .int .i64 b.p.x, .int .i64 b.p.y, .int .i64 b.p.z, .int .i64 b.u, .int .i64 b.v, .int .i64 c.p.x, .int .i64 c.p.y, .int .i64 c.p.z, .int .i64 c.u, .int .i64 c.v] := ((((((((((BP.out.far (p := ⟨xa, 0, none⟩) (by first | omega | (simp; omega)) (.int .i64 a.p.x)).far (p := ⟨xa, 1, none⟩) (by first | omega | (simp; omega)) (.int .i64 a.p.y)).far (p := ⟨xa, 2, none⟩) (by first | omega | (simp; omega)) (.int .i64 a.p.z)).far (p := ⟨xa, 3, none⟩) (by first | omega | (simp; omega)) (.int .i64 a.u)).far (p := ⟨xa, 4, none⟩) (by first | omega | (simp; omega)) (.int .i64 a.v)).far (p := ⟨xb, 0, none⟩) (by first | omega | (simp; omega)) (.int .i64 c.p.x)).far (p := ⟨xb, 1, none⟩) (by first | omega | (simp; omega)) (.int .i64 c.p.y)).far (p := ⟨xb, 2, none⟩) (by first | omega | (simp; omega)) (.int .i64 c.p.z)).far (p := ⟨xb, 3, none⟩) (by first | omega | (simp; omega)) (.int .i64 c.u)).far (p := ⟨xb, 4, none⟩) (by first | omega | (simp; omega)) (.int .i64 c.v))
          have qO := ((((((((((OWN.out.far (p := ⟨xa, 0, none⟩) NA2' (.int .i64 a.p.x)).far (p := ⟨xa, 1, none⟩) NA2' (.int .i64 a.p.y)).far (p := ⟨xa, 2, none⟩) NA2' (.int .i64 a.p.z)).far (p := ⟨xa, 3, none⟩) NA2' (.int .i64 a.u)).far (p := ⟨xa, 4, none⟩) NA2' (.int .i64 a.v)).far (p := ⟨xb, 0, none⟩) NB2' (.int .i64 c.p.x)).far (p := ⟨xb, 1, none⟩) NB2' (.int .i64 c.p.y)).far (p := ⟨xb, 2, none⟩) NB2' (.int .i64 c.p.z)).far (p := ⟨xb, 3, none⟩) NB2' (.int .i64 c.u)).far (p := ⟨xb, 4, none⟩) NB2' (.int .i64 c.v))
          have qHB : Below w.heap.size w ((((((((((u3.setCell ⟨xa, 0, none⟩ (.int .i64 a.p.x)).setCell ⟨xa, 1, none⟩ (.int .i64 a.p.y)).setCell ⟨xa, 2, none⟩ (.int .i64 a.p.z)).setCell ⟨xa, 3, none⟩ (.int .i64 a.u)).setCell ⟨xa, 4, none⟩ (.int .i64 a.v)).setCell ⟨xb, 0, none⟩ (.int .i64 c.p.x)).setCell ⟨xb, 1, none⟩ (.int .i64 c.p.y)).setCell ⟨xb, 2, none⟩ (.int .i64 c.p.z)).setCell ⟨xb, 3, none⟩ (.int .i64 c.u)).setCell ⟨xb, 4, none⟩ (.int .i64 c.v)) := (Below.setCell (p := ⟨xb, 4, none⟩) (Below.setCell (p := ⟨xb, 3, none⟩) (Below.setCell (p := ⟨xb, 2, none⟩) (Below.setCell (p := ⟨xb, 1, none⟩) (Below.setCell (p := ⟨xb, 0, none⟩) (Below.setCell (p := ⟨xa, 4, none⟩) (Below.setCell (p := ⟨xa, 3, none⟩) (Below.setCell (p := ⟨xa, 2, none⟩) (Below.setCell (p := ⟨xa, 1, none⟩) (Below.setCell (p := ⟨xa, 0, none⟩) HB.out (by first | omega | (simp; omega)) (.int .i64 a.p.x)) (by first | omega | (simp; omega)) (.int .i64 a.p.y)) (by first | omega | (simp; omega)) (.int .i64 a.p.z)) (by first | omega | (simp; omega)) (.int .i64 a.u)) (by first | omega | (simp; omega)) (.int .i64 a.v)) (by first | omega | (simp; omega)) (.int .i64 c.p.x)) (by first | omega | (simp; omega)) (.int .i64 c.p.y)) (by first | omega | (simp; omega)) (.int .i64 c.p.z)) (by first | omega | (simp; omega)) (.int .i64 c.u)) (by first | omega | (simp; omega)) (.int .i64 c.v))
          generalize ((((((((((u3.setCell ⟨xa, 0, none⟩ (.int .i64 a.p.x)).setCell ⟨xa, 1, none⟩ (.int .i64 a.p.y)).setCell ⟨xa, 2, none⟩ (.int .i64 a.p.z)).setCell ⟨xa, 3, none⟩ (.int .i64 a.u)).setCell ⟨xa, 4, none⟩ (.int .i64 a.v)).setCell ⟨xb, 0, none⟩ (.int .i64 c.p.x)).setCell ⟨xb, 1, none⟩ (.int .i64 c.p.y)).setCell ⟨xb, 2, none⟩ (.int .i64 c.p.z)).setCell ⟨xb, 3, none⟩ (.int .i64 c.u)).setCell ⟨xb, 4, none⟩ (.int .i64 c.v)) = u4 at *
          clear SA SB BP OWN HB na np NA2' NB2' NA2 NB2
          have SA := Lib.hid qSA
          have SB := Lib.hid qSB
          have BP := Lib.hid qBP
          have OWN := Lib.hid qO
          have HB := Lib.hid qHB
          clear qSA qSB qBP qO qHB
          have sa_ := SA.out.c5
          have sb_ := SB.out.c5
          have KX := Lib.hid (cut_ok n a c HN.out HA0.out HA2.out (by have := Hia.out; have := Hib.out; omega) (by have := Hia.out; have := Hib.out; omega) u4)
          go_wp2_with fail
          refine KX.out.mono ?_
          rintro e ya ⟨rfl, bel⟩
          clear KX
          clear sa_
          clear sb_
          replace BP := mB BP bel
          replace SA := mB SA bel
          replace SB := mB SB bel
          replace OWN := Lib.hid (OWN.out.below bel)
          replace HB := mT HB bel
          clear bel
          clear SA SB
          go_upto_region 16 with fail
          obtain ⟨yb, xc, hz, hx', SC, bA⟩ := laidB ya 124 #[.int .i64 ((P5.cut n a c).p.x), .int .i64 ((P5.cut n a c).p.y), .int .i64 ((P5.cut n a c).p.z), .int .i64 ((P5.cut n a c).u), .int .i64 ((P5.cut n a c).v)]
          rw [← hz.out, ← hx'.out]
          replace BP := mB BP bA
          replace OWN := Lib.hid (OWN.out.below bA)
          replace HB := mT HB bA
          clear hz hx' bA
          have hlen2 : ((L ++ [c])).length ≤ 1000000 := by first | omega | (simp; omega)
          have sc_ := SC.out.c5
          go_upto_region 17 with (at_builtin; refine wpList_appL rfl (.tmp 60) (.tmp 62) 153 rfl (w.heap.size) inf153 (by decide) (by decide) P5.cells P5.len P5.one ((L ++ [c])) _ rfl (OWN.out.alloc _) (P5.cut n a c) _ 1 rfl _ (hasBlk_new _ _ _) rfl (by first | assumption | omega) (by have := HB.out.size; simp; omega) ?_; intro v8 yc ho hgr hnb)
          clear sc_
          have qHB := (OWN.out.alloc (.cells #[.int .i64 ((P5.cut n a c).p.x), .int .i64 ((P5.cut n a c).p.y), .int .i64 ((P5.cut n a c).p.z), .int .i64 ((P5.cut n a c).u), .int .i64 ((P5.cut n a c).v)] 124)).bel (HB.out.alloc HB.out.size (.cells #[.int .i64 ((P5.cut n a c).p.x), .int .i64 ((P5.cut n a c).p.y), .int .i64 ((P5.cut n a c).p.z), .int .i64 ((P5.cut n a c).u), .int .i64 ((P5.cut n a c).v)] 124)) hgr (Nat.le_refl _) (by have := HB.out.size; simp; omega)
          have qBP := (BP.out.alloc (.cells #[.int .i64 ((P5.cut n a c).p.x), .int .i64 ((P5.cut n a c).p.y), .int .i64 ((P5.cut n a c).p.z), .int .i64 ((P5.cut n a c).u), .int .i64 ((P5.cut n a c).v)] 124)).grown hgr (OWN.out.ne BP.out (by decide))
          have ltBP := BP.out.lt
          clear BP SC OWN HB hgr
          have OWN := Lib.hid ho
          have HB := Lib.hid qHB
          have BP := Lib.hid qBP
          clear ho qHB qBP
          go_wp2
          have ow := OWN.out
          have hA : n ≤ c.p.z := by have := Hia.out; omega
          have hB : ¬ n ≤ a.p.z := by have := Hib.out; omega
          rw [show ((L ++ [c]) ++ [P5.cut n a c]) = crns n a b c 3 by rw [show crns n a b c 3 = crns n a b c 2 ++ crn n c a from rfl, ← HL.out]; simp [crn, hA, hB]] at ow
          go_roundw
          case rel => exact Lib.hid (.inr (.inr (.inr (⟨_, rfl, by go_num, ow, BP.out, HB.out⟩))))
          case measure => simp [intOf]
      · have g1 : decide (n ≤ c.p.z) = false := by simp [hia]
        have Hia := Lib.hid hia
        clear hia
        by_cases hib : n ≤ a.p.z
        · have g2 : decide (n ≤ a.p.z) = true := by simp [hib]
          have Hib := Lib.hid hib
          clear hib
          have e0 := fun pb : BW u1 => BW.cell (SA.out.at 2 rfl) SA.out.lt pb
          have e1 := fun pb : BW u1 => BW.cell (SB.out.at 2 rfl) SB.out.lt pb
          refine wp_region_quiet_bw (by kernel_rfl) (by kernel_rfl) ?_
          repeat (go_big_quiet_step (fail))
          refine wpQuiet_nil ?_
          intro _ hw'
          obtain ⟨pq, hw''⟩ := hw'
          subst hw''
          clear e0 e1
          replace BP := mB BP pq.h
          replace SA := mB SA pq.h
          replace SB := mB SB pq.h
          replace OWN := Lib.hid (OWN.out.below pq.h)
          replace HB := mT HB pq.h
          generalize pq.W = u2 at *
          clear pq
          have sa_ := SA.out.c5
          have sb_ := SB.out.c5
          have KX := Lib.hid (cut_ok n c a HN.out HA2.out HA0.out (by have := Hia.out; have := Hib.out; omega) (by have := Hia.out; have := Hib.out; omega) u2)
          go_wp2_with fail
          refine KX.out.mono ?_
          rintro e ya ⟨rfl, bel⟩
          clear KX
          clear sa_
          clear sb_
          replace BP := mB BP bel
          replace SA := mB SA bel
          replace SB := mB SB bel
          replace OWN := Lib.hid (OWN.out.below bel)
          replace HB := mT HB bel
          clear bel
          clear SA SB
          go_upto_region 16 with fail
          obtain ⟨yb, xc, hz, hx', SC, bA⟩ := laidB ya 124 #[.int .i64 ((P5.cut n c a).p.x), .int .i64 ((P5.cut n c a).p.y), .int .i64 ((P5.cut n c a).p.z), .int .i64 ((P5.cut n c a).u), .int .i64 ((P5.cut n c a).v)]
          rw [← hz.out, ← hx'.out]
          replace BP := mB BP bA
          replace OWN := Lib.hid (OWN.out.below bA)
          replace HB := mT HB bA
          clear hz hx' bA
          have hlen2 : (L).length ≤ 1000000 := by first | omega | (simp; omega)
          have sc_ := SC.out.c5
          go_upto_region 17 with (at_builtin; refine wpList_appL rfl (.tmp 60) (.tmp 62) 153 rfl (w.heap.size) inf153 (by decide) (by decide) P5.cells P5.len P5.one (L) _ rfl (OWN.out.alloc _) (P5.cut n c a) _ 1 rfl _ (hasBlk_new _ _ _) rfl (by first | assumption | omega) (by have := HB.out.size; simp; omega) ?_; intro v8 yc ho hgr hnb)
          clear sc_
          have qHB := (OWN.out.alloc (.cells #[.int .i64 ((P5.cut n c a).p.x), .int .i64 ((P5.cut n c a).p.y), .int .i64 ((P5.cut n c a).p.z), .int .i64 ((P5.cut n c a).u), .int .i64 ((P5.cut n c a).v)] 124)).bel (HB.out.alloc HB.out.size (.cells #[.int .i64 ((P5.cut n c a).p.x), .int .i64 ((P5.cut n c a).p.y), .int .i64 ((P5.cut n c a).p.z), .int .i64 ((P5.cut n c a).u), .int .i64 ((P5.cut n c a).v)] 124)) hgr (Nat.le_refl _) (by have := HB.out.size; simp; omega)
          have qBP := (BP.out.alloc (.cells #[.int .i64 ((P5.cut n c a).p.x), .int .i64 ((P5.cut n c a).p.y), .int .i64 ((P5.cut n c a).p.z), .int .i64 ((P5.cut n c a).u), .int .i64 ((P5.cut n c a).v)] 124)).grown hgr (OWN.out.ne BP.out (by decide))
          have ltBP := BP.out.lt
          clear BP SC OWN HB hgr
          have OWN := Lib.hid ho
          have HB := Lib.hid qHB
          have BP := Lib.hid qBP
          clear ho qHB qBP
          go_wp2
          have ow := OWN.out
          have hA : ¬ n ≤ c.p.z := by have := Hia.out; omega
          have hB : n ≤ a.p.z := by have := Hib.out; omega
          rw [show (L ++ [P5.cut n c a]) = crns n a b c 3 by rw [show crns n a b c 3 = crns n a b c 2 ++ crn n c a from rfl, ← HL.out]; simp [crn, hA, hB]] at ow
          go_roundw
          case rel => exact Lib.hid (.inr (.inr (.inr (⟨_, rfl, by go_num, ow, BP.out, HB.out⟩))))
          case measure => simp [intOf]
        · have g2 : decide (n ≤ a.p.z) = false := by simp [hib]
          have Hib := Lib.hid hib
          clear hib
          have e0 := fun pb : BW u1 => BW.cell (SA.out.at 2 rfl) SA.out.lt pb
          have e1 := fun pb : BW u1 => BW.cell (SB.out.at 2 rfl) SB.out.lt pb
          refine wp_region_quiet_bw (by kernel_rfl) (by kernel_rfl) ?_
          repeat (go_big_quiet_step (fail))
          refine wpQuiet_nil ?_
          intro _ hw'
          obtain ⟨pq, hw''⟩ := hw'
          subst hw''
          clear e0 e1
          replace BP := mB BP pq.h
          replace SA := mB SA pq.h
          replace SB := mB SB pq.h
          replace OWN := Lib.hid (OWN.out.below pq.h)
          replace HB := mT HB pq.h
          generalize pq.W = u2 at *
          clear pq
          clear SA SB
          go_wp2
          have ow := OWN.out
          have hA : ¬ n ≤ c.p.z := by have := Hia.out; omega
          have hB : ¬ n ≤ a.p.z := by have := Hib.out; omega
          rw [show L = crns n a b c 3 by rw [show crns n a b c 3 = crns n a b c 2 ++ crn n c a from rfl, ← HL.out]; simp [crn, hA, hB]] at ow
          go_roundw
          case rel => exact Lib.hid (.inr (.inr (.inr (⟨_, rfl, by go_num, ow, BP.out, HB.out⟩))))
          case measure => simp [intOf]
    · clear qBP
      obtain ⟨wo, rfl⟩ : ∃ wo : World, wo = wr := ⟨_, rfl⟩
      have OO := Lib.hid qO
      obtain ⟨⟨A, cp, rfl⟩, qo⟩ := qO
      clear qo
      have hlen := crns_len n a b c 3
      obtain ⟨L, hL⟩ : ∃ L, L = crns n a b c 3 := ⟨_, rfl⟩
      rw [← hL] at OO hlen
      have HB := Lib.hid qHB
      have OV := Lib.hid (OwnL.nil wo w.heap.size 125 15 Q3.cells)
      clear qHB
      rw [← hL]
      have HL := Lib.hid (show near n ⟨a, b, c⟩ = fanN L (L.length - 2) by rw [hL]; rfl)
      clear hL
      obtain ⟨m, hm⟩ : ∃ m, m = L.length := ⟨_, rfl⟩
      rw [← hm] at HL hlen OO ⊢
      have HM := Lib.hid hm
      clear hm
      go_wp2
      go_loopw [4, 15] (fun s4 s15 wr => ∃ (q : Nat) (v4 : Value), v4 = s4 ∧ 2 ≤ q ∧ (q ≤ m ∨ q = 2) ∧ s15 = .int .i64 (q : Int) ∧ OwnL wr w.heap.size 125 15 Q3.cells (fanN L (q - 2)) v4 ∧ OwnL wr w.heap.size 124 5 P5.cells L (.slice A m cp) ∧ Below w.heap.size w wr) (fun s4 s15 wr => m + 2 - (intOf s15).toNat)
      case atStart => exact ⟨2, _, rfl, Nat.le_refl _, .inr rfl, rfl, OV.out, OO.out, HB.out⟩
      case round =>
        clear OV OO HB
        obtain ⟨q, v4, rfl, hq2, hqm, rfl, qV, qO, qHB⟩ := hrel
        have OV := Lib.hid qV
        have OO := Lib.hid qO
        have HB := Lib.hid qHB
        clear qV qO qHB
        by_cases hqn : q < m
        rotate_left
        · have d0 : decide ((q : Int) < (m : Int)) = false := decide_eq_false (by omega)
          have he : fanN L (q - 2) = near n ⟨a, b, c⟩ := by rw [HL.out]; congr 1; omega
          have ow := OV.out
          rw [he] at ow
          clear he
          go_wp2
          go_ret2
          exact ⟨_, rfl, ow, HB.out⟩
        have d0 : decide ((q : Int) < (m : Int)) = true := decide_eq_true (by omega)
        obtain ⟨g, o, rfl, hg, hc⟩ := (OO.out.row P5.len).2 (by have := HM.out; omega)
        obtain ⟨r, hr⟩ : ∃ r, r = q - 1 := ⟨_, rfl⟩
        have k0 := hc 0 _ (getD_get (by have := HM.out; omega))
        have k1 := hc r _ (getD_get (by have := HM.out; omega))
        have k2 := hc q _ (getD_get (by have := HM.out; omega))
        have FE := Lib.hid (show fan1 L (q - 2 + 2) = ⟨L.getD 0 P5.zero, L.getD r P5.zero, L.getD q P5.zero⟩ by rw [show q - 2 + 2 = q by omega, hr]; rfl)
        have NO := Lib.hid (show Value.ownBlock v4 ≠ some g from fun hh => by
          rcases OV.out.ne_own OO.out (by decide) with h | h
          · rw [h] at hh; cases hh
          · exact h (by rw [hh]; rfl))
        obtain ⟨e0, he0⟩ : ∃ e0, e0 = L.getD 0 P5.zero := ⟨_, rfl⟩
        rw [← he0] at k0 FE
        clear he0
        obtain ⟨e1, he1⟩ : ∃ e1, e1 = L.getD r P5.zero := ⟨_, rfl⟩
        rw [← he1] at k1 FE
        clear he1
        obtain ⟨e2, he2⟩ : ∃ e2, e2 = L.getD q P5.zero := ⟨_, rfl⟩
        rw [← he2] at k2 FE
        clear he2
        have c00 := k0 0 (.int .i64 e0.p.x) rfl
        have c01 := k0 1 (.int .i64 e0.p.y) rfl
        have c02 := k0 2 (.int .i64 e0.p.z) rfl
        have c03 := k0 3 (.int .i64 e0.u) rfl
        have c04 := k0 4 (.int .i64 e0.v) rfl
        have c10 := k1 0 (.int .i64 e1.p.x) rfl
        have c11 := k1 1 (.int .i64 e1.p.y) rfl
        have c12 := k1 2 (.int .i64 e1.p.z) rfl
        have c13 := k1 3 (.int .i64 e1.u) rfl
        have c14 := k1 4 (.int .i64 e1.v) rfl
        have c20 := k2 0 (.int .i64 e2.p.x) rfl
        have c21 := k2 1 (.int .i64 e2.p.y) rfl
        have c22 := k2 2 (.int .i64 e2.p.z) rfl
        have c23 := k2 3 (.int .i64 e2.u) rfl
        have c24 := k2 4 (.int .i64 e2.v) rfl
        simp only [Nat.zero_mul, Nat.add_zero] at c00 c01 c02 c03 c04 c10 c11 c12 c13 c14 c20 c21 c22 c23 c24
        clear k0 k1 k2 hc
        have wm : IntKind.i64.wrap ((q : Int) - 1) = (r : Int) := by rw [IntWalk.i64_in _ (by omega)]; omega
        have i0n : 0 < m := by omega
        have i0 : (0 : Int) < (m : Int) := by omega
        have ir0 : (0 : Int) ≤ (r : Int) := by omega
        have ir1 : (r : Int) < (m : Int) := by omega
        have iq0 : (0 : Int) ≤ (q : Int) := by omega
        have iq1 : (q : Int) < (m : Int) := by omega
        have HRr := Lib.hid hr
        clear hr
        have hlv : (fanN L (q - 2)).length ≤ 1000000 := by simp [fanN]; omega
        go_upto_region 21 with fail
        go_region_held3 (fun Wo => Wo.cell? ⟨g, o, none⟩ = some (.int .i64 e0.p.x) ∧ Wo.cell? ⟨g, o + 1, none⟩ = some (.int .i64 e0.p.y) ∧ Wo.cell? ⟨g, o + 2, none⟩ = some (.int .i64 e0.p.z) ∧ Wo.cell? ⟨g, o + 3, none⟩ = some (.int .i64 e0.u) ∧ Wo.cell? ⟨g, o + 4, none⟩ = some (.int .i64 e0.v) ∧ Wo.cell? ⟨g, o + r * 5, none⟩ = some (.int .i64 e1.p.x) ∧ Wo.cell? ⟨g, o + r * 5 + 1, none⟩ = some (.int .i64 e1.p.y) ∧ Wo.cell? ⟨g, o + r * 5 + 2, none⟩ = some (.int .i64 e1.p.z) ∧ Wo.cell? ⟨g, o + r * 5 + 3, none⟩ = some (.int .i64 e1.u) ∧ Wo.cell? ⟨g, o + r * 5 + 4, none⟩ = some (.int .i64 e1.v) ∧ Wo.cell? ⟨g, o + q * 5, none⟩ = some (.int .i64 e2.p.x) ∧ Wo.cell? ⟨g, o + q * 5 + 1, none⟩ = some (.int .i64 e2.p.y) ∧ Wo.cell? ⟨g, o + q * 5 + 2, none⟩ = some (.int .i64 e2.p.z) ∧ Wo.cell? ⟨g, o + q * 5 + 3, none⟩ = some (.int .i64 e2.u) ∧ Wo.cell? ⟨g, o + q * 5 + 4, none⟩ = some (.int .i64 e2.v))
          (first | go_keep | (go_split_ands; refine ⟨?_, ?_, ?_, ?_, ?_, ?_, ?_, ?_, ?_, ?_, ?_, ?_, ?_, ?_, ?_⟩ <;> first | (rw [hgr.cell_far _ (by simp; omega) (Ne.symm NO.out)]; assumption)))
          ((refine step_appL (by rfl) _ _ 129 (by rfl) w.heap.size inf129 (by decide) (by decide) Q3.cells Q3.len Q3.one (fanN L (q - 2)) _ (by rfl) (OV.out.drew.alloc _) ⟨e0, e1, e2⟩ _ 1 (by rfl) _ (hasBlk_new _ _ _) (by rfl) (by assumption) (by have := HB.out.size; simp; omega) ?_; intro v6 w6 ho hgr hnb))
        have qHB := (OV.out.drew.alloc (.cells #[.int .i64 e0.p.x, .int .i64 e0.p.y, .int .i64 e0.p.z, .int .i64 e0.u, .int .i64 e0.v, .int .i64 e1.p.x, .int .i64 e1.p.y, .int .i64 e1.p.z, .int .i64 e1.u, .int .i64 e1.v, .int .i64 e2.p.x, .int .i64 e2.p.y, .int .i64 e2.p.z, .int .i64 e2.u, .int .i64 e2.v] 125)).bel (HB.out.drew.alloc HB.out.size (.cells #[.int .i64 e0.p.x, .int .i64 e0.p.y, .int .i64 e0.p.z, .int .i64 e0.u, .int .i64 e0.v, .int .i64 e1.p.x, .int .i64 e1.p.y, .int .i64 e1.p.z, .int .i64 e1.u, .int .i64 e1.v, .int .i64 e2.p.x, .int .i64 e2.p.y, .int .i64 e2.p.z, .int .i64 e2.u, .int .i64 e2.v] 125)) hgr (Nat.le_refl _) (by have := HB.out.size; simp; omega)
        have qO := (OO.out.drew.alloc (.cells #[.int .i64 e0.p.x, .int .i64 e0.p.y, .int .i64 e0.p.z, .int .i64 e0.u, .int .i64 e0.v, .int .i64 e1.p.x, .int .i64 e1.p.y, .int .i64 e1.p.z, .int .i64 e1.u, .int .i64 e1.v, .int .i64 e2.p.x, .int .i64 e2.p.y, .int .i64 e2.p.z, .int .i64 e2.u, .int .i64 e2.v] 125)).grown hgr (OO.out.ne_own OV.out (by decide))
        rw [← FE.out, ← fanN_succ, show q - 2 + 1 = q + 1 - 2 by omega] at ho
        go_wp2
        go_roundw
        case rel => exact ⟨q + 1, _, rfl, by omega, .inl (by omega), by go_num, ho, qO, qHB⟩
        case measure => simp [intOf]; omega
end Go.Proofs.YtemopgpcpjnmkaaDoor
