/- nodes: what DeleteFunc keeps; Kill's closure and its search. -/
import Derived.Test.YtgkeiaggldahnaaN21
namespace Go.Proofs.Ytgkeiaggldahnaa
open Go.RowKit
set_option linter.unusedVariables false
/-- The places that are kept, among the first. -/
def keptH (S Q : Nat → Int) (x y : Int) : Nat → List Nat
  | 0 => []
  | k + 1 => if S k = x ∧ Q k = y then keptH S Q x y k else keptH S Q x y k ++ [k]
theorem kept_yes {S Q : Nat → Int} {x y : Int} {k : Nat} (h : S k = x ∧ Q k = y) : keptH S Q x y (k + 1) = keptH S Q x y k := if_pos h
theorem kept_no {S Q : Nat → Int} {x y : Int} {k : Nat} (h : ¬ (S k = x ∧ Q k = y)) : keptH S Q x y (k + 1) = keptH S Q x y k ++ [k] := if_neg h
theorem kept_len (S Q : Nat → Int) (x y : Int) : ∀ k, (keptH S Q x y k).length ≤ k
  | 0 => Nat.le_refl _
  | k + 1 => by
    have := kept_len S Q x y k
    unfold keptH
    split
    · omega
    · rw [List.length_append]
      simp
      omega
theorem kept_mem (S Q : Nat → Int) (x y : Int) : ∀ k i, i ∈ keptH S Q x y k → i < k ∧ ¬ (S i = x ∧ Q i = y)
  | 0, i, h => by cases h
  | k + 1, i, h => by
    by_cases hk : S k = x ∧ Q k = y
    · rw [kept_yes hk] at h
      have := kept_mem S Q x y k i h
      exact ⟨by omega, this.2⟩
    · rw [kept_no hk, List.mem_append] at h
      rcases h with h | h
      · have := kept_mem S Q x y k i h
        exact ⟨by omega, this.2⟩
      · obtain rfl : i = k := by simpa using h
        exact ⟨by omega, hk⟩
theorem kept_all {S Q : Nat → Int} {x y : Int} : ∀ {k : Nat}, (∀ i, i < k → ¬ (S i = x ∧ Q i = y)) → keptH S Q x y k = List.range k
  | 0, _ => rfl
  | k + 1, h => by rw [kept_no (h k (by omega)), kept_all (fun i hi => h i (by omega)), List.range_succ]
set_option maxRecDepth 100000 in
set_option maxHeartbeats 2000000 in
theorem kill1_any (a b x y : Int) (hb : Nat) (w : World) (h : HasBlk w hb 29 #[.int .i64 x, .int .i64 y]) :
    Calls Try.prog 51 #[.agg #[.int .i64 a, .int .i64 b], .pointer (some ⟨hb, 0, none⟩)] w fun e w' => e = .returned (.bool (a == x && b == y)) ∧ Below w.heap.size w w' := by
  have bA := (Below.refl w.heap.size w).alloc (Nat.le_refl _) (.cells #[.int .i64 a, .int .i64 b] 29)
  have H := h.alloc (.cells #[.int .i64 a, .int .i64 b] 29)
  have h0 := h.cell 0
  have h1 := h.cell 1
  have zh := h.lt
  simp at h0 h1
  have hq := fun W => eql_hdl a b x y W
  have B1 := Lib.hid bA
  clear bA H h
  go_enter Try.func51, Try.ntmps51
  go_wp2
  go_ret
  exact ⟨rfl, B1.out⟩

set_option maxRecDepth 100000 in
set_option maxHeartbeats 2000000 in
theorem kls_idx (A : Option Addr) (n c : Nat) (F : Nat → Nat → Value) (q1 : Value) (Inv Yes : Nat → World → Prop) (w : World) (hrow : ∀ k W, Inv k W → Row W A n 2 F) (hn : (n : Int) ≤ 9223372036854775807) (hcl : ∀ k, k < n → ∀ W, Inv k W → Calls Try.prog 51 #[.agg #[F k 0, F k 1], q1] W fun e w' => (e = .returned (.bool true) ∧ Yes k w') ∨ (e = .returned (.bool false) ∧ Inv (k + 1) w')) (h0 : Inv 0 w) :
    Calls Try.prog 69 #[.slice A n c, .func (Fn.func 51) #[] #[q1]] w fun e w' => IdxI Inv Yes n e w' := by
  have Hcl := Lib.hid hcl
  have Hrow := Lib.hid hrow
  have H0 := Lib.hid h0
  clear hcl hrow h0
  go_enter Try.func69, Try.ntmps69
  go_wp2
  go_loopw [8] (fun i wr => ∃ k : Nat, k ≤ n ∧ i = .int .i64 k ∧ Hid (Inv k wr)) (fun i wr => n - (intOf i).toNat)
  case atStart => exact ⟨0, Nat.zero_le _, rfl, H0⟩
  case round =>
    obtain ⟨k, hk, rfl, hinv⟩ := hrel
    by_cases hkn : k < n
    · obtain ⟨g, o, rfl, hg, hc⟩ := Hrow.out k _ hinv.out (by omega)
      have c0 := hc k hkn 0 (by omega)
      have c1 := hc k hkn 1 (by omega)
      simp only [Nat.add_zero] at c0
      have hi : (k : Int) < (n : Int) := by omega
      have hi0 : (0 : Int) ≤ (k : Int) := by omega
      have hc1 := Lib.hid (Hcl.out k hkn _ hinv.out)
      clear hc
      go_wp2_with fail
      refine hc1.out.mono ?_
      rintro e w1 (⟨rfl, hy⟩ | ⟨rfl, hy⟩)
      · have HY := Lib.hid hy
        clear hy
        go_wp2
        go_ret
        exact .inl ⟨k, hkn, rfl, HY.out⟩
      · have HY := Lib.hid hy
        clear hy
        go_wp2
        go_roundw
        case rel => exact ⟨k + 1, by omega, by go_num, HY⟩
        case measure => simp [intOf]; omega
    · obtain rfl : k = n := by omega
      go_wp2
      go_ret
      exact .inr ⟨rfl, hinv.out⟩

end Go.Proofs.Ytgkeiaggldahnaa
/- nodes: slices.DeleteFunc at Kill's closure. -/
namespace Go.Proofs.Ytgkeiaggldahnaa
open Go.RowKit
set_option linter.unusedVariables false
theorem zero_one (k : Nat) : ∀ v ∈ (Builtin.zeroCells (Value.agg #[Value.int .i64 0, Value.int .i64 0]).cells k).toList, v.oneCell' = true := fun v hv => by
  simp [Builtin.zeroCells, Value.cells] at hv
  obtain ⟨i, _, rfl⟩ := hv
  obtain h | h : i % 2 = 0 ∨ i % 2 = 1 := by omega
  · rw [h]; rfl
  · rw [h]; rfl
/-- What stands in the row while DeleteFunc goes on. -/
structure DelS (S Q : Nat → Int) (x y : Int) (n c j : Nat) (cur : List Value) : Prop where
  len : cur.length = c * 2
  lo : ∀ p, p < (keptH S Q x y j).length → ∀ z, z < 2 → cur[p * 2 + z]? = some (hv S Q ((keptH S Q x y j).getD p 0) z)
  hi : ∀ p, j ≤ p → p < n → ∀ z, z < 2 → cur[p * 2 + z]? = some (hv S Q p z)
theorem DelS.skip {S Q : Nat → Int} {x y : Int} {n c j : Nat} {cur : List Value} (h : DelS S Q x y n c j cur) (hm : S j = x ∧ Q j = y) : DelS S Q x y n c (j + 1) cur :=
  ⟨h.len, fun p hp z hz => by rw [kept_yes hm] at hp ⊢; exact h.lo p hp z hz, fun p h1 h2 z hz => h.hi p (by omega) h2 z hz⟩
theorem DelS.keep {S Q : Nat → Int} {x y : Int} {n c j i : Nat} {cur : List Value} (h : DelS S Q x y n c j cur) (hm : ¬ (S j = x ∧ Q j = y)) (hi : (keptH S Q x y j).length = i) (hij : i < j) (hjn : j < n) (hnc : n ≤ c) :
    DelS S Q x y n c (j + 1) ((cur.set (i * 2) (.int .i64 (S j))).set (i * 2 + 1) (.int .i64 (Q j))) := by
  have hl := h.len
  have at' : ∀ q, ((cur.set (i * 2) (.int .i64 (S j))).set (i * 2 + 1) (.int .i64 (Q j)))[q]? = if q = i * 2 + 1 then some (.int .i64 (Q j)) else if q = i * 2 then some (.int .i64 (S j)) else cur[q]? := fun q => by
    rw [List.getElem?_set, List.getElem?_set]
    by_cases h1 : i * 2 + 1 = q
    · rw [if_pos h1, if_pos h1.symm, if_pos (by simp; omega)]
    · rw [if_neg h1, if_neg (show ¬ q = i * 2 + 1 from fun e => h1 e.symm)]
      by_cases h2 : i * 2 = q
      · rw [if_pos h2, if_pos h2.symm, if_pos (by omega)]
      · rw [if_neg h2, if_neg (show ¬ q = i * 2 from fun e => h2 e.symm)]
  refine ⟨by simp [hl], fun p hp z hz => ?_, fun p h1 h2 z hz => ?_⟩
  · rw [at', kept_no hm] at *
    rw [List.length_append, hi] at hp
    by_cases e : p = i
    · subst e
      have eg : ((keptH S Q x y j) ++ [j]).getD p 0 = j := by rw [List.getD_eq_getElem?_getD, List.getElem?_append_right (by omega), hi]; simp
      rw [eg]
      obtain rfl | rfl : z = 0 ∨ z = 1 := by omega
      · rw [if_neg (by omega), if_pos (by omega)]; rfl
      · rw [if_pos rfl]; rfl
    · have hp' : p < i := by simp at hp; omega
      rw [if_neg (by omega), if_neg (by omega)]
      have eg : ((keptH S Q x y j) ++ [j]).getD p 0 = (keptH S Q x y j).getD p 0 := by rw [List.getD_eq_getElem?_getD, List.getElem?_append_left (by omega), ← List.getD_eq_getElem?_getD]
      rw [eg]
      exact h.lo p (by omega) z hz
  · rw [at', if_neg (by omega), if_neg (by omega)]
    exact h.hi p (by omega) h2 z hz
theorem gb_set {w w' : World} {g j : Nat} (h : w.grownBy w' (some g)) (u : Value) : w.grownBy (w'.setCell ⟨g, j, none⟩ u) (some g) := by
  have b := Below.setCell (p := ⟨g, j, none⟩) (Below.refl 0 w') (Nat.zero_le _) u
  exact ⟨b.os.trans h.os, b.tape.trans h.tape, b.output.trans h.output, Nat.le_trans h.size b.size, fun k hk hne => (Below.heap_setCell w' ⟨g, j, none⟩ u k (fun e => hne (by rw [e]))).trans (h.block k hk hne)⟩
set_option maxRecDepth 100000 in
set_option maxHeartbeats 8000000 in
theorem delf_any (B n c hb : Nat) (A : Option Addr) (S Q : Nat → Int) (x y : Int) (w : World) (h : w.ownsRow B 29 2 (.slice A n c) n (cellsR 2 (hv S Q) n)) (hH : HasBlk w hb 29 #[.int .i64 x, .int .i64 y]) (hne : (Value.slice A n c).ownBlock ≠ some hb) (hn : n ≤ 1000) :
    Calls Try.prog 50 #[.slice A n c, .func (.func 51) #[] #[.pointer (some ⟨hb, 0, none⟩)]] w (InsR B (keptH S Q x y n).length (fun j => S ((keptH S Q x y n).getD j 0)) (fun j => Q ((keptH S Q x y n).getD j 0)) (.slice A n c) w) := by
  obtain ⟨i0', hi0, hz0, hz1, hz2⟩ := info_parts hdl_info
  obtain ⟨i0, hi00⟩ : ∃ i0, i0 = i0' := ⟨_, rfl⟩
  rw [← hi00] at hi0 hz0 hz1 hz2
  clear hi00
  obtain ⟨A', c', e1, hnc, hcm, _⟩ := own_at h
  cases e1
  have H := Lib.hid h
  have HB := Lib.hid hH
  have NE := Lib.hid hne
  have KX := Lib.hid (kls_idx A n c (hv S Q) (.pointer (some ⟨hb, 0, none⟩)) (fun k W => Below w.heap.size w W ∧ ∀ i, i < k → ¬ (S i = x ∧ Q i = y)) (fun k W => Below w.heap.size w W ∧ (∀ i, i < k → ¬ (S i = x ∧ Q i = y)) ∧ (S k = x ∧ Q k = y)) w (fun k W hW => (Row.of_cells h).below hW.1) (by omega) (fun k hk W hW => (kill1_any (S k) (Q k) x y hb W (hH.below hW.1)).mono fun e w' ⟨he, hbl⟩ => by
    by_cases hm : S k = x ∧ Q k = y
    · left
      exact ⟨by rw [he, hm.1, hm.2]; simp, hW.1.trans (hbl.mono hW.1.size), hW.2, hm⟩
    · right
      refine ⟨?_, hW.1.trans (hbl.mono hW.1.size), fun i hi => ?_⟩
      · have hv1 : (S k == x && Q k == y) = false := by
          rw [Bool.and_eq_false_iff]
          by_cases hm2 : S k = x
          · right
            simpa using fun h => hm ⟨hm2, h⟩
          · left
            simpa using hm2
        rw [he, hv1]
      · rcases Nat.lt_or_ge i k with h1 | h1
        · exact hW.2 i h1
        · obtain rfl : i = k := by omega
          exact hm) ⟨Below.refl _ _, fun i hi => absurd hi (by omega)⟩)
  clear h hH hne
  go_enter Try.func50, Try.ntmps50
  go_wp2_with fail
  refine KX.out.mono ?_
  rintro e w1 (⟨k, hk, rfl, hbel, hno, hyes⟩ | ⟨rfl, hbel, hno⟩)
  rotate_left
  · have eK : (keptH S Q x y n) = List.range n := kept_all hno
    have O1 := Lib.hid (own_below H.out hbel)
    have G1 := Lib.hid (gb_below hbel (Value.slice A n c).ownBlock)
    have EK := Lib.hid eK
    clear hbel hno eK KX
    go_wp2
    go_ret
    rw [EK.out]
    refine ⟨A, c, by rw [List.length_range]; rfl, ?_, G1.out, .inl (by rw [List.length_range])⟩
    rw [List.length_range, cellsR_congr (F := hv (fun j => S ((List.range n).getD j 0)) (fun j => Q ((List.range n).getD j 0))) (G := hv S Q) (fun i hi j hj => by
      have e : (List.range n).getD i 0 = i := by rw [List.getD_eq_getElem?_getD, List.getElem?_range hi]; rfl
      show (if j = 0 then Value.int .i64 (S ((List.range n).getD i 0)) else Value.int .i64 (Q ((List.range n).getD i 0))) = _
      rw [e]
      rfl)]
    exact O1.out
  obtain ⟨g, rfl, hBg, hgl, hgf⟩ := own_some H.out (by omega)
  obtain ⟨hxl, h0 | ⟨g', cap, cur, e1, hBg', hg, hnc', hcm', hcs, htk⟩⟩ := H.out
  · cases h0.1
  cases e1
  obtain ⟨cur, rfl⟩ : ∃ l : List Value, cur = l.toArray := ⟨cur.toList, by simp⟩
  have hcur : cur.length = c * 2 := by simpa using hcs
  have htk : cur.take (n * 2) = (cellsR 2 (hv S Q) n) := by simpa using htk
  have hG : HasBlk w g 29 cur.toArray := hg
  have KL : keptH S Q x y (k + 1) = List.range k := by rw [kept_yes hyes, kept_all hno]
  have D0 := Lib.hid (show DelS S Q x y n c (k + 1) cur from ⟨hcur, fun p hp z hz => by
    rw [KL] at hp ⊢
    rw [List.length_range] at hp
    have e : (List.range k).getD p 0 = p := by rw [List.getD_eq_getElem?_getD, List.getElem?_range hp]; rfl
    rw [e]
    exact cells_get htk (by omega) hz, fun p h1 h2 z hz => cells_get htk h2 hz⟩)
  have G1 := Lib.hid (hG.below hbel)
  have HB1 := Lib.hid (HB.out.below hbel)
  have W1 := Lib.hid (gb_below hbel (some g))
  have NEG : hb ≠ g := fun e => NE.out (by rw [e]; rfl)
  have NG := Lib.hid NEG
  have BG := Lib.hid hBg
  have CM := Lib.hid hcm
  have LK : (keptH S Q x y (k + 1)).length = k := by rw [KL, List.length_range]
  have LKH := Lib.hid LK
  have gw : IntKind.i64.wrap ((k : Int) + 1) = (k : Int) + 1 := IntWalk.i64_in _ (by omega)
  have km1 : ((k : Int) == -1) = false := beq_false_of_ne (by omega)
  clear hbel hno hyes KX htk hcur hcs hxl hG hg hBg hgl hgf KL LK hBg' NEG hcm' hnc'
  go_wp2
  clear gw km1
  go_loopw [6, 5] (fun jj ii wr => ∃ (j i : Nat) (cur : List Value), j ≤ n ∧ jj = .int .i64 j ∧ ii = .int .i64 i ∧ (keptH S Q x y j).length = i ∧ i < j ∧ DelS S Q x y n c j cur ∧ HasBlk wr g 29 cur.toArray ∧ HasBlk wr hb 29 #[.int .i64 x, .int .i64 y] ∧ w.grownBy wr (some g)) (fun jj ii wr => n - (intOf jj).toNat)
  case atStart => exact ⟨k + 1, k, cur, by omega, by first | rfl | go_num, rfl, LKH.out, by omega, D0.out, G1.out, HB1.out, W1.out⟩
  case round =>
    clear D0 G1 HB1 W1 LKH
    obtain ⟨j, i, cur, hjn, rfl, rfl, hki, hij, hD, hG, hH, hgr⟩ := hrel
    have DD := Lib.hid hD
    have KI := Lib.hid hki
    have ZB := Lib.hid (show w.heap.size ≤ wr.heap.size from hgr.size)
    by_cases hjl : j < n
    · have c0 := (hG.cell (j * 2 + 0)).trans ((List.getElem?_toArray ..).trans (hD.hi j (Nat.le_refl _) hjl 0 (by omega)))
      have c1 := (hG.cell (j * 2 + 1)).trans ((List.getElem?_toArray ..).trans (hD.hi j (Nat.le_refl _) hjl 1 (by omega)))
      simp only [hv, Nat.add_zero, if_true] at c0
      simp only [hv] at c1
      rw [if_neg (by decide)] at c1
      have i1 : (j : Int) < (n : Int) := by omega
      have i0 : (0 : Int) ≤ (j : Int) := by omega
      have bA := (Below.refl wr.heap.size wr).alloc (Nat.le_refl _) (.cells #[.int .i64 (S j), .int .i64 (Q j)] 29)
      have G2 := Lib.hid (hG.below bA)
      have H2 := Lib.hid (hH.below bA)
      have T2 := Lib.hid (hasBlk_new wr 29 #[.int .i64 (S j), .int .i64 (Q j)])
      have W2 := Lib.hid (gb_trans hgr (gb_below bA (some g)))
      have ztg := hG.lt
      clear hG hH hgr bA hD hki
      go_upto_region 8 with fail
      generalize (wr.alloc (.cells #[.int .i64 (S j), .int .i64 (Q j)] 29)) = v2 at *
      obtain ⟨tb, htb⟩ : ∃ tb, tb = wr.heap.size := ⟨_, rfl⟩
      rw [← htb] at T2 ztg ⊢
      clear htb c0 c1
      have t0 := T2.out.cell 0
      have t1 := T2.out.cell 1
      have zt := T2.out.lt
      simp at t0 t1
      have KX := Lib.hid (kill1_any (S j) (Q j) x y hb v2 H2.out)
      by_cases hm : S j = x ∧ Q j = y
      · rw [show (S j == x && Q j == y) = true by rw [hm.1, hm.2]; simp] at KX
        have HM := Lib.hid hm
        clear hm
        go_wp2_with fail
        refine KX.out.mono ?_
        rintro e w3 ⟨rfl, bel⟩
        have G3 := Lib.hid (G2.out.below bel)
        have H3 := Lib.hid (H2.out.below bel)
        have W3 := Lib.hid (gb_trans W2.out (gb_below bel (some g)))
        clear bel KX G2 H2 T2 W2 t0 t1 zt
        go_wp2
        go_roundw
        case rel => exact ⟨j + 1, i, cur, by omega, by go_num, rfl, by rw [kept_yes HM.out]; exact KI.out, by omega, DD.out.skip HM.out, G3.out, H3.out, W3.out⟩
        case measure => simp [intOf]; omega
      · have hv1 : (S j == x && Q j == y) = false := by
          rw [Bool.and_eq_false_iff]
          by_cases hm2 : S j = x
          · right
            simpa using fun h => hm ⟨hm2, h⟩
          · left
            simpa using hm2
        rw [hv1] at KX
        have HM := Lib.hid hm
        clear hm hv1
        go_wp2_with fail
        refine KX.out.mono ?_
        rintro e w3 ⟨rfl, bel⟩
        have G3 := Lib.hid (G2.out.below bel)
        have H3 := Lib.hid (H2.out.below bel)
        have T3 := Lib.hid (T2.out.below bel)
        have W3 := Lib.hid (gb_trans W2.out (gb_below bel (some g)))
        clear bel KX G2 H2 T2 W2 t0 t1 zt
        have t0 := T3.out.cell 0
        have t1 := T3.out.cell 1
        have zt := T3.out.lt
        simp at t0 t1
        have lc := DD.out.len
        obtain ⟨u0, hu0⟩ : ∃ u, cur[i * 2]? = some u := ⟨_, List.getElem?_eq_getElem (by omega)⟩
        obtain ⟨u1, hu1⟩ : ∃ u, cur[i * 2 + 1]? = some u := ⟨_, List.getElem?_eq_getElem (by omega)⟩
        have g0 := (G3.out.cell (i * 2)).trans ((List.getElem?_toArray ..).trans hu0)
        have g1 := (G3.out.cell (i * 2 + 1)).trans ((List.getElem?_toArray ..).trans hu1)
        have gf0 := G3.out.frozen (i * 2)
        have gf1 := G3.out.frozen (i * 2 + 1)
        have zg := G3.out.lt
        have k1 : (i : Int) < (n : Int) := by omega
        have k0 : (0 : Int) ≤ (i : Int) := by omega
        have netg : tb ≠ g := by omega
        clear lc hu0 hu1
        go_wp2
        go_roundw
        case rel =>
          have gg := (G3.out.set (i * 2) (.int .i64 (S j))).set (i * 2 + 1) (.int .i64 (Q j))
          simp only [List.setIfInBounds_toArray] at gg
          exact ⟨j + 1, i + 1, _, by omega, by go_num, by go_num, by rw [kept_no HM.out, List.length_append, KI.out]; rfl, by omega, DD.out.keep HM.out KI.out hij hjl hnc, gg, (H3.out.far (by have := NG.out; simp; omega) _).far (by have := NG.out; simp; omega) _, gb_set (gb_set W3.out _) _⟩
        case measure => simp [intOf]; omega
    · obtain rfl : n = j := by omega
      have GG := Lib.hid hG
      have W2 := Lib.hid hgr
      obtain ⟨zs, hzs⟩ : ∃ zs, zs = (Builtin.zeroCells (Value.agg #[Value.int .i64 0, Value.int .i64 0]).cells (n - i)).toList := ⟨_, rfl⟩
      have hzl : zs.length = (n - i) * 2 := by rw [hzs, Array.length_toList, zero_len]
      have ZS := Lib.hid hzs
      have ZO := Lib.hid (show ∀ v ∈ zs, v.oneCell' = true by rw [hzs]; exact zero_one _)
      have ZF := Lib.hid (show i * 2 + zs.length ≤ cur.length by have := hD.len; omega)
      have ZL := Lib.hid hzl
      unfold maxLen at hcm
      have k1 : (i : Int) ≤ (n : Int) := by omega
      have k0 : (0 : Int) ≤ (i : Int) := by omega
      have k2 : i ≤ n := by omega
      have k3 : ¬ (c = i) := by omega
      have k4 : (i : Int) ≤ (c : Int) := by omega
      have k5 : i ≤ c := by omega
      clear hG hH hgr hD hki hzs hzl
      go_wp2_with (refine wpList_clear_at rfl (.tmp 38) 32 rfl 29 _ i0 Try.underlying32 hi0 hz0 g (i * 2) (n - i) (c - i) (by first | rfl | (simp [go_sem]; done)) (by omega) cur 29 GG.out zs ZS.out ZF.out ZO.out ?_; intro w3 hb3 hg3)
      go_ret
      have lc := DD.out.len
      have hgr3 : w.grownBy w3 (some g) := gb_trans W2.out hg3
      refine ⟨some ⟨g, 0, none⟩, c, by rw [KI.out]; rfl, ?_, hgr3, .inl rfl⟩
      have ec : cellsR 2 (hv (fun j => S ((keptH S Q x y n).getD j 0)) (fun j => Q ((keptH S Q x y n).getD j 0))) i = cur.take (i * 2) := (cells_ext (by omega) (fun p hp z hz => DD.out.lo p (by rw [KI.out]; exact hp) z hz)).symm
      rw [KI.out, ec]
      refine ⟨by rw [List.length_take]; omega, .inr ⟨g, c, _, rfl, BG.out, hb3, by omega, CM.out, ?_, ?_⟩⟩
      · have := ZL.out
        simp only [List.size_toArray, List.length_append, List.length_take, List.length_drop]
        omega
      · show List.take (i * 2) _ = _
        rw [List.take_append_of_le_length (by rw [List.length_take]; omega), List.take_take, Nat.min_self]
end Go.Proofs.Ytgkeiaggldahnaa
/- nodes: Kill. -/
namespace Go.Proofs.Ytgkeiaggldahnaa
open Go.RowKit
set_option linter.unusedVariables false
/-- A graph one list of which is another one. -/
def GD.setL (d : GD) (k n' : Nat) (S' Q' : Nat → Int) : GD := ⟨d.n, d.g, d.b, d.m, upd d.L k n', fun i => if i = k then S' else d.S i, fun i => if i = k then Q' else d.Q i⟩
/-- A graph whose first lists hold a handle no more. -/
def killN (d : GD) (x y : Int) : Nat → GD
  | 0 => d
  | i + 1 => (killN d x y i).setL i (keptH ((killN d x y i).S i) ((killN d x y i).Q i) x y ((killN d x y i).L i)).length (fun j => (killN d x y i).S i ((keptH ((killN d x y i).S i) ((killN d x y i).Q i) x y ((killN d x y i).L i)).getD j 0)) (fun j => (killN d x y i).Q i ((keptH ((killN d x y i).S i) ((killN d x y i).Q i) x y ((killN d x y i).L i)).getD j 0))
theorem killN_n (d : GD) (x y : Int) : ∀ i, (killN d x y i).n = d.n ∧ (killN d x y i).m = d.m
  | 0 => ⟨rfl, rfl⟩
  | i + 1 => killN_n d x y i
/-- A list that the loop has not reached is as it was. -/
theorem killN_hi (d : GD) (x y : Int) : ∀ i j, i ≤ j → (killN d x y i).L j = d.L j ∧ (killN d x y i).S j = d.S j ∧ (killN d x y i).Q j = d.Q j
  | 0, j, _ => ⟨rfl, rfl, rfl⟩
  | i + 1, j, h => by
    have ih := killN_hi d x y i j (by omega)
    exact ⟨(upd_ne _ _ (by omega)).trans ih.1, (if_neg (by omega)).trans ih.2.1, (if_neg (by omega)).trans ih.2.2⟩
/-- The graph whose node is taken out, its children gone. -/
def GD.dead (d : GD) (k : Nat) : GD := (⟨d.n, d.g, upd d.b k false, d.m, d.L, d.S, d.Q⟩ : GD).setL k 0 (d.S k) (d.Q k)
def GD.kill (d : GD) (k : Nat) : GD := killN (d.dead k) (k : Nat) (d.g k) d.m
/-- What Kill answers. -/
def KillGR (d : GD) (s q : Int) (B : Nat) (e : Ending) (w' : World) : Prop :=
  (askv d (HeldA d.n d.g d.b s q) ≠ 0 ∧ e = .returned (.tuple #[.agg #[.slice none 0 0, .slice none 0 0], .int .i64 (askv d (HeldA d.n d.g d.b s q))])) ∨
  (askv d (HeldA d.n d.g d.b s q) = 0 ∧ ∃ p : GP, e = .returned (.tuple #[.agg #[.slice p.A d.n p.c, .slice p.K d.m p.kc], .int .i64 0]) ∧ GOwn B w' p (d.kill s.toNat))
set_option maxRecDepth 100000 in
set_option maxHeartbeats 8000000 in
theorem killg_any (d : GD) (p : GP) (hsm : d.Sm) (s q : Int) (w : World) (hok : GOk w p d) :
    Calls Try.prog 25 #[.agg #[.slice p.A d.n p.c, .slice p.K d.m p.kc], hval s q] w fun e w' => KillGR d s q w.heap.size e w' ∧ Below w.heap.size w w' := by
  obtain ⟨A, c, K, kc, KA, KC⟩ := p
  dsimp only
  have b2 : Below w.heap.size w ((((w.alloc (.cells #[.slice A d.n c, .slice K d.m kc] 27)).alloc (.cells #[.int .i64 s, .int .i64 q] 29)).alloc (.cells #[.slice none 0 0, .slice none 0 0] 27)).alloc (.cells #[.int .i64 s, .int .i64 q] 29)) := by
    repeat' (first | exact Below.refl _ _ | assumption | apply Below.drew | refine Below.setCell ?_ (by first | omega | (simp; done) | (simp; omega)) _ | refine Below.alloc ?_ (by first | omega | (simp; done) | (simp; omega)) _)
  have OK := Lib.hid hok
  have Sm := Lib.hid hsm
  have B2 := Lib.hid b2
  have P0 := Lib.hid (show HasBlk ((((w.alloc (.cells #[.slice A d.n c, .slice K d.m kc] 27)).alloc (.cells #[.int .i64 s, .int .i64 q] 29)).alloc (.cells #[.slice none 0 0, .slice none 0 0] 27)).alloc (.cells #[.int .i64 s, .int .i64 q] 29)) (w.heap.size) 27 #[.slice A d.n c, .slice K d.m kc] by simpa using ((((hasBlk_new w 27 #[.slice A d.n c, .slice K d.m kc]).alloc (.cells #[.int .i64 s, .int .i64 q] 29)).alloc (.cells #[.slice none 0 0, .slice none 0 0] 27)).alloc (.cells #[.int .i64 s, .int .i64 q] 29)))
  have H0 := Lib.hid (show HasBlk ((((w.alloc (.cells #[.slice A d.n c, .slice K d.m kc] 27)).alloc (.cells #[.int .i64 s, .int .i64 q] 29)).alloc (.cells #[.slice none 0 0, .slice none 0 0] 27)).alloc (.cells #[.int .i64 s, .int .i64 q] 29)) (w.heap.size + 1) 29 #[.int .i64 s, .int .i64 q] by simpa using (((hasBlk_new (w.alloc (.cells #[.slice A d.n c, .slice K d.m kc] 27)) 29 #[.int .i64 s, .int .i64 q]).alloc (.cells #[.slice none 0 0, .slice none 0 0] 27)).alloc (.cells #[.int .i64 s, .int .i64 q] 29)))
  have R0 := Lib.hid (show HasBlk ((((w.alloc (.cells #[.slice A d.n c, .slice K d.m kc] 27)).alloc (.cells #[.int .i64 s, .int .i64 q] 29)).alloc (.cells #[.slice none 0 0, .slice none 0 0] 27)).alloc (.cells #[.int .i64 s, .int .i64 q] 29)) (w.heap.size + 1 + 1) 27 #[.slice none 0 0, .slice none 0 0] by simpa using ((hasBlk_new ((w.alloc (.cells #[.slice A d.n c, .slice K d.m kc] 27)).alloc (.cells #[.int .i64 s, .int .i64 q] 29)) 27 #[.slice none 0 0, .slice none 0 0]).alloc (.cells #[.int .i64 s, .int .i64 q] 29)))
  have hL : HasBlk ((((w.alloc (.cells #[.slice A d.n c, .slice K d.m kc] 27)).alloc (.cells #[.int .i64 s, .int .i64 q] 29)).alloc (.cells #[.slice none 0 0, .slice none 0 0] 27)).alloc (.cells #[.int .i64 s, .int .i64 q] 29)) (w.heap.size + 1 + 1 + 1) 29 #[.int .i64 s, .int .i64 q] := by
    simpa using hasBlk_new (((w.alloc (.cells #[.slice A d.n c, .slice K d.m kc] 27)).alloc (.cells #[.int .i64 s, .int .i64 q] 29)).alloc (.cells #[.slice none 0 0, .slice none 0 0] 27)) 29 #[.int .i64 s, .int .i64 q]
  have hc := asked_any d _ hsm _ 1 1 _ _ _ (hok.below b2) (row_one hL) (by omega)
  rw [askv_congr one_iff] at hc
  obtain ⟨x, hx⟩ : ∃ x, askv d (HeldA d.n d.g d.b s q) = x := ⟨_, rfl⟩
  unfold KillGR
  rw [hx] at hc ⊢
  clear b2 hL hsm
  by_cases hx0 : x = 0
  rotate_left
  · have x1 : (x == 0) = false := by simpa using hx0
    have x2 : (x != 0) = true := by simpa using hx0
    have HC := Lib.hid hc
    have X0 := Lib.hid hx0
    clear hx hx0 hc hok
    go_enter Try.func25, Try.ntmps25
    go_wp2_with fail
    refine HC.out.mono ?_
    rintro e w1 ⟨rfl, bel⟩
    have B3 := Lib.hid (B2.out.trans (bel.mono B2.out.size))
    have R1 := Lib.hid (R0.out.below bel)
    clear bel
    have r0 := R1.out.cell 0
    have r1 := R1.out.cell 1
    have rf0 := R1.out.frozen 0
    have rf1 := R1.out.frozen 1
    have zr := R1.out.lt
    simp at r0 r1
    go_wp2
    refine bodyPost_ret (v := .tuple #[.agg #[.slice none 0 0, .slice none 0 0], .int .i64 x]) (by simp [results, Try.results25, go_sem, *]) rfl ⟨.inl ⟨?_, ?_⟩, ?_⟩
    · exact X0.out
    · rfl
    · have bb := B3.out
      exact Below.setCell (Below.setCell bb (by first | omega | (simp; done) | (simp; omega)) _) (by first | omega | (simp; done) | (simp; omega)) _
  subst hx0
  obtain ⟨hmay, hheld⟩ := askv_zero hx
  obtain ⟨k, rfl⟩ := Int.eq_ofNat_of_zero_le hheld.1
  have hq1 := hheld.2.2.1
  have hi : k < d.n := by have := hheld.2.1; omega
  simp only [Int.toNat_natCast] at hq1
  subst hq1
  have hkm : k < d.m := by rw [hmay.2.1]; exact hi
  have HC := Lib.hid hc
  have MAY := Lib.hid hmay
  have HLD := Lib.hid hheld
  have htw := Lib.hid (fun W (hb : Below w.heap.size w W) => twing_any d _ Sm.out W (hok.below hb))
  obtain ⟨gk, ok, hA, hgk, hck⟩ := hok.ks (by omega)
  dsimp only at hA
  subst hA
  have k0 := Lib.hid (hck k hkm 0 (by omega))
  have hlk := Sm.out.L k hkm
  have i1 : (k : Int) < (d.m : Int) := by omega
  have i0 : (0 : Int) ≤ (k : Int) := by omega
  have KI := Lib.hid (And.intro hi hkm)
  clear hc hok hx hheld hmay hck hi
  go_enter Try.func25, Try.ntmps25
  go_wp2_with fail
  refine HC.out.mono ?_
  rintro e w1 ⟨rfl, bel⟩
  have B3 := Lib.hid (B2.out.trans (bel.mono B2.out.size))
  have P1 := Lib.hid (P0.out.below bel)
  have H1 := Lib.hid (H0.out.below bel)
  have R1 := Lib.hid (R0.out.below bel)
  clear bel P0 H0 R0 HC B2
  have p0 := P1.out.cell 0
  have p1 := P1.out.cell 1
  have h0 := H1.out.cell 0
  have h1 := H1.out.cell 1
  have r0 := R1.out.cell 0
  have r1 := R1.out.cell 1
  have rf0 := R1.out.frozen 0
  have rf1 := R1.out.frozen 1
  have zp := P1.out.lt
  have zh := H1.out.lt
  have zr := R1.out.lt
  simp at p0 p1 h0 h1 r0 r1
  have KX := Lib.hid (htw.out w1 B3.out)
  clear htw
  go_wp2_with fail
  refine KX.out.mono ?_
  rintro e w3 ⟨⟨v, rfl, po, rfl, ho⟩, bel⟩
  have B5 := Lib.hid (B3.out.trans (bel.mono B3.out.size))
  clear p0 p1 h0 h1 r0 r1 rf0 rf1 zp zh zr
  have P3 := Lib.hid (P1.out.below bel)
  have H3 := Lib.hid (H1.out.below bel)
  have R3 := Lib.hid (R1.out.below bel)
  have GO := Lib.hid ho
  have zb4 : w.heap.size + 1 + 1 + 1 ≤ w1.heap.size := by have := R1.out.lt; omega
  clear bel P1 H1 R1 KX B3 ho
  obtain ⟨tA, tc, tK, tkc, KA', KC'⟩ := po
  dsimp only
  have p0 := P3.out.cell 0
  have p1 := P3.out.cell 1
  have pf0 := P3.out.frozen 0
  have pf1 := P3.out.frozen 1
  have zp := P3.out.lt
  simp at p0 p1
  go_upto_region 5 with fail
  have P4 := Lib.hid (show HasBlk ((w3.setCell ⟨w.heap.size, 0, none⟩ (.slice tA d.n tc)).setCell ⟨w.heap.size, 1, none⟩ (.slice tK d.m tkc)) w.heap.size 27 #[.slice tA d.n tc, .slice tK d.m tkc] by simpa using (P3.out.set 0 (.slice tA d.n tc)).set 1 (.slice tK d.m tkc))
  have H4 := Lib.hid (show HasBlk ((w3.setCell ⟨w.heap.size, 0, none⟩ (.slice tA d.n tc)).setCell ⟨w.heap.size, 1, none⟩ (.slice tK d.m tkc)) _ _ _ from (H3.out.far (by simp) _).far (by simp) _)
  have R4 := Lib.hid (show HasBlk ((w3.setCell ⟨w.heap.size, 0, none⟩ (.slice tA d.n tc)).setCell ⟨w.heap.size, 1, none⟩ (.slice tK d.m tkc)) _ _ _ from (R3.out.far (by simp; omega) _).far (by simp; omega) _)
  have GO4 := Lib.hid (show GOwn (w.heap.size + 1 + 1 + 1) ((w3.setCell ⟨w.heap.size, 0, none⟩ (.slice tA d.n tc)).setCell ⟨w.heap.size, 1, none⟩ (.slice tK d.m tkc)) ⟨tA, tc, tK, tkc, KA', KC'⟩ d from ((GO.out.base zb4).lset (by omega) _).lset (by omega) _)
  have B6 := Lib.hid (show Below w.heap.size w ((w3.setCell ⟨w.heap.size, 0, none⟩ (.slice tA d.n tc)).setCell ⟨w.heap.size, 1, none⟩ (.slice tK d.m tkc)) from Below.setCell (Below.setCell B5.out (by simp) _) (by simp) _)
  have z5 : w.heap.size + 1 + 1 + 1 ≤ (((w3.setCell ⟨w.heap.size, 0, none⟩ (.slice tA d.n tc)).setCell ⟨w.heap.size, 1, none⟩ (.slice tK d.m tkc))).heap.size := by have := B5.out.size; have := R3.out.lt; simp; omega
  clear p0 p1 pf0 pf1 zp P3 H3 R3 GO B5 zb4
  generalize ((w3.setCell ⟨w.heap.size, 0, none⟩ (.slice tA d.n tc)).setCell ⟨w.heap.size, 1, none⟩ (.slice tK d.m tkc)) = v5 at *
  have p0 := P4.out.cell 0
  have h0 := H4.out.cell 0
  have h1 := H4.out.cell 1
  have zp := P4.out.lt
  have zh := H4.out.lt
  simp at p0 h0 h1
  have KX := Lib.hid (kill_any tA d.n tc d.g d.b k (d.g k) v5 GO4.out.ok.ar (by have := Sm.out.n; omega))
  go_wp2_with fail
  refine KX.out.mono ?_
  rintro e v6 ⟨hx, bel⟩
  rcases hx with ⟨h, _⟩ | ⟨_, h, _⟩ | ⟨_, _, va, rfl, hown⟩
  · exact absurd MAY.out.1 h
  · exact absurd HLD.out h
  obtain ⟨X, rfl, hX, hXb⟩ := hown
  have hAr := own_of_blk hXb (cellsR_len 2 _ _) hX (by have := Sm.out.n; unfold maxLen; omega)
  have P6 := Lib.hid (P4.out.below bel)
  have H6 := Lib.hid (H4.out.below bel)
  have R6 := Lib.hid (R4.out.below bel)
  have GO6 := Lib.hid (show GOwn (w.heap.size + 1 + 1 + 1) v6 ⟨some ⟨X, 0, none⟩, d.n, tK, tkc, KA', KC'⟩ ⟨d.n, d.g, upd d.b k false, d.m, d.L, d.S, d.Q⟩ from ⟨own_base hAr z5, (GO4.out.below bel).ks, (GO4.out.below bel).kd⟩)
  have B7 := Lib.hid (B6.out.trans (bel.mono B6.out.size))
  have z6 : w.heap.size + 1 + 1 + 1 ≤ v6.heap.size := Nat.le_trans z5 bel.size
  clear bel hX hXb hAr p0 h0 h1 zp zh P4 H4 R4 GO4 B6 z5 KX HLD
  have p0 := P6.out.cell 0
  have pf0 := P6.out.frozen 0
  have zp := P6.out.lt
  simp at p0
  go_upto_region 6 with fail
  have P7 := Lib.hid (show HasBlk (v6.setCell ⟨w.heap.size, 0, none⟩ (.slice (some ⟨X, 0, none⟩) d.n d.n)) w.heap.size 27 #[.slice (some ⟨X, 0, none⟩) d.n d.n, .slice tK d.m tkc] by simpa using P6.out.set 0 (.slice (some ⟨X, 0, none⟩) d.n d.n))
  have H7 := Lib.hid (show HasBlk (v6.setCell ⟨w.heap.size, 0, none⟩ (.slice (some ⟨X, 0, none⟩) d.n d.n)) _ _ _ from H6.out.far (by simp) _)
  have R7 := Lib.hid (show HasBlk (v6.setCell ⟨w.heap.size, 0, none⟩ (.slice (some ⟨X, 0, none⟩) d.n d.n)) _ _ _ from R6.out.far (by simp; omega) _)
  have GO7 := Lib.hid (show GOwn (w.heap.size + 1 + 1 + 1) (v6.setCell ⟨w.heap.size, 0, none⟩ (.slice (some ⟨X, 0, none⟩) d.n d.n)) ⟨some ⟨X, 0, none⟩, d.n, tK, tkc, KA', KC'⟩ _ from GO6.out.lset (by omega) _)
  have B8 := Lib.hid (show Below w.heap.size w (v6.setCell ⟨w.heap.size, 0, none⟩ (.slice (some ⟨X, 0, none⟩) d.n d.n)) from Below.setCell B7.out (by simp) _)
  clear p0 pf0 zp P6 H6 R6 GO6 B7
  generalize v6.setCell ⟨w.heap.size, 0, none⟩ (.slice (some ⟨X, 0, none⟩) d.n d.n) = v7 at *
  obtain ⟨gK, hK, hgB, hgl, hgf⟩ := own_some GO7.out.ks (show 0 < d.m by have := KI.out.2; omega)
  dsimp only at hK
  subst hK
  have c0 : v7.cell? ⟨gK, k, none⟩ = some (.slice (KA' k) (d.L k) (KC' k)) := by
    obtain ⟨g', o', hA', _, hc'⟩ := GO7.out.ok.ks (show 0 < d.m by have := KI.out.2; omega)
    cases hA'
    simpa [kv] using hc' k KI.out.2 0 (by omega)
  have cf0 := hgf k
  have p1 := P7.out.cell 1
  have h0 := H7.out.cell 0
  have zp := P7.out.lt
  have zh := H7.out.lt
  simp at p1 h0
  have GO8 := Lib.hid (show GOwn (w.heap.size + 1 + 1 + 1) (v7.setCell ⟨gK, k, none⟩ (.slice none 0 0)) ⟨some ⟨X, 0, none⟩, d.n, some ⟨gK, 0, none⟩, tkc, upd KA' k none, upd KC' k 0⟩ (d.dead k) from GO7.out.put KI.out.2 rfl (World.grownBy.refl v7 _) (own_nil _ _ _ _) (.inl rfl))
  go_upto_region 7 with fail
  have P8 := Lib.hid (P7.out.far (p := ⟨gK, k, none⟩) (by simp; omega) (.slice none 0 0))
  have H8 := Lib.hid (H7.out.far (p := ⟨gK, k, none⟩) (by simp; omega) (.slice none 0 0))
  have R8 := Lib.hid (R7.out.far (p := ⟨gK, k, none⟩) (by simp; omega) (.slice none 0 0))
  have B9 := Lib.hid (Below.setCell (p := ⟨gK, k, none⟩) B8.out (by simp; omega) (.slice none 0 0))
  have lt8 : gK < (v7.setCell ⟨gK, k, none⟩ (.slice none 0 0)).heap.size := by simpa using hgl
  clear c0 cf0 p1 h0 zp zh P7 H7 R7 GO7 B8 hgf hgl
  generalize v7.setCell ⟨gK, k, none⟩ (.slice none 0 0) = v8 at *
  have p1 := P8.out.cell 1
  have zp := P8.out.lt
  simp at p1
  go_wp2
  clear p1 zp
  obtain ⟨d1, hd1⟩ : ∃ d1, d1 = d.dead k := ⟨_, rfl⟩
  have D1 := Lib.hid hd1
  have DN := Lib.hid (show d1.n = d.n ∧ d1.m = d.m ∧ ∀ i, i < d.m → d1.L i ≤ 1000 from ⟨by rw [hd1]; rfl, by rw [hd1]; rfl, fun i hi => by
    rw [hd1]
    show upd d.L k 0 i ≤ 1000
    by_cases e : i = k
    · subst e; rw [upd_at]; omega
    · rw [upd_ne _ _ e]; exact Sm.out.L i hi⟩)
  rw [← hd1] at GO8
  clear hd1
  go_loopw [35] (fun idx wr => ∃ (i : Nat) (KAi : Nat → Option Addr) (KCi : Nat → Nat), i ≤ d.m ∧ idx = .int .i64 i ∧ GOwn (w.heap.size + 1 + 1 + 1) wr ⟨some ⟨X, 0, none⟩, d.n, some ⟨gK, 0, none⟩, tkc, KAi, KCi⟩ (killN d1 (k : Nat) (d.g k) i) ∧ HasBlk wr w.heap.size 27 #[.slice (some ⟨X, 0, none⟩) d.n d.n, .slice (some ⟨gK, 0, none⟩) d.m tkc] ∧ HasBlk wr (w.heap.size + 1) 29 #[.int .i64 k, .int .i64 (d.g k)] ∧ HasBlk wr (w.heap.size + 1 + 1) 27 #[.slice none 0 0, .slice none 0 0] ∧ Below w.heap.size w wr) (fun idx wr => d.m - (intOf idx).toNat)
  case atStart => exact ⟨0, upd KA' k none, upd KC' k 0, Nat.zero_le _, rfl, GO8.out, P8.out, H8.out, R8.out, B9.out⟩
  case round =>
    clear GO8 P8 H8 R8 B9 lt8
    obtain ⟨i, KAi, KCi, hid, rfl, hgo, hP, hH, hR, hbel⟩ := hrel
    have GOi := Lib.hid hgo
    have Pi := Lib.hid hP
    have Hi := Lib.hid hH
    have Ri := Lib.hid hR
    have Bi := Lib.hid hbel
    clear hgo hP hH hR hbel
    have hdm := Sm.out.m
    by_cases him : i < d.m
    · have NM := killN_n d1 (k : Nat) (d.g k) i
      have hmi : i < (killN d1 (k : Nat) (d.g k) i).m := by rw [NM.2, DN.out.2.1]; exact him
      have hLi : (killN d1 (k : Nat) (d.g k) i).L i ≤ 1000 := by rw [(killN_hi d1 (k : Nat) (d.g k) i i (Nat.le_refl _)).1]; exact DN.out.2.2 i him
      have c0 : wr.cell? ⟨gK, i, none⟩ = some (.slice (KAi i) ((killN d1 (k : Nat) (d.g k) i).L i) (KCi i)) := by
        obtain ⟨g', o', hA', _, hc'⟩ := GOi.out.ok.ks (by omega)
        cases hA'
        simpa [kv] using hc' i hmi 0 (by omega)
      have hoi := GOi.out.kd.kd i hmi
      obtain ⟨_, e0, _, ltK, _⟩ := own_some GOi.out.ks (show 0 < (killN d1 (k : Nat) (d.g k) i).m by omega)
      cases e0
      have hks := GOi.out.ks
      clear NM
      have j1 : (i : Int) < (d.m : Int) := by omega
      have j0 : (0 : Int) ≤ (i : Int) := by omega
      have HS := Lib.hid (show HasBlk wr w.heap.size 27 #[.slice (some ⟨X, 0, none⟩) d.n d.n, .slice (some ⟨gK, 0, none⟩) d.m tkc] ∧ wr.cell? ⟨gK, i, none⟩ = some (.slice (KAi i) ((killN d1 (k : Nat) (d.g k) i).L i) (KCi i)) from ⟨Pi.out, c0⟩)
      have KS := Lib.hid c0
      have HMI := Lib.hid hmi
      have HLI := Lib.hid hLi
      have HOI := Lib.hid hoi
      have HKS := Lib.hid hks
      clear hmi hLi hoi hks
      go_upto_region 10 with fail
      clear c0
      refine wp_region_E (fun W => HasBlk W w.heap.size 27 #[.slice (some ⟨X, 0, none⟩) d.n d.n, .slice (some ⟨gK, 0, none⟩) d.m tkc] ∧ W.cell? ⟨gK, i, none⟩ = some (.slice (KAi i) ((killN d1 (k : Nat) (d.g k) i).L i) (KCi i))) 7 (by kernel_rfl) ?_
      refine wpAnyE_take (i := 0) (v := .pointer (some ⟨w.heap.size, 1, none⟩)) rfl (by kernel_rfl) (fun _ _ _ h => h) (.inl ⟨by kernel_rfl, fun W hW => ?_⟩) HS.out ?_
      · obtain ⟨hWP, hWK⟩ := hW
        have q1 := hWP.cell 1
        simp at q1
        go_simp
      simp only [Act.put, List.setIfInBounds_toArray]
      refine wpAnyE_take (i := 1) (v := .slice (some ⟨gK, 0, none⟩) d.m tkc) rfl (by kernel_rfl) (fun _ _ _ h => h) (.inl ⟨by kernel_rfl, fun W hW => ?_⟩) HS.out ?_
      · obtain ⟨hWP, hWK⟩ := hW
        have q1 := hWP.cell 1
        simp at q1
        go_simp
      simp only [Act.put]
      refine wpAnyE_take (i := 2) (v := .int .i64 i) rfl (by kernel_rfl) (fun _ _ _ h => h) (.inl ⟨by kernel_rfl, fun W hW => ?_⟩) HS.out ?_
      · obtain ⟨hWP, hWK⟩ := hW
        have q1 := hWP.cell 1
        simp at q1
        go_simp
      simp only [Act.put]
      refine wpAnyE_take (i := 3) (v := .slice (KAi i) ((killN d1 (k : Nat) (d.g k) i).L i) (KCi i)) rfl (by kernel_rfl) (fun _ _ _ h => h) (.inl ⟨by kernel_rfl, fun W hW => ?_⟩) HS.out ?_
      · obtain ⟨hWP, hWK⟩ := hW
        have q1 := hWP.cell 1
        simp at q1
        go_simp
      simp only [Act.put]
      refine wpAnyE_take (i := 4) (v := .func (.func 51) #[] #[.pointer (some ⟨w.heap.size + 1, 0, none⟩)]) rfl (by kernel_rfl) (fun _ _ _ h => h) (.inl ⟨by kernel_rfl, fun W hW => ?_⟩) HS.out ?_
      · obtain ⟨hWP, hWK⟩ := hW
        have q1 := hWP.cell 1
        simp at q1
        go_simp
      simp only [Act.put]
      clear HS
      refine wpAnyE_step (i := 5) rfl (by kernel_rfl) (fun KQ HK => ?_)
      go_wp2_with fail
      refine (delf_any (w.heap.size + 1 + 1 + 1) ((killN d1 (k : Nat) (d.g k) i).L i) (KCi i) (w.heap.size + 1) (KAi i) ((killN d1 (k : Nat) (d.g k) i).S i) ((killN d1 (k : Nat) (d.g k) i).Q i) (k : Nat) (d.g k) wr.drew (own_drew HOI.out) Hi.out.drew (own_low HOI.out (by omega)) HLI.out).mono ?_
      rintro e w7 ⟨A2, c2, rfl, hown7, hgr7, hat7⟩
      have hgr8 : wr.grownBy w7 (Value.slice (KAi i) ((killN d1 (k : Nat) (d.g k) i).L i) (KCi i)).ownBlock := ⟨hgr7.os, hgr7.tape, hgr7.output, hgr7.size, hgr7.block⟩
      have neK : some gK ≠ (Value.slice (KAi i) ((killN d1 (k : Nat) (d.g k) i).L i) (KCi i)).ownBlock := by
        intro e
        rcases own_types HOI.out HKS.out (by decide) with h1 | h1
        · rw [h1] at e; cases e
        · exact h1 e.symm
      have k7 := hgr8.cell KS.out neK
      have P7 := Lib.hid (Pi.out.grown hgr8 (own_low HOI.out (by omega)))
      have H7 := Lib.hid (Hi.out.grown hgr8 (own_low HOI.out (by omega)))
      have R7 := Lib.hid (Ri.out.grown hgr8 (own_low HOI.out (by omega)))
      have ks7 := own_keep HKS.out hgr8 (own_types HKS.out HOI.out (by decide))
      obtain ⟨_, e7, _, _, hf7⟩ := own_some ks7 (show 0 < (killN d1 (k : Nat) (d.g k) i).m by have := HMI.out; omega)
      cases e7
      have f7 := hf7 i
      have lt7 : gK < w7.heap.size := Nat.lt_of_lt_of_le ltK hgr8.size
      have GO8 := Lib.hid (GOi.out.put HMI.out rfl hgr8 hown7 (hat7.elim (fun h => .inr (.inl h)) (fun ⟨q, h1, h2⟩ => .inr (.inr ⟨q, h1, h2⟩))))
      have B7 := Lib.hid (show Below w.heap.size w w7 from below_grown (v := .slice (KAi i) ((killN d1 (k : Nat) (d.g k) i).L i) (KCi i)) Bi.out hgr8 HOI.out (by omega) Bi.out.size)
      have K7 := Lib.hid k7
      obtain ⟨lv, hlv⟩ : ∃ lv, Value.slice A2 (keptH ((killN d1 (k : Nat) (d.g k) i).S i) ((killN d1 (k : Nat) (d.g k) i).Q i) (k : Nat) (d.g k) ((killN d1 (k : Nat) (d.g k) i).L i)).length c2 = lv := ⟨_, rfl⟩
      have GO9 := Lib.hid (show GOwn (w.heap.size + 1 + 1 + 1) (w7.setCell ⟨gK, i, none⟩ lv) ⟨some ⟨X, 0, none⟩, d.n, some ⟨gK, 0, none⟩, tkc, upd KAi i A2, upd KCi i c2⟩ (killN d1 (k : Nat) (d.g k) (i + 1)) by rw [← hlv]; exact GO8.out)
      have O1 : lv.oneCell' = true := by rw [← hlv]; rfl
      have O2 : lv.cells = #[lv] := by rw [← hlv]; rfl
      rw [hlv]
      clear hown7 hgr7 hat7 hgr8 ks7 hf7 neK GO8 GOi Pi Hi Ri Bi
      go_wp2
      refine HK _ _ (fun _ => ⟨P7.out, K7.out⟩) ?_
      clear HK
      refine wpAnyE_step (i := 6) rfl (by kernel_rfl) (fun KQ HK => ?_)
      go_wp2
      refine HK _ _ (fun _ => ⟨P7.out, K7.out⟩) ?_
      clear HK
      rw [← hlv] at GO9 ⊢
      clear hlv O1 O2
      refine wpAnyE_step (i := 7) rfl (by kernel_rfl) (fun KQ HK => ?_)
      go_wp2
      refine HK _ _ (fun h => absurd rfl h) ?_
      clear HK
      refine wpAnyE_done (by kernel_rfl) ?_
      clear k7 f7
      go_wp2
      go_roundw
      case rel => exact ⟨i + 1, _, _, by omega, by go_num, GO9.out, P7.out.far (by simp; omega) _, H7.out.far (by simp; omega) _, R7.out.far (by simp; omega) _, Below.setCell B7.out (by simp; omega) _⟩
      case measure => simp [intOf]; omega
    · obtain rfl : d.m = i := by omega
      have GF := Lib.hid (show GOwn (w.heap.size + 1 + 1 + 1) wr ⟨some ⟨X, 0, none⟩, d.n, some ⟨gK, 0, none⟩, tkc, KAi, KCi⟩ (d.kill k) by have := GOi.out; rw [D1.out] at this; exact this)
      have p0 := Pi.out.cell 0
      have p1 := Pi.out.cell 1
      have zp := Pi.out.lt
      have r0 := Ri.out.cell 0
      have r1 := Ri.out.cell 1
      have rf0 := Ri.out.frozen 0
      have rf1 := Ri.out.frozen 1
      have zr := Ri.out.lt
      simp at p0 p1 r0 r1
      clear GOi Pi Hi Ri
      go_wp2
      refine bodyPost_ret (v := .tuple #[.agg #[.slice (some ⟨X, 0, none⟩) d.n d.n, .slice (some ⟨gK, 0, none⟩) d.m tkc], .int .i64 0]) (by simp [results, Try.results25, go_sem, *]) rfl ⟨.inr ⟨by first | trivial | rfl, ⟨some ⟨X, 0, none⟩, d.n, some ⟨gK, 0, none⟩, tkc, KAi, KCi⟩, rfl, ?_⟩, ?_⟩
      · exact ((GF.out.lset (by omega) _).lset (by omega) _).base (by omega)
      · have bb := Bi.out
        exact Below.setCell (Below.setCell bb (by first | omega | (simp; done) | (simp; omega)) _) (by first | omega | (simp; done) | (simp; omega)) _
end Go.Proofs.Ytgkeiaggldahnaa
/- nodes: what may be stays what may be: plain law of Unlink and Kill. -/
namespace Go.Proofs.Ytgkeiaggldahnaa
open Go.RowKit
set_option linter.unusedVariables false
theorem unlink_may {d : GD} {s a : Nat} (hm : d.May) (ha : a < d.L s) : (d.unlink s a).May := by
  refine ⟨hm.1, hm.2.1, fun i hi => ?_, GE.Sub.acyc (e := d.E) (fun i k hi hk => ?_) hm.2.2.2⟩
  · obtain ⟨h1, h2, h3⟩ := hm.2.2.1 i hi
    by_cases e : i = s
    · subst e
      refine ⟨by rw [unlink_L]; omega, fun hp => h2 (by rw [unlink_L] at hp; omega), fun k hk => ?_⟩
      rw [unlink_L] at hk
      rw [unlink_S, unlink_Q]
      by_cases h : k < a
      · rw [delF_lo h, delF_lo h]; exact h3 k (by omega)
      · rw [delF_hi (by omega), delF_hi (by omega)]; exact h3 (k + 1) (by omega)
    · refine ⟨by rw [unlink_Lne e]; exact h1, fun hp => h2 (by rw [unlink_Lne e] at hp; exact hp), fun k hk => ?_⟩
      rw [unlink_Lne e] at hk
      rw [unlink_Sne e, unlink_Qne e]
      exact h3 k hk
  · refine ⟨hi, ?_⟩
    have hk' : k < (d.unlink s a).L i := hk
    by_cases e : i = s
    · subst e
      rw [unlink_L] at hk'
      by_cases h : k < a
      · refine ⟨k, by show k < d.L i; omega, ?_⟩
        show (d.S i k).toNat = ((d.unlink i a).S i k).toNat
        rw [unlink_S, delF_lo h]
      · refine ⟨k + 1, by show k + 1 < d.L i; omega, ?_⟩
        show (d.S i (k + 1)).toNat = ((d.unlink i a).S i k).toNat
        rw [unlink_S, delF_hi (by omega)]
    · rw [unlink_Lne e] at hk'
      refine ⟨k, hk', ?_⟩
      show (d.S i k).toNat = ((d.unlink s a).S i k).toNat
      rw [unlink_Sne e]
/-- A list that the loop has gone over holds what is kept. -/
theorem killN_lo (d : GD) (x y : Int) : ∀ i j, j < i → (killN d x y i).L j = (keptH (d.S j) (d.Q j) x y (d.L j)).length ∧ ((killN d x y i).S j = fun t => d.S j ((keptH (d.S j) (d.Q j) x y (d.L j)).getD t 0)) ∧ ((killN d x y i).Q j = fun t => d.Q j ((keptH (d.S j) (d.Q j) x y (d.L j)).getD t 0))
  | 0, j, h => absurd h (by omega)
  | i + 1, j, h => by
    by_cases e : j = i
    · subst e
      obtain ⟨h1, h2, h3⟩ := killN_hi d x y j j (Nat.le_refl _)
      refine ⟨(upd_at _ _ _).trans (by rw [h1, h2, h3]), ?_, ?_⟩
      · refine (if_pos rfl).trans ?_
        rw [h1, h2, h3]
      · refine (if_pos rfl).trans ?_
        rw [h1, h2, h3]
    · have ih := killN_lo d x y i j (by omega)
      exact ⟨(upd_ne _ _ e).trans ih.1, (if_neg e).trans ih.2.1, (if_neg e).trans ih.2.2⟩
theorem killN_same (d : GD) (x y : Int) : ∀ i, (killN d x y i).n = d.n ∧ (killN d x y i).g = d.g ∧ (killN d x y i).b = d.b ∧ (killN d x y i).m = d.m
  | 0 => ⟨rfl, rfl, rfl, rfl⟩
  | i + 1 => killN_same d x y i
/-- The lists of a graph one node of which is taken out. -/
theorem kill_row (d : GD) (k : Nat) {j : Nat} (hj : j < d.m) : ((d.kill k).L j = if j = k then 0 else (keptH (d.S j) (d.Q j) (k : Nat) (d.g k) (d.L j)).length) ∧ (j ≠ k → ((d.kill k).S j = fun t => d.S j ((keptH (d.S j) (d.Q j) (k : Nat) (d.g k) (d.L j)).getD t 0)) ∧ ((d.kill k).Q j = fun t => d.Q j ((keptH (d.S j) (d.Q j) (k : Nat) (d.g k) (d.L j)).getD t 0))) := by
  obtain ⟨h1, h2, h3⟩ := killN_lo (d.dead k) (k : Nat) (d.g k) d.m j hj
  by_cases e : j = k
  · subst e
    refine ⟨?_, fun h => absurd rfl h⟩
    rw [if_pos rfl]
    refine h1.trans ?_
    have : (d.dead j).L j = 0 := upd_at _ _ _
    rw [this]
    rfl
  · have e1 : (d.dead k).L j = d.L j := upd_ne _ _ e
    have e2 : (d.dead k).S j = d.S j := if_neg e
    have e3 : (d.dead k).Q j = d.Q j := if_neg e
    rw [e1, e2, e3] at h1 h2 h3
    exact ⟨by rw [if_neg e]; exact h1, fun _ => ⟨h2, h3⟩⟩
theorem kill_may {d : GD} {k : Nat} (hm : d.May) (hk : HeldA d.n d.g d.b (k : Nat) (d.g k)) : (d.kill k).May := by
  obtain ⟨s1, s2, s3, s4⟩ := killN_same (d.dead k) (k : Nat) (d.g k) d.m
  have s1 : (d.kill k).n = d.n := s1
  have s2 : (d.kill k).g = d.g := s2
  have s3 : (d.kill k).b = upd d.b k false := s3
  have s4 : (d.kill k).m = d.m := s4
  have edge : ∀ i t, i < d.m → t < (d.kill k).L i → i ≠ k ∧ ∃ t', t' < d.L i ∧ ¬ (d.S i t' = (k : Nat) ∧ d.Q i t' = d.g k) ∧ (d.kill k).S i t = d.S i t' ∧ (d.kill k).Q i t = d.Q i t' := fun i t hi ht => by
    obtain ⟨r1, r2⟩ := kill_row d k hi
    rw [r1] at ht
    by_cases e : i = k
    · rw [if_pos e] at ht; omega
    · rw [if_neg e] at ht
      refine ⟨e, (keptH (d.S i) (d.Q i) (k : Nat) (d.g k) (d.L i)).getD t 0, ?_⟩
      have hmem : (keptH (d.S i) (d.Q i) (k : Nat) (d.g k) (d.L i)).getD t 0 ∈ keptH (d.S i) (d.Q i) (k : Nat) (d.g k) (d.L i) := by
        rw [List.getD_eq_getElem?_getD, List.getElem?_eq_getElem ht]
        exact List.getElem_mem ht
      obtain ⟨m1, m2⟩ := kept_mem _ _ _ _ _ _ hmem
      exact ⟨m1, m2, by rw [(r2 e).1], by rw [(r2 e).2]⟩
  refine ⟨by rw [s1, s2]; exact hm.1, by rw [s1, s4]; exact hm.2.1, fun i hi => ?_, GE.Sub.acyc (e := d.E) (fun i t hi ht => ?_) hm.2.2.2⟩
  · rw [s4] at hi
    obtain ⟨h1, h2, h3⟩ := hm.2.2.1 i hi
    obtain ⟨r1, _⟩ := kill_row d k hi
    have hle := kept_len (d.S i) (d.Q i) (k : Nat) (d.g k) (d.L i)
    refine ⟨by rw [r1]; split <;> omega, fun hp => ?_, fun t ht => ?_⟩
    · obtain ⟨e, t', h4, _⟩ := edge i 0 hi hp
      rw [s3, upd_ne _ _ e]
      exact h2 (by omega)
    · obtain ⟨e, t', h4, h5, h6, h7⟩ := edge i t hi ht
      rw [h6, h7, s1, s2, s3]
      obtain ⟨a1, a2, a3, a4⟩ := h3 t' h4
      refine ⟨a1, a2, a3, ?_⟩
      rw [upd_ne _ _ (fun e2 => h5 ⟨by omega, by rw [← a3, e2]⟩)]
      exact a4
  · have hi' : i < (d.kill k).n := hi
    rw [s1] at hi'
    obtain ⟨_, t', h4, _, h6, _⟩ := edge i t (by rw [hm.2.1]; exact hi') ht
    refine ⟨hi', t', h4, ?_⟩
    show (d.S i t').toNat = ((d.kill k).S i t).toNat
    rw [h6]
end Go.Proofs.Ytgkeiaggldahnaa
/- nodes: the chapter's examples, reckoned. -/
namespace Go.Proofs.Ytgkeiaggldahnaa
open Go.RowKit
set_option linter.unusedVariables false
theorem GD.Three.ask2' {d : GD} (h : d.Three) {i j : Nat} (hi : i < 3) (hj : j < 3) (x : Int) : linkE d.ex (i : Nat) 1 (j : Nat) 1 x = linkH d.ex i j x := by
  unfold linkE
  rw [if_pos (h.ask2 hi hj)]
  rfl
theorem GD.Three.e1 {d : GD} (h : d.Three) : linkE d.ex (2 : Nat) 1 (0 : Nat) 1 0 = 60 := by
  obtain ⟨hm, _, _, l0, l1, l2, _⟩ := h.ex
  rw [h.ask2' (by omega) (by omega)]
  unfold linkH
  rw [if_neg (by rw [l2]; omega), if_neg (by omega), if_pos ((GE.reachB_iff _ _ _).2 h.down)]
theorem GD.Three.e2 {d : GD} (h : d.Three) : linkE d.ex (2 : Nat) 1 (2 : Nat) 1 0 = 60 := by
  obtain ⟨hm, _, _, l0, l1, l2, _⟩ := h.ex
  rw [h.ask2' (by omega) (by omega)]
  unfold linkH
  rw [if_neg (by rw [l2]; omega), if_neg (by omega), if_pos ((GE.reachB_iff _ _ _).2 (.self _))]
theorem GD.Three.e3 {d : GD} (h : d.Three) : linkE d.ex (0 : Nat) 1 (2 : Nat) 1 3 = 2 := by
  obtain ⟨hm, _, _, l0, l1, l2, _⟩ := h.ex
  rw [h.ask2' (by omega) (by omega)]
  unfold linkH
  rw [if_pos (by rw [l0]; omega)]
theorem GD.Three.e4 {d : GD} (h : d.Three) : linkE d.ex (0 : Nat) 1 (2 : Nat) 1 1 = 0 ∧ (d.ex.link 0 1 2 1).May ∧ (d.ex.link 0 1 2 1).L 0 = 3 ∧ (d.ex.link 0 1 2 1).S 0 1 = 2 ∧ (d.ex.link 0 1 2 1).Q 0 1 = 1 := by
  obtain ⟨hm, _, hh, l0, l1, l2, _⟩ := h.ex
  have g2 : d.ex.g 2 = 1 := h.g 2 (by omega)
  have b0 : d.ex.b 0 = true := h.b 0 (by omega)
  have n3 : d.ex.n = 3 := h.n
  refine ⟨?_, ?_, by rw [link_L, l0], by rw [link_S, insF_at], by rw [link_Q, insF_at]⟩
  · rw [h.ask2' (by omega) (by omega)]
    exact linkH_ok (a := 1) (by omega) (by omega) h.up
  · have a := link_may hm (s := 0) (t := 2) (a := 1) (by omega) b0 (by rw [g2]; exact hh 2 (by omega)) (by omega) (by omega) h.up
    rw [g2] at a
    exact a
theorem GD.Three.e5 {d : GD} (h : d.Three) : (d.ex.kill 1).May ∧ (d.ex.kill 1).L 0 = 0 ∧ HeldA (d.ex.kill 1).n (d.ex.kill 1).g (d.ex.kill 1).b (0 : Nat) 1 ∧ ¬ HeldA (d.ex.kill 1).n (d.ex.kill 1).g (d.ex.kill 1).b (1 : Nat) 1 := by
  obtain ⟨hm, _, hh, l0, l1, l2, hs, _⟩ := h.ex
  have g1 : d.ex.g 1 = 1 := h.g 1 (by omega)
  have m3 : d.ex.m = 3 := by rw [hm.2.1]; exact h.n
  obtain ⟨s1, s2, s3, s4⟩ := killN_same (d.ex.dead 1) (1 : Nat) (d.ex.g 1) d.ex.m
  have s1 : (d.ex.kill 1).n = d.ex.n := s1
  have s2 : (d.ex.kill 1).g = d.ex.g := s2
  have s3 : (d.ex.kill 1).b = upd d.ex.b 1 false := s3
  obtain ⟨r1, _⟩ := kill_row d.ex 1 (j := 0) (by omega)
  refine ⟨kill_may hm (by rw [g1]; exact hh 1 (by omega)), ?_, ?_, ?_⟩
  · rw [r1, if_neg (by omega), l0, g1]
    show (keptH (d.ex.S 0) (d.ex.Q 0) 1 1 (1 + 1)).length = 0
    rw [kept_yes (hs 1 (by omega)), show (1 : Nat) = 0 + 1 from rfl, kept_yes (hs 0 (by omega))]
    rfl
  · rw [s1, s2, s3]
    obtain ⟨a1, a2, a3, a4⟩ := hh 0 (by omega)
    refine ⟨a1, a2, a3, ?_⟩
    rw [upd_ne _ _ (by decide)]
    exact a4
  · rw [s3]
    rintro ⟨_, _, _, a4⟩
    have : upd d.ex.b 1 false 1 = false := upd_at _ _ _
    have a4 : upd d.ex.b 1 false 1 = true := a4
    rw [this] at a4
    cases a4
theorem GD.Three.e8 {d : GD} (h : d.Three) : unlinkE d.ex (0 : Nat) 1 2 = 2 := by
  obtain ⟨hm, _, hh, l0, _⟩ := h.ex
  unfold unlinkE
  rw [if_pos (h.ask (i := 0) (by omega)), if_pos]
  show (2 : Int) < 0 ∨ ((d.ex.L 0 : Nat) : Int) ≤ 2
  omega
end Go.Proofs.Ytgkeiaggldahnaa
