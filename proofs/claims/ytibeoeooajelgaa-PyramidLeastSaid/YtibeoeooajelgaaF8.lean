/- frame: the reference's New. -/
import Derived.Test.YtibeoeooajelgaaF7
import Derived.Test.YtibeoeooajelgaaF6
import Derived.Deep.AppendLies
namespace Go.Proofs.Ytibeoeooajelgaa
open Go.RowKit
set_option linter.unusedVariables false
/-- Two rows lie in no block in common. -/
def DJ (v u : Value) : Prop := ∀ x, v.ownBlock = some x → u.ownBlock ≠ some x
theorem DJ.symm {v u : Value} (h : DJ v u) : DJ u v := fun x hu hv => h x hv hu
theorem DJ.ne {v u : Value} (h : DJ v u) : v.ownBlock = none ∨ v.ownBlock ≠ u.ownBlock := by
  cases e : v.ownBlock with
  | none => exact .inl rfl
  | some x => exact .inr fun q => h x e q.symm
theorem DJ.app {v u : Value} {w : World} {B e s n m : Nat} {xs : List Value} {g H c : Nat} (h : DJ v u) (ho : w.ownsRow B e s u n xs) (hat : v.ownBlock = some g ∨ g = H) (hH : w.heap.size ≤ H) : DJ (.slice (some ⟨g, 0, none⟩) m c) u := by
  intro x hx hu
  have hxg : g = x := by simpa [Value.ownBlock] using hx
  subst hxg
  rcases hat with q | q
  · exact h _ q hu
  · have := (ho.lt _ hu).2
    omega
theorem own_lt_ne {w : World} {B e s n g : Nat} {v : Value} {xs : List Value} (ho : w.ownsRow B e s v n xs) (h : g < B) : v.ownBlock ≠ some g := fun q => by have := (ho.lt g q).1; omega
theorem own_grown {w w' : World} {B e s n : Nat} {v : Value} {xs : List Value} {row : Option Nat} (h : w.ownsRow B e s v n xs) (hg : w.grownBy w' row) (hne : v.ownBlock = none ∨ v.ownBlock ≠ row) : w'.ownsRow B e s v n xs := by
  refine ⟨h.1, ?_⟩
  rcases h.2 with h | ⟨g, cap, cur, rfl, hB, hblk, h3⟩
  · exact .inl h
  · refine .inr ⟨g, cap, cur, rfl, hB, HasBlk.grown hblk hg ?_, h3⟩
    rcases hne with h | h
    · simp [Value.ownBlock] at h
    · intro e; apply h; rw [e]; rfl
theorem int_grow (m : Nat) (x : Int) : cellsR 1 (fun _ _ => Value.int .i64 x) (m + 1) = cellsR 1 (fun _ _ => Value.int .i64 x) m ++ [.int .i64 x] := by
  rw [cellsR_succ]; rfl
theorem col_grow (m : Nat) (c : Nat → Int) : cellsR 4 (fun _ j => Value.int .u8 (c j)) (m + 1) = cellsR 4 (fun _ j => Value.int .u8 (c j)) m ++ [.int .u8 (c 0), .int .u8 (c 1), .int .u8 (c 2), .int .u8 (c 3)] := by
  rw [cellsR_succ]; rfl

set_option maxRecDepth 100000 in
set_option maxHeartbeats 8000000 in
theorem refnew_any (W H : Int) (c : Nat → Int) (w : World) : Calls Try.prog 14 #[.int .i64 W, .int .i64 H, .agg #[.int .u8 (c 0), .int .u8 (c 1), .int .u8 (c 2), .int .u8 (c 3)]] w fun e w' => FRes (NewV W H c) e w' ∧ Below w.heap.size w w' := by
  by_cases h0 : (W < 1)
  · have g0 : decide ((W < 1)) = true := decide_eq_true h0
    have Hk := Lib.hid h0
    clear h0
    go_enter Try.func14, Try.ntmps14
    go_wp2
    refine bodyPost_ret (v := .tuple #[.agg #[.int .i64 0, .int .i64 0, .slice none 0 0, .slice none 0 0, .slice none 0 0, .slice none 0 0], .int .i64 2]) (by simp [results, Try.results14, go_sem, *]) rfl ⟨FRes.zero (.inr ⟨fun h => by have := Hk.out; omega, rfl, rfl⟩), ?_⟩
    repeat' (first | assumption | refine Below.setCell ?_ (by first | omega | (simp; done) | (simp; omega)) _ | refine Below.alloc ?_ (by first | omega | (simp; done) | (simp; omega)) _ | exact Below.refl _ _ | apply Below.drew)
  have g0 : decide ((W < 1)) = false := decide_eq_false h0
  by_cases h1 : (64 < W)
  · have g1 : decide ((64 < W)) = true := decide_eq_true h1
    have Hk := Lib.hid h1
    clear h1
    go_enter Try.func14, Try.ntmps14
    go_wp2
    refine bodyPost_ret (v := .tuple #[.agg #[.int .i64 0, .int .i64 0, .slice none 0 0, .slice none 0 0, .slice none 0 0, .slice none 0 0], .int .i64 2]) (by simp [results, Try.results14, go_sem, *]) rfl ⟨FRes.zero (.inr ⟨fun h => by have := Hk.out; omega, rfl, rfl⟩), ?_⟩
    repeat' (first | assumption | refine Below.setCell ?_ (by first | omega | (simp; done) | (simp; omega)) _ | refine Below.alloc ?_ (by first | omega | (simp; done) | (simp; omega)) _ | exact Below.refl _ _ | apply Below.drew)
  have g1 : decide ((64 < W)) = false := decide_eq_false h1
  by_cases h2 : (H < 1)
  · have g2 : decide ((H < 1)) = true := decide_eq_true h2
    have Hk := Lib.hid h2
    clear h2
    go_enter Try.func14, Try.ntmps14
    go_wp2
    refine bodyPost_ret (v := .tuple #[.agg #[.int .i64 0, .int .i64 0, .slice none 0 0, .slice none 0 0, .slice none 0 0, .slice none 0 0], .int .i64 2]) (by simp [results, Try.results14, go_sem, *]) rfl ⟨FRes.zero (.inr ⟨fun h => by have := Hk.out; omega, rfl, rfl⟩), ?_⟩
    repeat' (first | assumption | refine Below.setCell ?_ (by first | omega | (simp; done) | (simp; omega)) _ | refine Below.alloc ?_ (by first | omega | (simp; done) | (simp; omega)) _ | exact Below.refl _ _ | apply Below.drew)
  have g2 : decide ((H < 1)) = false := decide_eq_false h2
  by_cases h3 : (64 < H)
  · have g3 : decide ((64 < H)) = true := decide_eq_true h3
    have Hk := Lib.hid h3
    clear h3
    go_enter Try.func14, Try.ntmps14
    go_wp2
    refine bodyPost_ret (v := .tuple #[.agg #[.int .i64 0, .int .i64 0, .slice none 0 0, .slice none 0 0, .slice none 0 0, .slice none 0 0], .int .i64 2]) (by simp [results, Try.results14, go_sem, *]) rfl ⟨FRes.zero (.inr ⟨fun h => by have := Hk.out; omega, rfl, rfl⟩), ?_⟩
    repeat' (first | assumption | refine Below.setCell ?_ (by first | omega | (simp; done) | (simp; omega)) _ | refine Below.alloc ?_ (by first | omega | (simp; done) | (simp; omega)) _ | exact Below.refl _ _ | apply Below.drew)
  have g3 : decide ((64 < H)) = false := decide_eq_false h3
  obtain ⟨b0, b1⟩ := mul_bound (W := W) (H := H) (by omega) (by omega) (by omega) (by omega)
  have w0 : 1 ≤ W ∧ W ≤ 64 ∧ 1 ≤ H ∧ H ≤ 64 := by omega
  have HW := Lib.hid w0
  obtain ⟨n, hN⟩ : ∃ n : Nat, W * H = n := ⟨(W * H).toNat, by omega⟩
  rw [hN] at b0 b1
  have hn2 : n ≤ 4096 := by omega
  have hwr : IntKind.i64.wrap (n : Int) = n := IntWalk.i64_in _ (by omega)
  obtain ⟨i0, hi0, hz0, hz1, hz2⟩ := info_parts int_info
  obtain ⟨j0, hj0, hy0, hy1, hy2⟩ := info_parts col_info
  clear w0 b0 b1 h0 h1 h2 h3
  go_enter Try.func14, Try.ntmps14
  go_wp2
  go_loopw [9] (fun i wr => ∃ k : Nat, k ≤ n ∧ i = .int .i64 k ∧ ∃ A0 e0 A1 e1 A2 e2 A3 e3, HasBlk wr w.heap.size 23 #[.int .u8 (c 0), .int .u8 (c 1), .int .u8 (c 2), .int .u8 (c 3)] ∧ HasBlk wr (w.heap.size + 1) 29 #[.int .i64 0, .int .i64 0, .slice none 0 0, .slice none 0 0, .slice none 0 0, .slice none 0 0] ∧ HasBlk wr (w.heap.size + 1 + 1) 29 #[.int .i64 W, .int .i64 H, .slice A0 k e0, .slice A1 k e1, .slice A2 k e2, .slice A3 k e3] ∧ wr.ownsRow (w.heap.size + 3) 23 4 (.slice A0 k e0) k (cellsR 4 (fun _ j => .int .u8 (c j)) k) ∧ wr.ownsRow (w.heap.size + 3) 3 1 (.slice A1 k e1) k (cellsR 1 (fun _ _ => .int .i64 (-2048)) k) ∧ wr.ownsRow (w.heap.size + 3) 3 1 (.slice A2 k e2) k (cellsR 1 (fun _ _ => .int .i64 (-1)) k) ∧ wr.ownsRow (w.heap.size + 3) 3 1 (.slice A3 k e3) k (cellsR 1 (fun _ _ => .int .i64 (-1)) k) ∧ DJ (.slice A1 k e1) (.slice A2 k e2) ∧ DJ (.slice A1 k e1) (.slice A3 k e3) ∧ DJ (.slice A2 k e2) (.slice A3 k e3) ∧ Below w.heap.size w wr) (fun i wr => n - (intOf i).toNat)
  case atStart =>
    refine ⟨0, Nat.zero_le _, rfl, none, 0, none, 0, none, 0, none, 0, ?_, ?_, ?_, own_nil _ _ _ _, own_nil _ _ _ _, own_nil _ _ _ _, own_nil _ _ _ _, ?_, ?_, ?_, ?_⟩
    · exact ((hasBlk_new w _ _).alloc _).alloc _
    · simpa using (hasBlk_new (w.alloc (.cells #[.int .u8 (c 0), .int .u8 (c 1), .int .u8 (c 2), .int .u8 (c 3)] 23)) _ _).alloc _
    · simpa using hasBlk_new ((w.alloc (.cells #[.int .u8 (c 0), .int .u8 (c 1), .int .u8 (c 2), .int .u8 (c 3)] 23)).alloc (.cells #[.int .i64 0, .int .i64 0, .slice none 0 0, .slice none 0 0, .slice none 0 0, .slice none 0 0] 29)) 29 #[.int .i64 W, .int .i64 H, .slice none 0 0, .slice none 0 0, .slice none 0 0, .slice none 0 0]
    · intro x hx; simp [Value.ownBlock] at hx
    · intro x hx; simp [Value.ownBlock] at hx
    · intro x hx; simp [Value.ownBlock] at hx
    · repeat' (first | assumption | refine Below.setCell ?_ (by first | omega | (simp; done) | (simp; omega)) _ | refine Below.alloc ?_ (by first | omega | (simp; done) | (simp; omega)) _ | exact Below.refl _ _ | apply Below.drew)
  case round =>
    obtain ⟨k, hk, rfl, A0, e0, A1, e1, A2, e2, A3, e3, hG, hR, hU, r0, r1, r2, r3, d12, d13, d23, hbel⟩ := hrel
    have zb := hbel.size
    have zU := hU.lt
    have G_0 := hG.cell 0
    have G_1 := hG.cell 1
    have G_2 := hG.cell 2
    have G_3 := hG.cell 3
    have U_0 := hU.cell 0
    have U_1 := hU.cell 1
    have U_2 := hU.cell 2
    have U_3 := hU.cell 3
    have U_4 := hU.cell 4
    have U_5 := hU.cell 5
    have F_0 := hU.frozen 2
    have F_1 := hU.frozen 3
    have F_2 := hU.frozen 4
    have F_3 := hU.frozen 5
    simp at G_0 G_1 G_2 G_3 U_0 U_1 U_2 U_3 U_4 U_5
    have HG := Lib.hid hG
    have HR := Lib.hid hR
    have HU := Lib.hid hU
    have HB := Lib.hid hbel
    by_cases hkn : k < n
    · have hi : (k : Int) < (n : Int) := by omega
      have D12 := Lib.hid d12
      have D13 := Lib.hid d13
      have D23 := Lib.hid d23
      have hnew0 := heap_alloc_new wr (.cells #[.int .u8 (c 0), .int .u8 (c 1), .int .u8 (c 2), .int .u8 (c 3)] 23)
      clear hG hR hU hbel d12 d13 d23
      go_wp2_with (first | (at_builtin; refine wpList_append_lies _ rfl (.tmp 36) (.tmp 38) _ rfl (w.heap.size + 3) 23 j0 _ 4 4 Try.underlying26 hj0 hy0 hy1 hy2 rfl (by omega) (.slice A0 k e0) (k) (cellsR 4 (fun _ j => .int .u8 (c j)) k) rfl (r0.alloc _) ⟨wr.heap.size, 0, none⟩ 1 1 [.int .u8 (c 0), .int .u8 (c 1), .int .u8 (c 2), .int .u8 (c 3)] (by rfl) rfl (World.news_of_block (cs := #[.int .u8 (c 0), .int .u8 (c 1), .int .u8 (c 2), .int .u8 (c 3)]) (t := 23) (fr := (0, 0)) hnew0) (by simp [Value.oneCell']) (by omega) (by unfold maxLen; omega) (by omega) (by simp; omega) (wr.heap.size + 1) (by simp) ?_; intro x1 m1 u1 o1 hg1 hat1 hlt1; have zz1 := hg1.size; simp at zz1; have tG1 := (HG.out.alloc (.cells #[.int .u8 (c 0), .int .u8 (c 1), .int .u8 (c 2), .int .u8 (c 3)] 23)).grown hg1 (own_lt_ne r0 (by omega)); have tR1 := (HR.out.alloc (.cells #[.int .u8 (c 0), .int .u8 (c 1), .int .u8 (c 2), .int .u8 (c 3)] 23)).grown hg1 (HR.out.ne_own r0 (by decide)); have tU1 := (HU.out.alloc (.cells #[.int .u8 (c 0), .int .u8 (c 1), .int .u8 (c 2), .int .u8 (c 3)] 23)).grown hg1 (HU.out.ne_own r0 (by decide)); have V1_a := tU1.cell 2; have V1_b := tU1.cell 3; have V1_f := tU1.frozen 2; simp at V1_a V1_b; have G1 := Lib.hid (tG1.far (p := ⟨w.heap.size + 1 + 1, 2, none⟩) (by (first | (simp; done) | (simp; omega))) (.slice (some ⟨x1, 0, none⟩) (k + 1) m1)); have R1 := Lib.hid (tR1.far (p := ⟨w.heap.size + 1 + 1, 2, none⟩) (by (first | (simp; done) | (simp; omega))) (.slice (some ⟨x1, 0, none⟩) (k + 1) m1)); have U1 := Lib.hid (show HasBlk (u1.setCell ⟨w.heap.size + 1 + 1, 2, none⟩ (.slice (some ⟨x1, 0, none⟩) (k + 1) m1)) (w.heap.size + 1 + 1) 29 #[.int .i64 W, .int .i64 H, .slice (some ⟨x1, 0, none⟩) (k + 1) m1, .slice A1 k e1, .slice A2 k e2, .slice A3 k e3] from (by have := tU1.set 2 (.slice (some ⟨x1, 0, none⟩) (k + 1) m1); simpa using this)); rw [← col_grow] at o1; have q1_0 := ownsRow_setCell_other (a := ⟨w.heap.size + 1 + 1, 2, none⟩) o1 (tU1.ne_own o1 (by decide)) (.slice (some ⟨x1, 0, none⟩) (k + 1) m1); have p1_1 := own_grown (r1.alloc (.cells #[.int .u8 (c 0), .int .u8 (c 1), .int .u8 (c 2), .int .u8 (c 3)] 23)) hg1 (own_apart (r1) (r0) (by decide)); have q1_1 := ownsRow_setCell_other (a := ⟨w.heap.size + 1 + 1, 2, none⟩) p1_1 (tU1.ne_own p1_1 (by decide)) (.slice (some ⟨x1, 0, none⟩) (k + 1) m1); have p1_2 := own_grown (r2.alloc (.cells #[.int .u8 (c 0), .int .u8 (c 1), .int .u8 (c 2), .int .u8 (c 3)] 23)) hg1 (own_apart (r2) (r0) (by decide)); have q1_2 := ownsRow_setCell_other (a := ⟨w.heap.size + 1 + 1, 2, none⟩) p1_2 (tU1.ne_own p1_2 (by decide)) (.slice (some ⟨x1, 0, none⟩) (k + 1) m1); have p1_3 := own_grown (r3.alloc (.cells #[.int .u8 (c 0), .int .u8 (c 1), .int .u8 (c 2), .int .u8 (c 3)] 23)) hg1 (own_apart (r3) (r0) (by decide)); have q1_3 := ownsRow_setCell_other (a := ⟨w.heap.size + 1 + 1, 2, none⟩) p1_3 (tU1.ne_own p1_3 (by decide)) (.slice (some ⟨x1, 0, none⟩) (k + 1) m1); have B1 := Lib.hid (Below.setCell (p := ⟨w.heap.size + 1 + 1, 2, none⟩) (below_grown (v := .slice A0 k e0) (Below.alloc HB.out (by first | omega | (simp; omega)) _) hg1 (r0.alloc _) (by omega) (by simp; omega)) (by show w.heap.size ≤ w.heap.size + 1 + 1; omega) (.slice (some ⟨x1, 0, none⟩) (k + 1) m1)); have hnew1 : ((u1.setCell ⟨w.heap.size + 1 + 1, 2, none⟩ (.slice (some ⟨x1, 0, none⟩) (k + 1) m1)).alloc (.cells #[.int .i64 (-2048)] 3)).heap[u1.heap.size]? = some (.cells #[.int .i64 (-2048)] 3 (0, 0)) := (by have := heap_alloc_new (u1.setCell ⟨w.heap.size + 1 + 1, 2, none⟩ (.slice (some ⟨x1, 0, none⟩) (k + 1) m1)) (.cells #[.int .i64 (-2048)] 3); simpa using this); have zu1 : w.heap.size + 1 + 1 < u1.heap.size := (by omega); clear hg1 hat1 tG1 tR1 tU1) | (at_builtin; refine wpList_append_lies _ rfl (.tmp 42) (.tmp 43) _ rfl (w.heap.size + 3) 3 i0 _ 1 8 Try.underlying27 hi0 hz0 hz1 hz2 rfl (by omega) (.slice A1 k e1) (k) (cellsR 1 (fun _ _ => .int .i64 (-2048)) k) rfl (q1_1.alloc _) ⟨u1.heap.size, 0, none⟩ 1 1 [.int .i64 (-2048)] (by rfl) rfl (World.news_of_block (cs := #[.int .i64 (-2048)]) (t := 3) (fr := (0, 0)) hnew1) (by simp [Value.oneCell']) (by omega) (by unfold maxLen; omega) (by omega) (by simp; omega) (u1.heap.size + 1) (by simp) ?_; intro x2 m2 u2 o2 hg2 hat2 hlt2; have zz2 := hg2.size; simp at zz2; have tG2 := (G1.out.alloc (.cells #[.int .i64 (-2048)] 3)).grown hg2 (own_lt_ne q1_1 (by omega)); have tR2 := (R1.out.alloc (.cells #[.int .i64 (-2048)] 3)).grown hg2 (R1.out.ne_own q1_1 (by decide)); have tU2 := (U1.out.alloc (.cells #[.int .i64 (-2048)] 3)).grown hg2 (U1.out.ne_own q1_1 (by decide)); have V2_a := tU2.cell 3; have V2_b := tU2.cell 4; have V2_f := tU2.frozen 3; simp at V2_a V2_b; have G2 := Lib.hid (tG2.far (p := ⟨w.heap.size + 1 + 1, 3, none⟩) (by (first | (simp; done) | (simp; omega))) (.slice (some ⟨x2, 0, none⟩) (k + 1) m2)); have R2 := Lib.hid (tR2.far (p := ⟨w.heap.size + 1 + 1, 3, none⟩) (by (first | (simp; done) | (simp; omega))) (.slice (some ⟨x2, 0, none⟩) (k + 1) m2)); have U2 := Lib.hid (show HasBlk (u2.setCell ⟨w.heap.size + 1 + 1, 3, none⟩ (.slice (some ⟨x2, 0, none⟩) (k + 1) m2)) (w.heap.size + 1 + 1) 29 #[.int .i64 W, .int .i64 H, .slice (some ⟨x1, 0, none⟩) (k + 1) m1, .slice (some ⟨x2, 0, none⟩) (k + 1) m2, .slice A2 k e2, .slice A3 k e3] from (by have := tU2.set 3 (.slice (some ⟨x2, 0, none⟩) (k + 1) m2); simpa using this)); rw [← int_grow] at o2; have p2_0 := own_grown (q1_0.alloc (.cells #[.int .i64 (-2048)] 3)) hg2 (own_apart (q1_0) (q1_1) (by decide)); have q2_0 := ownsRow_setCell_other (a := ⟨w.heap.size + 1 + 1, 3, none⟩) p2_0 (tU2.ne_own p2_0 (by decide)) (.slice (some ⟨x2, 0, none⟩) (k + 1) m2); have q2_1 := ownsRow_setCell_other (a := ⟨w.heap.size + 1 + 1, 3, none⟩) o2 (tU2.ne_own o2 (by decide)) (.slice (some ⟨x2, 0, none⟩) (k + 1) m2); have p2_2 := own_grown (q1_2.alloc (.cells #[.int .i64 (-2048)] 3)) hg2 (D12.out.symm.ne); have q2_2 := ownsRow_setCell_other (a := ⟨w.heap.size + 1 + 1, 3, none⟩) p2_2 (tU2.ne_own p2_2 (by decide)) (.slice (some ⟨x2, 0, none⟩) (k + 1) m2); have p2_3 := own_grown (q1_3.alloc (.cells #[.int .i64 (-2048)] 3)) hg2 (D13.out.symm.ne); have q2_3 := ownsRow_setCell_other (a := ⟨w.heap.size + 1 + 1, 3, none⟩) p2_3 (tU2.ne_own p2_3 (by decide)) (.slice (some ⟨x2, 0, none⟩) (k + 1) m2); have D12 := Lib.hid (DJ.app D12.out q1_2 hat2 (by simp) : DJ (.slice (some ⟨x2, 0, none⟩) (k + 1) m2) (.slice A2 k e2)); have D13 := Lib.hid (DJ.app D13.out q1_3 hat2 (by simp) : DJ (.slice (some ⟨x2, 0, none⟩) (k + 1) m2) (.slice A3 k e3)); have B2 := Lib.hid (Below.setCell (p := ⟨w.heap.size + 1 + 1, 3, none⟩) (below_grown (v := .slice A1 k e1) (Below.alloc B1.out (by first | omega | (simp; omega)) _) hg2 (q1_1.alloc _) (by omega) (by simp; omega)) (by show w.heap.size ≤ w.heap.size + 1 + 1; omega) (.slice (some ⟨x2, 0, none⟩) (k + 1) m2)); have hnew2 : ((u2.setCell ⟨w.heap.size + 1 + 1, 3, none⟩ (.slice (some ⟨x2, 0, none⟩) (k + 1) m2)).alloc (.cells #[.int .i64 (-1)] 3)).heap[u2.heap.size]? = some (.cells #[.int .i64 (-1)] 3 (0, 0)) := (by have := heap_alloc_new (u2.setCell ⟨w.heap.size + 1 + 1, 3, none⟩ (.slice (some ⟨x2, 0, none⟩) (k + 1) m2)) (.cells #[.int .i64 (-1)] 3); simpa using this); have zu2 : w.heap.size + 1 + 1 < u2.heap.size := (by omega); clear hg2 hat2 tG2 tR2 tU2) | (at_builtin; refine wpList_append_lies _ rfl (.tmp 47) (.tmp 48) _ rfl (w.heap.size + 3) 3 i0 _ 1 8 Try.underlying27 hi0 hz0 hz1 hz2 rfl (by omega) (.slice A2 k e2) (k) (cellsR 1 (fun _ _ => .int .i64 (-1)) k) rfl (q2_2.alloc _) ⟨u2.heap.size, 0, none⟩ 1 1 [.int .i64 (-1)] (by rfl) rfl (World.news_of_block (cs := #[.int .i64 (-1)]) (t := 3) (fr := (0, 0)) hnew2) (by simp [Value.oneCell']) (by omega) (by unfold maxLen; omega) (by omega) (by simp; omega) (u2.heap.size + 1) (by simp) ?_; intro x3 m3 u3 o3 hg3 hat3 hlt3; have zz3 := hg3.size; simp at zz3; have tG3 := (G2.out.alloc (.cells #[.int .i64 (-1)] 3)).grown hg3 (own_lt_ne q2_2 (by omega)); have tR3 := (R2.out.alloc (.cells #[.int .i64 (-1)] 3)).grown hg3 (R2.out.ne_own q2_2 (by decide)); have tU3 := (U2.out.alloc (.cells #[.int .i64 (-1)] 3)).grown hg3 (U2.out.ne_own q2_2 (by decide)); have V3_a := tU3.cell 4; have V3_b := tU3.cell 5; have V3_f := tU3.frozen 4; simp at V3_a V3_b; have G3 := Lib.hid (tG3.far (p := ⟨w.heap.size + 1 + 1, 4, none⟩) (by (first | (simp; done) | (simp; omega))) (.slice (some ⟨x3, 0, none⟩) (k + 1) m3)); have R3 := Lib.hid (tR3.far (p := ⟨w.heap.size + 1 + 1, 4, none⟩) (by (first | (simp; done) | (simp; omega))) (.slice (some ⟨x3, 0, none⟩) (k + 1) m3)); have U3 := Lib.hid (show HasBlk (u3.setCell ⟨w.heap.size + 1 + 1, 4, none⟩ (.slice (some ⟨x3, 0, none⟩) (k + 1) m3)) (w.heap.size + 1 + 1) 29 #[.int .i64 W, .int .i64 H, .slice (some ⟨x1, 0, none⟩) (k + 1) m1, .slice (some ⟨x2, 0, none⟩) (k + 1) m2, .slice (some ⟨x3, 0, none⟩) (k + 1) m3, .slice A3 k e3] from (by have := tU3.set 4 (.slice (some ⟨x3, 0, none⟩) (k + 1) m3); simpa using this)); rw [← int_grow] at o3; have p3_0 := own_grown (q2_0.alloc (.cells #[.int .i64 (-1)] 3)) hg3 (own_apart (q2_0) (q2_2) (by decide)); have q3_0 := ownsRow_setCell_other (a := ⟨w.heap.size + 1 + 1, 4, none⟩) p3_0 (tU3.ne_own p3_0 (by decide)) (.slice (some ⟨x3, 0, none⟩) (k + 1) m3); have p3_1 := own_grown (q2_1.alloc (.cells #[.int .i64 (-1)] 3)) hg3 (D12.out.ne); have q3_1 := ownsRow_setCell_other (a := ⟨w.heap.size + 1 + 1, 4, none⟩) p3_1 (tU3.ne_own p3_1 (by decide)) (.slice (some ⟨x3, 0, none⟩) (k + 1) m3); have q3_2 := ownsRow_setCell_other (a := ⟨w.heap.size + 1 + 1, 4, none⟩) o3 (tU3.ne_own o3 (by decide)) (.slice (some ⟨x3, 0, none⟩) (k + 1) m3); have p3_3 := own_grown (q2_3.alloc (.cells #[.int .i64 (-1)] 3)) hg3 (D23.out.symm.ne); have q3_3 := ownsRow_setCell_other (a := ⟨w.heap.size + 1 + 1, 4, none⟩) p3_3 (tU3.ne_own p3_3 (by decide)) (.slice (some ⟨x3, 0, none⟩) (k + 1) m3); have D12 := Lib.hid (DJ.app D12.out.symm q2_1 hat3 (by simp) : DJ (.slice (some ⟨x3, 0, none⟩) (k + 1) m3) (.slice (some ⟨x2, 0, none⟩) (k + 1) m2)).symm; have D23 := Lib.hid (DJ.app D23.out q2_3 hat3 (by simp) : DJ (.slice (some ⟨x3, 0, none⟩) (k + 1) m3) (.slice A3 k e3)); have B3 := Lib.hid (Below.setCell (p := ⟨w.heap.size + 1 + 1, 4, none⟩) (below_grown (v := .slice A2 k e2) (Below.alloc B2.out (by first | omega | (simp; omega)) _) hg3 (q2_2.alloc _) (by omega) (by simp; omega)) (by show w.heap.size ≤ w.heap.size + 1 + 1; omega) (.slice (some ⟨x3, 0, none⟩) (k + 1) m3)); have hnew3 : ((u3.setCell ⟨w.heap.size + 1 + 1, 4, none⟩ (.slice (some ⟨x3, 0, none⟩) (k + 1) m3)).alloc (.cells #[.int .i64 (-1)] 3)).heap[u3.heap.size]? = some (.cells #[.int .i64 (-1)] 3 (0, 0)) := (by have := heap_alloc_new (u3.setCell ⟨w.heap.size + 1 + 1, 4, none⟩ (.slice (some ⟨x3, 0, none⟩) (k + 1) m3)) (.cells #[.int .i64 (-1)] 3); simpa using this); have zu3 : w.heap.size + 1 + 1 < u3.heap.size := (by omega); clear hg3 hat3 tG3 tR3 tU3) | (at_builtin; refine wpList_append_lies _ rfl (.tmp 52) (.tmp 53) _ rfl (w.heap.size + 3) 3 i0 _ 1 8 Try.underlying27 hi0 hz0 hz1 hz2 rfl (by omega) (.slice A3 k e3) (k) (cellsR 1 (fun _ _ => .int .i64 (-1)) k) rfl (q3_3.alloc _) ⟨u3.heap.size, 0, none⟩ 1 1 [.int .i64 (-1)] (by rfl) rfl (World.news_of_block (cs := #[.int .i64 (-1)]) (t := 3) (fr := (0, 0)) hnew3) (by simp [Value.oneCell']) (by omega) (by unfold maxLen; omega) (by omega) (by simp; omega) (u3.heap.size + 1) (by simp) ?_; intro x4 m4 u4 o4 hg4 hat4 hlt4; have zz4 := hg4.size; simp at zz4; have tG4 := (G3.out.alloc (.cells #[.int .i64 (-1)] 3)).grown hg4 (own_lt_ne q3_3 (by omega)); have tR4 := (R3.out.alloc (.cells #[.int .i64 (-1)] 3)).grown hg4 (R3.out.ne_own q3_3 (by decide)); have tU4 := (U3.out.alloc (.cells #[.int .i64 (-1)] 3)).grown hg4 (U3.out.ne_own q3_3 (by decide)); have V4_a := tU4.cell 5; have V4_b := tU4.cell 5; have V4_f := tU4.frozen 5; simp at V4_a V4_b; have G4 := Lib.hid (tG4.far (p := ⟨w.heap.size + 1 + 1, 5, none⟩) (by (first | (simp; done) | (simp; omega))) (.slice (some ⟨x4, 0, none⟩) (k + 1) m4)); have R4 := Lib.hid (tR4.far (p := ⟨w.heap.size + 1 + 1, 5, none⟩) (by (first | (simp; done) | (simp; omega))) (.slice (some ⟨x4, 0, none⟩) (k + 1) m4)); have U4 := Lib.hid (show HasBlk (u4.setCell ⟨w.heap.size + 1 + 1, 5, none⟩ (.slice (some ⟨x4, 0, none⟩) (k + 1) m4)) (w.heap.size + 1 + 1) 29 #[.int .i64 W, .int .i64 H, .slice (some ⟨x1, 0, none⟩) (k + 1) m1, .slice (some ⟨x2, 0, none⟩) (k + 1) m2, .slice (some ⟨x3, 0, none⟩) (k + 1) m3, .slice (some ⟨x4, 0, none⟩) (k + 1) m4] from (by have := tU4.set 5 (.slice (some ⟨x4, 0, none⟩) (k + 1) m4); simpa using this)); rw [← int_grow] at o4; have p4_0 := own_grown (q3_0.alloc (.cells #[.int .i64 (-1)] 3)) hg4 (own_apart (q3_0) (q3_3) (by decide)); have q4_0 := ownsRow_setCell_other (a := ⟨w.heap.size + 1 + 1, 5, none⟩) p4_0 (tU4.ne_own p4_0 (by decide)) (.slice (some ⟨x4, 0, none⟩) (k + 1) m4); have p4_1 := own_grown (q3_1.alloc (.cells #[.int .i64 (-1)] 3)) hg4 (D13.out.ne); have q4_1 := ownsRow_setCell_other (a := ⟨w.heap.size + 1 + 1, 5, none⟩) p4_1 (tU4.ne_own p4_1 (by decide)) (.slice (some ⟨x4, 0, none⟩) (k + 1) m4); have p4_2 := own_grown (q3_2.alloc (.cells #[.int .i64 (-1)] 3)) hg4 (D23.out.ne); have q4_2 := ownsRow_setCell_other (a := ⟨w.heap.size + 1 + 1, 5, none⟩) p4_2 (tU4.ne_own p4_2 (by decide)) (.slice (some ⟨x4, 0, none⟩) (k + 1) m4); have q4_3 := ownsRow_setCell_other (a := ⟨w.heap.size + 1 + 1, 5, none⟩) o4 (tU4.ne_own o4 (by decide)) (.slice (some ⟨x4, 0, none⟩) (k + 1) m4); have D13 := Lib.hid (DJ.app D13.out.symm q3_1 hat4 (by simp) : DJ (.slice (some ⟨x4, 0, none⟩) (k + 1) m4) (.slice (some ⟨x2, 0, none⟩) (k + 1) m2)).symm; have D23 := Lib.hid (DJ.app D23.out.symm q3_2 hat4 (by simp) : DJ (.slice (some ⟨x4, 0, none⟩) (k + 1) m4) (.slice (some ⟨x3, 0, none⟩) (k + 1) m3)).symm; have B4 := Lib.hid (Below.setCell (p := ⟨w.heap.size + 1 + 1, 5, none⟩) (below_grown (v := .slice A3 k e3) (Below.alloc B3.out (by first | omega | (simp; omega)) _) hg4 (q3_3.alloc _) (by omega) (by simp; omega)) (by show w.heap.size ≤ w.heap.size + 1 + 1; omega) (.slice (some ⟨x4, 0, none⟩) (k + 1) m4)); have zu4 : w.heap.size + 1 + 1 < u4.heap.size := (by omega); clear hg4 hat4 tG4 tR4 tU4))
      go_roundw
      case rel =>
        exact ⟨k + 1, by omega, by go_num, some ⟨x1, 0, none⟩, m1, some ⟨x2, 0, none⟩, m2, some ⟨x3, 0, none⟩, m3, some ⟨x4, 0, none⟩, m4, G4.out, R4.out, U4.out, q4_0, q4_1, q4_2, q4_3, D12.out, D13.out, D23.out, B4.out⟩
      case measure => simp [intOf]; omega
    · obtain rfl : n = k := by omega
      have R_f0 := HR.out.frozen 0
      have R_f1 := HR.out.frozen 1
      have R_f2 := HR.out.frozen 2
      have R_f3 := HR.out.frozen 3
      have R_f4 := HR.out.frozen 4
      have R_f5 := HR.out.frozen 5
      have R_0 := HR.out.cell 0
      have R_1 := HR.out.cell 1
      have R_2 := HR.out.cell 2
      have R_3 := HR.out.cell 3
      have R_4 := HR.out.cell 4
      have R_5 := HR.out.cell 5
      simp at R_0 R_1 R_2 R_3 R_4 R_5
      have o0 := Lib.hid r0
      have o1 := Lib.hid r1
      have o2 := Lib.hid r2
      have o3 := Lib.hid r3
      clear hG hR hU hbel d12 d13 d23 r0 r1 r2 r3
      go_wp2
      refine bodyPost_ret (v := .tuple #[.agg #[.int .i64 W, .int .i64 H, .slice A0 n e0, .slice A1 n e1, .slice A2 n e2, .slice A3 n e3], .int .i64 0]) (by simp [results, Try.results14, go_sem, *]) rfl ⟨⟨⟨A0, A1, A2, A3, e0, e1, e2, e3⟩, FDnew W H n c, 0, rfl, ⟨Row.of_cells (base := w.heap.size + 3) (e := 23) (c := e0) (ownsRow_setCell_other (a := ⟨w.heap.size + 1, 5, none⟩) (ownsRow_setCell_other (a := ⟨w.heap.size + 1, 4, none⟩) (ownsRow_setCell_other (a := ⟨w.heap.size + 1, 3, none⟩) (ownsRow_setCell_other (a := ⟨w.heap.size + 1, 2, none⟩) (ownsRow_setCell_other (a := ⟨w.heap.size + 1, 1, none⟩) (ownsRow_setCell_other (a := ⟨w.heap.size + 1, 0, none⟩) o0.out (HR.out.ne_own o0.out (by decide)) _) (HR.out.ne_own o0.out (by decide)) _) (HR.out.ne_own o0.out (by decide)) _) (HR.out.ne_own o0.out (by decide)) _) (HR.out.ne_own o0.out (by decide)) _) (HR.out.ne_own o0.out (by decide)) _), IS.of_R (B := w.heap.size + 3) (e := 3) (c := e1) (ownsRow_setCell_other (a := ⟨w.heap.size + 1, 5, none⟩) (ownsRow_setCell_other (a := ⟨w.heap.size + 1, 4, none⟩) (ownsRow_setCell_other (a := ⟨w.heap.size + 1, 3, none⟩) (ownsRow_setCell_other (a := ⟨w.heap.size + 1, 2, none⟩) (ownsRow_setCell_other (a := ⟨w.heap.size + 1, 1, none⟩) (ownsRow_setCell_other (a := ⟨w.heap.size + 1, 0, none⟩) o1.out (HR.out.ne_own o1.out (by decide)) _) (HR.out.ne_own o1.out (by decide)) _) (HR.out.ne_own o1.out (by decide)) _) (HR.out.ne_own o1.out (by decide)) _) (HR.out.ne_own o1.out (by decide)) _) (HR.out.ne_own o1.out (by decide)) _), IS.of_R (B := w.heap.size + 3) (e := 3) (c := e2) (ownsRow_setCell_other (a := ⟨w.heap.size + 1, 5, none⟩) (ownsRow_setCell_other (a := ⟨w.heap.size + 1, 4, none⟩) (ownsRow_setCell_other (a := ⟨w.heap.size + 1, 3, none⟩) (ownsRow_setCell_other (a := ⟨w.heap.size + 1, 2, none⟩) (ownsRow_setCell_other (a := ⟨w.heap.size + 1, 1, none⟩) (ownsRow_setCell_other (a := ⟨w.heap.size + 1, 0, none⟩) o2.out (HR.out.ne_own o2.out (by decide)) _) (HR.out.ne_own o2.out (by decide)) _) (HR.out.ne_own o2.out (by decide)) _) (HR.out.ne_own o2.out (by decide)) _) (HR.out.ne_own o2.out (by decide)) _) (HR.out.ne_own o2.out (by decide)) _), IS.of_R (B := w.heap.size + 3) (e := 3) (c := e3) (ownsRow_setCell_other (a := ⟨w.heap.size + 1, 5, none⟩) (ownsRow_setCell_other (a := ⟨w.heap.size + 1, 4, none⟩) (ownsRow_setCell_other (a := ⟨w.heap.size + 1, 3, none⟩) (ownsRow_setCell_other (a := ⟨w.heap.size + 1, 2, none⟩) (ownsRow_setCell_other (a := ⟨w.heap.size + 1, 1, none⟩) (ownsRow_setCell_other (a := ⟨w.heap.size + 1, 0, none⟩) o3.out (HR.out.ne_own o3.out (by decide)) _) (HR.out.ne_own o3.out (by decide)) _) (HR.out.ne_own o3.out (by decide)) _) (HR.out.ne_own o3.out (by decide)) _) (HR.out.ne_own o3.out (by decide)) _) (HR.out.ne_own o3.out (by decide)) _)⟩, .inl ⟨HW.out, rfl, n, hN, rfl⟩⟩, ?_⟩
      exact (Below.setCell (p := ⟨w.heap.size + 1, 5, none⟩) (Below.setCell (p := ⟨w.heap.size + 1, 4, none⟩) (Below.setCell (p := ⟨w.heap.size + 1, 3, none⟩) (Below.setCell (p := ⟨w.heap.size + 1, 2, none⟩) (Below.setCell (p := ⟨w.heap.size + 1, 1, none⟩) (Below.setCell (p := ⟨w.heap.size + 1, 0, none⟩) HB.out (Nat.le_succ _) _) (Nat.le_succ _) _) (Nat.le_succ _) _) (Nat.le_succ _) _) (Nat.le_succ _) _) (Nat.le_succ _) _)
end Go.Proofs.Ytibeoeooajelgaa
