/- Frames of the call's own: a pixel is written. -/
import Derived.Test.YtibeoeooajelgaaFO
namespace Go.Proofs.Ytibeoeooajelgaa
open Go.RowKit
set_option linter.unusedVariables false
theorem cellsR_set {s n k j : Nat} {F G : Nat → Nat → Value} {u : Value} (hs : 0 < s) (hk : k < n) (hj : j < s) (hu : G k j = u) (hsame : ∀ i j', i < n → j' < s → ¬ (i = k ∧ j' = j) → G i j' = F i j') : (cellsR s F n).toArray.setIfInBounds (k * s + j) u = (cellsR s G n).toArray := by
  have lF := cellsR_len s F n
  have lG := cellsR_len s G n
  apply Array.ext_getElem?
  intro q
  rw [Array.getElem?_setIfInBounds, List.getElem?_toArray, List.getElem?_toArray]
  have hlt : k * s + j < n * s := by
    have h1 : (k + 1) * s ≤ n * s := Nat.mul_le_mul_right _ hk
    rw [Nat.succ_mul] at h1
    omega
  by_cases hq : q < n * s
  · have hd : q / s < n := Nat.div_lt_of_lt_mul (by rw [Nat.mul_comm]; exact hq)
    have hm : q % s < s := Nat.mod_lt _ hs
    have he : q / s * s + q % s = q := by rw [Nat.mul_comm]; exact Nat.div_add_mod q s
    have hF := cellsR_at (F := F) hd hm
    have hG := cellsR_at (F := G) hd hm
    rw [he] at hF hG
    rw [hF, hG]
    by_cases e : k * s + j = q
    · have e1 : q / s = k := by rw [← e, Nat.mul_comm, Nat.mul_add_div hs, Nat.div_eq_of_lt hj, Nat.add_zero]
      have e2 : q % s = j := by rw [← e, Nat.mul_comm, Nat.mul_add_mod, Nat.mod_eq_of_lt hj]
      rw [if_pos e, if_pos (by simp; omega), e1, e2, hu]
    · rw [if_neg e]
      rw [hsame _ _ hd hm (fun ⟨a, b⟩ => e (by rw [← a, ← b, he]))]
  · rw [if_neg (by omega), List.getElem?_eq_none (by omega), List.getElem?_eq_none (by omega)]
theorem own_set {w : World} {B e s n c x j : Nat} {xs : List Value} (h : w.ownsRow B e s (.slice (some ⟨x, 0, none⟩) n c) n xs) (u : Value) :
    (w.setCell ⟨x, j, none⟩ u).ownsRow B e s (.slice (some ⟨x, 0, none⟩) n c) n (xs.set j u) := by
  rcases h.2 with ⟨h1, _⟩ | ⟨g, cap, cur, hv, hB, hblk, hnc, hcm, hsz, hx⟩
  · cases h1
  · cases hv
    refine ⟨by simp [h.1], .inr ⟨x, c, cur.setIfInBounds j u, rfl, hB, HasBlk.set hblk j u, hnc, hcm, by simpa using hsz, ?_⟩⟩
    rw [← hx]
    simp [List.take_set]
theorem own_some {w : World} {B e s n c : Nat} {X : Option Addr} {xs : List Value} (h : w.ownsRow B e s (.slice X n c) n xs) (hn : 0 < n) : ∃ x, X = some ⟨x, 0, none⟩ ∧ B ≤ x ∧ x < w.heap.size ∧ ∀ j, w.frozen? ⟨x, j, none⟩ = false := by
  rcases h.2 with ⟨_, h1⟩ | ⟨g, cap, cur, hv, hB, hblk, hnc, hcm, hsz, hx⟩
  · omega
  · cases hv
    exact ⟨g, rfl, hB, HasBlk.lt hblk, fun j => HasBlk.frozen hblk j⟩
theorem cellsL_set {s n k j : Nat} {F G : Nat → Nat → Value} {u : Value} (hs : 0 < s) (hk : k < n) (hj : j < s) (hu : G k j = u) (hsame : ∀ i j', i < n → j' < s → ¬ (i = k ∧ j' = j) → G i j' = F i j') : (cellsR s F n).set (k * s + j) u = cellsR s G n := by
  have h := cellsR_set hs hk hj hu hsame
  rw [List.setIfInBounds_toArray] at h
  simpa using congrArg Array.toList h
theorem own_apart {w : World} {b1 b2 e1 e2 s1 s2 n1 n2 : Nat} {v1 v2 : Value} {x1 x2 : List Value} (h1 : w.ownsRow b1 e1 s1 v1 n1 x1) (h2 : w.ownsRow b2 e2 s2 v2 n2 x2) (hne : e1 ≠ e2) : v1.ownBlock = none ∨ v1.ownBlock ≠ v2.ownBlock := by
  rcases h1.2 with ⟨rfl, _⟩ | ⟨g, cap, cur, rfl, _, hg, _⟩
  · exact .inl rfl
  · right
    intro he
    rcases h2.2 with ⟨rfl, _⟩ | ⟨g', cap', cur', rfl, _, hg', _⟩
    · simp [Value.ownBlock] at he
    · have hgg : g = g' := by simpa [Value.ownBlock] using he
      subst hgg
      rw [hg] at hg'
      injection hg' with hg'
      injection hg' with _ ht
      exact hne ht

theorem set_int {n k : Nat} {l : Nat → Int} (hk : k < n) (x : Int) : (cellsR 1 (fun i _ => Value.int .i64 (l i)) n).set k (.int .i64 x) = cellsR 1 (fun i _ => Value.int .i64 (upd l k x i)) n := by
  have h : (cellsR 1 (fun i _ => Value.int .i64 (l i)) n).set (k * 1 + 0) (.int .i64 x) = cellsR 1 (fun i _ => Value.int .i64 (upd l k x i)) n :=
    cellsL_set (by omega) hk (by omega) (by simp [upd]) (fun i j' hi hj' hne => by rw [upd_ne _ _ (fun e => hne ⟨e, by omega⟩)])
  simpa using h
def upd2 (C : Nat → Nat → Int) (k j : Nat) (x : Int) (i j' : Nat) : Int := if i = k ∧ j' = j then x else C i j'
theorem set_one {n k j : Nat} {C : Nat → Nat → Int} (hk : k < n) (hj : j < 4) (x : Int) : (cellsR 4 (fun i j => Value.int .u8 (C i j)) n).set (k * 4 + j) (.int .u8 x) = cellsR 4 (fun i q => Value.int .u8 (upd2 C k j x i q)) n :=
  cellsL_set (by omega) hk hj (by simp [upd2]) (fun i j' hi hj' hne => by unfold upd2; rw [if_neg hne])
theorem set_col {n k : Nat} {C : Nat → Nat → Int} (hk : k < n) (c : Nat → Int) :
    ((((cellsR 4 (fun i j => Value.int .u8 (C i j)) n).set (k * 4 + 0) (.int .u8 (c 0))).set (k * 4 + 1) (.int .u8 (c 1))).set (k * 4 + 2) (.int .u8 (c 2))).set (k * 4 + 3) (.int .u8 (c 3)) = cellsR 4 (fun i j => Value.int .u8 (upd C k c i j)) n := by
  rw [set_one hk (by omega), set_one hk (by omega), set_one hk (by omega), set_one hk (by omega)]
  refine cellsR_congr fun i hi j hj => ?_
  congr 1
  unfold upd2 upd
  by_cases e : i = k
  · subst e
    obtain rfl | rfl | rfl | rfl : j = 0 ∨ j = 1 ∨ j = 2 ∨ j = 3 := by omega
    all_goals simp
  · simp [e]
theorem block_ne {x y c1 c2 m1 m2 : Nat} (h : (Value.slice (some ⟨x, 0, none⟩) m1 c1).ownBlock = none ∨ (Value.slice (some ⟨x, 0, none⟩) m1 c1).ownBlock ≠ (Value.slice (some ⟨y, 0, none⟩) m2 c2).ownBlock) : x ≠ y := by
  rcases h with q | q
  · simp [Value.ownBlock] at q
  · intro e
    apply q
    rw [e]
    rfl
theorem FOwn.far {B g j : Nat} {w : World} {p : FP} {f : FD} (h : FOwn B w p f) (hg : g < B) (u : Value) : FOwn B (w.setCell ⟨g, j, none⟩ u) p f := by
  obtain ⟨hC, hD, hI, hT, n⟩ := h
  have key : ∀ {e s n : Nat} {v : Value} {xs : List Value}, w.ownsRow B e s v n xs → (w.setCell ⟨g, j, none⟩ u).ownsRow B e s v n xs := fun ho =>
    ownsRow_setCell_other (a := ⟨g, j, none⟩) ho (fun e => by have := (ho.lt g e).1; omega) u
  exact ⟨key hC, key hD, key hI, key hT, n⟩
/-- The four lists' blocks, and what a pixel that is written leaves. -/
theorem FOwn.store {B k : Nat} {w : World} {p : FP} {f : FD} (h : FOwn B w p f) (hc : k < f.nc) (hd : k < f.nd) (hi : k < f.ni) (ht : k < f.nt) :
    ∃ xc xd xi xt, (p.ac = some ⟨xc, 0, none⟩ ∧ p.ad = some ⟨xd, 0, none⟩ ∧ p.ai = some ⟨xi, 0, none⟩ ∧ p.a4 = some ⟨xt, 0, none⟩) ∧ (B ≤ xc ∧ B ≤ xd ∧ B ≤ xi ∧ B ≤ xt) ∧ (xc < w.heap.size ∧ xd < w.heap.size ∧ xi < w.heap.size ∧ xt < w.heap.size) ∧
      (xc ≠ xd ∧ xc ≠ xi ∧ xc ≠ xt ∧ xd ≠ xi ∧ xd ≠ xt ∧ xi ≠ xt) ∧
      ((∀ j, w.frozen? ⟨xc, j, none⟩ = false) ∧ (∀ j, w.frozen? ⟨xd, j, none⟩ = false) ∧ (∀ j, w.frozen? ⟨xi, j, none⟩ = false) ∧ (∀ j, w.frozen? ⟨xt, j, none⟩ = false)) ∧
      ((∀ j, j < 4 → w.cell? ⟨xc, k * 4 + j, none⟩ = some (.int .u8 (f.C k j))) ∧ w.cell? ⟨xd, k, none⟩ = some (.int .i64 (f.D k)) ∧ w.cell? ⟨xi, k, none⟩ = some (.int .i64 (f.I k)) ∧ w.cell? ⟨xt, k, none⟩ = some (.int .i64 (f.T k))) ∧
      (∀ c : Nat → Int, FOwn B ((((w.setCell ⟨xc, k * 4 + 0, none⟩ (.int .u8 (c 0))).setCell ⟨xc, k * 4 + 1, none⟩ (.int .u8 (c 1))).setCell ⟨xc, k * 4 + 2, none⟩ (.int .u8 (c 2))).setCell ⟨xc, k * 4 + 3, none⟩ (.int .u8 (c 3))) p (f.col k c)) ∧
      (∀ (d i t : Int) (c : Nat → Int), FOwn B (((((((w.setCell ⟨xc, k * 4 + 0, none⟩ (.int .u8 (c 0))).setCell ⟨xc, k * 4 + 1, none⟩ (.int .u8 (c 1))).setCell ⟨xc, k * 4 + 2, none⟩ (.int .u8 (c 2))).setCell ⟨xc, k * 4 + 3, none⟩ (.int .u8 (c 3))).setCell ⟨xd, k, none⟩ (.int .i64 d)).setCell ⟨xi, k, none⟩ (.int .i64 i)).setCell ⟨xt, k, none⟩ (.int .i64 t)) p (f.set k d i t c)) := by
  obtain ⟨ac, ad, ai, a4, kc, kd, ki, kt⟩ := p
  obtain ⟨W, H, nc, nd, ni, nt, C, D, I, T⟩ := f
  obtain ⟨hC, hD, hI, hT, n1, n2, n3⟩ := h
  dsimp only at *
  obtain ⟨xc, rfl, bc, lc, fc⟩ := own_some hC (by omega)
  obtain ⟨xd, rfl, bd, ld, fd⟩ := own_some hD (by omega)
  obtain ⟨xi, rfl, bi, li, fi⟩ := own_some hI (by omega)
  obtain ⟨xt, rfl, bt, lt, ft⟩ := own_some hT (by omega)
  have acd := own_apart hC hD (by decide)
  have aci := own_apart hC hI (by decide)
  have act := own_apart hC hT (by decide)
  have adc := own_apart hD hC (by decide)
  have aic := own_apart hI hC (by decide)
  have atc := own_apart hT hC (by decide)
  have ecd : xc ≠ xd := block_ne acd
  have eci : xc ≠ xi := block_ne aci
  have ect : xc ≠ xt := block_ne act
  have edi : xd ≠ xi := block_ne n1
  have edt : xd ≠ xt := block_ne n2
  have eit : xi ≠ xt := block_ne n3
  have ob : ∀ (x m c : Nat) (y : Nat), x ≠ y → (Value.slice (some ⟨x, 0, none⟩) m c).ownBlock ≠ some y := fun x m c y hne e => by simp [Value.ownBlock] at e; exact hne e
  have gC := Row.of_cells hC (by omega)
  have gD := Row.of_cells hD (by omega)
  have gI := Row.of_cells hI (by omega)
  have gT := Row.of_cells hT (by omega)
  obtain ⟨_, _, q1, _, zC⟩ := gC
  obtain ⟨_, _, q2, _, zD⟩ := gD
  obtain ⟨_, _, q3, _, zI⟩ := gI
  obtain ⟨_, _, q4, _, zT⟩ := gT
  cases q1
  cases q2
  cases q3
  cases q4
  have sC : ∀ c : Nat → Int, ((((w.setCell ⟨xc, k * 4 + 0, none⟩ (.int .u8 (c 0))).setCell ⟨xc, k * 4 + 1, none⟩ (.int .u8 (c 1))).setCell ⟨xc, k * 4 + 2, none⟩ (.int .u8 (c 2))).setCell ⟨xc, k * 4 + 3, none⟩ (.int .u8 (c 3))).ownsRow B 23 4 (.slice (some ⟨xc, 0, none⟩) nc kc) nc (cellsR 4 (fun i j => .int .u8 (upd C k c i j)) nc) := fun c => by
    have := own_set (j := k * 4 + 3) (own_set (j := k * 4 + 2) (own_set (j := k * 4 + 1) (own_set (j := k * 4 + 0) hC (.int .u8 (c 0))) (.int .u8 (c 1))) (.int .u8 (c 2))) (.int .u8 (c 3))
    rw [set_col hc] at this
    exact this
  have o4 : ∀ {e s n : Nat} {v : Value} {xs : List Value} (c : Nat → Int), w.ownsRow B e s v n xs → v.ownBlock ≠ some xc → ((((w.setCell ⟨xc, k * 4 + 0, none⟩ (.int .u8 (c 0))).setCell ⟨xc, k * 4 + 1, none⟩ (.int .u8 (c 1))).setCell ⟨xc, k * 4 + 2, none⟩ (.int .u8 (c 2))).setCell ⟨xc, k * 4 + 3, none⟩ (.int .u8 (c 3))).ownsRow B e s v n xs := fun c ho hne =>
    ownsRow_setCell_other (a := ⟨xc, k * 4 + 3, none⟩) (ownsRow_setCell_other (a := ⟨xc, k * 4 + 2, none⟩) (ownsRow_setCell_other (a := ⟨xc, k * 4 + 1, none⟩) (ownsRow_setCell_other (a := ⟨xc, k * 4 + 0, none⟩) ho hne _) hne _) hne _) hne _
  refine ⟨xc, xd, xi, xt, ⟨rfl, rfl, rfl, rfl⟩, ⟨bc, bd, bi, bt⟩, ⟨lc, ld, li, lt⟩, ⟨ecd, eci, ect, edi, edt, eit⟩, ⟨fc, fd, fi, ft⟩, ⟨fun j hj => ?_, ?_, ?_, ?_⟩, fun c => ?_, fun d i t c => ?_⟩
  · have := zC k hc j hj
    simpa using this
  · have := zD k hd 0 (by omega)
    simpa using this
  · have := zI k hi 0 (by omega)
    simpa using this
  · have := zT k ht 0 (by omega)
    simpa using this
  · exact ⟨sC c, o4 c hD (ob _ _ _ _ (Ne.symm ecd)), o4 c hI (ob _ _ _ _ (Ne.symm eci)), o4 c hT (ob _ _ _ _ (Ne.symm ect)), n1, n2, n3⟩
  · have tD := own_set (j := k) (o4 c hD (ob _ _ _ _ (Ne.symm ecd))) (.int .i64 d)
    rw [set_int hd] at tD
    have tI := own_set (j := k) (ownsRow_setCell_other (a := ⟨xd, k, none⟩) (o4 c hI (ob _ _ _ _ (Ne.symm eci))) (ob _ _ _ _ (Ne.symm edi)) (.int .i64 d)) (.int .i64 i)
    rw [set_int hi] at tI
    have tT := own_set (j := k) (ownsRow_setCell_other (a := ⟨xi, k, none⟩) (ownsRow_setCell_other (a := ⟨xd, k, none⟩) (o4 c hT (ob _ _ _ _ (Ne.symm ect))) (ob _ _ _ _ (Ne.symm edt)) (.int .i64 d)) (ob _ _ _ _ (Ne.symm eit)) (.int .i64 i)) (.int .i64 t)
    rw [set_int ht] at tT
    refine ⟨?_, ?_, ?_, tT, n1, n2, n3⟩
    · exact ownsRow_setCell_other (a := ⟨xt, k, none⟩) (ownsRow_setCell_other (a := ⟨xi, k, none⟩) (ownsRow_setCell_other (a := ⟨xd, k, none⟩) (sC c) (ob _ _ _ _ ecd) _) (ob _ _ _ _ eci) _) (ob _ _ _ _ ect) _
    · exact ownsRow_setCell_other (a := ⟨xt, k, none⟩) (ownsRow_setCell_other (a := ⟨xi, k, none⟩) tD (ob _ _ _ _ edi) _) (ob _ _ _ _ edt) _
    · exact ownsRow_setCell_other (a := ⟨xt, k, none⟩) tI (ob _ _ _ _ eit) _
end Go.Proofs.Ytibeoeooajelgaa
