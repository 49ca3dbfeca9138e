/- pyramid: what Build answers; a number written into a pyramid of the call's own; how a pyramid reads. -/
import Derived.Test.YtibeoeooajelgaaY15
import Derived.Test.YtibeoeooajelgaaArg
import Derived.Test.YtibeoeooajelgaaRd
import Derived.Test.YtibeoeooajelgaaF16
import Derived.Test.YtibeoeooajelgaaHeldE2
namespace Go.Proofs.Ytibeoeooajelgaa
open Go.RowKit
set_option linter.unusedVariables false
/-- Number i, number j or number k. -/
theorem wpAnyE_three {P : Program} {ops : Array Oper} {Q : Exit → Act → World → Prop} {md : Region.Mode} {S : World → Prop} {e : Nat} {i j k : Nat} {oi oj ok : Oper} {fuel : Nat} {listed : Array Bool} {a : Act} {w : World} (hi : ops[i]? = some oi) (hj : ops[j]? = some oj) (hk : ops[k]? = some ok) (hr : Region.ready md ops listed = [i, j, k])
    (h1 : ∀ K : Exit → Act → World → Prop, (∀ a' w', (i ≠ e → S w') → wpAnyE P md ops Q S e fuel (listed.setIfInBounds i true) a' w' → K .normal a' w') → wpList P ops K [oi] a w)
    (h2 : ∀ K : Exit → Act → World → Prop, (∀ a' w', (j ≠ e → S w') → wpAnyE P md ops Q S e fuel (listed.setIfInBounds j true) a' w' → K .normal a' w') → wpList P ops K [oj] a w)
    (h3 : ∀ K : Exit → Act → World → Prop, (∀ a' w', (k ≠ e → S w') → wpAnyE P md ops Q S e fuel (listed.setIfInBounds k true) a' w' → K .normal a' w') → wpList P ops K [ok] a w)
    : wpAnyE P md ops Q S e (fuel + 1) listed a w := by
  refine ⟨fun h0 => (by rw [hr] at h0; cases h0), fun q hq => ?_⟩
  rw [hr] at hq
  obtain rfl | rfl | rfl : q = i ∨ q = j ∨ q = k := by simpa using hq
  · exact wpOp_go hi (fun K hK => h1 K (fun a' w' q1 q2 => hK a' w' ⟨q1, q2⟩))
  · exact wpOp_go hj (fun K hK => h2 K (fun a' w' q1 q2 => hK a' w' ⟨q1, q2⟩))
  · exact wpOp_go hk (fun K hK => h3 K (fun a' w' q1 q2 => hK a' w' ⟨q1, q2⟩))
theorem wpList_free {P : Program} {ops : Array Oper} {Q : Exit → Act → World → Prop} {rest : List Oper} {o : Oper} {a : Act} {w : World} (hw : Region.wanted o (yielded ops a.tmps) = true) (h : wpList P ops Q ({o with guard := none} :: rest) a w) : wpList P ops Q (o :: rest) a w := by
  obtain ⟨d, op, t, p, af, g⟩ := o
  simp only [wpList] at h ⊢
  rw [if_pos hw]
  have h1 : Region.wanted ⟨d, op, t, p, af, none⟩ (yielded ops a.tmps) = true := by simp [Region.wanted]
  rw [if_pos h1] at h
  exact h
theorem FOwn.pset {B g t j : Nat} {w : World} {p : FP} {f : FD} {cs : Array Value} (h : FOwn B w p f) (hb : HasBlk w g t cs) (h1 : 23 ≠ t) (h2 : 3 ≠ t) (u : Value) : FOwn B (w.setCell ⟨g, j, none⟩ u) p f := ⟨own_pset h.1 hb h1 u, own_pset h.2.1 hb h2 u, own_pset h.2.2.1 hb h2 u, own_pset h.2.2.2.1 hb h2 u, h.2.2.2.2⟩
def PD0 : PD := ⟨0, fun _ => 0, fun _ => 0, fun _ => 0, fun _ _ => 0⟩
def BldV (f : FD) (d : PD) (c : Int) : Prop := (¬ f.May ∧ d = PD0 ∧ c = 8) ∨ (f.May ∧ c = 0 ∧ ∃ k, f.ld.Top k ∧ d = f.ld.pd k)
theorem BldV.fn {f : FD} {d d' : PD} {c c' : Int} (h : BldV f d c) (k : BldV f d' c') : d = d' ∧ c = c' := by
  rcases h with ⟨a, rfl, rfl⟩ | ⟨a, rfl, j, hj, rfl⟩ <;> rcases k with ⟨b, rfl, rfl⟩ | ⟨b, rfl, i, hi, rfl⟩
  · exact ⟨rfl, rfl⟩
  · exact absurd b a
  · exact absurd a b
  · obtain rfl := hj.fn hi
    exact ⟨rfl, rfl⟩
theorem BldR.v {f : FD} {B : Nat} {e : Ending} {w' : World} (h : BldR f B e w') : ∃ (p : PP) (d : PD) (c : Int), e = .returned (.tuple #[.agg #[.slice p.A d.n p.c], .int .i64 c]) ∧ POwn B w' p d ∧ BldV f d c := by
  rcases h with ⟨a, rfl⟩ | ⟨a, k, p, ht, rfl, ho⟩
  · exact ⟨⟨none, 0, fun _ => none, fun _ => 0⟩, PD0, 8, rfl, ⟨own_nil _ _ _ _, fun i hi => absurd hi (Nat.not_lt_zero _)⟩, .inl ⟨a, rfl, rfl⟩⟩
  · exact ⟨p, f.ld.pd k, 0, rfl, ho, .inr ⟨a, rfl, k, ht, rfl⟩⟩
theorem BldV.sm {f : FD} {d : PD} {c : Int} (h : BldV f d c) : d.n ≤ 7 ∧ ∀ i, i < d.n → d.L i ≤ 4096 := by
  rcases h with ⟨a, rfl, rfl⟩ | ⟨a, rfl, j, hj, rfl⟩
  · exact ⟨Nat.zero_le _, fun i hi => absurd hi (Nat.not_lt_zero _)⟩
  · obtain ⟨X, Y, e1, e2, ⟨x1, x2, y1, y2⟩, -, -, -, -, e, -⟩ := a.nums
    rw [e] at hj ⊢
    have := hj.six x1 y1 x2 y2
    refine ⟨by show j + 1 ≤ 7; omega, fun i hi => ?_⟩
    have h9 := LD.lev_small (l := ⟨X, Y, fun x y => f.D (y * X + x)⟩) x2 y2 i
    have h3 : LD.sz ⟨X, Y, fun x y => f.D (y * X + x)⟩ i ≤ 64 * 64 := Nat.mul_le_mul h9.1 h9.2
    exact h3
theorem BldV.Sm {f : FD} {d : PD} {c : Int} (h : BldV f d c) : d.Sm := ⟨by have := h.sm.1; omega, fun i hi => by have := h.sm.2 i hi; omega⟩
theorem SamePD.refl (d : PD) : SamePD d d := ⟨rfl, fun i _ => ⟨rfl, rfl, rfl, fun _ _ => rfl⟩⟩
/-- Other numbers in the same places. -/
def PD.of (d : PD) (g : Nat → Nat → Int) : PD := ⟨d.n, d.W, d.H, d.L, g⟩
theorem set_any_int {n k : Nat} {l : Nat → Int} (x : Int) : (cellsR 1 (fun i _ => Value.int .i64 (l i)) n).set k (.int .i64 x) = cellsR 1 (fun i _ => Value.int .i64 (upd l k x i)) n := by
  rcases Nat.lt_or_ge k n with h | h
  · exact set_int h x
  · rw [List.set_eq_of_length_le (by rw [cellsR_len]; omega)]
    exact cellsR_congr fun i hi j hj => by rw [upd_ne _ _ (by omega)]
theorem POwn.put {B i k : Nat} {w : World} {p : PP} {d : PD} {g : Nat → Nat → Int} (h : POwn B w p (d.of g)) (hi : i < d.n) (hk : k < d.L i) (v : Int) :
    ∃ x g', p.KA i = some ⟨x, 0, none⟩ ∧ B ≤ x ∧ x < w.heap.size ∧ w.frozen? ⟨x, k, none⟩ = false ∧ (∃ u, w.cell? ⟨x, k, none⟩ = some (.int .i64 u)) ∧ POwn B (w.setCell ⟨x, k, none⟩ (.int .i64 v)) p (d.of g') ∧ ∀ y t cs, t ≠ 3 → HasBlk w y t cs → x ≠ y := by
  obtain ⟨x, hx, hB, hxs, hf⟩ := own_some (h.kd i hi) (show 0 < (d.of g).L i from Nat.lt_of_le_of_lt (Nat.zero_le _) hk)
  have ob : (Value.slice (p.KA i) ((d.of g).L i) (p.KC i)).ownBlock = some x := by rw [hx]; rfl
  refine ⟨x, fun j t => if p.KA j = p.KA i then upd (g j) k v t else g j t, hx, hB, hxs, hf k, ?_, ⟨?_, fun j hj => ?_⟩, fun y t cs ht hb e => ?_⟩
  · obtain ⟨g2, o2, e, _, hc⟩ := Row.of_cells (h.kd i hi) (show 0 < (d.of g).L i from Nat.lt_of_le_of_lt (Nat.zero_le _) hk)
    rw [hx] at e
    injection e with e
    injection e with e1 e2
    subst e1 e2
    have := hc k hk 0 (by omega)
    simp only [Nat.mul_one, Nat.add_zero, Nat.zero_add] at this
    exact ⟨_, this⟩
  · refine own_news (j := k) h.ls ?_ _
    rcases own_types h.ls (h.kd i hi) (by decide) with q | q
    · rw [q]; simp
    · rw [ob] at q; exact q
  · by_cases e : p.KA j = p.KA i
    · have h1 := h.kd j hj
      show World.ownsRow _ B 3 1 (.slice (p.KA j) (d.L j) (p.KC j)) (d.L j) (cellsR 1 (fun t _ => Value.int .i64 (if p.KA j = p.KA i then upd (g j) k v t else g j t)) (d.L j))
      have h2 : w.ownsRow B 3 1 (.slice (p.KA j) (d.L j) (p.KC j)) (d.L j) (cellsR 1 (fun t _ => Value.int .i64 (g j t)) (d.L j)) := h1
      simp only [if_pos e]
      rw [e, hx] at h2 ⊢
      have h3 := own_set (j := k) h2 (.int .i64 v)
      rw [set_any_int] at h3
      exact h3
    · have h1 := h.kd j hj
      show World.ownsRow _ B 3 1 (.slice (p.KA j) (d.L j) (p.KC j)) (d.L j) (cellsR 1 (fun t _ => Value.int .i64 (if p.KA j = p.KA i then upd (g j) k v t else g j t)) (d.L j))
      simp only [if_neg e]
      refine own_news (j := k) h1 (fun q => ?_) _
      rcases h1.2 with ⟨h3, _⟩ | ⟨g', cap, cur, h3, _⟩
      · rw [h3] at q; cases q
      · rw [h3] at q
        injection h3 with e1 _ _
        have e4 : g' = x := by injection q
        apply e
        have e5 : p.KA j = some ⟨g', 0, none⟩ := e1
        rw [e5, hx, e4]
  · subst e
    exact hb.ne_own (h.kd i hi) (Ne.symm ht) ob
set_option maxRecDepth 100000 in
theorem cells_lv9 : Try.prog.cellsOf 74 = 3 := by kernel_rfl
set_option maxRecDepth 100000 in
theorem cells_ll9 : Try.prog.cellsOf 49 = 1 := by kernel_rfl
set_option maxRecDepth 100000 in
theorem cells_py9 : Try.prog.cellsOf 51 = 1 := by kernel_rfl
set_option maxRecDepth 100000 in
theorem cells_rt9 : Try.prog.cellsOf 53 = 4 := by kernel_rfl
set_option maxRecDepth 100000 in
theorem cells_st9 : Try.prog.cellsOf 55 = 5 := by kernel_rfl
structure LvP where
  x : Int
  y : Int
  A : Option Addr
  n : Nat
  c : Nat
  l : Nat → Int
set_option maxRecDepth 100000 in
/-- How a pyramid reads. -/
theorem arg_pyr {w : World} {v : Value} (h : Arg Try.prog w 51 v) : ∃ (p : PP) (d : PD), v = .agg #[.slice p.A d.n p.c] ∧ POk w p d ∧ (d.n : Int) ≤ 9223372036854775807 := by
  obtain ⟨cs, rfl, _, hr⟩ := h.struct Try.underlying51
  obtain ⟨hl, hf⟩ := hr.struct Try.underlying51
  rw [cells_py9] at hl
  match cs, hl with
  | [a], _ =>
    have h0 := hf 0 _ rfl
    obtain ⟨A, n, c, Fv, e, hnc, hF, hrow⟩ := rd_rows 3 (fun f => ∃ x : LvP, f 0 = .int .i64 x.x ∧ f 1 = .int .i64 x.y ∧ f 2 = .slice x.A x.n x.c ∧ IS w x.A x.n x.l) Try.underlying49 cells_lv9 (by omega)
      (fun cs hl hr => by
        obtain ⟨_, hf⟩ := hr.struct Try.underlying74
        match cs, hl with
        | [a, b, c], _ =>
          obtain ⟨x0, e0, _⟩ := Rd.int Try.underlying3 (hf 0 _ rfl)
          obtain ⟨x1, e1, _⟩ := Rd.int Try.underlying3 (hf 1 _ rfl)
          obtain ⟨A3, n3, c3, l3, e3, h3, b3, r3⟩ := rd_ints Try.underlying27 Try.underlying3 cells_int (hf 2 _ rfl)
          simp [cells_int, cells_ints] at e0 e1 e3
          subst e0 e1 e3
          exact ⟨⟨x0, x1, A3, n3, c3, l3⟩, rfl, rfl, rfl, r3⟩) ⟨fun j => if j = 0 then .int .i64 0 else if j = 1 then .int .i64 0 else .slice none 0 0, ⟨0, 0, none, 0, 0, fun _ => 0⟩, rfl, rfl, rfl, fun h => absurd h (by decide)⟩ h0
    obtain ⟨x, hx⟩ := Classical.axiomOfChoice hF
    have hm := maxLen_le
    simp [cells_ll9] at e
    subst e
    refine ⟨⟨A, c, fun i => (x i).A, fun i => (x i).c⟩, ⟨n, fun i => (x i).x, fun i => (x i).y, fun i => (x i).n, fun i t => (x i).l t⟩, rfl, ⟨hrow.congr fun i hi j hj => ?_, fun i hi => (hx i).2.2.2.row⟩, by show (n : Int) ≤ _; omega⟩
    obtain rfl | rfl | rfl : j = 0 ∨ j = 1 ∨ j = 2 := by omega
    · exact (hx i).1
    · exact (hx i).2.1
    · exact (hx i).2.2.1
set_option maxRecDepth 100000 in
/-- How a rectangle reads. -/
theorem arg_rect {w : World} {v : Value} (h : Arg Try.prog w 53 v) : ∃ r : RC, v = .agg #[.int .i64 r.X0, .int .i64 r.Y0, .int .i64 r.X1, .int .i64 r.Y1] := by
  obtain ⟨cs, rfl, _, hr⟩ := h.struct Try.underlying53
  obtain ⟨hl, hf⟩ := hr.struct Try.underlying53
  rw [cells_rt9] at hl
  match cs, hl with
  | [a, b, c, d], _ =>
    obtain ⟨x0, e0, _⟩ := Rd.int Try.underlying3 (hf 0 _ rfl)
    obtain ⟨x1, e1, _⟩ := Rd.int Try.underlying3 (hf 1 _ rfl)
    obtain ⟨x2, e2, _⟩ := Rd.int Try.underlying3 (hf 2 _ rfl)
    obtain ⟨x3, e3, _⟩ := Rd.int Try.underlying3 (hf 3 _ rfl)
    simp [cells_int] at e0 e1 e2 e3
    subst e0 e1 e2 e3
    exact ⟨⟨_, _, _, _⟩, rfl⟩
set_option maxRecDepth 100000 in
/-- How a shade reads. -/
theorem arg_shade {w : World} {v : Value} (h : Arg Try.prog w 55 v) : ∃ (r : RC) (D : Int), v = .agg #[.int .i64 r.X0, .int .i64 r.Y0, .int .i64 r.X1, .int .i64 r.Y1, .int .i64 D] := by
  obtain ⟨cs, rfl, _, hr⟩ := h.struct Try.underlying55
  obtain ⟨hl, hf⟩ := hr.struct Try.underlying55
  rw [cells_st9] at hl
  match cs, hl with
  | [a, b, c, d, e], _ =>
    obtain ⟨_, hg⟩ := (hf 0 _ rfl).struct Try.underlying53
    obtain ⟨x0, e0, _⟩ := Rd.int Try.underlying3 (hg 0 _ rfl)
    obtain ⟨x1, e1, _⟩ := Rd.int Try.underlying3 (hg 1 _ rfl)
    obtain ⟨x2, e2, _⟩ := Rd.int Try.underlying3 (hg 2 _ rfl)
    obtain ⟨x3, e3, _⟩ := Rd.int Try.underlying3 (hg 3 _ rfl)
    obtain ⟨x4, e4, _⟩ := Rd.int Try.underlying3 (hf 1 _ rfl)
    simp [cells_int, cells_rt9] at e0 e1 e2 e3 e4
    subst e0 e1 e2 e3 e4
    exact ⟨⟨_, _, _, _⟩, _, rfl⟩
end Go.Proofs.Ytibeoeooajelgaa
