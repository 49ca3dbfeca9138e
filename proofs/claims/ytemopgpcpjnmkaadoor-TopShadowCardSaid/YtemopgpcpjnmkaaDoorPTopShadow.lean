/- Proved: each fragment of a pixel lies in its item's shadow, in any window that has the pixel, with a depth of at most the shadow's, whatever the input: the law TopShadow returns true, and the input reads as it did. The variable frustum.world is tied to the program's text. No other condition. -/
import Derived.Test.YtemopgpcpjnmkaaDoorCards
import Derived.Test.YtemopgpcpjnmkaaDoorTie
import Derived.WalkKit
import Derived.ProofKit
import Derived.OpenShut
import Derived.Deep.DeepHandedRow
import Derived.Lib.LaidTab
import Derived.SevenTiedAt
import Derived.Test.YtemopgpcpjnmkaaDoorT29
import Derived.Test.YtemopgpcpjnmkaaDoorT30
namespace Go.Proofs.YtemopgpcpjnmkaaDoor.topShadowDone
open Go.ChangeShapes Go.WideShapes Go.ChangeAt Go.RowKit
set_option linter.unusedVariables false

theorem own : ownKnob Tryd.prog.godebug = none := by kernel_rfl
theorem laidOut : laidOutB Tryd.prog = true := by kernel_rfl
theorem gW : Tryd.prog.globalNamed "diorama/frustum.world" = some 0 := by kernel_rfl
theorem gWType : (Tryd.prog.globals[0]?).map (·.type) = some 50 := by kernel_rfl

set_option maxRecDepth 100000 in
theorem trod_vec {H : Type} {enc : TypeId × Value → H} {w : World} {base : Nat} {sp : Nat → Bool} {held : Bool} {fuel : Nat} {cs : List Value} {x : DataW H × List MemPlace} (h : DataW.trod enc Tryd.prog w base sp held fuel 27 cs = some x) :
    ∃ a b c : Int, cs = [.int .i64 a, .int .i64 b, .int .i64 c] ∧ x.1 = .agg [.lit (.int .i64 a), .lit (.int .i64 b), .lit (.int .i64 c)] := by
  obtain ⟨xs, n, _, rfl, hl, hxs, hf⟩ := DataW.trod_struct Tryd.underlying27 h
  rw [cells27] at hl
  match cs, hl with
  | [y0, y1, y2], _ =>
    match xs, hxs with
    | [x0, x1, x2], _ =>
      obtain ⟨a, ea, rfl, _⟩ := DataW.trod_int u_int ((hf 0 _ rfl).trans rfl)
      obtain ⟨b, eb, rfl, _⟩ := DataW.trod_int u_int ((hf 1 _ rfl).trans rfl)
      obtain ⟨c, ec, rfl, _⟩ := DataW.trod_int u_int ((hf 2 _ rfl).trans rfl)
      simp [cells3] at ea eb ec
      subst ea eb ec
      exact ⟨a, b, c, rfl, rfl⟩
set_option maxRecDepth 100000 in
/-- What the row's list gives: the variable's cells. -/
theorem world_laid {W : World} (h : laidMetH Tryd.prog Rows.topShadowRow.laid W) : GC W := by
  obtain ⟨ps, ⟨g', t', cs, fuel, p, q, hg', ht', hvar, hd, _, _⟩, _⟩ := (show laidMet Tryd.prog [("diorama/frustum.world", Rows.laid_diorama_frustum_world)] W from h)
  obtain rfl := Option.some.inj (gW.symm.trans hg')
  obtain rfl := Option.some.inj (gWType.symm.trans ht')
  obtain ⟨l⟩ := cs
  obtain ⟨xs, n, _, hx, hl, hxs, hf⟩ := DataW.trod_struct (cs := l) Tryd.underlying50 hd
  rw [cells50] at hl
  match l, hl with
  | [y0, y1, y2, y3, y4, y5], _ =>
    match xs, hxs with
    | [x0, x1], _ =>
      obtain ⟨a, b, c, ea, e0⟩ := trod_vec ((hf 0 _ rfl).trans rfl)
      obtain ⟨d, e, f, ed, e1⟩ := trod_vec ((hf 1 _ rfl).trans rfl)
      simp [cells27] at ea ed
      obtain ⟨rfl, rfl, rfl⟩ := ea
      obtain ⟨rfl, rfl, rfl⟩ := ed
      have hx1 := congrArg Prod.fst hx
      simp only [List.map_cons, List.map_nil, e0, e1, Rows.laid_diorama_frustum_world] at hx1
      simp only [DataW.agg.injEq, List.cons.injEq, DataW.lit.injEq, Lit.int.injEq, true_and, and_true] at hx1
      obtain ⟨⟨rfl, rfl, rfl⟩, rfl, rfl, rfl⟩ := hx1
      have k : ∀ i, W.cell? ⟨0, i, none⟩ = (#[.int .i64 (-4096), .int .i64 (-4096), .int .i64 (-4096), .int .i64 4096, .int .i64 4096, .int .i64 4096] : Array Value)[i]? ∨ 6 ≤ i := fun i => by
        by_cases hi : i < 6
        · left
          have := World.var?_cell gW hvar i
          simpa using this
        · right; omega
      have c0 : W.cell? ⟨0, 0, none⟩ = some (.int .i64 (-4096)) := by simpa using World.var?_cell gW hvar 0
      refine ⟨World.block_lt_of_cell? W _ c0, c0, ?_, ?_, ?_, ?_, ?_⟩
      · simpa using World.var?_cell gW hvar 1
      · simpa using World.var?_cell gW hvar 2
      · simpa using World.var?_cell gW hvar 3
      · simpa using World.var?_cell gW hvar 4
      · simpa using World.var?_cell gW hvar 5

set_option maxRecDepth 100000 in
theorem walk_arg (v0 v1 v2 v3 v4 : Value) (W : World) (h0 : Arg Tryd.prog W 25 v0) (h1 : Arg Tryd.prog W 31 v1) (h2 : Arg Tryd.prog W 33 v2) (h3 : Arg Tryd.prog W 3 v3) (h4 : Arg Tryd.prog W 3 v4) (hG : GC W) :
    Calls Tryd.prog 3 #[v0, v1, v2, v3, v4] W fun e W' => e = .returned (.bool true) ∧ Below W.heap.size W W' := by
  obtain ⟨s, rfl, hR⟩ := arg_show h0
  obtain ⟨c, rfl⟩ := arg_cam h1
  obtain ⟨X0, Y0, X1, Y1, rfl⟩ := arg_rect h2
  obtain ⟨x, rfl, _⟩ := h3.int u_int
  obtain ⟨y, rfl, _⟩ := h4.int u_int
  exact topShadow_walk s c X0 Y0 X1 Y1 x y W hR hG

set_option maxRecDepth 100000 in
theorem contract (H : Type) (enc : TypeId × Value → H) (W : World) (base : Nat) (args : Array Value) (ds gs : List (DataW H)) (before : List MemPlace)
    (hval0 : ∀ (j : Nat) t v, Tryd.f3.params[j]? = some t → args[j]? = some v → Value.okWide Tryd.prog W .any base t v)
    (hW : DataW.Whole enc Tryd.prog Tryd.f3.params.toList Rows.topShadowSpec.vars false W args.toList ds gs before) (hL : laidMetH Tryd.prog Rows.topShadowRow.laid W) :
    Calls Tryd.prog 3 args W fun e W' => ∃ v, e = .returned v ∧ Rows.topShadowSpec.post enc Tryd.prog Tryd.f3 false true false false W args v W' := by
  have hval : ∀ (j : Nat) t v, Tryd.f3.params[j]? = some t → args[j]? = some v → Value.okWide Tryd.prog W .any base t v := hval0
  have hW' := hW
  obtain ⟨p, q, hA0, hV, rfl, hfz, hnd⟩ := hW
  have hA : DataW.TrodAll enc Tryd.prog W 0 (fun _ => true) true Tryd.f3.params.toList args.toList ds p := hA0
  rw [Tryd.params3] at hA hval
  obtain ⟨v0, vs0, d0, ds0, p0, q0, hargs, rfl, rfl, h0, r0⟩ := trodAll_cons hA
  obtain ⟨v1, vs1, d1, ds1, p1, q1, rfl, rfl, rfl, h1, r1⟩ := trodAll_cons r0
  obtain ⟨v2, vs2, d2, ds2, p2, q2, rfl, rfl, rfl, h2, r2⟩ := trodAll_cons r1
  obtain ⟨v3, vs3, d3, ds3, p3, q3, rfl, rfl, rfl, h3, r3⟩ := trodAll_cons r2
  obtain ⟨v4, vs4, d4, ds4, p4, q4, rfl, rfl, rfl, h4, r4⟩ := trodAll_cons r3
  obtain ⟨rfl, rfl, rfl⟩ := trodAll_nil r4
  obtain rfl : args = #[v0, v1, v2, v3, v4] := by cases args; simp_all
  obtain ⟨rfl, rfl⟩ := trodVars_none hV
  have lt0 : ∀ x ∈ p0, x.block < W.heap.size := by obtain ⟨m, hm⟩ := h0; exact DataW.trod_lt m _ _ _ hm
  have a0 : Arg Tryd.prog W 25 v0 := ⟨H, enc, base, d0, p0, hval 0 25 v0 rfl rfl, h0⟩
  have lt1 : ∀ x ∈ p1, x.block < W.heap.size := by obtain ⟨m, hm⟩ := h1; exact DataW.trod_lt m _ _ _ hm
  have a1 : Arg Tryd.prog W 31 v1 := ⟨H, enc, base, d1, p1, hval 1 31 v1 rfl rfl, h1⟩
  have lt2 : ∀ x ∈ p2, x.block < W.heap.size := by obtain ⟨m, hm⟩ := h2; exact DataW.trod_lt m _ _ _ hm
  have a2 : Arg Tryd.prog W 33 v2 := ⟨H, enc, base, d2, p2, hval 2 33 v2 rfl rfl, h2⟩
  have lt3 : ∀ x ∈ p3, x.block < W.heap.size := by obtain ⟨m, hm⟩ := h3; exact DataW.trod_lt m _ _ _ hm
  have a3 : Arg Tryd.prog W 3 v3 := ⟨H, enc, base, d3, p3, hval 3 3 v3 rfl rfl, h3⟩
  have lt4 : ∀ x ∈ p4, x.block < W.heap.size := by obtain ⟨m, hm⟩ := h4; exact DataW.trod_lt m _ _ _ hm
  have a4 : Arg Tryd.prog W 3 v4 := ⟨H, enc, base, d4, p4, hval 4 3 v4 rfl rfl, h4⟩
  clear hA0 hval0
  refine (walk_arg v0 v1 v2 v3 v4 W a0 a1 a2 a3 a4 (world_laid hL)).mono fun e W' ⟨he, bel⟩ => ?_
  subst he
  exact ⟨_, rfl, _, _, _, [], _, [], hW', trodAll_mk1 (shut_bool Tryd.underlying4 _), (trodAll_cons_mk (Below.trod laidOut (by kernel_rfl) (of_decide_eq_true (by kernel_rfl)) h0 bel lt0) (trodAll_cons_mk (Below.trod laidOut (by kernel_rfl) (of_decide_eq_true (by kernel_rfl)) h1 bel lt1) (trodAll_cons_mk (Below.trod laidOut (by kernel_rfl) (of_decide_eq_true (by kernel_rfl)) h2 bel lt2) (trodAll_cons_mk (Below.trod laidOut (by kernel_rfl) (of_decide_eq_true (by kernel_rfl)) h3 bel lt3) (trodAll_cons_mk (Below.trod laidOut (by kernel_rfl) (of_decide_eq_true (by kernel_rfl)) h4 bel lt4) trodAll_mk0))))), rfl, bel.frame _, fun h => by cases h⟩

/-- A world for the witness: the settled one, the variable holding what its initialiser lays. -/
noncomputable def laidWorld (os : Os) : World :=
  { World.holding Tryd.prog os ⟨#[], #[], []⟩ with heap := (World.holding Tryd.prog os ⟨#[], #[], []⟩).heap.modify 0 fun
      | .cells _ t frozen => .cells #[.int .i64 (-4096), .int .i64 (-4096), .int .i64 (-4096), .int .i64 4096, .int .i64 4096, .int .i64 4096] t frozen
      | o => o }
def wit : Array Value := #[.agg #[.slice none 0 0, .slice none 0 0], .agg #[.int .i64 0, .int .i64 0, .int .i64 0, .int .i64 0, .int .i64 0, .int .i64 0, .int .i64 0, .int .i64 0, .int .i64 0, .int .i64 0, .int .i64 0, .int .i64 0, .int .i64 0, .int .i64 0, .int .i64 0, .int .i64 0], .agg #[.int .i64 0, .int .i64 0, .int .i64 0, .int .i64 0], .int .i64 0, .int .i64 0]
theorem laid_met (os : Os) : laidMet Tryd.prog Rows.topShadowRow.laid ((laidWorld os).forCall (fun _ _ => 0) ⟨#[], wit, []⟩).memory :=
  laidMet_of_run' 8 (by kernel_rfl) (by kernel_rfl)
theorem reads (os : Os) {H : Type} (enc : TypeId × Value → H) : ∃ places, DataW.whole enc Tryd.prog ((laidWorld os).forCall (fun _ _ => 0) ⟨#[], wit, []⟩).memory Tryd.f3.params.toList Rows.topShadowSpec.vars false wit.toList 8 = some ([.agg [.nil, .nil], .agg [.agg [.lit (.int .i64 0), .lit (.int .i64 0), .lit (.int .i64 0)], .agg [.agg [.lit (.int .i64 0), .lit (.int .i64 0), .lit (.int .i64 0)], .agg [.lit (.int .i64 0), .lit (.int .i64 0), .lit (.int .i64 0)], .agg [.lit (.int .i64 0), .lit (.int .i64 0), .lit (.int .i64 0)]], .lit (.int .i64 0), .lit (.int .i64 0), .lit (.int .i64 0), .lit (.int .i64 0)], .agg [.lit (.int .i64 0), .lit (.int .i64 0), .lit (.int .i64 0), .lit (.int .i64 0)], .lit (.int .i64 0), .lit (.int .i64 0)], [], places) := ⟨[], by kernel_rfl⟩

set_option maxRecDepth 100000 in
theorem lifted (os : Os) (started : os.Started) (H : Type) (enc : TypeId × Value → H) (F : Stop.Interp) :
    ReturnsInHanded {} Tryd.checked os 3 .any ((OpenSpec.ofChange Rows.topShadowSpec).preRow enc Tryd.prog Tryd.f3 Rows.topShadowRow.domain false Rows.topShadowRow.laid) (((OpenSpec.ofChange Rows.topShadowSpec).at F).post enc Tryd.prog Tryd.f3 false true false false) := by
  obtain ⟨places, hx⟩ := reads os enc
  refine returnsInHanded_of_row (C := Tryd.checked) (s := OpenSpec.ofChange Rows.topShadowSpec) own started (by kernel_rfl) Tryd.func3
    (witness_row_at (enc := enc) (C := Tryd.checked) false (laidWorld os) wit rfl (by kernel_rfl) (by kernel_rfl) (by kernel_rfl)
      (OpenSpec.preRow_of_cond 8 hx (by kernel_rfl) (fun k hk => by cases hk) (by kernel_rfl) (laid_met os))) ?_
  intro W base args ds gs before hval hW _ _ _ hL _ _
  exact contract H enc W base args ds gs before hval hW hL

theorem said : Rows.TopShadowSaid :=
  OpenClaim.holds_of_cond 3 Tryd.f3 rfl rfl rfl rfl rfl rfl rfl ⟨rfl, rfl, rfl, rfl, rfl⟩ rfl rfl rfl rfl rfl (by kernel_rfl) Tryd.func3 (by kernel_rfl)
    (of_decide_eq_true (by kernel_rfl)) (by unfold Func.isWrapper; first | (rw [if_pos (by decide +kernel)]; kernel_rfl) | (rw [if_neg (by decide +kernel)]; exact ⟨rfl, rfl⟩))
    (fun os started H enc _ F => by rw [OpenClaim.pre_eq_preRow]; exact lifted os started H enc F)

theorem plain (f : FuncId) (fn : Func) (hf : Tryd.pinned.checked.prog.funcNamed "diorama/dioramatop.TopShadow" = some f) (hfn : Tryd.pinned.checked.prog.funcs[f]? = some fn) :
    false = Tryd.pinned.checked.prog.looks [] ∧ ∀ (j : Nat) t, fn.params[j]? = some t → Tryd.pinned.checked.prog.wantsStandIn t = false := by
  obtain rfl : f = 3 := Option.some.inj ((show Tryd.prog.funcNamed "diorama/dioramatop.TopShadow" = some 3 by kernel_rfl).symm.trans hf) |>.symm
  obtain rfl : fn = Tryd.f3 := (Option.some.inj (Tryd.func3.symm.trans hfn)).symm
  refine ⟨by kernel_rfl, fun j t ht => ?_⟩
  rw [Tryd.params3] at ht
  have ht' : t = 25 ∨ t = 31 ∨ t = 33 ∨ t = 3 := by
    have := Array.mem_of_getElem? ht
    simp at this
    omega
  rcases ht' with rfl | rfl | rfl | rfl
  · exact (show Tryd.prog.wantsStandIn 25 = false by kernel_rfl)
  · exact (show Tryd.prog.wantsStandIn 31 = false by kernel_rfl)
  · exact (show Tryd.prog.wantsStandIn 33 = false by kernel_rfl)
  · exact (show Tryd.prog.wantsStandIn 3 = false by kernel_rfl)

theorem proved : Rows.TopShadowCardSaid :=
  Claim7.holds_tied_plain_at .later [] _ _ _ _ said (fun _ h => by cases h) (by kernel_rfl) (fun _ h => by cases h) topShadow_row_tie rfl ⟨rfl, rfl⟩ (by kernel_rfl) rfl plain (by kernel_rfl)
#print axioms proved
end Go.Proofs.YtemopgpcpjnmkaaDoor.topShadowDone
