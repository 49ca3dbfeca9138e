/- top: the example that is drawn. -/
import Derived.Test.YtemopgpcpjnmkaaDoorT26
import Derived.Test.YtemopgpcpjnmkaaDoorLoad
namespace Go.Proofs.YtemopgpcpjnmkaaDoor
open Go.RowKit
set_option linter.unusedVariables false
def cdD : CD := ⟨⟨0, 0, 0⟩, fun q => match q with | 0 => 256 | 4 => 256 | 8 => 256 | _ => 0, 64, 256, 4, 4⟩
def itD (xv xu xt : Nat) : It := ⟨[⟨-40, -40, 512⟩, ⟨40, -40, 512⟩, ⟨-40, 40, 512⟩], [⟨0, 0⟩, ⟨0, 0⟩, ⟨0, 0⟩], [⟨0, 2, 1⟩], ⟨0, 0, 0, 0, -1, 0, 0, false, 0⟩, ⟨⟨-40, -40, 512⟩, ⟨40, 40, 512⟩⟩, some ⟨xv, 0, none⟩, 3, some ⟨xu, 0, none⟩, 3, some ⟨xt, 0, none⟩, 1⟩
def shD (xi xv xu xt : Nat) : Sh := ⟨[itD xv xu xt], [], some ⟨xi, 0, none⟩, 1, none, 0⟩
def tD : T3 := ⟨⟨-24, 56, 32768, 0, 0⟩, ⟨-24, -24, 32768, 0, 0⟩, ⟨56, 56, 32768, 0, 0⟩⟩
def pD : Pt := ⟨tD.front, 0, 0, 0, 0⟩
theorem ptsD (xi xv xu xt : Nat) : (shD xi xv xu xt).pts cdD = [pD] := by kernel_rfl
theorem covD : pD.t.cov 0 2 = true := by kernel_rfl
theorem fragD : pD.frag 0 2 = ⟨32768, 0, 0, 0, 0, 0⟩ := by kernel_rfl
theorem cdD_ok : cdD.Ok := by
  refine ⟨⟨⟨?_, ?_, ?_⟩, ?_, ?_, ?_, ?_⟩, fun q hq => ?_⟩
  all_goals first | (unfold Wi; decide) | skip
  obtain rfl | rfl | rfl | rfl | rfl | rfl | rfl | rfl | rfl : q = 0 ∨ q = 1 ∨ q = 2 ∨ q = 3 ∨ q = 4 ∨ q = 5 ∨ q = 6 ∨ q = 7 ∨ q = 8 := by omega
  all_goals (unfold Wi; decide)
theorem itD_ok (xv xu xt : Nat) : (itD xv xu xt).Ok (([] : List Tx).length : Int) := by
  refine ⟨⟨⟨by simp [itD], rfl, by simp [itD]⟩, ⟨by simp [], by simp []⟩, ⟨by simp [itD], by simp [itD]⟩, by simp [itD], ⟨by simp [itD], by simp [itD]⟩, by simp [itD], by simp [itD]⟩, ⟨fun v hv => ?_, fun u hu => ?_⟩, fun t ht => ?_, by kernel_rfl⟩
  · simp only [itD, List.mem_cons, List.not_mem_nil, or_false] at hv
    rcases hv with rfl | rfl | rfl <;> (unfold V3.Ok Wi; decide)
  · simp only [itD, List.mem_cons, List.not_mem_nil, or_false] at hu
    rcases hu with rfl | rfl | rfl <;> (unfold U2.Ok Wi; decide)
  · simp only [itD, List.mem_cons, List.not_mem_nil, or_false] at ht
    subst ht
    unfold I3.Ok
    simp only [itD]
    decide
theorem goodD (xi xv xu xt : Nat) : Good (shD xi xv xu xt) cdD 0 2 :=
  ⟨⟨⟨⟨by simp [shD], by simp [shD]⟩, fun t ht => (by cases ht), fun i hi => by obtain rfl := List.mem_singleton.1 hi; exact itD_ok xv xu xt⟩, cdD_ok⟩, ⟨by decide, by decide⟩, ⟨by decide, by decide⟩⟩
theorem RowL.of_blk {α : Type} {w : World} {g s : Nat} {t : TypeId} {cs : Array Value} {f : α → List Value} {L : List α} (hf : ∀ a, (f a).length = s) (h : HasBlk w g t cs) (hcs : cs.toList = L.flatMap f) : RowL w (some ⟨g, 0, none⟩) s f L := fun hn => by
  refine ⟨g, 0, rfl, h.lt, fun i a hi j u hj => ?_⟩
  have hl := (List.getElem?_eq_some_iff.1 hj).1
  rw [hf] at hl
  exact h.atl hcs (0 + i * s + j) u (by rw [Nat.zero_add, flat_at hf hi hl, hj])
theorem rdD (xi xv xu xt : Nat) (w : World) (hv : HasBlk w xv 27 #[.int .i64 (-40), .int .i64 (-40), .int .i64 512, .int .i64 40, .int .i64 (-40), .int .i64 512, .int .i64 (-40), .int .i64 40, .int .i64 512]) (hu : HasBlk w xu 128 #[.int .i64 0, .int .i64 0, .int .i64 0, .int .i64 0, .int .i64 0, .int .i64 0]) (ht : HasBlk w xt 28 #[.int .i64 0, .int .i64 2, .int .i64 1]) (hi : HasBlk w xi 52 #[.slice (some ⟨xv, 0, none⟩) 3 3, .slice (some ⟨xu, 0, none⟩) 3 3, .slice (some ⟨xt, 0, none⟩) 1 1, .int .u8 0, .int .u8 0, .int .u8 0, .int .u8 0, .int .i64 (-1), .int .u8 0, .int .i64 0, .bool false, .int .i64 0, .int .i64 (-40), .int .i64 (-40), .int .i64 512, .int .i64 40, .int .i64 40, .int .i64 512]) : (shD xi xv xu xt).Rd w :=
  ⟨RowL.of_blk It.len hi rfl, fun i h => by
    obtain rfl := List.mem_singleton.1 h
    exact ⟨RowL.of_blk V3.len hv rfl, RowL.of_blk U2.len hu rfl, RowL.of_blk I3.len ht rfl, by simp [itD], by simp [itD]⟩, fun h => absurd h (by simp [shD])⟩
theorem winD (xi xv xu xt : Nat) (w : World) (hR : (shD xi xv xu xt).Rd w) : Calls Tryd.prog 10 #[.agg #[.slice (some ⟨xi, 0, none⟩) 1 1, .slice none 0 0], .agg #[.int .i64 0, .int .i64 0, .int .i64 0, .int .i64 256, .int .i64 0, .int .i64 0, .int .i64 0, .int .i64 256, .int .i64 0, .int .i64 0, .int .i64 0, .int .i64 256, .int .i64 64, .int .i64 256, .int .i64 4, .int .i64 4], .int .i64 0, .int .i64 2] w fun e w' => e = .returned (.tuple #[.agg #[.int .i64 32768, .int .i64 0, .int .i64 0, .int .i64 0, .int .i64 0, .int .i64 0], .bool true, .int .i64 0]) ∧ Below w.heap.size w w' := by
  have h := Winner_one (shD xi xv xu xt) cdD pD 0 (itD xv xu xt) 0 2 (goodD xi xv xu xt) (ptsD xi xv xu xt) covD rfl rfl rfl w hR
  rw [fragD] at h
  exact h
theorem bld_29D (w : World) : (Instr.build 29 #[(0, .agg #[.int .i64 256, .int .i64 0, .int .i64 0]), (1, .agg #[.int .i64 0, .int .i64 256, .int .i64 0]), (2, .agg #[.int .i64 0, .int .i64 0, .int .i64 256])]).run Tryd.prog w = .ok (.agg #[.int .i64 256, .int .i64 0, .int .i64 0, .int .i64 0, .int .i64 256, .int .i64 0, .int .i64 0, .int .i64 0, .int .i64 256]) w := by kernel_rfl
theorem bld_31D (w : World) : (Instr.build 31 #[(1, .agg #[.int .i64 256, .int .i64 0, .int .i64 0, .int .i64 0, .int .i64 256, .int .i64 0, .int .i64 0, .int .i64 0, .int .i64 256]), (2, .int .i64 64), (3, .int .i64 256), (4, .int .i64 4), (5, .int .i64 4)]).run Tryd.prog w = .ok (.agg #[.int .i64 0, .int .i64 0, .int .i64 0, .int .i64 256, .int .i64 0, .int .i64 0, .int .i64 0, .int .i64 256, .int .i64 0, .int .i64 0, .int .i64 0, .int .i64 256, .int .i64 64, .int .i64 256, .int .i64 4, .int .i64 4]) w := by kernel_rfl
theorem bld_27 (x y z : Int) (w : World) : (Instr.build 27 #[(0, .int .i64 x), (1, .int .i64 y), (2, .int .i64 z)]).run Tryd.prog w = .ok (.agg #[.int .i64 x, .int .i64 y, .int .i64 z]) w := by kernel_rfl
theorem bld_48D (w : World) : (Instr.build 48 #[(1, .int .i64 (-1))]).run Tryd.prog w = .ok (.agg #[.int .u8 0, .int .u8 0, .int .u8 0, .int .u8 0, .int .i64 (-1), .int .u8 0, .int .i64 0, .bool false, .int .i64 0]) w := by kernel_rfl
theorem bld_52D (xv xu xt : Nat) (w : World) : (Instr.build 52 #[(0, .slice (some ⟨xv, 0, none⟩) 3 3), (1, .slice (some ⟨xu, 0, none⟩) 3 3), (2, .slice (some ⟨xt, 0, none⟩) 1 1), (3, .agg #[.int .u8 0, .int .u8 0, .int .u8 0, .int .u8 0, .int .i64 (-1), .int .u8 0, .int .i64 0, .bool false, .int .i64 0]), (4, .agg #[.int .i64 (-40), .int .i64 (-40), .int .i64 512, .int .i64 40, .int .i64 40, .int .i64 512])]).run Tryd.prog w = .ok (.agg #[.slice (some ⟨xv, 0, none⟩) 3 3, .slice (some ⟨xu, 0, none⟩) 3 3, .slice (some ⟨xt, 0, none⟩) 1 1, .int .u8 0, .int .u8 0, .int .u8 0, .int .u8 0, .int .i64 (-1), .int .u8 0, .int .i64 0, .bool false, .int .i64 0, .int .i64 (-40), .int .i64 (-40), .int .i64 512, .int .i64 40, .int .i64 40, .int .i64 512]) w := by kernel_rfl
theorem bld_25D (xi : Nat) (w : World) : (Instr.build 25 #[(0, .slice (some ⟨xi, 0, none⟩) 1 1)]).run Tryd.prog w = .ok (.agg #[.slice (some ⟨xi, 0, none⟩) 1 1, .slice none 0 0]) w := by kernel_rfl
theorem mk43 (w : World) : (Instr.makeSlice 43 (.int .i64 3) (.int .i64 3)).run Tryd.prog w = .ok (.slice (some ⟨w.heap.size, 0, none⟩) 3 3) (w.alloc (.cells #[.int .i64 0, .int .i64 0, .int .i64 0, .int .i64 0, .int .i64 0, .int .i64 0] 128)) := by kernel_rfl

set_option maxRecDepth 100000 in
set_option maxHeartbeats 32000000 in
theorem drawn_true  (w : World) : Calls Tryd.prog 4 #[] w fun e w' => e = .returned (.bool true) ∧ Below w.heap.size w w' := by
  have hb1 := bld_28 256 0 0
  have hb2 := bld_28 0 256 0
  have hb3 := bld_28 0 0 256
  have hb4 := bld_29D
  have hb5 := bld_31D
  go_enter Tryd.func4, Tryd.ntmps4
  have HB := Lib.hid (Below.refl w.heap.size w)
  go_upto_region 2 with (refine wpList_storeN rfl 31 _ _ rfl #[.int .i64 0, .int .i64 0, .int .i64 0, .int .i64 0, .int .i64 0, .int .i64 0, .int .i64 0, .int .i64 0, .int .i64 0, .int .i64 0, .int .i64 0, .int .i64 0, .int .i64 0, .int .i64 0, .int .i64 0, .int .i64 0] #[.int .i64 0, .int .i64 0, .int .i64 0, .int .i64 256, .int .i64 0, .int .i64 0, .int .i64 0, .int .i64 256, .int .i64 0, .int .i64 0, .int .i64 0, .int .i64 256, .int .i64 64, .int .i64 256, .int .i64 4, .int .i64 4] rfl rfl (by kernel_rfl) rfl (by simp [Value.oneCell']) ?_)
  obtain ⟨v1, xc, hz, hx', BC, bA⟩ := laidB w 31 #[.int .i64 0, .int .i64 0, .int .i64 0, .int .i64 256, .int .i64 0, .int .i64 0, .int .i64 0, .int .i64 256, .int .i64 0, .int .i64 0, .int .i64 0, .int .i64 256, .int .i64 64, .int .i64 256, .int .i64 4, .int .i64 4]
  rw [← hz.out, ← hx'.out]
  replace HB := mT HB bA
  clear hz hx' bA
  clear hb1 hb2 hb3 hb4 hb5
  have hb1 := bld_27 (-40) (-40) 512
  have hb2 := bld_27 40 (-40) 512
  have hb3 := bld_27 (-40) 40 512
  go_upto_region 3 with fail
  obtain ⟨v2, xv, hz, hx', BV, bA⟩ := laidB v1 27 #[.int .i64 (-40), .int .i64 (-40), .int .i64 512, .int .i64 40, .int .i64 (-40), .int .i64 512, .int .i64 (-40), .int .i64 40, .int .i64 512]
  rw [← hz.out, ← hx'.out]
  replace BC := mB BC bA
  replace HB := mT HB bA
  clear hz hx' bA
  clear hb1 hb2 hb3
  have hb1 := bld_28 0 2 1
  have hb2 := bld_48D
  have hb3 := bld_27 40 40 512
  have hb4 := bld_50 (-40) (-40) 512 40 40 512
  go_cut [3] (fun s3 wx => ∃ x3 xi xu xt, s3 = .pointer (some ⟨x3, 0, none⟩) ∧ HasBlk wx xu 128 #[.int .i64 0, .int .i64 0, .int .i64 0, .int .i64 0, .int .i64 0, .int .i64 0] ∧ HasBlk wx xt 28 #[.int .i64 0, .int .i64 2, .int .i64 1] ∧ HasBlk wx xi 52 #[.slice (some ⟨xv, 0, none⟩) 3 3, .slice (some ⟨xu, 0, none⟩) 3 3, .slice (some ⟨xt, 0, none⟩) 1 1, .int .u8 0, .int .u8 0, .int .u8 0, .int .u8 0, .int .i64 (-1), .int .u8 0, .int .i64 0, .bool false, .int .i64 0, .int .i64 (-40), .int .i64 (-40), .int .i64 512, .int .i64 40, .int .i64 40, .int .i64 512] ∧ HasBlk wx x3 25 #[.slice (some ⟨xi, 0, none⟩) 1 1, .slice none 0 0] ∧ HasBlk wx xc 31 #[.int .i64 0, .int .i64 0, .int .i64 0, .int .i64 256, .int .i64 0, .int .i64 0, .int .i64 0, .int .i64 256, .int .i64 0, .int .i64 0, .int .i64 0, .int .i64 256, .int .i64 64, .int .i64 256, .int .i64 4, .int .i64 4] ∧ HasBlk wx xv 27 #[.int .i64 (-40), .int .i64 (-40), .int .i64 512, .int .i64 40, .int .i64 (-40), .int .i64 512, .int .i64 (-40), .int .i64 40, .int .i64 512] ∧ Below w.heap.size w wx)
  case first =>
    obtain ⟨z0, hz, bd⟩ := dr0 v2
    replace BC := mB BC bd
    replace BV := mB BV bd
    replace HB := mT HB bd
    have HS := Lib.hid (Below.refl z0.heap.size z0)
    refine wp_region_E (Below z0.heap.size z0) 99 (by kernel_rfl) ?_
    rw [← hz.out]
    clear hz bd
    refine wpAnyE_takeA (i := 0) (v := .slice (some ⟨xv, 0, none⟩) 3 3) rfl (by kernel_rfl) (fun _ _ _ h => h) (.inl ⟨by first | kernel_rfl | rfl, fun W hW => by go_simp⟩) HS.out ?_
    simp only [Act.put, List.setIfInBounds_toArray]
    refine wpAnyE_takeA (i := 2) (v := .agg #[.int .i64 0, .int .i64 2, .int .i64 1]) rfl (by kernel_rfl) (fun _ _ _ h => h) (.inl ⟨by first | kernel_rfl | rfl, fun W hW => by go_simp⟩) HS.out ?_
    simp only [Act.put]
    refine wpAnyE_takeA (i := 4) (v := .agg #[.int .u8 0, .int .u8 0, .int .u8 0, .int .u8 0, .int .i64 (-1), .int .u8 0, .int .i64 0, .bool false, .int .i64 0]) rfl (by kernel_rfl) (fun _ _ _ h => h) (.inl ⟨by first | kernel_rfl | rfl, fun W hW => by go_simp⟩) HS.out ?_
    simp only [Act.put]
    refine wpAnyE_takeA (i := 5) (v := .slice (some ⟨xv, 0, none⟩) 3 3) rfl (by kernel_rfl) (fun _ _ _ h => h) (.inl ⟨by first | kernel_rfl | rfl, fun W hW => by go_simp⟩) HS.out ?_
    simp only [Act.put]
    refine wpAnyE_takeA (i := 6) (v := .pointer (some ⟨xv, 0, none⟩)) rfl (by kernel_rfl) (fun _ _ _ h => h) (.inl ⟨by first | kernel_rfl | rfl, fun W hW => by go_simp⟩) HS.out ?_
    simp only [Act.put]
    refine wpAnyE_takeA (i := 7) (v := .agg #[.int .i64 (-40), .int .i64 (-40), .int .i64 512]) rfl (by kernel_rfl) (fun _ _ _ h => h) (.inl ⟨by first | kernel_rfl | rfl, fun W hW => ?_⟩) HS.out ?_
    · have qBV := (BV.out.below hW).c9
      go_simp
    simp only [Act.put]
    refine wpAnyE_takeA (i := 8) (v := .agg #[.int .i64 40, .int .i64 40, .int .i64 512]) rfl (by kernel_rfl) (fun _ _ _ h => h) (.inl ⟨by first | kernel_rfl | rfl, fun W hW => by go_simp⟩) HS.out ?_
    simp only [Act.put]
    refine wpAnyE_takeA (i := 9) (v := .agg #[.int .i64 (-40), .int .i64 (-40), .int .i64 512, .int .i64 40, .int .i64 40, .int .i64 512]) rfl (by kernel_rfl) (fun _ _ _ h => h) (.inl ⟨by first | kernel_rfl | rfl, fun W hW => by go_simp⟩) HS.out ?_
    simp only [Act.put]
    apply wpAnyE_via4 (fun xu xt xi x3 z => Hid (Below z0.heap.size z0 z) ∧ Hid (HasBlk z xu 128 #[.int .i64 0, .int .i64 0, .int .i64 0, .int .i64 0, .int .i64 0, .int .i64 0]) ∧ Hid (HasBlk z xt 28 #[.int .i64 0, .int .i64 2, .int .i64 1]) ∧ Hid (HasBlk z xi 52 #[.slice (some ⟨xv, 0, none⟩) 3 3, .slice (some ⟨xu, 0, none⟩) 3 3, .slice (some ⟨xt, 0, none⟩) 1 1, .int .u8 0, .int .u8 0, .int .u8 0, .int .u8 0, .int .i64 (-1), .int .u8 0, .int .i64 0, .bool false, .int .i64 0, .int .i64 (-40), .int .i64 (-40), .int .i64 512, .int .i64 40, .int .i64 40, .int .i64 512]) ∧ Hid (HasBlk z x3 25 #[.slice none 0 0, .slice none 0 0]) ∧ Hid (z0.heap.size ≤ xu) ∧ Hid (z0.heap.size ≤ xt) ∧ Hid (z0.heap.size ≤ xi) ∧ Hid (z0.heap.size ≤ x3) ∧ Hid (xu ≠ xt) ∧ Hid (xu ≠ xi) ∧ Hid (xu ≠ x3) ∧ Hid (xt ≠ xi) ∧ Hid (xt ≠ x3) ∧ Hid (xi ≠ x3)) 1 #[true, true, true, true, true, true, true, true, true, true, true, true, true, true, false]
    · intro via
      refine wpAnyE_three (i := 1) (j := 3) (k := 13) rfl rfl rfl (by kernel_rfl) (fun KQ HK => ?_) (fun KQ HK => ?_) (fun KQ HK => ?_)
      · go_wp2_with fail
        simp only [mk43]
        go_wp2
        obtain ⟨z1, xu, hz, hx', BU, bel, LBU, hN⟩ := allocB HS 128 #[.int .i64 0, .int .i64 0, .int .i64 0, .int .i64 0, .int .i64 0, .int .i64 0]
        clear hN
        rw [← hz.out, ← hx'.out]
        replace HS := mT HS bel
        refine HK _ _ (fun _ => HS.out) ?_
        clear HK hz hx' bel
        refine wpAnyE_two (i := 3) (j := 13) rfl rfl (by kernel_rfl) (fun KQ HK => ?_) (fun KQ HK => ?_)
        · go_wp2
          obtain ⟨z2, xt, hz, hx', BT_, bel, LBT_, hN⟩ := allocB HS 28 #[.int .i64 0, .int .i64 2, .int .i64 1]
          have NBT_BU := hN BU
          clear hN
          rw [← hz.out, ← hx'.out]
          replace BU := mB BU bel
          replace HS := mT HS bel
          refine HK _ _ (fun _ => HS.out) ?_
          clear HK hz hx' bel
          have hb5 := bld_52D xv xu xt
          refine wpAnyE_takeA (i := 10) (v := .agg #[.slice (some ⟨xv, 0, none⟩) 3 3, .slice (some ⟨xu, 0, none⟩) 3 3, .slice (some ⟨xt, 0, none⟩) 1 1, .int .u8 0, .int .u8 0, .int .u8 0, .int .u8 0, .int .i64 (-1), .int .u8 0, .int .i64 0, .bool false, .int .i64 0, .int .i64 (-40), .int .i64 (-40), .int .i64 512, .int .i64 40, .int .i64 40, .int .i64 512]) rfl (by kernel_rfl) (fun _ _ _ h => h) (.inl ⟨by first | kernel_rfl | rfl, fun W hW => by go_simp⟩) HS.out ?_
          simp only [Act.put, List.setIfInBounds_toArray]
          refine wpAnyE_two (i := 11) (j := 13) rfl rfl (by kernel_rfl) (fun KQ HK => ?_) (fun KQ HK => ?_)
          · go_wp2
            obtain ⟨z3, xi, hz, hx', BI, bel, LBI, hN⟩ := allocB HS 52 #[.slice (some ⟨xv, 0, none⟩) 3 3, .slice (some ⟨xu, 0, none⟩) 3 3, .slice (some ⟨xt, 0, none⟩) 1 1, .int .u8 0, .int .u8 0, .int .u8 0, .int .u8 0, .int .i64 (-1), .int .u8 0, .int .i64 0, .bool false, .int .i64 0, .int .i64 (-40), .int .i64 (-40), .int .i64 512, .int .i64 40, .int .i64 40, .int .i64 512]
            have NBIBU := hN BU
            have NBIBT_ := hN BT_
            clear hN
            rw [← hz.out, ← hx'.out]
            replace BU := mB BU bel
            replace BT_ := mB BT_ bel
            replace HS := mT HS bel
            refine HK _ _ (fun _ => HS.out) ?_
            clear HK hz hx' bel
            have hb6 := bld_25D xi
            refine wpAnyE_takeA (i := 12) (v := .agg #[.slice (some ⟨xi, 0, none⟩) 1 1, .slice none 0 0]) rfl (by kernel_rfl) (fun _ _ _ h => h) (.inl ⟨by first | kernel_rfl | rfl, fun W hW => by go_simp⟩) HS.out ?_
            simp only [Act.put, List.setIfInBounds_toArray]
            refine wpAnyE_step (i := 13) rfl (by kernel_rfl) (fun KQ HK => ?_)
            go_wp2
            obtain ⟨z4, x3, hz, hx', B3, bel, LB3, hN⟩ := allocB HS 25 #[.slice none 0 0, .slice none 0 0]
            have NB3BU := hN BU
            have NB3BT_ := hN BT_
            have NB3BI := hN BI
            clear hN
            rw [← hz.out, ← hx'.out]
            replace BU := mB BU bel
            replace BT_ := mB BT_ bel
            replace BI := mB BI bel
            replace HS := mT HS bel
            refine HK _ _ (fun _ => HS.out) ?_
            clear HK hz hx' bel
            exact wpAnyE_at (by kernel_rfl) (by kernel_rfl) (by rfl) (via xu xt xi x3 z4 ⟨HS, BU, BT_, BI, B3, LBU, LBT_, LBI, LB3, Lib.hid (Nat.ne_of_lt NBT_BU.out), Lib.hid (Nat.ne_of_lt NBIBU.out), Lib.hid (Nat.ne_of_lt NB3BU.out), Lib.hid (Nat.ne_of_lt NBIBT_.out), Lib.hid (Nat.ne_of_lt NB3BT_.out), Lib.hid (Nat.ne_of_lt NB3BI.out)⟩)
          · go_wp2
            obtain ⟨z3, x3, hz, hx', B3, bel, LB3, hN⟩ := allocB HS 25 #[.slice none 0 0, .slice none 0 0]
            have NB3BU := hN BU
            have NB3BT_ := hN BT_
            clear hN
            rw [← hz.out, ← hx'.out]
            replace BU := mB BU bel
            replace BT_ := mB BT_ bel
            replace HS := mT HS bel
            refine HK _ _ (fun _ => HS.out) ?_
            clear HK hz hx' bel
            refine wpAnyE_step (i := 11) rfl (by kernel_rfl) (fun KQ HK => ?_)
            go_wp2
            obtain ⟨z4, xi, hz, hx', BI, bel, LBI, hN⟩ := allocB HS 52 #[.slice (some ⟨xv, 0, none⟩) 3 3, .slice (some ⟨xu, 0, none⟩) 3 3, .slice (some ⟨xt, 0, none⟩) 1 1, .int .u8 0, .int .u8 0, .int .u8 0, .int .u8 0, .int .i64 (-1), .int .u8 0, .int .i64 0, .bool false, .int .i64 0, .int .i64 (-40), .int .i64 (-40), .int .i64 512, .int .i64 40, .int .i64 40, .int .i64 512]
            have NBIBU := hN BU
            have NBIBT_ := hN BT_
            have NBIB3 := hN B3
            clear hN
            rw [← hz.out, ← hx'.out]
            replace BU := mB BU bel
            replace BT_ := mB BT_ bel
            replace B3 := mB B3 bel
            replace HS := mT HS bel
            refine HK _ _ (fun _ => HS.out) ?_
            clear HK hz hx' bel
            have hb6 := bld_25D xi
            refine wpAnyE_takeA (i := 12) (v := .agg #[.slice (some ⟨xi, 0, none⟩) 1 1, .slice none 0 0]) rfl (by kernel_rfl) (fun _ _ _ h => h) (.inl ⟨by first | kernel_rfl | rfl, fun W hW => by go_simp⟩) HS.out ?_
            simp only [Act.put, List.setIfInBounds_toArray]
            exact wpAnyE_at (by kernel_rfl) (by kernel_rfl) (by rfl) (via xu xt xi x3 z4 ⟨HS, BU, BT_, BI, B3, LBU, LBT_, LBI, LB3, Lib.hid (Nat.ne_of_lt NBT_BU.out), Lib.hid (Nat.ne_of_lt NBIBU.out), Lib.hid (Nat.ne_of_lt NB3BU.out), Lib.hid (Nat.ne_of_lt NBIBT_.out), Lib.hid (Nat.ne_of_lt NB3BT_.out), Lib.hid (Nat.ne_of_gt NBIB3.out)⟩)
        · go_wp2
          obtain ⟨z2, x3, hz, hx', B3, bel, LB3, hN⟩ := allocB HS 25 #[.slice none 0 0, .slice none 0 0]
          have NB3BU := hN BU
          clear hN
          rw [← hz.out, ← hx'.out]
          replace BU := mB BU bel
          replace HS := mT HS bel
          refine HK _ _ (fun _ => HS.out) ?_
          clear HK hz hx' bel
          refine wpAnyE_step (i := 3) rfl (by kernel_rfl) (fun KQ HK => ?_)
          go_wp2
          obtain ⟨z3, xt, hz, hx', BT_, bel, LBT_, hN⟩ := allocB HS 28 #[.int .i64 0, .int .i64 2, .int .i64 1]
          have NBT_BU := hN BU
          have NBT_B3 := hN B3
          clear hN
          rw [← hz.out, ← hx'.out]
          replace BU := mB BU bel
          replace B3 := mB B3 bel
          replace HS := mT HS bel
          refine HK _ _ (fun _ => HS.out) ?_
          clear HK hz hx' bel
          have hb5 := bld_52D xv xu xt
          refine wpAnyE_takeA (i := 10) (v := .agg #[.slice (some ⟨xv, 0, none⟩) 3 3, .slice (some ⟨xu, 0, none⟩) 3 3, .slice (some ⟨xt, 0, none⟩) 1 1, .int .u8 0, .int .u8 0, .int .u8 0, .int .u8 0, .int .i64 (-1), .int .u8 0, .int .i64 0, .bool false, .int .i64 0, .int .i64 (-40), .int .i64 (-40), .int .i64 512, .int .i64 40, .int .i64 40, .int .i64 512]) rfl (by kernel_rfl) (fun _ _ _ h => h) (.inl ⟨by first | kernel_rfl | rfl, fun W hW => by go_simp⟩) HS.out ?_
          simp only [Act.put, List.setIfInBounds_toArray]
          refine wpAnyE_step (i := 11) rfl (by kernel_rfl) (fun KQ HK => ?_)
          go_wp2
          obtain ⟨z4, xi, hz, hx', BI, bel, LBI, hN⟩ := allocB HS 52 #[.slice (some ⟨xv, 0, none⟩) 3 3, .slice (some ⟨xu, 0, none⟩) 3 3, .slice (some ⟨xt, 0, none⟩) 1 1, .int .u8 0, .int .u8 0, .int .u8 0, .int .u8 0, .int .i64 (-1), .int .u8 0, .int .i64 0, .bool false, .int .i64 0, .int .i64 (-40), .int .i64 (-40), .int .i64 512, .int .i64 40, .int .i64 40, .int .i64 512]
          have NBIBU := hN BU
          have NBIB3 := hN B3
          have NBIBT_ := hN BT_
          clear hN
          rw [← hz.out, ← hx'.out]
          replace BU := mB BU bel
          replace B3 := mB B3 bel
          replace BT_ := mB BT_ bel
          replace HS := mT HS bel
          refine HK _ _ (fun _ => HS.out) ?_
          clear HK hz hx' bel
          have hb6 := bld_25D xi
          refine wpAnyE_takeA (i := 12) (v := .agg #[.slice (some ⟨xi, 0, none⟩) 1 1, .slice none 0 0]) rfl (by kernel_rfl) (fun _ _ _ h => h) (.inl ⟨by first | kernel_rfl | rfl, fun W hW => by go_simp⟩) HS.out ?_
          simp only [Act.put, List.setIfInBounds_toArray]
          exact wpAnyE_at (by kernel_rfl) (by kernel_rfl) (by rfl) (via xu xt xi x3 z4 ⟨HS, BU, BT_, BI, B3, LBU, LBT_, LBI, LB3, Lib.hid (Nat.ne_of_lt NBT_BU.out), Lib.hid (Nat.ne_of_lt NBIBU.out), Lib.hid (Nat.ne_of_lt NB3BU.out), Lib.hid (Nat.ne_of_lt NBIBT_.out), Lib.hid (Nat.ne_of_gt NBT_B3.out), Lib.hid (Nat.ne_of_gt NBIB3.out)⟩)
      · go_wp2
        obtain ⟨z1, xt, hz, hx', BT_, bel, LBT_, hN⟩ := allocB HS 28 #[.int .i64 0, .int .i64 2, .int .i64 1]
        clear hN
        rw [← hz.out, ← hx'.out]
        replace HS := mT HS bel
        refine HK _ _ (fun _ => HS.out) ?_
        clear HK hz hx' bel
        refine wpAnyE_two (i := 1) (j := 13) rfl rfl (by kernel_rfl) (fun KQ HK => ?_) (fun KQ HK => ?_)
        · go_wp2_with fail
          simp only [mk43]
          go_wp2
          obtain ⟨z2, xu, hz, hx', BU, bel, LBU, hN⟩ := allocB HS 128 #[.int .i64 0, .int .i64 0, .int .i64 0, .int .i64 0, .int .i64 0, .int .i64 0]
          have NBUBT_ := hN BT_
          clear hN
          rw [← hz.out, ← hx'.out]
          replace BT_ := mB BT_ bel
          replace HS := mT HS bel
          refine HK _ _ (fun _ => HS.out) ?_
          clear HK hz hx' bel
          have hb5 := bld_52D xv xu xt
          refine wpAnyE_takeA (i := 10) (v := .agg #[.slice (some ⟨xv, 0, none⟩) 3 3, .slice (some ⟨xu, 0, none⟩) 3 3, .slice (some ⟨xt, 0, none⟩) 1 1, .int .u8 0, .int .u8 0, .int .u8 0, .int .u8 0, .int .i64 (-1), .int .u8 0, .int .i64 0, .bool false, .int .i64 0, .int .i64 (-40), .int .i64 (-40), .int .i64 512, .int .i64 40, .int .i64 40, .int .i64 512]) rfl (by kernel_rfl) (fun _ _ _ h => h) (.inl ⟨by first | kernel_rfl | rfl, fun W hW => by go_simp⟩) HS.out ?_
          simp only [Act.put, List.setIfInBounds_toArray]
          refine wpAnyE_two (i := 11) (j := 13) rfl rfl (by kernel_rfl) (fun KQ HK => ?_) (fun KQ HK => ?_)
          · go_wp2
            obtain ⟨z3, xi, hz, hx', BI, bel, LBI, hN⟩ := allocB HS 52 #[.slice (some ⟨xv, 0, none⟩) 3 3, .slice (some ⟨xu, 0, none⟩) 3 3, .slice (some ⟨xt, 0, none⟩) 1 1, .int .u8 0, .int .u8 0, .int .u8 0, .int .u8 0, .int .i64 (-1), .int .u8 0, .int .i64 0, .bool false, .int .i64 0, .int .i64 (-40), .int .i64 (-40), .int .i64 512, .int .i64 40, .int .i64 40, .int .i64 512]
            have NBIBT_ := hN BT_
            have NBIBU := hN BU
            clear hN
            rw [← hz.out, ← hx'.out]
            replace BT_ := mB BT_ bel
            replace BU := mB BU bel
            replace HS := mT HS bel
            refine HK _ _ (fun _ => HS.out) ?_
            clear HK hz hx' bel
            have hb6 := bld_25D xi
            refine wpAnyE_takeA (i := 12) (v := .agg #[.slice (some ⟨xi, 0, none⟩) 1 1, .slice none 0 0]) rfl (by kernel_rfl) (fun _ _ _ h => h) (.inl ⟨by first | kernel_rfl | rfl, fun W hW => by go_simp⟩) HS.out ?_
            simp only [Act.put, List.setIfInBounds_toArray]
            refine wpAnyE_step (i := 13) rfl (by kernel_rfl) (fun KQ HK => ?_)
            go_wp2
            obtain ⟨z4, x3, hz, hx', B3, bel, LB3, hN⟩ := allocB HS 25 #[.slice none 0 0, .slice none 0 0]
            have NB3BT_ := hN BT_
            have NB3BU := hN BU
            have NB3BI := hN BI
            clear hN
            rw [← hz.out, ← hx'.out]
            replace BT_ := mB BT_ bel
            replace BU := mB BU bel
            replace BI := mB BI bel
            replace HS := mT HS bel
            refine HK _ _ (fun _ => HS.out) ?_
            clear HK hz hx' bel
            exact wpAnyE_at (by kernel_rfl) (by kernel_rfl) (by rfl) (via xu xt xi x3 z4 ⟨HS, BU, BT_, BI, B3, LBU, LBT_, LBI, LB3, Lib.hid (Nat.ne_of_gt NBUBT_.out), Lib.hid (Nat.ne_of_lt NBIBU.out), Lib.hid (Nat.ne_of_lt NB3BU.out), Lib.hid (Nat.ne_of_lt NBIBT_.out), Lib.hid (Nat.ne_of_lt NB3BT_.out), Lib.hid (Nat.ne_of_lt NB3BI.out)⟩)
          · go_wp2
            obtain ⟨z3, x3, hz, hx', B3, bel, LB3, hN⟩ := allocB HS 25 #[.slice none 0 0, .slice none 0 0]
            have NB3BT_ := hN BT_
            have NB3BU := hN BU
            clear hN
            rw [← hz.out, ← hx'.out]
            replace BT_ := mB BT_ bel
            replace BU := mB BU bel
            replace HS := mT HS bel
            refine HK _ _ (fun _ => HS.out) ?_
            clear HK hz hx' bel
            refine wpAnyE_step (i := 11) rfl (by kernel_rfl) (fun KQ HK => ?_)
            go_wp2
            obtain ⟨z4, xi, hz, hx', BI, bel, LBI, hN⟩ := allocB HS 52 #[.slice (some ⟨xv, 0, none⟩) 3 3, .slice (some ⟨xu, 0, none⟩) 3 3, .slice (some ⟨xt, 0, none⟩) 1 1, .int .u8 0, .int .u8 0, .int .u8 0, .int .u8 0, .int .i64 (-1), .int .u8 0, .int .i64 0, .bool false, .int .i64 0, .int .i64 (-40), .int .i64 (-40), .int .i64 512, .int .i64 40, .int .i64 40, .int .i64 512]
            have NBIBT_ := hN BT_
            have NBIBU := hN BU
            have NBIB3 := hN B3
            clear hN
            rw [← hz.out, ← hx'.out]
            replace BT_ := mB BT_ bel
            replace BU := mB BU bel
            replace B3 := mB B3 bel
            replace HS := mT HS bel
            refine HK _ _ (fun _ => HS.out) ?_
            clear HK hz hx' bel
            have hb6 := bld_25D xi
            refine wpAnyE_takeA (i := 12) (v := .agg #[.slice (some ⟨xi, 0, none⟩) 1 1, .slice none 0 0]) rfl (by kernel_rfl) (fun _ _ _ h => h) (.inl ⟨by first | kernel_rfl | rfl, fun W hW => by go_simp⟩) HS.out ?_
            simp only [Act.put, List.setIfInBounds_toArray]
            exact wpAnyE_at (by kernel_rfl) (by kernel_rfl) (by rfl) (via xu xt xi x3 z4 ⟨HS, BU, BT_, BI, B3, LBU, LBT_, LBI, LB3, Lib.hid (Nat.ne_of_gt NBUBT_.out), Lib.hid (Nat.ne_of_lt NBIBU.out), Lib.hid (Nat.ne_of_lt NB3BU.out), Lib.hid (Nat.ne_of_lt NBIBT_.out), Lib.hid (Nat.ne_of_lt NB3BT_.out), Lib.hid (Nat.ne_of_gt NBIB3.out)⟩)
        · go_wp2
          obtain ⟨z2, x3, hz, hx', B3, bel, LB3, hN⟩ := allocB HS 25 #[.slice none 0 0, .slice none 0 0]
          have NB3BT_ := hN BT_
          clear hN
          rw [← hz.out, ← hx'.out]
          replace BT_ := mB BT_ bel
          replace HS := mT HS bel
          refine HK _ _ (fun _ => HS.out) ?_
          clear HK hz hx' bel
          refine wpAnyE_step (i := 1) rfl (by kernel_rfl) (fun KQ HK => ?_)
          go_wp2_with fail
          simp only [mk43]
          go_wp2
          obtain ⟨z3, xu, hz, hx', BU, bel, LBU, hN⟩ := allocB HS 128 #[.int .i64 0, .int .i64 0, .int .i64 0, .int .i64 0, .int .i64 0, .int .i64 0]
          have NBUBT_ := hN BT_
          have NBUB3 := hN B3
          clear hN
          rw [← hz.out, ← hx'.out]
          replace BT_ := mB BT_ bel
          replace B3 := mB B3 bel
          replace HS := mT HS bel
          refine HK _ _ (fun _ => HS.out) ?_
          clear HK hz hx' bel
          have hb5 := bld_52D xv xu xt
          refine wpAnyE_takeA (i := 10) (v := .agg #[.slice (some ⟨xv, 0, none⟩) 3 3, .slice (some ⟨xu, 0, none⟩) 3 3, .slice (some ⟨xt, 0, none⟩) 1 1, .int .u8 0, .int .u8 0, .int .u8 0, .int .u8 0, .int .i64 (-1), .int .u8 0, .int .i64 0, .bool false, .int .i64 0, .int .i64 (-40), .int .i64 (-40), .int .i64 512, .int .i64 40, .int .i64 40, .int .i64 512]) rfl (by kernel_rfl) (fun _ _ _ h => h) (.inl ⟨by first | kernel_rfl | rfl, fun W hW => by go_simp⟩) HS.out ?_
          simp only [Act.put, List.setIfInBounds_toArray]
          refine wpAnyE_step (i := 11) rfl (by kernel_rfl) (fun KQ HK => ?_)
          go_wp2
          obtain ⟨z4, xi, hz, hx', BI, bel, LBI, hN⟩ := allocB HS 52 #[.slice (some ⟨xv, 0, none⟩) 3 3, .slice (some ⟨xu, 0, none⟩) 3 3, .slice (some ⟨xt, 0, none⟩) 1 1, .int .u8 0, .int .u8 0, .int .u8 0, .int .u8 0, .int .i64 (-1), .int .u8 0, .int .i64 0, .bool false, .int .i64 0, .int .i64 (-40), .int .i64 (-40), .int .i64 512, .int .i64 40, .int .i64 40, .int .i64 512]
          have NBIBT_ := hN BT_
          have NBIB3 := hN B3
          have NBIBU := hN BU
          clear hN
          rw [← hz.out, ← hx'.out]
          replace BT_ := mB BT_ bel
          replace B3 := mB B3 bel
          replace BU := mB BU bel
          replace HS := mT HS bel
          refine HK _ _ (fun _ => HS.out) ?_
          clear HK hz hx' bel
          have hb6 := bld_25D xi
          refine wpAnyE_takeA (i := 12) (v := .agg #[.slice (some ⟨xi, 0, none⟩) 1 1, .slice none 0 0]) rfl (by kernel_rfl) (fun _ _ _ h => h) (.inl ⟨by first | kernel_rfl | rfl, fun W hW => by go_simp⟩) HS.out ?_
          simp only [Act.put, List.setIfInBounds_toArray]
          exact wpAnyE_at (by kernel_rfl) (by kernel_rfl) (by rfl) (via xu xt xi x3 z4 ⟨HS, BU, BT_, BI, B3, LBU, LBT_, LBI, LB3, Lib.hid (Nat.ne_of_gt NBUBT_.out), Lib.hid (Nat.ne_of_lt NBIBU.out), Lib.hid (Nat.ne_of_gt NBUB3.out), Lib.hid (Nat.ne_of_lt NBIBT_.out), Lib.hid (Nat.ne_of_lt NB3BT_.out), Lib.hid (Nat.ne_of_gt NBIB3.out)⟩)
      · go_wp2
        obtain ⟨z1, x3, hz, hx', B3, bel, LB3, hN⟩ := allocB HS 25 #[.slice none 0 0, .slice none 0 0]
        clear hN
        rw [← hz.out, ← hx'.out]
        replace HS := mT HS bel
        refine HK _ _ (fun _ => HS.out) ?_
        clear HK hz hx' bel
        refine wpAnyE_two (i := 1) (j := 3) rfl rfl (by kernel_rfl) (fun KQ HK => ?_) (fun KQ HK => ?_)
        · go_wp2_with fail
          simp only [mk43]
          go_wp2
          obtain ⟨z2, xu, hz, hx', BU, bel, LBU, hN⟩ := allocB HS 128 #[.int .i64 0, .int .i64 0, .int .i64 0, .int .i64 0, .int .i64 0, .int .i64 0]
          have NBUB3 := hN B3
          clear hN
          rw [← hz.out, ← hx'.out]
          replace B3 := mB B3 bel
          replace HS := mT HS bel
          refine HK _ _ (fun _ => HS.out) ?_
          clear HK hz hx' bel
          refine wpAnyE_step (i := 3) rfl (by kernel_rfl) (fun KQ HK => ?_)
          go_wp2
          obtain ⟨z3, xt, hz, hx', BT_, bel, LBT_, hN⟩ := allocB HS 28 #[.int .i64 0, .int .i64 2, .int .i64 1]
          have NBT_B3 := hN B3
          have NBT_BU := hN BU
          clear hN
          rw [← hz.out, ← hx'.out]
          replace B3 := mB B3 bel
          replace BU := mB BU bel
          replace HS := mT HS bel
          refine HK _ _ (fun _ => HS.out) ?_
          clear HK hz hx' bel
          have hb5 := bld_52D xv xu xt
          refine wpAnyE_takeA (i := 10) (v := .agg #[.slice (some ⟨xv, 0, none⟩) 3 3, .slice (some ⟨xu, 0, none⟩) 3 3, .slice (some ⟨xt, 0, none⟩) 1 1, .int .u8 0, .int .u8 0, .int .u8 0, .int .u8 0, .int .i64 (-1), .int .u8 0, .int .i64 0, .bool false, .int .i64 0, .int .i64 (-40), .int .i64 (-40), .int .i64 512, .int .i64 40, .int .i64 40, .int .i64 512]) rfl (by kernel_rfl) (fun _ _ _ h => h) (.inl ⟨by first | kernel_rfl | rfl, fun W hW => by go_simp⟩) HS.out ?_
          simp only [Act.put, List.setIfInBounds_toArray]
          refine wpAnyE_step (i := 11) rfl (by kernel_rfl) (fun KQ HK => ?_)
          go_wp2
          obtain ⟨z4, xi, hz, hx', BI, bel, LBI, hN⟩ := allocB HS 52 #[.slice (some ⟨xv, 0, none⟩) 3 3, .slice (some ⟨xu, 0, none⟩) 3 3, .slice (some ⟨xt, 0, none⟩) 1 1, .int .u8 0, .int .u8 0, .int .u8 0, .int .u8 0, .int .i64 (-1), .int .u8 0, .int .i64 0, .bool false, .int .i64 0, .int .i64 (-40), .int .i64 (-40), .int .i64 512, .int .i64 40, .int .i64 40, .int .i64 512]
          have NBIB3 := hN B3
          have NBIBU := hN BU
          have NBIBT_ := hN BT_
          clear hN
          rw [← hz.out, ← hx'.out]
          replace B3 := mB B3 bel
          replace BU := mB BU bel
          replace BT_ := mB BT_ bel
          replace HS := mT HS bel
          refine HK _ _ (fun _ => HS.out) ?_
          clear HK hz hx' bel
          have hb6 := bld_25D xi
          refine wpAnyE_takeA (i := 12) (v := .agg #[.slice (some ⟨xi, 0, none⟩) 1 1, .slice none 0 0]) rfl (by kernel_rfl) (fun _ _ _ h => h) (.inl ⟨by first | kernel_rfl | rfl, fun W hW => by go_simp⟩) HS.out ?_
          simp only [Act.put, List.setIfInBounds_toArray]
          exact wpAnyE_at (by kernel_rfl) (by kernel_rfl) (by rfl) (via xu xt xi x3 z4 ⟨HS, BU, BT_, BI, B3, LBU, LBT_, LBI, LB3, Lib.hid (Nat.ne_of_lt NBT_BU.out), Lib.hid (Nat.ne_of_lt NBIBU.out), Lib.hid (Nat.ne_of_gt NBUB3.out), Lib.hid (Nat.ne_of_lt NBIBT_.out), Lib.hid (Nat.ne_of_gt NBT_B3.out), Lib.hid (Nat.ne_of_gt NBIB3.out)⟩)
        · go_wp2
          obtain ⟨z2, xt, hz, hx', BT_, bel, LBT_, hN⟩ := allocB HS 28 #[.int .i64 0, .int .i64 2, .int .i64 1]
          have NBT_B3 := hN B3
          clear hN
          rw [← hz.out, ← hx'.out]
          replace B3 := mB B3 bel
          replace HS := mT HS bel
          refine HK _ _ (fun _ => HS.out) ?_
          clear HK hz hx' bel
          refine wpAnyE_step (i := 1) rfl (by kernel_rfl) (fun KQ HK => ?_)
          go_wp2_with fail
          simp only [mk43]
          go_wp2
          obtain ⟨z3, xu, hz, hx', BU, bel, LBU, hN⟩ := allocB HS 128 #[.int .i64 0, .int .i64 0, .int .i64 0, .int .i64 0, .int .i64 0, .int .i64 0]
          have NBUB3 := hN B3
          have NBUBT_ := hN BT_
          clear hN
          rw [← hz.out, ← hx'.out]
          replace B3 := mB B3 bel
          replace BT_ := mB BT_ bel
          replace HS := mT HS bel
          refine HK _ _ (fun _ => HS.out) ?_
          clear HK hz hx' bel
          have hb5 := bld_52D xv xu xt
          refine wpAnyE_takeA (i := 10) (v := .agg #[.slice (some ⟨xv, 0, none⟩) 3 3, .slice (some ⟨xu, 0, none⟩) 3 3, .slice (some ⟨xt, 0, none⟩) 1 1, .int .u8 0, .int .u8 0, .int .u8 0, .int .u8 0, .int .i64 (-1), .int .u8 0, .int .i64 0, .bool false, .int .i64 0, .int .i64 (-40), .int .i64 (-40), .int .i64 512, .int .i64 40, .int .i64 40, .int .i64 512]) rfl (by kernel_rfl) (fun _ _ _ h => h) (.inl ⟨by first | kernel_rfl | rfl, fun W hW => by go_simp⟩) HS.out ?_
          simp only [Act.put, List.setIfInBounds_toArray]
          refine wpAnyE_step (i := 11) rfl (by kernel_rfl) (fun KQ HK => ?_)
          go_wp2
          obtain ⟨z4, xi, hz, hx', BI, bel, LBI, hN⟩ := allocB HS 52 #[.slice (some ⟨xv, 0, none⟩) 3 3, .slice (some ⟨xu, 0, none⟩) 3 3, .slice (some ⟨xt, 0, none⟩) 1 1, .int .u8 0, .int .u8 0, .int .u8 0, .int .u8 0, .int .i64 (-1), .int .u8 0, .int .i64 0, .bool false, .int .i64 0, .int .i64 (-40), .int .i64 (-40), .int .i64 512, .int .i64 40, .int .i64 40, .int .i64 512]
          have NBIB3 := hN B3
          have NBIBT_ := hN BT_
          have NBIBU := hN BU
          clear hN
          rw [← hz.out, ← hx'.out]
          replace B3 := mB B3 bel
          replace BT_ := mB BT_ bel
          replace BU := mB BU bel
          replace HS := mT HS bel
          refine HK _ _ (fun _ => HS.out) ?_
          clear HK hz hx' bel
          have hb6 := bld_25D xi
          refine wpAnyE_takeA (i := 12) (v := .agg #[.slice (some ⟨xi, 0, none⟩) 1 1, .slice none 0 0]) rfl (by kernel_rfl) (fun _ _ _ h => h) (.inl ⟨by first | kernel_rfl | rfl, fun W hW => by go_simp⟩) HS.out ?_
          simp only [Act.put, List.setIfInBounds_toArray]
          exact wpAnyE_at (by kernel_rfl) (by kernel_rfl) (by rfl) (via xu xt xi x3 z4 ⟨HS, BU, BT_, BI, B3, LBU, LBT_, LBI, LB3, Lib.hid (Nat.ne_of_gt NBUBT_.out), Lib.hid (Nat.ne_of_lt NBIBU.out), Lib.hid (Nat.ne_of_gt NBUB3.out), Lib.hid (Nat.ne_of_lt NBIBT_.out), Lib.hid (Nat.ne_of_gt NBT_B3.out), Lib.hid (Nat.ne_of_gt NBIB3.out)⟩)
    rintro xu xt xi x3 z ⟨HS, BU, BT_, BI, B3, LBU, LBT_, LBI, LB3, PBUBT_, PBUBI, PBUB3, PBT_BI, PBT_B3, PBIB3⟩
    refine wpAnyE_step (i := 14) rfl (by kernel_rfl) (fun KQ HK => ?_)
    (try go_simp)
    refine wpList_storeB rfl 25 _ _ rfl _ _ _ rfl rfl (by kernel_rfl) B3.out rfl (by simp [Value.oneCell']) ?_
    intro ya hSt hgr
    replace HS := gT HS hgr LB3.out
    replace B3 := Lib.hid hSt
    replace BU := gB BU hgr PBUB3.out.symm
    replace BT_ := gB BT_ hgr PBT_B3.out.symm
    replace BI := gB BI hgr PBIB3.out.symm
    clear hSt hgr
    (try simp only [Act.put])
    go_wp2
    refine HK _ _ (fun _ => HS.out) ?_
    clear HK
    have NBUBC := Lib.hid (Nat.lt_of_lt_of_le BC.out.lt LBU.out)
    have NBUBV := Lib.hid (Nat.lt_of_lt_of_le BV.out.lt LBU.out)
    replace LBU := Lib.hid (Nat.le_trans HB.out.size LBU.out)
    have NBT_BC := Lib.hid (Nat.lt_of_lt_of_le BC.out.lt LBT_.out)
    have NBT_BV := Lib.hid (Nat.lt_of_lt_of_le BV.out.lt LBT_.out)
    replace LBT_ := Lib.hid (Nat.le_trans HB.out.size LBT_.out)
    have NBIBC := Lib.hid (Nat.lt_of_lt_of_le BC.out.lt LBI.out)
    have NBIBV := Lib.hid (Nat.lt_of_lt_of_le BV.out.lt LBI.out)
    replace LBI := Lib.hid (Nat.le_trans HB.out.size LBI.out)
    have NB3BC := Lib.hid (Nat.lt_of_lt_of_le BC.out.lt LB3.out)
    have NB3BV := Lib.hid (Nat.lt_of_lt_of_le BV.out.lt LB3.out)
    replace LB3 := Lib.hid (Nat.le_trans HB.out.size LB3.out)
    replace BC := mB BC HS.out
    replace BV := mB BV HS.out
    replace HB := mT HB HS.out
    clear HS
    refine wpAnyE_done (by kernel_rfl) ?_
    (try simp only [Act.put, List.setIfInBounds_toArray, List.set_cons_zero, List.set_cons_succ])
    go_wp2_with fail
    go_meet
    exact ⟨x3, xi, xu, xt, rfl, BU.out, BT_.out, BI.out, B3.out, BC.out, BV.out, HB.out⟩
  case rest =>
    obtain ⟨x3, xi, xu, xt, rfl, qU, qT, qI, q3, qBC, qBV, qHB⟩ := hcut
    have BC := Lib.hid qBC
    have BV := Lib.hid qBV
    have HB := Lib.hid qHB
    clear qBC qBV qHB
    have BU := Lib.hid qU
    have BT_ := Lib.hid qT
    have BI := Lib.hid qI
    have BH := Lib.hid q3
    clear qU qT qI q3 hb1 hb2 hb3 hb4
    have KX := Lib.hid (winD xi xv xu xt wc (rdD xi xv xu xt wc BV.out BU.out BT_.out BI.out))
    have bh_ := BH.out.c2
    go_wp2_with (refine wpList_loadB rfl 31 _ rfl (xc) rfl #[.int .i64 0, .int .i64 0, .int .i64 0, .int .i64 256, .int .i64 0, .int .i64 0, .int .i64 0, .int .i64 256, .int .i64 0, .int .i64 0, .int .i64 0, .int .i64 256, .int .i64 64, .int .i64 256, .int .i64 4, .int .i64 4] agg31 BC.out ?_)
    refine KX.out.mono ?_
    rintro e w1 ⟨rfl, bel⟩
    clear KX
    clear bh_
    clear BU BT_ BI
    replace BC := mB BC bel
    replace BV := mB BV bel
    replace BH := mB BH bel
    replace HB := mT HB bel
    clear bel
    go_upto_region 5 with fail
    obtain ⟨w2, x4, hz, hx', BW_, bA⟩ := laidB w1 54 #[.int .i64 32768, .int .i64 0, .int .i64 0, .int .i64 0, .int .i64 0, .int .i64 0]
    rw [← hz.out, ← hx'.out]
    replace BC := mB BC bA
    replace BV := mB BV bA
    replace BH := mB BH bA
    replace HB := mT HB bA
    clear hz hx' bA
    have bw__ := BW_.out.c6
    go_wp2
    go_ret
    exact ⟨rfl, HB.out⟩
end Go.Proofs.YtemopgpcpjnmkaaDoor
