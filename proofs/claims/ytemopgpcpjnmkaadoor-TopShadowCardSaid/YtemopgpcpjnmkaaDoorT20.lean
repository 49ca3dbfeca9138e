/- top: whether an item may be. -/
import Derived.Test.YtemopgpcpjnmkaaDoorT19
namespace Go.Proofs.YtemopgpcpjnmkaaDoor
open Go.RowKit
set_option linter.unusedVariables false
def U2.Ok (u : U2) : Prop := Wi u.u 0 255 ∧ Wi u.v 0 255
def I3.Ok (t : I3) (n : Int) : Prop := (0 ≤ t.a ∧ t.a < n) ∧ (0 ≤ t.b ∧ t.b < n) ∧ (0 ≤ t.c ∧ t.c < n)
/-- An item that may be. -/
def It.Ok (i : It) (n : Int) : Prop := ((i.V.length ≤ 64 ∧ i.U.length = i.V.length ∧ i.T.length ≤ 64) ∧ i.look.Ok n) ∧ ((∀ v ∈ i.V, v.Ok) ∧ ∀ u ∈ i.U, u.Ok) ∧ (∀ t ∈ i.T, t.Ok i.V.length) ∧ boxOf i.V = i.box
/-- A show that may be. -/
def Sh.Ok (s : Sh) : Prop := (s.I.length ≤ 256 ∧ s.X.length ≤ 16) ∧ (∀ t ∈ s.X, t.Ok) ∧ ∀ i ∈ s.I, i.Ok s.X.length
theorem vcheckv (u : V3) (q : Int) (hq : cod u.Ok 20 = q) (w : World) : Calls Tryd.prog 23 #[.agg #[.int .i64 u.x, .int .i64 u.y, .int .i64 u.z]] w fun e w' => e = .returned (.int .i64 q) ∧ Below w.heap.size w w' := by
  have h := vcheck_any u w
  rw [hq] at h
  exact h
theorem run_min3 {P : Program} (w : World) (ts : Array TypeId) (t : TypeId) (x y z : Int) : (Builtin.min_ ts t #[.int .i64 x, .int .i64 y, .int .i64 z]).run P w = .ok (.int .i64 (min x (min y z))) w := by
  have e : ∀ x y : Int, (if y < x then y else x) = min x y := fun x y => by
    rw [Int.min_def]
    split <;> split <;> omega
  simp [Builtin.min_, Builtin.min2, e, Int.min_assoc]
theorem run_max3 {P : Program} (w : World) (ts : Array TypeId) (t : TypeId) (x y z : Int) : (Builtin.max_ ts t #[.int .i64 x, .int .i64 y, .int .i64 z]).run P w = .ok (.int .i64 (max x (max y z))) w := by
  have e : ∀ x y : Int, (if y > x then y else x) = max x y := fun x y => by
    rw [Int.max_def]
    split <;> split <;> omega
  simp [Builtin.max_, Builtin.max2, e, Int.max_assoc]
theorem fields_vec : (Tryd.prog.fieldsOf 27).toList.map (fun f => (f.name == "_", f.type, f.offset)) = [(false, 3, 0), (false, 3, 1), (false, 3, 2)] := by kernel_rfl
theorem fields_box : (Tryd.prog.fieldsOf 50).toList.map (fun f => (f.name == "_", f.type, f.offset)) = [(false, 27, 0), (false, 27, 3)] := by kernel_rfl
theorem und3 : Tryd.prog.underlying 3 = some (.int .i64) := by kernel_rfl
theorem eqFields_vec (d : Nat) (x0 x1 x2 y0 y1 y2 : Int) (w : World) : ∀ l : List Field, l.map (fun f => (f.name == "_", f.type, f.offset)) = [(false, 3, 0), (false, 3, 1), (false, 3, 2)] →
    (Op.eqFields (d + 1) #[.int .i64 x0, .int .i64 x1, .int .i64 x2] #[.int .i64 y0, .int .i64 y1, .int .i64 y2] l).run Tryd.prog w = .ok (x0 == y0 && (x1 == y1 && x2 == y2)) w
  | [f1, f2, f3], h => by
    simp only [List.map_cons, List.map_nil, List.cons.injEq, Prod.mk.injEq, and_true] at h
    obtain ⟨⟨n1, t1, o1⟩, ⟨n2, t2, o2⟩, ⟨n3, t3, o3⟩⟩ := h
    have m1 : f1.name ≠ "_" := by simpa using n1
    have m2 : f2.name ≠ "_" := by simpa using n2
    have m3 : f3.name ≠ "_" := by simpa using n3
    simp only [Op.eqFields, m1, m2, m3, t1, t2, t3, o1, o2, o3, ne_eq, not_false_eq_true, if_true, Sem.run_bind]
    simp [part, isAgg, run_underlying und3, run_equalIn_int _ _ _ _ _ _ _ und3]
    by_cases h0 : x0 = y0 <;> by_cases h1 : x1 = y1 <;> by_cases h2 : x2 = y2 <;> simp [h0, h1, h2]
  | [], h => by simp at h
  | [_], h => by simp at h
  | [_, _], h => by simp at h
  | _ :: _ :: _ :: _ :: _, h => by simp at h
theorem eqIn_vec (d : Nat) (x0 x1 x2 y0 y1 y2 : Int) (w : World) : (Op.equalIn (d + 2) 27 (.agg #[.int .i64 x0, .int .i64 x1, .int .i64 x2]) (.agg #[.int .i64 y0, .int .i64 y1, .int .i64 y2])).run Tryd.prog w = .ok (x0 == y0 && (x1 == y1 && x2 == y2)) w := by
  rw [run_equalIn_struct w (d + 1) _ _ _ (by kernel_rfl) (by kernel_rfl), eqFields_vec d x0 x1 x2 y0 y1 y2 w _ fields_vec]
def B3.beq (a b : B3) : Bool := (a.lo.x == b.lo.x && (a.lo.y == b.lo.y && a.lo.z == b.lo.z)) && (a.hi.x == b.hi.x && (a.hi.y == b.hi.y && a.hi.z == b.hi.z))
theorem part_lo (a : B3) (w : World) : (part 27 #[.int .i64 a.lo.x, .int .i64 a.lo.y, .int .i64 a.lo.z, .int .i64 a.hi.x, .int .i64 a.hi.y, .int .i64 a.hi.z] 0).run Tryd.prog w = .ok (.agg #[.int .i64 a.lo.x, .int .i64 a.lo.y, .int .i64 a.lo.z]) w := by kernel_rfl
theorem part_hi (a : B3) (w : World) : (part 27 #[.int .i64 a.lo.x, .int .i64 a.lo.y, .int .i64 a.lo.z, .int .i64 a.hi.x, .int .i64 a.hi.y, .int .i64 a.hi.z] 3).run Tryd.prog w = .ok (.agg #[.int .i64 a.hi.x, .int .i64 a.hi.y, .int .i64 a.hi.z]) w := by kernel_rfl
theorem eqFields_box (a b : B3) (w : World) : ∀ l : List Field, l.map (fun f => (f.name == "_", f.type, f.offset)) = [(false, 27, 0), (false, 27, 3)] →
    (Op.eqFields 9999 #[.int .i64 a.lo.x, .int .i64 a.lo.y, .int .i64 a.lo.z, .int .i64 a.hi.x, .int .i64 a.hi.y, .int .i64 a.hi.z] #[.int .i64 b.lo.x, .int .i64 b.lo.y, .int .i64 b.lo.z, .int .i64 b.hi.x, .int .i64 b.hi.y, .int .i64 b.hi.z] l).run Tryd.prog w = .ok (a.beq b) w
  | [f1, f2], h => by
    simp only [List.map_cons, List.map_nil, List.cons.injEq, Prod.mk.injEq, and_true] at h
    obtain ⟨⟨n1, t1, o1⟩, ⟨n2, t2, o2⟩⟩ := h
    have m1 : f1.name ≠ "_" := by simpa using n1
    have m2 : f2.name ≠ "_" := by simpa using n2
    simp only [Op.eqFields, m1, m2, t1, t2, o1, o2, ne_eq, not_false_eq_true, if_true, Sem.run_bind, part_lo, Result.andThen_ok, eqIn_vec 9997]
    unfold B3.beq
    generalize (a.lo.x == b.lo.x && (a.lo.y == b.lo.y && a.lo.z == b.lo.z)) = pa
    cases pa
    · simp
    · simp only [Bool.not_true, Bool.false_eq_true, if_false, Sem.run_bind, part_hi, Result.andThen_ok, eqIn_vec 9997]
      generalize (a.hi.x == b.hi.x && (a.hi.y == b.hi.y && a.hi.z == b.hi.z)) = pb
      cases pb <;> simp []
  | [], h => by simp at h
  | [_], h => by simp at h
  | _ :: _ :: _ :: _, h => by simp at h
theorem eql_box (a b : B3) (w : World) : (binOp .eql 50 (.agg #[.int .i64 a.lo.x, .int .i64 a.lo.y, .int .i64 a.lo.z, .int .i64 a.hi.x, .int .i64 a.hi.y, .int .i64 a.hi.z]) (.agg #[.int .i64 b.lo.x, .int .i64 b.lo.y, .int .i64 b.lo.z, .int .i64 b.hi.x, .int .i64 b.hi.y, .int .i64 b.hi.z])).run Tryd.prog w = .ok (.bool (a.beq b)) w := by
  rw [run_eql_struct, run_equalIn_struct w 9999 _ _ _ (by kernel_rfl) (by kernel_rfl), eqFields_box a b w _ fields_box]
  rfl
theorem B3.beq_iff (a b : B3) : a.beq b = true ↔ a = b := by
  obtain ⟨⟨a1, a2, a3⟩, ⟨a4, a5, a6⟩⟩ := a
  obtain ⟨⟨b1, b2, b3⟩, ⟨b4, b5, b6⟩⟩ := b
  simp [B3.beq, and_assoc]

set_option maxRecDepth 100000 in
set_option maxHeartbeats 32000000 in
theorem may_any (i : It) (n : Int) (w : World) (hR : i.Rd w) : Calls Tryd.prog 48 #[.agg #[.slice i.Av i.V.length i.cv, .slice i.Au i.U.length i.cu, .slice i.At i.T.length i.ct, .int .u8 i.look.c0, .int .u8 i.look.c1, .int .u8 i.look.c2, .int .u8 i.look.c3, .int .i64 i.look.tex, .int .u8 i.look.cull, .int .i64 i.look.bias, .bool i.look.blend, .int .i64 i.look.bin, .int .i64 i.box.lo.x, .int .i64 i.box.lo.y, .int .i64 i.box.lo.z, .int .i64 i.box.hi.x, .int .i64 i.box.hi.y, .int .i64 i.box.hi.z], .int .i64 n] w fun e w' => EqR (i.Ok n) e ∧ Below w.heap.size w w' := by
  obtain ⟨V, U, T, look, box, Av, cv, Au, cu, At, ct⟩ := i
  obtain ⟨hRV, hRU, hRT, hcap⟩ := hR
  dsimp only at hRV hRU hRT hcap ⊢
  have RV := Lib.hid hRV
  have RU := Lib.hid hRU
  have RT := Lib.hid hRT
  have HCP := Lib.hid hcap.1
  clear hRV hRU hRT hcap
  obtain ⟨I, hI⟩ : ∃ I : It, I = ⟨V, U, T, look, box, Av, cv, Au, cu, At, ct⟩ := ⟨_, rfl⟩
  have HI := Lib.hid (show I.Ok n ↔ ((V.length ≤ 64 ∧ U.length = V.length ∧ T.length ≤ 64) ∧ look.Ok n) ∧ ((∀ v ∈ V, v.Ok) ∧ ∀ u ∈ U, u.Ok) ∧ (∀ t ∈ T, t.Ok V.length) ∧ boxOf V = box by rw [hI]; exact Iff.rfl)
  rw [← hI]
  clear hI
  obtain ⟨nv, hnv⟩ : ∃ nv, nv = V.length := ⟨_, rfl⟩
  obtain ⟨nu, hnu⟩ : ∃ nu, nu = U.length := ⟨_, rfl⟩
  obtain ⟨nt, hnt⟩ : ∃ nt, nt = T.length := ⟨_, rfl⟩
  rw [← hnv, ← hnu, ← hnt]
  have HV := Lib.hid hnv
  have HU := Lib.hid hnu
  have HT := Lib.hid hnt
  rw [← hnv, ← hnu, ← hnt] at HI
  clear hnv hnu hnt
  by_cases h1 : nv ≤ 64
  rotate_left
  · have g1 : decide ((64 : Int) < (nv : Int)) = true := decide_eq_true (by omega)
    have HX := Lib.hid h1
    clear h1
    obtain ⟨v0, hv0, BI, HB⟩ := lay1 w 52 #[.slice Av nv cv, .slice Au nu cu, .slice At nt ct, .int .u8 look.c0, .int .u8 look.c1, .int .u8 look.c2, .int .u8 look.c3, .int .i64 look.tex, .int .u8 look.cull, .int .i64 look.bias, .bool look.blend, .int .i64 look.bin, .int .i64 box.lo.x, .int .i64 box.lo.y, .int .i64 box.lo.z, .int .i64 box.hi.x, .int .i64 box.hi.y, .int .i64 box.hi.z]
    go_enter Tryd.func48, Tryd.ntmps48
    go_upto_region 1 with fail
    rw [← hv0.out]
    clear hv0
    have bi_ := BI.out.c18
    go_wp2
    go_ret
    exact ⟨⟨false, rfl, ⟨fun h => (by cases h), fun h => absurd (HI.out.1 h).1.1.1 HX.out⟩⟩, HB.out⟩
  have g1 : decide ((64 : Int) < (nv : Int)) = false := decide_eq_false (by omega)
  by_cases h2 : nu = nv
  rotate_left
  · have g2 : ((nu : Int) != (nv : Int)) = true := by simp; omega
    have HX := Lib.hid h2
    clear h2
    obtain ⟨v0, hv0, BI, HB⟩ := lay1 w 52 #[.slice Av nv cv, .slice Au nu cu, .slice At nt ct, .int .u8 look.c0, .int .u8 look.c1, .int .u8 look.c2, .int .u8 look.c3, .int .i64 look.tex, .int .u8 look.cull, .int .i64 look.bias, .bool look.blend, .int .i64 look.bin, .int .i64 box.lo.x, .int .i64 box.lo.y, .int .i64 box.lo.z, .int .i64 box.hi.x, .int .i64 box.hi.y, .int .i64 box.hi.z]
    go_enter Tryd.func48, Tryd.ntmps48
    go_upto_region 1 with fail
    rw [← hv0.out]
    clear hv0
    have bi_ := BI.out.c18
    go_wp2
    go_ret
    exact ⟨⟨false, rfl, ⟨fun h => (by cases h), fun h => absurd (HI.out.1 h).1.1.2.1 HX.out⟩⟩, HB.out⟩
  have H12 := Lib.hid h2
  subst h2
  clear H12
  by_cases h3 : nt ≤ 64
  rotate_left
  · have g3 : decide ((64 : Int) < (nt : Int)) = true := decide_eq_true (by omega)
    have HX := Lib.hid h3
    clear h3
    obtain ⟨v0, hv0, BI, HB⟩ := lay1 w 52 #[.slice Av nu cv, .slice Au nu cu, .slice At nt ct, .int .u8 look.c0, .int .u8 look.c1, .int .u8 look.c2, .int .u8 look.c3, .int .i64 look.tex, .int .u8 look.cull, .int .i64 look.bias, .bool look.blend, .int .i64 look.bin, .int .i64 box.lo.x, .int .i64 box.lo.y, .int .i64 box.lo.z, .int .i64 box.hi.x, .int .i64 box.hi.y, .int .i64 box.hi.z]
    go_enter Tryd.func48, Tryd.ntmps48
    go_upto_region 1 with fail
    rw [← hv0.out]
    clear hv0
    have bi_ := BI.out.c18
    go_wp2
    go_ret
    exact ⟨⟨false, rfl, ⟨fun h => (by cases h), fun h => absurd (HI.out.1 h).1.1.2.2 HX.out⟩⟩, HB.out⟩
  have g3 : decide ((64 : Int) < (nt : Int)) = false := decide_eq_false (by omega)
  have H1 := Lib.hid h1
  have H3 := Lib.hid h3
  clear h1 h3
  obtain ⟨v0, hv0, BI, HB⟩ := lay1 w 52 #[.slice Av nu cv, .slice Au nu cu, .slice At nt ct, .int .u8 look.c0, .int .u8 look.c1, .int .u8 look.c2, .int .u8 look.c3, .int .i64 look.tex, .int .u8 look.cull, .int .i64 look.bias, .bool look.blend, .int .i64 look.bin, .int .i64 box.lo.x, .int .i64 box.lo.y, .int .i64 box.lo.z, .int .i64 box.hi.x, .int .i64 box.hi.y, .int .i64 box.hi.z]
  go_enter Tryd.func48, Tryd.ntmps48
  go_upto_region 1 with fail
  rw [← hv0.out]
  clear hv0
  have bi_ := BI.out.c18
  have KX := Lib.hid (look_any look n v0)
  go_wp2_with fail
  refine KX.out.mono ?_
  rintro e v1 ⟨q, rfl, hq, bel⟩
  clear KX
  clear bi_
  have HQ := Lib.hid hq
  clear hq
  replace BI := mB BI bel
  replace HB := mT HB bel
  clear bel
  by_cases hq0 : q = 0
  rotate_left
  · have g0 : (q != 0) = true := by simp [hq0]
    have HX := Lib.hid (show ¬ look.Ok n from fun h => hq0 (HQ.out.2 h))
    clear hq0
    have bi_ := BI.out.c18
    go_wp2
    go_ret
    exact ⟨⟨false, rfl, ⟨fun h => (by cases h), fun h => absurd (HI.out.1 h).1.2 HX.out⟩⟩, HB.out⟩
  have HL := Lib.hid (HQ.out.1 hq0)
  subst hq0
  clear HQ
  have bi_ := BI.out.c18
  go_wp2
  clear bi_
  clear g1 g3
  go_loopw [40] (fun s wr => ∃ k : Nat, k ≤ nu ∧ s = .int .i64 k ∧ RowKit.Hid (∀ j, j < k → (∀ v, V[j]? = some v → v.Ok) ∧ ∀ u, U[j]? = some u → u.Ok) ∧ HasBlk wr w.heap.size 52 #[.slice Av nu cv, .slice Au nu cu, .slice At nt ct, .int .u8 look.c0, .int .u8 look.c1, .int .u8 look.c2, .int .u8 look.c3, .int .i64 look.tex, .int .u8 look.cull, .int .i64 look.bias, .bool look.blend, .int .i64 look.bin, .int .i64 box.lo.x, .int .i64 box.lo.y, .int .i64 box.lo.z, .int .i64 box.hi.x, .int .i64 box.hi.y, .int .i64 box.hi.z] ∧ Below w.heap.size w wr) (fun s wr => nu - (intOf s).toNat)
  case atStart => exact ⟨0, Nat.zero_le _, rfl, Lib.hid (fun j h => absurd h (by omega)), BI.out, HB.out⟩
  case round =>
    clear BI HB
    obtain ⟨k, hk, rfl, HAll, qBI, qHB⟩ := hrel
    have BI := Lib.hid qBI
    have HB := Lib.hid qHB
    clear qBI qHB
    by_cases hkn : k < nu
    · have d0 : decide ((k : Int) < (nu : Int)) = true := decide_eq_true (by omega)
      obtain ⟨g, o, rfl, hg, hc⟩ := RV.out.below HB.out (by rw [← HV.out]; omega)
      obtain ⟨g', o', rfl, hg', hc'⟩ := RU.out.below HB.out (by rw [← HU.out]; omega)
      obtain ⟨v, hv⟩ : ∃ v, V[k]? = some v := ⟨_, List.getElem?_eq_getElem (by rw [← HV.out]; exact hkn)⟩
      obtain ⟨u, hu⟩ : ∃ u, U[k]? = some u := ⟨_, List.getElem?_eq_getElem (by rw [← HU.out]; exact hkn)⟩
      have c0 := hc k v hv 0 _ rfl
      have c1 := hc k v hv 1 _ rfl
      have c2 := hc k v hv 2 _ rfl
      have f0 := hc' k u hu 0 _ rfl
      have f1 := hc' k u hu 1 _ rfl
      simp only [Nat.add_zero] at c0 c1 c2 f0 f1
      have HVK := Lib.hid hv
      have HUK := Lib.hid hu
      have FF := Lib.hid (show wr.cell? ⟨g', o' + k * 2, none⟩ = some (.int .i64 u.u) ∧ wr.cell? ⟨g', o' + k * 2 + 1, none⟩ = some (.int .i64 u.v) ∧ g' < wr.heap.size from ⟨f0, f1, hg'⟩)
      clear hc hc' hv hu f0 f1 hg'
      have i1 : (k : Int) < (nu : Int) := by omega
      have i0 : (0 : Int) ≤ (k : Int) := by omega
      go_upto_region 7 with fail
      obtain ⟨u0, x7, hz, hx', SV, bA⟩ := laidB wr 27 #[.int .i64 v.x, .int .i64 v.y, .int .i64 v.z]
      rw [← hz.out, ← hx'.out]
      replace BI := mB BI bA
      replace HB := mT HB bA
      have F2 := Lib.hid (show u0.cell? ⟨g', o' + k * 2, none⟩ = some (.int .i64 u.u) ∧ u0.cell? ⟨g', o' + k * 2 + 1, none⟩ = some (.int .i64 u.v) ∧ g' < u0.heap.size from ⟨(bA.cell (p := ⟨g', o' + k * 2, none⟩) FF.out.2.2).trans FF.out.1, (bA.cell (p := ⟨g', o' + k * 2 + 1, none⟩) FF.out.2.2).trans FF.out.2.1, Nat.lt_of_lt_of_le FF.out.2.2 bA.size⟩)
      clear hz hx' bA FF
      clear c0 c1 c2
      clear hg
      by_cases hvo : v.Ok
      rotate_left
      · have HX := Lib.hid (show ¬ ∀ v ∈ V, v.Ok from fun h => hvo (h v (List.mem_of_getElem? HVK.out)))
        have KC := Lib.hid (fun W => vcheckv v 20 (cod_no hvo) W)
        clear hvo
        have e0 := fun pb : BW u0 => BW.cell (BI.out.at 1 rfl) BI.out.lt pb
        have e1 := fun pb : BW u0 => BW.cell (SV.out.at 0 rfl) SV.out.lt pb
        have e2 := fun pb : BW u0 => BW.cell (SV.out.at 1 rfl) SV.out.lt pb
        have e3 := fun pb : BW u0 => BW.cell (SV.out.at 2 rfl) SV.out.lt pb
        have f0 := fun pb : BW u0 => BW.cell F2.out.1 F2.out.2.2 pb
        have f1 := fun pb : BW u0 => BW.cell F2.out.2.1 F2.out.2.2 pb
        have k1 := Lib.hid (fun pb : BW u0 => BW.call (v := .int .i64 20) (fun W' (h : Below u0.heap.size u0 W') => KC.out W') pb)
        refine wp_region_quiet_bw (by kernel_rfl) (by kernel_rfl) ?_
        repeat (go_big_quiet_step ((go_at_call 23; with_reducible exact k1.out _)))
        refine wpQuiet_nil ?_
        intro _ hw'
        obtain ⟨pq, hw''⟩ := hw'
        subst hw''
        clear e0 e1 e2 e3 f0 f1 k1
        replace BI := mB BI pq.h
        replace SV := mB SV pq.h
        replace HB := mT HB pq.h
        generalize pq.W = u1 at *
        clear pq
        go_wp2
        go_ret
        exact ⟨⟨false, rfl, ⟨fun h => (by cases h), fun h => absurd ((HI.out.1 h).2.1.1) HX.out⟩⟩, HB.out⟩
      have KC := Lib.hid (fun W => vcheckv v 0 (cod_yes hvo) W)
      have HVO := Lib.hid hvo
      clear hvo
      by_cases h4 : min u.u u.v < 0
      · have HX := Lib.hid (show ¬ ∀ u ∈ U, u.Ok from fun h => by have := h u (List.mem_of_getElem? HUK.out); unfold U2.Ok Wi at this; omega)
        have g4 : decide (min u.u u.v < 0) = true := decide_eq_true h4
        clear h4
        have e0 := fun pb : BW u0 => BW.cell (BI.out.at 1 rfl) BI.out.lt pb
        have e1 := fun pb : BW u0 => BW.cell (SV.out.at 0 rfl) SV.out.lt pb
        have e2 := fun pb : BW u0 => BW.cell (SV.out.at 1 rfl) SV.out.lt pb
        have e3 := fun pb : BW u0 => BW.cell (SV.out.at 2 rfl) SV.out.lt pb
        have f0 := fun pb : BW u0 => BW.cell F2.out.1 F2.out.2.2 pb
        have f1 := fun pb : BW u0 => BW.cell F2.out.2.1 F2.out.2.2 pb
        have k1 := Lib.hid (fun pb : BW u0 => BW.call (v := .int .i64 0) (fun W' (h : Below u0.heap.size u0 W') => KC.out W') pb)
        refine wp_region_quiet_bw (by kernel_rfl) (by kernel_rfl) ?_
        repeat (go_big_quiet_step ((go_at_call 23; with_reducible exact k1.out _)))
        refine wpQuiet_nil ?_
        intro _ hw'
        obtain ⟨pq, hw''⟩ := hw'
        subst hw''
        clear e0 e1 e2 e3 f0 f1 k1
        replace BI := mB BI pq.h
        replace SV := mB SV pq.h
        replace HB := mT HB pq.h
        generalize pq.W = u1 at *
        clear pq
        go_wp2
        go_ret
        exact ⟨⟨false, rfl, ⟨fun h => (by cases h), fun h => absurd ((HI.out.1 h).2.1.2) HX.out⟩⟩, HB.out⟩
      have g4 : decide (min u.u u.v < 0) = false := decide_eq_false h4
      by_cases h5 : 255 < max u.u u.v
      · have HX := Lib.hid (show ¬ ∀ u ∈ U, u.Ok from fun h => by have := h u (List.mem_of_getElem? HUK.out); unfold U2.Ok Wi at this; omega)
        have g5 : decide (255 < max u.u u.v) = true := decide_eq_true h5
        clear h4 h5
        have e0 := fun pb : BW u0 => BW.cell (BI.out.at 1 rfl) BI.out.lt pb
        have e1 := fun pb : BW u0 => BW.cell (SV.out.at 0 rfl) SV.out.lt pb
        have e2 := fun pb : BW u0 => BW.cell (SV.out.at 1 rfl) SV.out.lt pb
        have e3 := fun pb : BW u0 => BW.cell (SV.out.at 2 rfl) SV.out.lt pb
        have f0 := fun pb : BW u0 => BW.cell F2.out.1 F2.out.2.2 pb
        have f1 := fun pb : BW u0 => BW.cell F2.out.2.1 F2.out.2.2 pb
        have k1 := Lib.hid (fun pb : BW u0 => BW.call (v := .int .i64 0) (fun W' (h : Below u0.heap.size u0 W') => KC.out W') pb)
        refine wp_region_quiet_bw (by kernel_rfl) (by kernel_rfl) ?_
        repeat (go_big_quiet_step ((go_at_call 23; with_reducible exact k1.out _)))
        refine wpQuiet_nil ?_
        intro _ hw'
        obtain ⟨pq, hw''⟩ := hw'
        subst hw''
        clear e0 e1 e2 e3 f0 f1 k1
        replace BI := mB BI pq.h
        replace SV := mB SV pq.h
        replace HB := mT HB pq.h
        generalize pq.W = u1 at *
        clear pq
        go_wp2
        go_ret
        exact ⟨⟨false, rfl, ⟨fun h => (by cases h), fun h => absurd ((HI.out.1 h).2.1.2) HX.out⟩⟩, HB.out⟩
      have g5 : decide (255 < max u.u u.v) = false := decide_eq_false h5
      have HUO := Lib.hid (show u.Ok by unfold U2.Ok Wi; omega)
      clear h4 h5
      have e0 := fun pb : BW u0 => BW.cell (BI.out.at 1 rfl) BI.out.lt pb
      have e1 := fun pb : BW u0 => BW.cell (SV.out.at 0 rfl) SV.out.lt pb
      have e2 := fun pb : BW u0 => BW.cell (SV.out.at 1 rfl) SV.out.lt pb
      have e3 := fun pb : BW u0 => BW.cell (SV.out.at 2 rfl) SV.out.lt pb
      have f0 := fun pb : BW u0 => BW.cell F2.out.1 F2.out.2.2 pb
      have f1 := fun pb : BW u0 => BW.cell F2.out.2.1 F2.out.2.2 pb
      have k1 := Lib.hid (fun pb : BW u0 => BW.call (v := .int .i64 0) (fun W' (h : Below u0.heap.size u0 W') => KC.out W') pb)
      refine wp_region_quiet_bw (by kernel_rfl) (by kernel_rfl) ?_
      repeat (go_big_quiet_step ((go_at_call 23; with_reducible exact k1.out _)))
      refine wpQuiet_nil ?_
      intro _ hw'
      obtain ⟨pq, hw''⟩ := hw'
      subst hw''
      clear e0 e1 e2 e3 f0 f1 k1
      replace BI := mB BI pq.h
      replace SV := mB SV pq.h
      replace HB := mT HB pq.h
      generalize pq.W = u1 at *
      clear pq
      have hbb := H1.out
      go_wp2
      go_roundw
      case rel =>
        refine ⟨k + 1, by omega, by go_num, Lib.hid (fun j hj => ?_), BI.out, HB.out⟩
        rcases Nat.lt_or_ge j k with h | h
        · exact HAll.out j h
        · obtain rfl : j = k := by omega
          exact ⟨fun v' h => (by rw [HVK.out] at h; injection h with h; subst h; exact HVO.out), fun u' h => (by rw [HUK.out] at h; injection h with h; subst h; exact HUO.out)⟩
      case measure => simp [intOf]; omega
    · obtain rfl : nu = k := by omega
      have d0 : decide ((nu : Int) < (nu : Int)) = false := by simp
      have AV := Lib.hid (show ∀ v ∈ V, v.Ok from fun v hv => by
        obtain ⟨i, hi⟩ := List.getElem?_of_mem hv
        exact (HAll.out i (by have := (List.getElem?_eq_some_iff.1 hi).1; rw [HV.out]; exact this)).1 v hi)
      have AU := Lib.hid (show ∀ u ∈ U, u.Ok from fun u hu => by
        obtain ⟨i, hi⟩ := List.getElem?_of_mem hu
        exact (HAll.out i (by have := (List.getElem?_eq_some_iff.1 hi).1; rw [HU.out]; exact this)).2 u hi)
      clear HAll
      have bi_ := BI.out.c18
      go_wp2
      clear bi_
      obtain ⟨wo, rfl⟩ : ∃ wo : World, wo = wr := ⟨_, rfl⟩
      clear d0 hkn hk
      go_loopw [84] (fun s wr => ∃ k : Nat, k ≤ nt ∧ s = .int .i64 k ∧ RowKit.Hid (∀ j, j < k → ∀ v, T[j]? = some v → v.Ok nu) ∧ HasBlk wr w.heap.size 52 #[.slice Av nu cv, .slice Au nu cu, .slice At nt ct, .int .u8 look.c0, .int .u8 look.c1, .int .u8 look.c2, .int .u8 look.c3, .int .i64 look.tex, .int .u8 look.cull, .int .i64 look.bias, .bool look.blend, .int .i64 look.bin, .int .i64 box.lo.x, .int .i64 box.lo.y, .int .i64 box.lo.z, .int .i64 box.hi.x, .int .i64 box.hi.y, .int .i64 box.hi.z] ∧ Below w.heap.size w wr) (fun s wr => nt - (intOf s).toNat)
      case atStart => exact ⟨0, Nat.zero_le _, rfl, Lib.hid (fun j h => absurd h (by omega)), BI.out, HB.out⟩
      case round =>
        clear BI HB
        obtain ⟨k, hk, rfl, HAll, qBI, qHB⟩ := hrel
        have BI := Lib.hid qBI
        have HB := Lib.hid qHB
        clear qBI qHB
        by_cases hkn : k < nt
        · have d0 : decide ((k : Int) < (nt : Int)) = true := decide_eq_true (by omega)
          obtain ⟨g, o, rfl, hg, hc⟩ := RT.out.below HB.out (by rw [← HT.out]; omega)
          obtain ⟨t, ht⟩ : ∃ t, T[k]? = some t := ⟨_, List.getElem?_eq_getElem (by rw [← HT.out]; exact hkn)⟩
          have c0 := hc k t ht 0 _ rfl
          have c1 := hc k t ht 1 _ rfl
          have c2 := hc k t ht 2 _ rfl
          simp only [Nat.add_zero] at c0 c1 c2
          have HTK := Lib.hid ht
          clear hc ht
          have i1 : (k : Int) < (nt : Int) := by omega
          have i0 : (0 : Int) ≤ (k : Int) := by omega
          go_upto_region 13 with fail
          obtain ⟨u0, x9, hz, hx', ST, bA⟩ := laidB wr 28 #[.int .i64 t.a, .int .i64 t.b, .int .i64 t.c]
          rw [← hz.out, ← hx'.out]
          replace BI := mB BI bA
          replace HB := mT HB bA
          clear hz hx' bA
          clear c0 c1 c2 hg
          have hm3 := fun W ts ty => run_min3 (P := Tryd.prog) W ts ty t.a t.b t.c
          have hx3 := fun W ts ty => run_max3 (P := Tryd.prog) W ts ty t.a t.b t.c
          by_cases h4 : min t.a (min t.b t.c) < 0
          · have g4 : decide (min t.a (min t.b t.c) < 0) = true := decide_eq_true h4
            have HX := Lib.hid (show ¬ ∀ t ∈ T, t.Ok nu from fun h => by have := h t (List.mem_of_getElem? HTK.out); unfold I3.Ok at this; omega)
            clear h4
            have st_ := ST.out.c3
            go_wp2
            go_ret
            exact ⟨⟨false, rfl, ⟨fun h => (by cases h), fun h => absurd ((HI.out.1 h).2.2.1) HX.out⟩⟩, HB.out⟩
          have g4 : decide (min t.a (min t.b t.c) < 0) = false := decide_eq_false h4
          by_cases h5 : (nu : Int) ≤ max t.a (max t.b t.c)
          · have g5 : decide ((nu : Int) ≤ max t.a (max t.b t.c)) = true := decide_eq_true h5
            have HX := Lib.hid (show ¬ ∀ t ∈ T, t.Ok nu from fun h => by have := h t (List.mem_of_getElem? HTK.out); unfold I3.Ok at this; omega)
            clear h4 h5
            have st_ := ST.out.c3
            go_wp2
            go_ret
            exact ⟨⟨false, rfl, ⟨fun h => (by cases h), fun h => absurd ((HI.out.1 h).2.2.1) HX.out⟩⟩, HB.out⟩
          have g5 : decide ((nu : Int) ≤ max t.a (max t.b t.c)) = false := decide_eq_false h5
          have HTO := Lib.hid (show t.Ok nu by unfold I3.Ok; omega)
          clear h4 h5
          have st_ := ST.out.c3
          have hbb := H3.out
          go_wp2
          go_roundw
          case rel =>
            refine ⟨k + 1, by omega, by go_num, Lib.hid (fun j hj => ?_), BI.out, HB.out⟩
            rcases Nat.lt_or_ge j k with h | h
            · exact HAll.out j h
            · obtain rfl : j = k := by omega
              exact fun v' h => (by rw [HTK.out] at h; injection h with h; subst h; exact HTO.out)
          case measure => simp [intOf]; omega
        · obtain rfl : nt = k := by omega
          have d0 : decide ((nt : Int) < (nt : Int)) = false := by simp
          have AT := Lib.hid (show ∀ t ∈ T, t.Ok nu from fun t ht => by
            obtain ⟨i, hi⟩ := List.getElem?_of_mem ht
            exact HAll.out i (by have := (List.getElem?_eq_some_iff.1 hi).1; rw [HT.out]; exact this) t hi)
          clear HAll hk hkn
          have HRN := Lib.hid (RV.out.below HB.out)
          cases V with
          | nil =>
            have hz : nu = 0 := HV.out
            subst hz
            have bi_ := BI.out.c18
            have KX := Lib.hid (of_nil Av cv wr)
            go_wp2_with fail
            refine KX.out.mono ?_
            rintro e u1 ⟨rfl, bel⟩
            clear KX
            clear bi_
            replace BI := mB BI bel
            replace HB := mT HB bel
            clear bel
            have HO := Lib.hid (show boxOf [] = B3.zero from rfl)
            obtain ⟨bo, hbo⟩ : ∃ bo, bo = B3.zero := ⟨_, rfl⟩
            rw [← hbo] at HO
            go_upto_region 17 with fail
            obtain ⟨u2, x10, hz, hx', SO, bA⟩ := laidB u1 50 #[.int .i64 0, .int .i64 0, .int .i64 0, .int .i64 0, .int .i64 0, .int .i64 0]
            rw [← hz.out, ← hx'.out]
            replace BI := mB BI bA
            replace HB := mT HB bA
            clear hz hx' bA
            have he := eql_box B3.zero box
            obtain ⟨q, hq⟩ : ∃ q, q = bo.beq box := ⟨_, rfl⟩
            rw [← hbo, ← hq] at he
            simp only [hbo, B3.zero] at he
            have HQ := Lib.hid hq
            clear hq hbo
            have so_ := SO.out.c6
            have bi_ := BI.out.c18
            cases q
            · go_wp2
              go_ret
              exact ⟨⟨false, rfl, ⟨fun h => (by cases h), fun h => absurd ((B3.beq_iff _ _).2 (HO.out.symm.trans (HI.out.1 h).2.2.2)) (by rw [← HQ.out]; decide)⟩⟩, HB.out⟩
            · go_wp2
              go_ret
              exact ⟨⟨true, rfl, ⟨fun _ => HI.out.2 ⟨⟨⟨H1.out, (by first | rfl | trivial), H3.out⟩, HL.out⟩, ⟨AV.out, AU.out⟩, AT.out, HO.out.trans ((B3.beq_iff _ _).1 HQ.out.symm)⟩, fun _ => rfl⟩⟩, HB.out⟩
          | cons v L =>
            have hz : nu = L.length + 1 := HV.out
            have HNZ := Lib.hid hz
            have gz : ((nu : Int) == 0) = false := by simp; omega
            clear hz
            have KO := Lib.hid (of_ok Av cv v L AV.out (by have := H1.out; have := HNZ.out; omega) (by have := HCP.out; simpa using this) wr HRN.out)
            rw [show (v :: L).length = nu from HV.out.symm] at KO
            have bi_ := BI.out.c18
            go_wp2_with fail
            refine KO.out.mono ?_
            rintro e u1 ⟨rfl, bel⟩
            clear KO
            clear bi_
            clear HRN
            replace BI := mB BI bel
            replace HB := mT HB bel
            clear bel
            obtain ⟨bo, hbo⟩ : ∃ bo, bo = boxOf (v :: L) := ⟨_, rfl⟩
            rw [← hbo]
            have HO := Lib.hid hbo.symm
            clear hbo
            go_upto_region 17 with fail
            obtain ⟨u2, x10, hz, hx', SO, bA⟩ := laidB u1 50 #[.int .i64 bo.lo.x, .int .i64 bo.lo.y, .int .i64 bo.lo.z, .int .i64 bo.hi.x, .int .i64 bo.hi.y, .int .i64 bo.hi.z]
            rw [← hz.out, ← hx'.out]
            replace BI := mB BI bA
            replace HB := mT HB bA
            clear hz hx' bA
            have he := eql_box bo box
            obtain ⟨q, hq⟩ : ∃ q, q = bo.beq box := ⟨_, rfl⟩
            rw [← hq] at he
            have HQ := Lib.hid hq
            clear hq
            have so_ := SO.out.c6
            have bi_ := BI.out.c18
            cases q
            · go_wp2
              go_ret
              exact ⟨⟨false, rfl, ⟨fun h => (by cases h), fun h => absurd ((B3.beq_iff _ _).2 (HO.out.symm.trans (HI.out.1 h).2.2.2)) (by rw [← HQ.out]; decide)⟩⟩, HB.out⟩
            · go_wp2
              go_ret
              exact ⟨⟨true, rfl, ⟨fun _ => HI.out.2 ⟨⟨⟨H1.out, (by first | rfl | trivial), H3.out⟩, HL.out⟩, ⟨AV.out, AU.out⟩, AT.out, HO.out.trans ((B3.beq_iff _ _).1 HQ.out.symm)⟩, fun _ => rfl⟩⟩, HB.out⟩
end Go.Proofs.YtemopgpcpjnmkaaDoor
