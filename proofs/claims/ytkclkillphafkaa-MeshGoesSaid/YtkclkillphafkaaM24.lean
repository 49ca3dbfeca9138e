/- MeshGoes: the walk. -/
import Derived.Test.YtkclkillphafkaaM23
import Derived.Test.YtkclkillphafkaaM14
import Derived.Test.YtkclkillphafkaaSpo
namespace Go.Proofs.Ytkclkillphafkaa
open Go.RowKit
set_option linter.unusedVariables false
section
variable {n1 n2 m : Nat} {V U : Nat → Nat → Int} {D : Nat → PrimD} {a : Nat → Option Addr} {c : Nat → Nat}
theorem catN_re : ∀ k, catN (reD D a c) k = catN D k
  | 0 => rfl
  | k + 1 => by rw [catN, catN, catN_re k]; rfl
theorem catC_re : ∀ k, catC (reD D a c) k = catC D k
  | 0 => rfl
  | k + 1 => by rw [catC, catC, catC_re k]; rfl
theorem may_re : MayM n1 n2 V U (reD D a c) m ↔ MayM n1 n2 V U D m := by
  unfold MayM TrisOk
  rw [catN_re]
  exact Iff.rfl
theorem chkM_re : chkM n1 n2 V U (reD D a c) m = chkM n1 n2 V U D m := by
  by_cases h : 64 < n1 ∨ 64 < n2 ∨ 16 < m
  · rw [chkM_many h, chkM_many h]
  · by_cases k : MayM n1 n2 V U D m
    · rw [chkM_ok h k, chkM_ok h (may_re.2 k)]
    · rw [chkM_bad h k, chkM_bad h (fun h => k (may_re.1 h))]
noncomputable def trN (n1 n2 : Nat) (V U : Nat → Nat → Int) (D : Nat → PrimD) (m : Nat) : Nat := if chkM n1 n2 V U D m = 0 then catN D m else 0
theorem trN_le : trN n1 n2 V U D m ≤ 64 := by
  unfold trN
  split
  · rename_i h
    exact (chkM_zero h).2.2.2.2.2
  · omega
/-- What Tris answers, both ways in one. -/
theorem trisM_res {B : Nat} {e : Ending} {w' : World} (hk0 : ∀ i, 0 ≤ (D i).k) (h : TrisM (chkM n1 n2 V U D m) D m B e w') :
    ∃ X cx, e = .returned (.tuple #[.slice X (trN n1 n2 V U D m) cx, .int .i64 (chkM n1 n2 V U D m)]) ∧ Row w' X (trN n1 n2 V U D m) 3 (fun i j => .int .i64 (catG D m i j)) := by
  rcases h with ⟨h0, X, cx, rfl, ho⟩ | ⟨h0, rfl⟩
  · have ht : trN n1 n2 V U D m = catN D m := by unfold trN; rw [if_pos h0]
    rw [ht, h0]
    exact ⟨X, cx, rfl, (cat_row hk0 (chkM_zero h0).2.2.2.2.1 ho).1⟩
  · have ht : trN n1 n2 V U D m = 0 := by unfold trN; rw [if_neg h0]
    rw [ht]
    exact ⟨none, 0, rfl, Row.zero _ _ _ _⟩
theorem trisM_re {B : Nat} {e : Ending} {w' : World} (hk0 : ∀ i, 0 ≤ (D i).k) (h : TrisM (chkM n1 n2 V U (reD D a c) m) (reD D a c) m B e w') :
    ∃ X cx, e = .returned (.tuple #[.slice X (trN n1 n2 V U D m) cx, .int .i64 (chkM n1 n2 V U D m)]) ∧ Row w' X (trN n1 n2 V U D m) 3 (fun i j => .int .i64 (catG D m i j)) := by
  refine trisM_res (B := B) hk0 ?_
  rw [chkM_re] at h
  unfold TrisM at h ⊢
  rw [catN_re, catC_re] at h
  exact h
theorem sameM_re : SameM n1 n2 m V U (reD D a c) n1 n2 m V U D := ⟨⟨rfl, fun _ _ _ _ => rfl⟩, ⟨rfl, fun _ _ _ _ => rfl⟩, rfl, fun _ _ => ⟨rfl, rfl, fun _ _ => rfl⟩⟩
end
theorem MOwn.rows {B c1 c2 c3 n1 n2 m : Nat} {w : World} {A1 A2 A3 : Option Addr} {V U : Nat → Nat → Int} {D : Nat → PrimD} (h : MOwn B w A1 A2 A3 c1 c2 c3 n1 n2 m V U D) : Row w A1 n1 3 (fun i j => .int .i64 (V i j)) ∧ Row w A2 n2 2 (fun i j => .int .i64 (U i j)) ∧ PL w A3 m D :=
  ⟨Row.of_cells h.v, Row.of_cells h.u, h.p.pl⟩
/-- The blocks of a mesh's numbers. -/
def MS (A1 A2 : Option Addr) (c1 c2 n1 n2 m : Nat) (D : Nat → PrimD) (g : Nat) : Prop :=
  (Value.slice A1 n1 c1).ownBlock = some g ∨ (Value.slice A2 n2 c2).ownBlock = some g ∨ ∃ i, i < m ∧ (Value.slice (D i).a (D i).n (D i).c).ownBlock = some g
section
variable {B c1 c2 c3 n1 n2 m : Nat} {w : World} {A1 A2 A3 : Option Addr} {V U : Nat → Nat → Int} {D : Nat → PrimD} (h : MOwn B w A1 A2 A3 c1 c2 c3 n1 n2 m V U D)
include h
theorem MOwn.ms_ge : ∀ g, MS A1 A2 c1 c2 n1 n2 m D g → B ≤ g := by
  rintro g (hg | hg | ⟨i, hi, hg⟩)
  · exact (h.v.lt g hg).1
  · exact (h.u.lt g hg).1
  · exact ((h.p.ints i hi).lt g hg).1
theorem MOwn.ms_blk {g : Nat} {t : TypeId} {cs : Array Value} (hb : HasBlk w g t cs) (h1 : 51 ≠ t) (h2 : 52 ≠ t) (h3 : 3 ≠ t) : ¬ MS A1 A2 c1 c2 n1 n2 m D g := by
  rintro (hg | hg | ⟨i, hi, hg⟩)
  · exact hb.ne_own h.v h1 hg
  · exact hb.ne_own h.u h2 hg
  · exact hb.ne_own (h.p.ints i hi) h3 hg
theorem MOwn.prims (hm : 0 < m) : ∃ g, A3 = some ⟨g, 0, none⟩ ∧ g < w.heap.size ∧ ¬ MS A1 A2 c1 c2 n1 n2 m D g ∧ ∀ i, i < m → w.cell? ⟨g, i * 2 + 1, none⟩ = some (.slice (D i).a (D i).n (D i).c) := by
  rcases h.p.row.2 with ⟨e, hx⟩ | ⟨g, cap, cur, e, _, hk, _⟩
  · have := h.p.row.1
    rw [hx] at this
    simp at this
    omega
  · injection e with e1 _ e3
    subst e1 e3
    refine ⟨g, rfl, (Array.getElem?_eq_some_iff.1 hk).1, h.ms_blk hk (by decide) (by decide) (by decide), fun i hi => ?_⟩
    obtain ⟨g', off, e', _, hc⟩ := (Row.of_cells h.p.row) hm
    injection e' with e'
    injection e' with e1 e2
    subst e1 e2
    have := hc i hi 1 (by omega)
    simpa [pv] using this
end

set_option maxRecDepth 100000 in
set_option maxHeartbeats 16000000 in
theorem meshGoes_walk (A1 A2 A3 : Option Addr) (n1 n2 m c1 c2 c3 : Nat) (V U : Nat → Nat → Int) (D : Nat → PrimD) (E1 E2 E3 : Option Addr) (m1 m2 l e1 e2 e3 : Nat) (V2 U2 : Nat → Nat → Int) (F : Nat → PrimD) (w : World) (hV : Row w A1 n1 3 (fun i j => .int .i64 (V i j))) (hU : Row w A2 n2 2 (fun i j => .int .i64 (U i j))) (hp : PL w A3 m D) (hV2 : Row w E1 m1 3 (fun i j => .int .i64 (V2 i j))) (hU2 : Row w E2 m2 2 (fun i j => .int .i64 (U2 i j))) (hp2 : PL w E3 l F) (hk0 : ∀ i, 0 ≤ (D i).k) :
    Calls Try.prog 8 #[.agg #[.slice A1 n1 c1, .slice A2 n2 c2, .slice A3 m c3], .agg #[.slice E1 m1 e1, .slice E2 m2 e2, .slice E3 l e3]] w fun e w' => e = .returned (.bool true) ∧ Below w.heap.size w w' := by
  have HV := Lib.hid hV
  have HU := Lib.hid hU
  have HP := Lib.hid hp
  have HV2 := Lib.hid hV2
  have HU2 := Lib.hid hU2
  have HP2 := Lib.hid hp2
  have HK := Lib.hid hk0
  clear hV hU hp hV2 hU2 hp2 hk0
  go_enter Try.func8, Try.ntmps8
  go_wp2_with fail
  have NE_Pb_Qb := Lib.hid (show w.heap.size ≠ w.heap.size + 1 by omega)
  have s_Pb : HasBlk (w.alloc (.cells #[.slice A1 n1 c1, .slice A2 n2 c2, .slice A3 m c3] 42)) (w.heap.size) 42 #[.slice A1 n1 c1, .slice A2 n2 c2, .slice A3 m c3] := by simpa using hasBlk_new w 42 #[.slice A1 n1 c1, .slice A2 n2 c2, .slice A3 m c3]
  replace s_Pb := s_Pb.alloc (.cells #[.slice E1 m1 e1, .slice E2 m2 e2, .slice E3 l e3] 42)
  have s_Qb : HasBlk ((w.alloc (.cells #[.slice A1 n1 c1, .slice A2 n2 c2, .slice A3 m c3] 42)).alloc (.cells #[.slice E1 m1 e1, .slice E2 m2 e2, .slice E3 l e3] 42)) (w.heap.size + 1) 42 #[.slice E1 m1 e1, .slice E2 m2 e2, .slice E3 l e3] := by simpa using hasBlk_new (w.alloc (.cells #[.slice A1 n1 c1, .slice A2 n2 c2, .slice A3 m c3] 42)) 42 #[.slice E1 m1 e1, .slice E2 m2 e2, .slice E3 l e3]
  have t_Pb : HasBlk ((w.alloc (.cells #[.slice A1 n1 c1, .slice A2 n2 c2, .slice A3 m c3] 42)).alloc (.cells #[.slice E1 m1 e1, .slice E2 m2 e2, .slice E3 l e3] 42)) (w.heap.size) 42 #[.slice A1 n1 c1, .slice A2 n2 c2, .slice A3 m c3] := by simpa using s_Pb
  clear s_Pb
  have t_Qb : HasBlk ((w.alloc (.cells #[.slice A1 n1 c1, .slice A2 n2 c2, .slice A3 m c3] 42)).alloc (.cells #[.slice E1 m1 e1, .slice E2 m2 e2, .slice E3 l e3] 42)) (w.heap.size + 1) 42 #[.slice E1 m1 e1, .slice E2 m2 e2, .slice E3 l e3] := by simpa using s_Qb
  clear s_Qb
  have SB1 : Below w.heap.size w ((w.alloc (.cells #[.slice A1 n1 c1, .slice A2 n2 c2, .slice A3 m c3] 42)).alloc (.cells #[.slice E1 m1 e1, .slice E2 m2 e2, .slice E3 l e3] 42)) := by
    repeat' (first | exact Below.refl _ _ | assumption | apply Below.drew | refine Below.setCell ?_ (by first | omega | (simp; done) | (simp; omega)) _ | refine Below.alloc ?_ (by first | omega | (simp; done) | (simp; omega)) _)
  generalize gW_v0 : ((w.alloc (.cells #[.slice A1 n1 c1, .slice A2 n2 c2, .slice A3 m c3] 42)).alloc (.cells #[.slice E1 m1 e1, .slice E2 m2 e2, .slice E3 l e3] 42)) = v0 at *
  clear gW_v0
  have Pb := Lib.hid t_Pb
  clear t_Pb
  have Qb := Lib.hid t_Qb
  clear t_Qb
  have SB1h := Lib.hid SB1
  clear SB1
  have lt_Pb := Pb.out.lt
  have Pb_0 := Pb.out.cell 0
  have Pb_1 := Pb.out.cell 1
  have Pb_2 := Pb.out.cell 2
  simp at Pb_0 Pb_1 Pb_2
  have lt_Qb := Qb.out.lt
  have Qb_0 := Qb.out.cell 0
  have Qb_1 := Qb.out.cell 1
  have Qb_2 := Qb.out.cell 2
  simp at Qb_0 Qb_1 Qb_2
  have szB_v0 := SB1h.out.size
  refine (great17_any A1 A2 A3 n1 n2 m c1 c2 c3 D _ (HP.out.below SB1h.out)).mono ?_
  rintro e w1 ⟨⟨bg, rfl, hg⟩, bel1⟩
  clear lt_Pb Pb_0 Pb_1 Pb_2 lt_Qb Qb_0 Qb_1 Qb_2
  have Hg := Lib.hid hg
  clear hg
  have t_Pb := Pb.out.below bel1
  clear Pb
  have Pb := Lib.hid t_Pb
  clear t_Pb
  have t_Qb := Qb.out.below bel1
  clear Qb
  have Qb := Lib.hid t_Qb
  clear t_Qb
  have SB2 : Below w.heap.size w w1 := SB1h.out.trans (bel1.mono SB1h.out.size)
  clear SB1h
  have SB2h := Lib.hid SB2
  clear SB2 bel1
  have lt_Pb := Pb.out.lt
  have Pb_0 := Pb.out.cell 0
  have Pb_1 := Pb.out.cell 1
  have Pb_2 := Pb.out.cell 2
  simp at Pb_0 Pb_1 Pb_2
  have lt_Qb := Qb.out.lt
  have Qb_0 := Qb.out.cell 0
  have Qb_1 := Qb.out.cell 1
  have Qb_2 := Qb.out.cell 2
  simp at Qb_0 Qb_1 Qb_2
  have szB_w1 := SB2h.out.size
  by_cases hx : bg = true
  · subst hx
    go_wp2
    go_ret
    exact ⟨rfl, SB2h.out⟩
  have hx' : bg = false := by simpa using hx
  subst hx'
  clear hx
  have Hft := Lib.hid (show (n1 ≤ 1000 ∧ n2 ≤ 1000 ∧ m ≤ 100) ∧ ∀ i, i < m → (D i).n ≤ 1000 from by
    have h : ¬ (1000 < n1 ∨ 1000 < n2 ∨ 100 < m ∨ ∃ i, i < m ∧ 1000 < (D i).n) := fun hh => by have := Hg.out.2 hh; cases this
    refine ⟨by omega, fun i hi => ?_⟩
    refine Classical.byContradiction fun hh => h (.inr (.inr (.inr ⟨i, hi, by omega⟩))))
  clear Hg
  go_wp2_with fail
  refine (great17_any E1 E2 E3 m1 m2 l e1 e2 e3 F _ (HP2.out.below SB2h.out)).mono ?_
  rintro e w2 ⟨⟨bg, rfl, hg⟩, bel2⟩
  clear lt_Pb Pb_0 Pb_1 Pb_2 lt_Qb Qb_0 Qb_1 Qb_2
  clear hg
  have t_Pb := Pb.out.below bel2
  clear Pb
  have Pb := Lib.hid t_Pb
  clear t_Pb
  have t_Qb := Qb.out.below bel2
  clear Qb
  have Qb := Lib.hid t_Qb
  clear t_Qb
  have SB3 : Below w.heap.size w w2 := SB2h.out.trans (bel2.mono SB2h.out.size)
  clear SB2h
  have SB3h := Lib.hid SB3
  clear SB3 bel2
  have lt_Pb := Pb.out.lt
  have Pb_0 := Pb.out.cell 0
  have Pb_1 := Pb.out.cell 1
  have Pb_2 := Pb.out.cell 2
  simp at Pb_0 Pb_1 Pb_2
  have lt_Qb := Qb.out.lt
  have Qb_0 := Qb.out.cell 0
  have Qb_1 := Qb.out.cell 1
  have Qb_2 := Qb.out.cell 2
  simp at Qb_0 Qb_1 Qb_2
  have szB_w2 := SB3h.out.size
  by_cases hx : bg = true
  · subst hx
    go_wp2
    go_ret
    exact ⟨rfl, SB3h.out⟩
  have hx' : bg = false := by simpa using hx
  subst hx'
  clear hx
  have n1b : n1 ≤ 1000 := Hft.out.1.1
  have n2b : n2 ≤ 1000 := Hft.out.1.2.1
  have mb : m ≤ 100 := Hft.out.1.2.2
  go_wp2_with fail
  refine (twin18_any A1 A2 A3 n1 n2 m c1 c2 c3 V U D _ (HV.out.below SB3h.out) (HU.out.below SB3h.out) (HP.out.below SB3h.out) Hft.out.1 Hft.out.2).mono ?_
  rintro e w3 ⟨⟨B1, B2, B3, d1, d2, d3, a, c, rfl, hO⟩, bel3⟩
  clear lt_Pb Pb_0 Pb_1 Pb_2 lt_Qb Qb_0 Qb_1 Qb_2
  have HO := Lib.hid hO
  clear hO
  have t_Pb := Pb.out.below bel3
  clear Pb
  have Pb := Lib.hid t_Pb
  clear t_Pb
  have t_Qb := Qb.out.below bel3
  clear Qb
  have Qb := Lib.hid t_Qb
  clear t_Qb
  have SB4 : Below w.heap.size w w3 := SB3h.out.trans (bel3.mono SB3h.out.size)
  clear SB3h
  have SB4h := Lib.hid SB4
  clear SB4 bel3
  have lt_Pb := Pb.out.lt
  have Pb_0 := Pb.out.cell 0
  have Pb_1 := Pb.out.cell 1
  have Pb_2 := Pb.out.cell 2
  simp at Pb_0 Pb_1 Pb_2
  have lt_Qb := Qb.out.lt
  have Qb_0 := Qb.out.cell 0
  have Qb_1 := Qb.out.cell 1
  have Qb_2 := Qb.out.cell 2
  simp at Qb_0 Qb_1 Qb_2
  have szB_w3 := SB4h.out.size
  go_wp2_with fail
  have HOa := (HO.out.below ((Below.refl w3.heap.size w3).alloc (Nat.le_refl _) (.cells #[.slice B1 n1 d1, .slice B2 n2 d2, .slice B3 m d3] 42)))
  clear HO
  have NE_Pb_O := Lib.hid (show w.heap.size ≠ w3.heap.size by omega)
  have NE_Qb_O := Lib.hid (show w.heap.size + 1 ≠ w3.heap.size by omega)
  have s_Pb := Pb.out
  have s_Qb := Qb.out
  replace s_Pb := s_Pb.alloc (.cells #[.slice B1 n1 d1, .slice B2 n2 d2, .slice B3 m d3] 42)
  replace s_Qb := s_Qb.alloc (.cells #[.slice B1 n1 d1, .slice B2 n2 d2, .slice B3 m d3] 42)
  have s_O : HasBlk (w3.alloc (.cells #[.slice B1 n1 d1, .slice B2 n2 d2, .slice B3 m d3] 42)) (w3.heap.size) 42 #[.slice B1 n1 d1, .slice B2 n2 d2, .slice B3 m d3] := by simpa using hasBlk_new w3 42 #[.slice B1 n1 d1, .slice B2 n2 d2, .slice B3 m d3]
  have t_Pb : HasBlk (w3.alloc (.cells #[.slice B1 n1 d1, .slice B2 n2 d2, .slice B3 m d3] 42)) (w.heap.size) 42 #[.slice A1 n1 c1, .slice A2 n2 c2, .slice A3 m c3] := by simpa using s_Pb
  clear s_Pb Pb
  have t_Qb : HasBlk (w3.alloc (.cells #[.slice B1 n1 d1, .slice B2 n2 d2, .slice B3 m d3] 42)) (w.heap.size + 1) 42 #[.slice E1 m1 e1, .slice E2 m2 e2, .slice E3 l e3] := by simpa using s_Qb
  clear s_Qb Qb
  have t_O : HasBlk (w3.alloc (.cells #[.slice B1 n1 d1, .slice B2 n2 d2, .slice B3 m d3] 42)) (w3.heap.size) 42 #[.slice B1 n1 d1, .slice B2 n2 d2, .slice B3 m d3] := by simpa using s_O
  clear s_O
  have SB5 : Below w.heap.size w (w3.alloc (.cells #[.slice B1 n1 d1, .slice B2 n2 d2, .slice B3 m d3] 42)) := by
    have bel0 := SB4h.out
    repeat' (first | exact Below.refl _ _ | assumption | apply Below.drew | refine Below.setCell ?_ (by first | omega | (simp; done) | (simp; omega)) _ | refine Below.alloc ?_ (by first | omega | (simp; done) | (simp; omega)) _)
  clear lt_Pb Pb_0 Pb_1 Pb_2 lt_Qb Qb_0 Qb_1 Qb_2
  generalize gW_v1 : (w3.alloc (.cells #[.slice B1 n1 d1, .slice B2 n2 d2, .slice B3 m d3] 42)) = v1 at *
  clear gW_v1
  have Pb := Lib.hid t_Pb
  clear t_Pb
  have Qb := Lib.hid t_Qb
  clear t_Qb
  have O := Lib.hid t_O
  clear t_O
  clear SB4h
  have SB5h := Lib.hid SB5
  clear SB5
  have HO := Lib.hid HOa
  clear HOa
  have lt_Pb := Pb.out.lt
  have Pb_0 := Pb.out.cell 0
  have Pb_1 := Pb.out.cell 1
  have Pb_2 := Pb.out.cell 2
  simp at Pb_0 Pb_1 Pb_2
  have lt_Qb := Qb.out.lt
  have Qb_0 := Qb.out.cell 0
  have Qb_1 := Qb.out.cell 1
  have Qb_2 := Qb.out.cell 2
  simp at Qb_0 Qb_1 Qb_2
  have lt_O := O.out.lt
  have O_0 := O.out.cell 0
  have O_1 := O.out.cell 1
  have O_2 := O.out.cell 2
  simp at O_0 O_1 O_2
  have szB_v1 := SB5h.out.size
  refine (tris16_any B1 B2 B3 n1 n2 m d1 d2 d3 V U (reD D a c) _ HO.out.rows.1 HO.out.rows.2.1 HO.out.rows.2.2 HK.out).mono ?_
  rintro e w4 ⟨hx, bel4⟩
  clear lt_Pb Pb_0 Pb_1 Pb_2 lt_Qb Qb_0 Qb_1 Qb_2 lt_O O_0 O_1 O_2
  have HOa := HO.out.below bel4
  clear HO
  have HO := Lib.hid HOa
  clear HOa
  obtain ⟨X, cx, rfl, hX⟩ := trisM_re HK.out hx
  have HX := Lib.hid hX
  clear hx hX
  have t_Pb := Pb.out.below bel4
  clear Pb
  have Pb := Lib.hid t_Pb
  clear t_Pb
  have t_Qb := Qb.out.below bel4
  clear Qb
  have Qb := Lib.hid t_Qb
  clear t_Qb
  have t_O := O.out.below bel4
  clear O
  have O := Lib.hid t_O
  clear t_O
  have SB6 : Below w.heap.size w w4 := SB5h.out.trans (bel4.mono SB5h.out.size)
  clear SB5h
  have SB6h := Lib.hid SB6
  clear SB6 bel4
  have lt_Pb := Pb.out.lt
  have Pb_0 := Pb.out.cell 0
  have Pb_1 := Pb.out.cell 1
  have Pb_2 := Pb.out.cell 2
  simp at Pb_0 Pb_1 Pb_2
  have lt_Qb := Qb.out.lt
  have Qb_0 := Qb.out.cell 0
  have Qb_1 := Qb.out.cell 1
  have Qb_2 := Qb.out.cell 2
  simp at Qb_0 Qb_1 Qb_2
  have lt_O := O.out.lt
  have O_0 := O.out.cell 0
  have O_1 := O.out.cell 1
  have O_2 := O.out.cell 2
  simp at O_0 O_1 O_2
  have szB_w4 := SB6h.out.size
  go_wp2_with fail
  refine (tris19_any A1 A2 A3 n1 n2 m c1 c2 c3 V U D _ (HV.out.below SB6h.out) (HU.out.below SB6h.out) (HP.out.below SB6h.out) HK.out).mono ?_
  rintro e w5 ⟨hx, bel5⟩
  clear lt_Pb Pb_0 Pb_1 Pb_2 lt_Qb Qb_0 Qb_1 Qb_2 lt_O O_0 O_1 O_2
  have HOa := HO.out.below bel5
  clear HO
  have HO := Lib.hid HOa
  clear HOa
  have HXa := HX.out.below bel5
  clear HX
  have HX := Lib.hid HXa
  clear HXa
  obtain ⟨Y, cy, rfl, hY⟩ := trisM_res HK.out hx
  have HY := Lib.hid hY
  clear hx hY
  have t_Pb := Pb.out.below bel5
  clear Pb
  have Pb := Lib.hid t_Pb
  clear t_Pb
  have t_Qb := Qb.out.below bel5
  clear Qb
  have Qb := Lib.hid t_Qb
  clear t_Qb
  have t_O := O.out.below bel5
  clear O
  have O := Lib.hid t_O
  clear t_O
  have SB7 : Below w.heap.size w w5 := SB6h.out.trans (bel5.mono SB6h.out.size)
  clear SB6h
  have SB7h := Lib.hid SB7
  clear SB7 bel5
  have lt_Pb := Pb.out.lt
  have Pb_0 := Pb.out.cell 0
  have Pb_1 := Pb.out.cell 1
  have Pb_2 := Pb.out.cell 2
  simp at Pb_0 Pb_1 Pb_2
  have lt_Qb := Qb.out.lt
  have Qb_0 := Qb.out.cell 0
  have Qb_1 := Qb.out.cell 1
  have Qb_2 := Qb.out.cell 2
  simp at Qb_0 Qb_1 Qb_2
  have lt_O := O.out.lt
  have O_0 := O.out.cell 0
  have O_1 := O.out.cell 1
  have O_2 := O.out.cell 2
  simp at O_0 O_1 O_2
  have szB_w5 := SB7h.out.size
  go_wp2_with fail
  have HO5 := Lib.hid HO.out
  have HB5 := Lib.hid SB7h.out
  refine (twin20_any B1 B2 B3 n1 n2 m d1 d2 d3 V U (reD D a c) _ HO.out.rows.1 HO.out.rows.2.1 HO.out.rows.2.2 Hft.out.1 Hft.out.2).mono ?_
  rintro e w6 ⟨⟨C1, C2, C3, f1, f2, f3, a', c', rfl, hT⟩, bel6⟩
  clear lt_Pb Pb_0 Pb_1 Pb_2 lt_Qb Qb_0 Qb_1 Qb_2 lt_O O_0 O_1 O_2
  have HOa := HO.out.below bel6
  clear HO
  have HO := Lib.hid HOa
  clear HOa
  have HXa := HX.out.below bel6
  clear HX
  have HX := Lib.hid HXa
  clear HXa
  have HYa := HY.out.below bel6
  clear HY
  have HY := Lib.hid HYa
  clear HYa
  have HT := Lib.hid hT
  have sz56 := bel6.size
  have HBX := Lib.hid bel6
  clear hT
  have t_Pb := Pb.out.below bel6
  clear Pb
  have Pb := Lib.hid t_Pb
  clear t_Pb
  have t_Qb := Qb.out.below bel6
  clear Qb
  have Qb := Lib.hid t_Qb
  clear t_Qb
  have t_O := O.out.below bel6
  clear O
  have O := Lib.hid t_O
  clear t_O
  have SB8 : Below w.heap.size w w6 := SB7h.out.trans (bel6.mono SB7h.out.size)
  clear SB7h
  have SB8h := Lib.hid SB8
  clear SB8 bel6
  have lt_Pb := Pb.out.lt
  have Pb_0 := Pb.out.cell 0
  have Pb_1 := Pb.out.cell 1
  have Pb_2 := Pb.out.cell 2
  simp at Pb_0 Pb_1 Pb_2
  have lt_Qb := Qb.out.lt
  have Qb_0 := Qb.out.cell 0
  have Qb_1 := Qb.out.cell 1
  have Qb_2 := Qb.out.cell 2
  simp at Qb_0 Qb_1 Qb_2
  have lt_O := O.out.lt
  have O_0 := O.out.cell 0
  have O_1 := O.out.cell 1
  have O_2 := O.out.cell 2
  simp at O_0 O_1 O_2
  have szB_w6 := SB8h.out.size
  go_wp2_with fail
  have HOa := (HO.out.below ((Below.refl w6.heap.size w6).alloc (Nat.le_refl _) (.cells #[.slice C1 n1 f1, .slice C2 n2 f2, .slice C3 m f3] 42)))
  clear HO
  have HXa := (HX.out.below ((Below.refl w6.heap.size w6).alloc (Nat.le_refl _) (.cells #[.slice C1 n1 f1, .slice C2 n2 f2, .slice C3 m f3] 42)))
  clear HX
  have HYa := (HY.out.below ((Below.refl w6.heap.size w6).alloc (Nat.le_refl _) (.cells #[.slice C1 n1 f1, .slice C2 n2 f2, .slice C3 m f3] 42)))
  clear HY
  have HTa := (HT.out.below ((Below.refl w6.heap.size w6).alloc (Nat.le_refl _) (.cells #[.slice C1 n1 f1, .slice C2 n2 f2, .slice C3 m f3] 42)))
  clear HT
  have NE_Pb_T := Lib.hid (show w.heap.size ≠ w6.heap.size by omega)
  have NE_Qb_T := Lib.hid (show w.heap.size + 1 ≠ w6.heap.size by omega)
  have NE_O_T := Lib.hid (show w3.heap.size ≠ w6.heap.size by omega)
  have s_Pb := Pb.out
  have s_Qb := Qb.out
  have s_O := O.out
  replace s_Pb := s_Pb.alloc (.cells #[.slice C1 n1 f1, .slice C2 n2 f2, .slice C3 m f3] 42)
  replace s_Qb := s_Qb.alloc (.cells #[.slice C1 n1 f1, .slice C2 n2 f2, .slice C3 m f3] 42)
  replace s_O := s_O.alloc (.cells #[.slice C1 n1 f1, .slice C2 n2 f2, .slice C3 m f3] 42)
  have s_T : HasBlk (w6.alloc (.cells #[.slice C1 n1 f1, .slice C2 n2 f2, .slice C3 m f3] 42)) (w6.heap.size) 42 #[.slice C1 n1 f1, .slice C2 n2 f2, .slice C3 m f3] := by simpa using hasBlk_new w6 42 #[.slice C1 n1 f1, .slice C2 n2 f2, .slice C3 m f3]
  have t_Pb : HasBlk (w6.alloc (.cells #[.slice C1 n1 f1, .slice C2 n2 f2, .slice C3 m f3] 42)) (w.heap.size) 42 #[.slice A1 n1 c1, .slice A2 n2 c2, .slice A3 m c3] := by simpa using s_Pb
  clear s_Pb Pb
  have t_Qb : HasBlk (w6.alloc (.cells #[.slice C1 n1 f1, .slice C2 n2 f2, .slice C3 m f3] 42)) (w.heap.size + 1) 42 #[.slice E1 m1 e1, .slice E2 m2 e2, .slice E3 l e3] := by simpa using s_Qb
  clear s_Qb Qb
  have t_O : HasBlk (w6.alloc (.cells #[.slice C1 n1 f1, .slice C2 n2 f2, .slice C3 m f3] 42)) (w3.heap.size) 42 #[.slice B1 n1 d1, .slice B2 n2 d2, .slice B3 m d3] := by simpa using s_O
  clear s_O O
  have t_T : HasBlk (w6.alloc (.cells #[.slice C1 n1 f1, .slice C2 n2 f2, .slice C3 m f3] 42)) (w6.heap.size) 42 #[.slice C1 n1 f1, .slice C2 n2 f2, .slice C3 m f3] := by simpa using s_T
  clear s_T
  have SB9 : Below w.heap.size w (w6.alloc (.cells #[.slice C1 n1 f1, .slice C2 n2 f2, .slice C3 m f3] 42)) := by
    have bel0 := SB8h.out
    repeat' (first | exact Below.refl _ _ | assumption | apply Below.drew | refine Below.setCell ?_ (by first | omega | (simp; done) | (simp; omega)) _ | refine Below.alloc ?_ (by first | omega | (simp; done) | (simp; omega)) _)
  clear lt_Pb Pb_0 Pb_1 Pb_2 lt_Qb Qb_0 Qb_1 Qb_2 lt_O O_0 O_1 O_2
  generalize gW_v2 : (w6.alloc (.cells #[.slice C1 n1 f1, .slice C2 n2 f2, .slice C3 m f3] 42)) = v2 at *
  have GW := Lib.hid gW_v2
  clear gW_v2
  have Pb := Lib.hid t_Pb
  clear t_Pb
  have Qb := Lib.hid t_Qb
  clear t_Qb
  have O := Lib.hid t_O
  clear t_O
  have T := Lib.hid t_T
  clear t_T
  clear SB8h
  have SB9h := Lib.hid SB9
  clear SB9
  have HO := Lib.hid HOa
  clear HOa
  have HX := Lib.hid HXa
  clear HXa
  have HY := Lib.hid HYa
  clear HYa
  have HT := Lib.hid HTa
  clear HTa
  have lt_Pb := Pb.out.lt
  have Pb_0 := Pb.out.cell 0
  have Pb_1 := Pb.out.cell 1
  have Pb_2 := Pb.out.cell 2
  simp at Pb_0 Pb_1 Pb_2
  have lt_Qb := Qb.out.lt
  have Qb_0 := Qb.out.cell 0
  have Qb_1 := Qb.out.cell 1
  have Qb_2 := Qb.out.cell 2
  simp at Qb_0 Qb_1 Qb_2
  have lt_O := O.out.lt
  have O_0 := O.out.cell 0
  have O_1 := O.out.cell 1
  have O_2 := O.out.cell 2
  simp at O_0 O_1 O_2
  have lt_T := T.out.lt
  have T_0 := T.out.cell 0
  have T_1 := T.out.cell 1
  have T_2 := T.out.cell 2
  simp at T_0 T_1 T_2
  have szB_v2 := SB9h.out.size
  have HBX2 := Lib.hid (HBX.out.trans (by
    have ha := (Below.refl w6.heap.size w6).alloc (Nat.le_refl _) (.cells #[.slice C1 n1 f1, .slice C2 n2 f2, .slice C3 m f3] 42)
    rw [GW.out] at ha
    exact ha.mono sz56))
  have lt5O : w5.heap.size ≤ v2.heap.size := HBX2.out.size
  obtain ⟨z, hz⟩ : ∃ z, chkM n1 n2 V U D m = z := ⟨_, rfl⟩
  obtain ⟨x, hx⟩ : ∃ x, cB (SameM n1 n2 m V U D m1 m2 l V2 U2 F) = x := ⟨_, rfl⟩
  have hzz : (z == z) = true := beq_self_eq_true z
  have hxx : (x == x) = true := beq_self_eq_true x
  obtain ⟨q, hq⟩ : ∃ q, trN n1 n2 V U D m = q := ⟨_, rfl⟩
  have hq64 : q ≤ 64 := by rw [← hq]; exact trN_le
  rw [hq, hz]
  rw [hq] at HX HY
  have Hz := Lib.hid hz
  have Hx := Lib.hid hx
  clear hz hx hq
  have k1 := Lib.hid (fun b : BW v2 => BW.call (v := .bool true) (fun W' (h : Below v2.heap.size v2 W') => calls_congr (eqr_cb (sametris X Y q q cx cy (catG D m) (catG D m) W' (HX.out.below h) (HY.out.below h) (by omega)) Iff.rfl) (congrArg Value.bool (cB_yes ⟨rfl, fun _ _ => ⟨rfl, rfl, rfl⟩⟩))) b)
  have k2 := Lib.hid (fun b : BW v2 => BW.call (v := .int .i64 z) (fun W' (h : Below v2.heap.size v2 W') => calls_congr (check15_any B1 B2 B3 n1 n2 m d1 d2 d3 V U (reD D a c) W' (HO.out.below h).rows.1 (HO.out.below h).rows.2.1 (HO.out.below h).rows.2.2 HK.out) (congrArg (Value.int .i64) (chkM_re.trans Hz.out))) b)
  have k3 := Lib.hid (fun b : BW v2 => BW.call (v := .int .i64 z) (fun W' (h : Below v2.heap.size v2 W') => calls_congr (check21_any A1 A2 A3 n1 n2 m c1 c2 c3 V U D W' (HV.out.below ((SB9h.out).trans (h.mono (SB9h.out).size))) (HU.out.below ((SB9h.out).trans (h.mono (SB9h.out).size))) (HP.out.below ((SB9h.out).trans (h.mono (SB9h.out).size))) HK.out) (congrArg (Value.int .i64) Hz.out)) b)
  have k4 := Lib.hid (fun b : BW v2 => BW.call (v := .bool x) (fun W' (h : Below v2.heap.size v2 W') => calls_congr (same22_any A1 A2 A3 n1 n2 m c1 c2 c3 V U D E1 E2 E3 m1 m2 l e1 e2 e3 V2 U2 F W' (HV.out.below ((SB9h.out).trans (h.mono (SB9h.out).size))) (HU.out.below ((SB9h.out).trans (h.mono (SB9h.out).size))) (HP.out.below ((SB9h.out).trans (h.mono (SB9h.out).size))) (HV2.out.below ((SB9h.out).trans (h.mono (SB9h.out).size))) (HU2.out.below ((SB9h.out).trans (h.mono (SB9h.out).size))) (HP2.out.below ((SB9h.out).trans (h.mono (SB9h.out).size))) Hft.out.1 Hft.out.2) (congrArg Value.bool Hx.out)) b)
  have k5 := Lib.hid (fun b : BW v2 => BW.call (v := .bool x) (fun W' (h : Below v2.heap.size v2 W') => calls_congr (same23_any A1 A2 A3 n1 n2 m c1 c2 c3 V U D E1 E2 E3 m1 m2 l e1 e2 e3 V2 U2 F W' (HV.out.below ((SB9h.out).trans (h.mono (SB9h.out).size))) (HU.out.below ((SB9h.out).trans (h.mono (SB9h.out).size))) (HP.out.below ((SB9h.out).trans (h.mono (SB9h.out).size))) (HV2.out.below ((SB9h.out).trans (h.mono (SB9h.out).size))) (HU2.out.below ((SB9h.out).trans (h.mono (SB9h.out).size))) (HP2.out.below ((SB9h.out).trans (h.mono (SB9h.out).size))) Hft.out.1 Hft.out.2) (congrArg Value.bool Hx.out)) b)
  have k6 := Lib.hid (fun b : BW v2 => BW.call (v := .bool true) (fun W' (h : Below v2.heap.size v2 W') => calls_congr (same22_any B1 B2 B3 n1 n2 m d1 d2 d3 V U (reD D a c) A1 A2 A3 n1 n2 m c1 c2 c3 V U D W' (HO.out.below h).rows.1 (HO.out.below h).rows.2.1 (HO.out.below h).rows.2.2 (HV.out.below ((SB9h.out).trans (h.mono (SB9h.out).size))) (HU.out.below ((SB9h.out).trans (h.mono (SB9h.out).size))) (HP.out.below ((SB9h.out).trans (h.mono (SB9h.out).size))) Hft.out.1 Hft.out.2) (congrArg Value.bool (cB_yes sameM_re))) b)
  have k7 := Lib.hid (fun b : BW v2 => BW.call (v := .bool true) (fun W' (h : Below v2.heap.size v2 W') => calls_congr (same23_any C1 C2 C3 n1 n2 m f1 f2 f3 V U (reD (reD D a c) a' c') A1 A2 A3 n1 n2 m c1 c2 c3 V U D W' (HT.out.below h).rows.1 (HT.out.below h).rows.2.1 (HT.out.below h).rows.2.2 (HV.out.below ((SB9h.out).trans (h.mono (SB9h.out).size))) (HU.out.below ((SB9h.out).trans (h.mono (SB9h.out).size))) (HP.out.below ((SB9h.out).trans (h.mono (SB9h.out).size))) Hft.out.1 Hft.out.2) (congrArg Value.bool (cB_yes (sameM_re (a := a') (c := c'))))) b)
  have p_Pb_0 := fun b : BW v2 => BW.cell Pb_0 lt_Pb b
  have p_Pb_1 := fun b : BW v2 => BW.cell Pb_1 lt_Pb b
  have p_Pb_2 := fun b : BW v2 => BW.cell Pb_2 lt_Pb b
  have p_Qb_0 := fun b : BW v2 => BW.cell Qb_0 lt_Qb b
  have p_Qb_1 := fun b : BW v2 => BW.cell Qb_1 lt_Qb b
  have p_Qb_2 := fun b : BW v2 => BW.cell Qb_2 lt_Qb b
  have p_O_0 := fun b : BW v2 => BW.cell O_0 lt_O b
  have p_O_1 := fun b : BW v2 => BW.cell O_1 lt_O b
  have p_O_2 := fun b : BW v2 => BW.cell O_2 lt_O b
  have p_T_0 := fun b : BW v2 => BW.cell T_0 lt_T b
  have p_T_1 := fun b : BW v2 => BW.cell T_1 lt_T b
  have p_T_2 := fun b : BW v2 => BW.cell T_2 lt_T b
  clear lt_Pb Pb_0 Pb_1 Pb_2 lt_Qb Qb_0 Qb_1 Qb_2 lt_O O_0 O_1 O_2 lt_T T_0 T_1 T_2
  refine wp_region_quiet_bw (by kernel_rfl) (by kernel_rfl) ?_
  repeat (go_big_quiet_step ((first | (go_at_call 11; with_reducible exact k1.out _) | (go_at_call 15; with_reducible exact k2.out _) | (go_at_call 21; with_reducible exact k3.out _) | (go_at_call 22; first | with_reducible exact k4.out _ | with_reducible exact k6.out _) | (go_at_call 23; first | with_reducible exact k5.out _ | with_reducible exact k7.out _))))
  refine wpQuiet_nil ?_
  intro _ hw'
  obtain ⟨pq, hw''⟩ := hw'
  subst hw''
  have belq := pq.h
  clear p_Pb_0 p_Pb_1 p_Pb_2 p_Qb_0 p_Qb_1 p_Qb_2 p_O_0 p_O_1 p_O_2 p_T_0 p_T_1 p_T_2 k1 k2 k3 k4 k5 k6 k7 hzz hxx Hz Hx HX HY
  generalize pq.W = w7 at *
  clear pq
  have HOa := HO.out.below belq
  clear HO
  have HO := Lib.hid HOa
  clear HOa
  have HTa := HT.out.below belq
  clear HT
  have HT := Lib.hid HTa
  clear HTa
  have t_Pb := Pb.out.below belq
  clear Pb
  have Pb := Lib.hid t_Pb
  clear t_Pb
  have t_Qb := Qb.out.below belq
  clear Qb
  have Qb := Lib.hid t_Qb
  clear t_Qb
  have t_O := O.out.below belq
  clear O
  have O := Lib.hid t_O
  clear t_O
  have t_T := T.out.below belq
  clear T
  have T := Lib.hid t_T
  clear t_T
  have HB57 := Lib.hid (HBX2.out.trans (belq.mono lt5O))
  have HB7 := Lib.hid (SB9h.out.trans (belq.mono SB9h.out.size))
  have lt7 : w5.heap.size ≤ w7.heap.size := Nat.le_trans lt5O belq.size
  have szw5 : w.heap.size ≤ w5.heap.size := Nat.le_trans HB5.out.size (Nat.le_refl _)
  clear SB9h belq
  have NT := Lib.hid (HT.out.ms_blk T.out (by decide) (by decide) (by decide))
  have NPb := Lib.hid (HT.out.ms_blk Pb.out (by decide) (by decide) (by decide))
  have NO := Lib.hid (HT.out.ms_blk O.out (by decide) (by decide) (by decide))
  obtain ⟨S, hS⟩ : ∃ S, MS C1 C2 f1 f2 n1 n2 m (reD (reD D a c) a' c') = S := ⟨_, rfl⟩
  have HS := Lib.hid hS
  rw [hS] at NT NPb NO
  clear hS
  go_wp2
  go_loopw [12] (fun i wr => ∃ k : Nat, k ≤ n1 ∧ i = .int .i64 k ∧ Spo S w7 wr) (fun i wr => n1 - (intOf i).toNat)
  case atStart => exact ⟨0, Nat.zero_le _, rfl, Spo.refl _ _⟩
  case round =>
    obtain ⟨k, hk, rfl, hsp⟩ := hrel
    have HSp := Lib.hid hsp
    clear hsp
    have T0 := HSp.out.blk T.out NT.out
    have ltT := T0.lt
    have T_0 := T0.cell 0
    simp at T_0
    clear T0
    by_cases hkn : k < n1
    · have hi0 : (0 : Int) ≤ (k : Int) := by omega
      have hi1 : (k : Int) < (n1 : Int) := by omega
      have hw := own_w HT.out.v (by omega)
      obtain ⟨g, hA, hgB, hgl, hgS, hcell, hfr⟩ := hw
      have hSg : S g := by rw [← HS.out]; exact .inl hgS
      obtain ⟨y0, x0⟩ := (by obtain ⟨v, hv⟩ := hcell (k * 3 + 0) (by omega); exact HSp.out.cell _ v hv : ∃ v', wr.cell? ⟨g, k * 3 + 0, none⟩ = some v')
      have f0 := (HSp.out.frozen ⟨g, k * 3 + 0, none⟩ hgl).trans (hfr (k * 3 + 0))
      obtain ⟨y1, x1⟩ := (by obtain ⟨v, hv⟩ := hcell (k * 3 + 1) (by omega); exact HSp.out.cell _ v hv : ∃ v', wr.cell? ⟨g, k * 3 + 1, none⟩ = some v')
      have f1 := (HSp.out.frozen ⟨g, k * 3 + 1, none⟩ hgl).trans (hfr (k * 3 + 1))
      obtain ⟨y2, x2⟩ := (by obtain ⟨v, hv⟩ := hcell (k * 3 + 2) (by omega); exact HSp.out.cell _ v hv : ∃ v', wr.cell? ⟨g, k * 3 + 2, none⟩ = some v')
      have f2 := (HSp.out.frozen ⟨g, k * 3 + 2, none⟩ hgl).trans (hfr (k * 3 + 2))
      simp only [Nat.add_zero] at x0 f0
      rw [hA] at T_0
      have HSg := Lib.hid hSg
      clear hA hgB hgS hcell hfr hSg
      go_wp2
      go_roundw
      case rel => exact ⟨k + 1, by omega, by go_num, ((HSp.out.set (p := ⟨g, k * 3, none⟩) HSg.out _).set (p := ⟨g, k * 3 + 1, none⟩) HSg.out _).set (p := ⟨g, k * 3 + 2, none⟩) HSg.out _⟩
      case measure => simp [intOf]; omega
    · obtain rfl : n1 = k := by omega
      have HSp1 := Lib.hid HSp.out
      clear HSp
      obtain ⟨wo1, rfl⟩ : ∃ wo : World, wo = wr := ⟨wr, rfl⟩
      go_wp2
      clear T_0 ltT
      go_loopw [13] (fun i wr => ∃ k : Nat, k ≤ n2 ∧ i = .int .i64 k ∧ Spo S w7 wr) (fun i wr => n2 - (intOf i).toNat)
      case atStart => exact ⟨0, Nat.zero_le _, rfl, HSp1.out⟩
      case round =>
        obtain ⟨k, hk, rfl, hsp⟩ := hrel
        have HSp := Lib.hid hsp
        clear hsp
        have T0 := HSp.out.blk T.out NT.out
        have ltT := T0.lt
        have T_1 := T0.cell 1
        simp at T_1
        clear T0
        by_cases hkn : k < n2
        · have hi0 : (0 : Int) ≤ (k : Int) := by omega
          have hi1 : (k : Int) < (n2 : Int) := by omega
          have hw := own_w HT.out.u (by omega)
          obtain ⟨g, hA, hgB, hgl, hgS, hcell, hfr⟩ := hw
          have hSg : S g := by rw [← HS.out]; exact .inr (.inl hgS)
          obtain ⟨y0, x0⟩ := (by obtain ⟨v, hv⟩ := hcell (k * 2 + 0) (by omega); exact HSp.out.cell _ v hv : ∃ v', wr.cell? ⟨g, k * 2 + 0, none⟩ = some v')
          have f0 := (HSp.out.frozen ⟨g, k * 2 + 0, none⟩ hgl).trans (hfr (k * 2 + 0))
          simp only [Nat.add_zero] at x0 f0
          rw [hA] at T_1
          have HSg := Lib.hid hSg
          clear hA hgB hgS hcell hfr hSg
          go_wp2
          go_roundw
          case rel => exact ⟨k + 1, by omega, by go_num, HSp.out.set (p := ⟨g, k * 2, none⟩) HSg.out _⟩
          case measure => simp [intOf]; omega
        · obtain rfl : n2 = k := by omega
          have HSp2 := Lib.hid HSp.out
          clear HSp
          obtain ⟨wo2, rfl⟩ : ∃ wo : World, wo = wr := ⟨wr, rfl⟩
          go_wp2
          clear T_1 ltT
          go_loopw [14] (fun i wr => ∃ k : Nat, k ≤ m ∧ i = .int .i64 k ∧ Spo S w7 wr) (fun i wr => m - (intOf i).toNat)
          case atStart => exact ⟨0, Nat.zero_le _, rfl, HSp2.out⟩
          case round =>
            obtain ⟨k, hk, rfl, hsp⟩ := hrel
            have HSp := Lib.hid hsp
            clear hsp
            have T0 := HSp.out.blk T.out NT.out
            have ltT := T0.lt
            have T_2 := T0.cell 2
            simp at T_2
            clear T0
            by_cases hkm : k < m
            · have hi0 : (0 : Int) ≤ (k : Int) := by omega
              have hi1 : (k : Int) < (m : Int) := by omega
              obtain ⟨g3, hA3, hg3, hn3, hpc⟩ := HT.out.prims (by omega)
              have HA3 := Lib.hid hA3
              rw [HS.out] at hn3
              have HN3 := Lib.hid (And.intro hg3 hn3)
              have Hpc := Lib.hid hpc
              have HSpk := Lib.hid HSp.out
              have hnk := Hft.out.2 k hkm
              clear hA3 hg3 hn3 hpc HSp
              obtain ⟨wo3, rfl⟩ : ∃ wo : World, wo = wr := ⟨wr, rfl⟩
              go_wp2
              clear T_2 ltT
              go_loopw [15] (fun i wr => ∃ j : Nat, j ≤ (D k).n ∧ i = .int .i64 j ∧ Spo S w7 wr) (fun i wr => (D k).n - (intOf i).toNat)
              case atStart => exact ⟨0, Nat.zero_le _, rfl, HSpk.out⟩
              case round =>
                obtain ⟨j, hj, rfl, hsp⟩ := hrel
                have HSp := Lib.hid hsp
                clear hsp
                have T0 := HSp.out.blk T.out NT.out
                have ltT := T0.lt
                have T_2 := T0.cell 2
                simp at T_2
                rw [HA3.out] at T_2
                have pc : wr.cell? ⟨g3, k * 2 + 1, none⟩ = some (.slice ((reD (reD D a c) a' c') k).a (D k).n ((reD (reD D a c) a' c') k).c) := (HSp.out.at (a := ⟨g3, k * 2 + 1, none⟩) HN3.out.1 HN3.out.2).trans (Hpc.out k hkm)
                clear T0
                by_cases hjn : j < (D k).n
                · have hj0 : (0 : Int) ≤ (j : Int) := by omega
                  have hj1 : (j : Int) < ((D k).n : Int) := by omega
                  obtain ⟨g, hA, hgB, hgl, hgS, hcell, hfr⟩ := own_w (HT.out.p.ints k hkm) (show 0 < (D k).n by omega)
                  have hSg : S g := by rw [← HS.out]; exact .inr (.inr ⟨k, hkm, hgS⟩)
                  obtain ⟨y0, x0⟩ := (by obtain ⟨v, hv⟩ := hcell j (show j < (D k).n * 1 by omega); exact HSp.out.cell _ v hv : ∃ v', wr.cell? ⟨g, j, none⟩ = some v')
                  have f0 := (HSp.out.frozen ⟨g, j, none⟩ hgl).trans (hfr j)
                  have HSg := Lib.hid hSg
                  rw [hA] at pc
                  clear hA hgB hgS hcell hfr hSg
                  go_wp2
                  go_roundw
                  case rel => exact ⟨j + 1, by omega, by go_num, HSp.out.set (p := ⟨g, j, none⟩) HSg.out _⟩
                  case measure => simp [intOf]; omega
                · obtain rfl : j = (D k).n := by omega
                  go_wp2
                  go_roundw
                  case rel => exact ⟨k + 1, by omega, by go_num, HSp.out⟩
                  case measure => simp [intOf]; omega
            · obtain rfl : m = k := by omega
              have HBo := Lib.hid (HSp.out.below (B := w5.heap.size) (by rw [← HS.out]; exact HT.out.ms_ge) lt7)
              have Pz := HSp.out.blk Pb.out NPb.out
              have Oz := HSp.out.blk O.out NO.out
              have P_0 := Pz.cell 0
              have P_1 := Pz.cell 1
              have P_2 := Pz.cell 2
              have O_0 := Oz.cell 0
              have O_1 := Oz.cell 1
              have O_2 := Oz.cell 2
              simp at P_0 P_1 P_2 O_0 O_1 O_2
              clear Pz Oz
              go_wp2_with fail
              refine (calls_congr (same23_any B1 B2 B3 n1 n2 m d1 d2 d3 V U (reD D a c) A1 A2 A3 n1 n2 m c1 c2 c3 V U D _ (HO5.out.below (HB57.out.trans HBo.out)).rows.1 (HO5.out.below (HB57.out.trans HBo.out)).rows.2.1 (HO5.out.below (HB57.out.trans HBo.out)).rows.2.2 (HV.out.below (HB7.out.trans (HBo.out.mono szw5))) (HU.out.below (HB7.out.trans (HBo.out.mono szw5))) (HP.out.below (HB7.out.trans (HBo.out.mono szw5))) Hft.out.1 Hft.out.2) (congrArg Value.bool (cB_yes sameM_re))).mono ?_
              rintro e w9 ⟨rfl, bel9⟩
              go_wp2
              go_ret
              exact ⟨rfl, (HB7.out.trans (HBo.out.mono szw5)).trans (bel9.mono (Nat.le_trans (Nat.le_trans szw5 lt7) HSp.out.size))⟩
set_option maxRecDepth 100000 in
theorem meshGoes_arg (v0 v1 : Value) (w : World) (h0 : Arg Try.prog w 42 v0) (h1 : Arg Try.prog w 42 v1) : Calls Try.prog 8 #[v0, v1] w fun e w' => e = .returned (.bool true) ∧ Below w.heap.size w w' := by
  obtain ⟨A1, A2, A3, n1, n2, m, c1, c2, c3, V, U, D, rfl, _, _, _, hV, hU, hp, hk0, hDn, _⟩ := arg_mesh h0
  obtain ⟨E1, E2, E3, m1, m2, l, e1, e2, e3, V2, U2, F, rfl, _, _, _, hV2, hU2, hp2, _⟩ := arg_mesh h1
  exact meshGoes_walk A1 A2 A3 n1 n2 m c1 c2 c3 V U D E1 E2 E3 m1 m2 l e1 e2 e3 V2 U2 F w hV hU hp hV2 hU2 hp2 hk0
end Go.Proofs.Ytkclkillphafkaa
