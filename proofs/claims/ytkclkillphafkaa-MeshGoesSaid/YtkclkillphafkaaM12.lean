/- mesh.Check, mesh.Tris. -/
import Derived.Test.YtkclkillphafkaaM11
namespace Go.Proofs.Ytkclkillphafkaa
open Go.RowKit
set_option linter.unusedVariables false

/-- May a mesh be, whose lists are not too long? -/
def MayM (n1 n2 : Nat) (V U : Nat → Nat → Int) (D : Nat → PrimD) (m : Nat) : Prop := n2 = n1 ∧ (∀ i, i < n1 → okV (V i 0) (V i 1) (V i 2) = true) ∧ (∀ i, i < n2 → okU (U i 0) (U i 1) = true) ∧ TrisOk n1 D m
open Classical in
noncomputable def chkM (n1 n2 : Nat) (V U : Nat → Nat → Int) (D : Nat → PrimD) (m : Nat) : Int := if 64 < n1 ∨ 64 < n2 ∨ 16 < m then 4 else if MayM n1 n2 V U D m then 0 else 40
section
variable {n1 n2 : Nat} {V U : Nat → Nat → Int} {D : Nat → PrimD} {m : Nat}
theorem chkM_many (h : 64 < n1 ∨ 64 < n2 ∨ 16 < m) : chkM n1 n2 V U D m = 4 := by unfold chkM; rw [if_pos h]
theorem chkM_bad (h : ¬ (64 < n1 ∨ 64 < n2 ∨ 16 < m)) (k : ¬ MayM n1 n2 V U D m) : chkM n1 n2 V U D m = 40 := by unfold chkM; rw [if_neg h, if_neg k]
theorem chkM_ok (h : ¬ (64 < n1 ∨ 64 < n2 ∨ 16 < m)) (k : MayM n1 n2 V U D m) : chkM n1 n2 V U D m = 0 := by unfold chkM; rw [if_neg h, if_pos k]
theorem chkM_zero (h : chkM n1 n2 V U D m = 0) : (n1 ≤ 64 ∧ n2 ≤ 64 ∧ m ≤ 16) ∧ MayM n1 n2 V U D m := by
  unfold chkM at h
  split at h
  · exact absurd h (by decide)
  · split at h
    · exact ⟨by omega, by assumption⟩
    · exact absurd h (by decide)
end

set_option maxRecDepth 100000 in
set_option maxHeartbeats 2000000 in
theorem check15_any (A1 A2 A3 : Option Addr) (n1 n2 m c1 c2 c3 : Nat) (V U : Nat → Nat → Int) (D : Nat → PrimD) (w : World) (hV : Row w A1 n1 3 (fun i j => .int .i64 (V i j))) (hU : Row w A2 n2 2 (fun i j => .int .i64 (U i j))) (hp : PL w A3 m D) (hk0 : ∀ i, 0 ≤ (D i).k) :
    Calls Try.prog 15 #[.agg #[.slice A1 n1 c1, .slice A2 n2 c2, .slice A3 m c3]] w fun e w' => e = .returned (.int .i64 (chkM n1 n2 V U D m)) ∧ Below w.heap.size w w' := by
  by_cases h0 : (64 : Int) < (n1 : Int)
  · have g0 : decide ((64 : Int) < (n1 : Int)) = true := decide_eq_true h0
    rw [chkM_many (by omega)]
    clear h0
    clear hV hU hp hk0
    go_enter Try.func15, Try.ntmps15
    go_wp2
    go_ret
    exact ⟨rfl, by repeat' (first | exact Below.refl _ _ | assumption | apply Below.drew | refine Below.setCell ?_ (by first | omega | (simp; done) | (simp; omega)) _ | refine Below.alloc ?_ (by first | omega | (simp; done) | (simp; omega)) _)⟩
  have g0 : decide ((64 : Int) < (n1 : Int)) = false := decide_eq_false h0
  by_cases h1 : (64 : Int) < (n2 : Int)
  · have g1 : decide ((64 : Int) < (n2 : Int)) = true := decide_eq_true h1
    rw [chkM_many (by omega)]
    clear h0 h1
    clear hV hU hp hk0
    go_enter Try.func15, Try.ntmps15
    go_wp2
    go_ret
    exact ⟨rfl, by repeat' (first | exact Below.refl _ _ | assumption | apply Below.drew | refine Below.setCell ?_ (by first | omega | (simp; done) | (simp; omega)) _ | refine Below.alloc ?_ (by first | omega | (simp; done) | (simp; omega)) _)⟩
  have g1 : decide ((64 : Int) < (n2 : Int)) = false := decide_eq_false h1
  by_cases h2 : (16 : Int) < (m : Int)
  · have g2 : decide ((16 : Int) < (m : Int)) = true := decide_eq_true h2
    rw [chkM_many (by omega)]
    clear h0 h1 h2
    clear hV hU hp hk0
    go_enter Try.func15, Try.ntmps15
    go_wp2
    go_ret
    exact ⟨rfl, by repeat' (first | exact Below.refl _ _ | assumption | apply Below.drew | refine Below.setCell ?_ (by first | omega | (simp; done) | (simp; omega)) _ | refine Below.alloc ?_ (by first | omega | (simp; done) | (simp; omega)) _)⟩
  have g2 : decide ((16 : Int) < (m : Int)) = false := decide_eq_false h2
  have hnm : ¬ (64 < n1 ∨ 64 < n2 ∨ 16 < m) := by omega
  have m16 : (m : Int) ≤ 16 := by omega
  have Hnm := Lib.hid hnm
  by_cases hne : n2 = n1
  rotate_left
  · have g3 : ((n2 : Int) != (n1 : Int)) = true := by simp; omega
    rw [chkM_bad hnm (fun h => hne h.1)]
    clear h0 h1 h2 hnm hV hU hp hk0
    go_enter Try.func15, Try.ntmps15
    go_wp2
    go_ret
    exact ⟨rfl, by repeat' (first | exact Below.refl _ _ | assumption | apply Below.drew | refine Below.setCell ?_ (by first | omega | (simp; done) | (simp; omega)) _ | refine Below.alloc ?_ (by first | omega | (simp; done) | (simp; omega)) _)⟩
  have g3 : ((n2 : Int) != (n1 : Int)) = false := by simp; omega
  have Hne := Lib.hid hne
  have hv := Lib.hid (fun W (h : Below w.heap.size w W) => verts_any A1 n1 c1 V W (hV.below h) (by omega) (fun i => !okV (V i 0) (V i 1) (V i 2)) (fun i _ W' _ => vert_any _ _ _ W'))
  have hu := Lib.hid (fun W (h : Below w.heap.size w W) => uvs_any A2 n2 c2 U W (hU.below h) (by omega) (fun i => !okU (U i 0) (U i 1)) (fun i _ W' _ => uv_any _ _ W'))
  have ht := Lib.hid (fun W (h : Below w.heap.size w W) => tris30_any A1 A2 A3 n1 n2 m c1 c2 c3 D W (hp.below h) m16 hk0)
  clear h0 h1 h2 hnm hV hU hp hk0 hne
  go_enter Try.func15, Try.ntmps15
  go_wp2_with fail
  refine (hv.out _ (by repeat' (first | exact Below.refl _ _ | assumption | apply Below.drew | refine Below.setCell ?_ (by first | omega | (simp; done) | (simp; omega)) _ | refine Below.alloc ?_ (by first | omega | (simp; done) | (simp; omega)) _))).mono ?_
  rintro e w1 ⟨⟨bv, rfl, hb⟩, bel1⟩
  have BB1 : Below w.heap.size w w1 := by
    skip
    refine Below.trans ?_ (bel1.mono (by first | omega | (simp; done) | (simp; omega)))
    repeat' (first | exact Below.refl _ _ | assumption | apply Below.drew | refine Below.setCell ?_ (by first | omega | (simp; done) | (simp; omega)) _ | refine Below.alloc ?_ (by first | omega | (simp; done) | (simp; omega)) _)
  have M : Hid (HasBlk w1 (w.heap.size) 42 #[.slice A1 n1 c1, .slice A2 n2 c2, .slice A3 m c3]) := Lib.hid (by have := (hasBlk_new w 42 #[.slice A1 n1 c1, .slice A2 n2 c2, .slice A3 m c3]).below bel1; simpa using this)
  have BB1s := BB1.size
  have HBB1 := Lib.hid BB1
  clear BB1
  have Hb := Lib.hid hb
  clear hb
  have lt_M := M.out.lt
  have M_0 := M.out.cell 0
  have M_1 := M.out.cell 1
  have M_2 := M.out.cell 2
  simp at M_0 M_1 M_2
  cases bv with
  | true =>
    go_wp2
    go_ret
    refine ⟨?_, HBB1.out⟩
    exact congrArg (fun z => Ending.returned (Value.int .i64 z)) (chkM_bad Hnm.out (fun h => by
      obtain ⟨i, hi, hx⟩ := Hb.out.1 (by trivial)
      rw [h.2.1 i hi] at hx
      exact absurd hx (by decide))).symm
  | false =>
  have HV : Hid (∀ i, i < n1 → okV (V i 0) (V i 1) (V i 2) = true) := Lib.hid (fun i hi => by
    cases hx : okV (V i 0) (V i 1) (V i 2) with
    | true => rfl
    | false => exact absurd (Hb.out.2 ⟨i, hi, by rw [hx]; rfl⟩) (by decide))
  clear Hb
  go_wp2_with fail
  refine (hu.out _ HBB1.out).mono ?_
  rintro e w2 ⟨⟨bv, rfl, hb⟩, bel2⟩
  clear lt_M M_0 M_1 M_2
  have BB2 : Below w.heap.size w w2 := by
    have bel0 := HBB1.out
    refine Below.trans ?_ (bel2.mono (by first | omega | (simp; done) | (simp; omega)))
    repeat' (first | exact Below.refl _ _ | assumption | apply Below.drew | refine Below.setCell ?_ (by first | omega | (simp; done) | (simp; omega)) _ | refine Below.alloc ?_ (by first | omega | (simp; done) | (simp; omega)) _)
  have t_M : HasBlk w2 (w.heap.size) 42 #[.slice A1 n1 c1, .slice A2 n2 c2, .slice A3 m c3] := by first | exact M.out.below bel2 | exact (M.out.alloc _).below bel2 | exact ((M.out.alloc _).alloc _).below bel2 | exact (((M.out.alloc _).alloc _).alloc _).below bel2
  clear M
  have M := Lib.hid t_M
  clear t_M
  clear HBB1
  have BB2s := BB2.size
  have HBB2 := Lib.hid BB2
  clear BB2
  have Hb := Lib.hid hb
  clear hb bel1
  have lt_M := M.out.lt
  have M_0 := M.out.cell 0
  have M_1 := M.out.cell 1
  have M_2 := M.out.cell 2
  simp at M_0 M_1 M_2
  cases bv with
  | true =>
    go_wp2
    go_ret
    refine ⟨?_, HBB2.out⟩
    exact congrArg (fun z => Ending.returned (Value.int .i64 z)) (chkM_bad Hnm.out (fun h => by
      obtain ⟨i, hi, hx⟩ := Hb.out.1 (by trivial)
      rw [h.2.2.1 i hi] at hx
      exact absurd hx (by decide))).symm
  | false =>
  have HU : Hid (∀ i, i < n2 → okU (U i 0) (U i 1) = true) := Lib.hid (fun i hi => by
    cases hx : okU (U i 0) (U i 1) with
    | true => rfl
    | false => exact absurd (Hb.out.2 ⟨i, hi, by rw [hx]; rfl⟩) (by decide))
  clear Hb
  go_wp2_with fail
  refine (ht.out _ HBB2.out).mono ?_
  rintro e w3 ⟨hx, bel3⟩
  clear lt_M M_0 M_1 M_2
  have BB3 : Below w.heap.size w w3 := by
    have bel0 := HBB2.out
    refine Below.trans ?_ (bel3.mono (by first | omega | (simp; done) | (simp; omega)))
    repeat' (first | exact Below.refl _ _ | assumption | apply Below.drew | refine Below.setCell ?_ (by first | omega | (simp; done) | (simp; omega)) _ | refine Below.alloc ?_ (by first | omega | (simp; done) | (simp; omega)) _)
  have t_M : HasBlk w3 (w.heap.size) 42 #[.slice A1 n1 c1, .slice A2 n2 c2, .slice A3 m c3] := by first | exact M.out.below bel3 | exact (M.out.alloc _).below bel3 | exact ((M.out.alloc _).alloc _).below bel3 | exact (((M.out.alloc _).alloc _).alloc _).below bel3
  clear M
  have M := Lib.hid t_M
  clear t_M
  clear HBB2
  have BB3s := BB3.size
  have HBB3 := Lib.hid BB3
  clear BB3
  clear bel2
  have lt_M := M.out.lt
  have M_0 := M.out.cell 0
  have M_1 := M.out.cell 1
  have M_2 := M.out.cell 2
  simp at M_0 M_1 M_2
  rcases hx with ⟨hok, X, cx, rfl, hown⟩ | ⟨hok, rfl⟩
  · have Hok := Lib.hid hok
    clear hok hown
    go_wp2
    go_ret
    refine ⟨?_, HBB3.out⟩
    exact congrArg (fun z => Ending.returned (Value.int .i64 z)) (chkM_ok Hnm.out ⟨Hne.out, HV.out, HU.out, Hok.out⟩).symm
  · have Hok := Lib.hid hok
    clear hok
    go_wp2
    go_ret
    refine ⟨?_, HBB3.out⟩
    exact congrArg (fun z => Ending.returned (Value.int .i64 z)) (chkM_bad Hnm.out (fun h => Hok.out h.2.2.2)).symm

/-- What Tris answers. -/
def TrisM (ch : Int) (D : Nat → PrimD) (m B : Nat) (e : Ending) (w' : World) : Prop :=
  (ch = 0 ∧ ∃ X cx, e = .returned (.tuple #[.slice X (catN D m) cx, .int .i64 0]) ∧ w'.ownsRow B 36 3 (.slice X (catN D m) cx) (catN D m) (catC D m)) ∨ (ch ≠ 0 ∧ e = .returned (.tuple #[.slice none 0 0, .int .i64 ch]))
theorem own_base {w : World} {b B e s n : Nat} {v : Value} {xs : List Value} (h : w.ownsRow B e s v n xs) (hb : b ≤ B) : w.ownsRow b e s v n xs := by
  refine ⟨h.1, ?_⟩
  rcases h.2 with h | ⟨g, cap, cur, h1, h2, h3⟩
  · exact .inl h
  · exact .inr ⟨g, cap, cur, h1, Nat.le_trans hb h2, h3⟩
set_option maxRecDepth 100000 in
set_option maxHeartbeats 2000000 in
theorem tris16_any (A1 A2 A3 : Option Addr) (n1 n2 m c1 c2 c3 : Nat) (V U : Nat → Nat → Int) (D : Nat → PrimD) (w : World) (hV : Row w A1 n1 3 (fun i j => .int .i64 (V i j))) (hU : Row w A2 n2 2 (fun i j => .int .i64 (U i j))) (hp : PL w A3 m D) (hk0 : ∀ i, 0 ≤ (D i).k) :
    Calls Try.prog 16 #[.agg #[.slice A1 n1 c1, .slice A2 n2 c2, .slice A3 m c3]] w fun e w' => TrisM (chkM n1 n2 V U D m) D m w.heap.size e w' ∧ Below w.heap.size w w' := by
  have hc := Lib.hid (fun W (h : Below w.heap.size w W) => check15_any A1 A2 A3 n1 n2 m c1 c2 c3 V U D W (hV.below h) (hU.below h) (hp.below h) hk0)
  have ht := Lib.hid (fun (h16 : (m : Int) ≤ 16) W (h : Below w.heap.size w W) => tris30_any A1 A2 A3 n1 n2 m c1 c2 c3 D W (hp.below h) h16 hk0)
  clear hV hU hp hk0
  go_enter Try.func16, Try.ntmps16
  go_wp2_with fail
  refine (hc.out _ (by repeat' (first | exact Below.refl _ _ | assumption | apply Below.drew | refine Below.setCell ?_ (by first | omega | (simp; done) | (simp; omega)) _ | refine Below.alloc ?_ (by first | omega | (simp; done) | (simp; omega)) _))).mono ?_
  rintro e w1 ⟨rfl, bel1⟩
  have BB1 : Below w.heap.size w w1 := by
    skip
    refine Below.trans ?_ (bel1.mono (by first | omega | (simp; done) | (simp; omega)))
    repeat' (first | exact Below.refl _ _ | assumption | apply Below.drew | refine Below.setCell ?_ (by first | omega | (simp; done) | (simp; omega)) _ | refine Below.alloc ?_ (by first | omega | (simp; done) | (simp; omega)) _)
  have M : Hid (HasBlk w1 (w.heap.size) 42 #[.slice A1 n1 c1, .slice A2 n2 c2, .slice A3 m c3]) := Lib.hid (by have := (hasBlk_new w 42 #[.slice A1 n1 c1, .slice A2 n2 c2, .slice A3 m c3]).below bel1; simpa using this)
  have BB1s := BB1.size
  have HBB1 := Lib.hid BB1
  clear BB1
  have lt_M := M.out.lt
  have M_0 := M.out.cell 0
  have M_1 := M.out.cell 1
  have M_2 := M.out.cell 2
  simp at M_0 M_1 M_2
  by_cases h0 : chkM n1 n2 V U D m = 0
  rotate_left
  · have g0 : (chkM n1 n2 V U D m != 0) = true := by simpa using h0
    have H0 := Lib.hid h0
    clear h0
    go_wp2
    go_ret2
    exact ⟨.inr ⟨H0.out, rfl⟩, HBB1.out⟩
  have H0 := Lib.hid h0
  obtain ⟨⟨_, _, h16⟩, hmay⟩ := chkM_zero h0
  have Hmay := Lib.hid hmay
  have g0 : (chkM n1 n2 V U D m != 0) = false := by simpa using h0
  clear h0 hmay
  go_wp2_with fail
  refine (ht.out (by omega) _ HBB1.out).mono ?_
  rintro e w2 ⟨hx, bel2⟩
  clear lt_M M_0 M_1 M_2
  have BB2 : Below w.heap.size w w2 := by
    have bel0 := HBB1.out
    refine Below.trans ?_ (bel2.mono (by first | omega | (simp; done) | (simp; omega)))
    repeat' (first | exact Below.refl _ _ | assumption | apply Below.drew | refine Below.setCell ?_ (by first | omega | (simp; done) | (simp; omega)) _ | refine Below.alloc ?_ (by first | omega | (simp; done) | (simp; omega)) _)
  have t_M : HasBlk w2 (w.heap.size) 42 #[.slice A1 n1 c1, .slice A2 n2 c2, .slice A3 m c3] := by first | exact M.out.below bel2 | exact (M.out.alloc _).below bel2 | exact ((M.out.alloc _).alloc _).below bel2 | exact (((M.out.alloc _).alloc _).alloc _).below bel2
  clear M
  have M := Lib.hid t_M
  clear t_M
  clear HBB1
  have BB2s := BB2.size
  have HBB2 := Lib.hid BB2
  clear BB2
  have z12 := bel2.size
  clear bel1
  have lt_M := M.out.lt
  have M_0 := M.out.cell 0
  have M_1 := M.out.cell 1
  have M_2 := M.out.cell 2
  simp at M_0 M_1 M_2
  rcases hx with ⟨hok, X, cx, rfl, hown⟩ | ⟨hok, rfl⟩
  · have Hown := Lib.hid (own_base (b := w.heap.size) hown (by omega))
    clear hok hown
    go_wp2
    go_ret2
    exact ⟨.inl ⟨H0.out, X, cx, rfl, Hown.out⟩, HBB2.out⟩
  · exact absurd Hmay.out.2.2.2 hok
end Go.Proofs.Ytkclkillphafkaa
