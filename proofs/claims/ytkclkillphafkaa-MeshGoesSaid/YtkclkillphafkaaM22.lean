/- mesh: the reference's Check, Tris; Same. -/
import Derived.Test.YtkclkillphafkaaM21
import Derived.Test.YtkclkillphafkaaCb
namespace Go.Proofs.Ytkclkillphafkaa
open Go.RowKit
set_option linter.unusedVariables false
theorem ret_int {k : IntKind} {a b : Int} (h : a = b) : Ending.returned (.int k a) = .returned (.int k b) := by rw [h]

set_option maxRecDepth 100000 in
set_option maxHeartbeats 2000000 in
theorem check21_any (A1 A2 A3 : Option Addr) (n1 n2 m c1 c2 c3 : Nat) (V U : Nat → Nat → Int) (D : Nat → PrimD) (w : World) (hV : Row w A1 n1 3 (fun i j => .int .i64 (V i j))) (hU : Row w A2 n2 2 (fun i j => .int .i64 (U i j))) (hp : PL w A3 m D) (hk0 : ∀ i, 0 ≤ (D i).k) :
    Calls Try.prog 21 #[.agg #[.slice A1 n1 c1, .slice A2 n2 c2, .slice A3 m c3]] w fun e w' => e = .returned (.int .i64 (chkM n1 n2 V U D m)) ∧ Below w.heap.size w w' := by
  by_cases h0 : (64 : Int) < (n1 : Int)
  · have g0 : decide ((64 : Int) < (n1 : Int)) = true := decide_eq_true h0
    rw [chkM_many (by omega)]
    clear h0
    clear hV hU hp hk0
    go_enter Try.func21, Try.ntmps21
    go_wp2
    go_ret
    exact ⟨rfl, by repeat' (first | exact Below.refl _ _ | assumption | apply Below.drew | refine Below.setCell ?_ (by first | omega | (simp; done) | (simp; omega)) _ | refine Below.alloc ?_ (by first | omega | (simp; done) | (simp; omega)) _)⟩
  have g0 : decide ((64 : Int) < (n1 : Int)) = false := decide_eq_false h0
  by_cases h1 : (64 : Int) < (n2 : Int)
  · have g1 : decide ((64 : Int) < (n2 : Int)) = true := decide_eq_true h1
    rw [chkM_many (by omega)]
    clear h0 h1
    clear hV hU hp hk0
    go_enter Try.func21, Try.ntmps21
    go_wp2
    go_ret
    exact ⟨rfl, by repeat' (first | exact Below.refl _ _ | assumption | apply Below.drew | refine Below.setCell ?_ (by first | omega | (simp; done) | (simp; omega)) _ | refine Below.alloc ?_ (by first | omega | (simp; done) | (simp; omega)) _)⟩
  have g1 : decide ((64 : Int) < (n2 : Int)) = false := decide_eq_false h1
  by_cases h2 : (16 : Int) < (m : Int)
  · have g2 : decide ((16 : Int) < (m : Int)) = true := decide_eq_true h2
    rw [chkM_many (by omega)]
    clear h0 h1 h2
    clear hV hU hp hk0
    go_enter Try.func21, Try.ntmps21
    go_wp2
    go_ret
    exact ⟨rfl, by repeat' (first | exact Below.refl _ _ | assumption | apply Below.drew | refine Below.setCell ?_ (by first | omega | (simp; done) | (simp; omega)) _ | refine Below.alloc ?_ (by first | omega | (simp; done) | (simp; omega)) _)⟩
  have g2 : decide ((16 : Int) < (m : Int)) = false := decide_eq_false h2
  have hnm : ¬ (64 < n1 ∨ 64 < n2 ∨ 16 < m) := by omega
  have Hnm := Lib.hid hnm
  have hc := Lib.hid (fun W (h : Below w.heap.size w W) => may35_any A1 A2 A3 n1 n2 m c1 c2 c3 V U D W (hV.below h) (hU.below h) (hp.below h) (by omega) (by omega) hk0)
  clear h0 h1 h2 hnm hV hU hp hk0
  go_enter Try.func21, Try.ntmps21
  go_wp2_with fail
  refine (hc.out _ (by repeat' (first | exact Below.refl _ _ | assumption | apply Below.drew | refine Below.setCell ?_ (by first | omega | (simp; done) | (simp; omega)) _ | refine Below.alloc ?_ (by first | omega | (simp; done) | (simp; omega)) _))).mono ?_
  rintro e w1 ⟨rfl, bel1⟩
  have bel : Below w.heap.size w w1 := ((Below.refl _ _).alloc (Nat.le_refl _) _).trans (bel1.mono (by simp))
  by_cases hmay : MayM n1 n2 V U D m
  · have g3 := mayMB_yes hmay
    have Hm := Lib.hid hmay
    clear hmay
    go_wp2
    go_ret
    exact ⟨ret_int (chkM_ok Hnm.out Hm.out).symm, bel⟩
  · have g3 := mayMB_no hmay
    have Hm := Lib.hid hmay
    clear hmay
    go_wp2
    go_ret
    exact ⟨ret_int (chkM_bad Hnm.out Hm.out).symm, bel⟩

set_option maxRecDepth 100000 in
set_option maxHeartbeats 2000000 in
theorem tris19_any (A1 A2 A3 : Option Addr) (n1 n2 m c1 c2 c3 : Nat) (V U : Nat → Nat → Int) (D : Nat → PrimD) (w : World) (hV : Row w A1 n1 3 (fun i j => .int .i64 (V i j))) (hU : Row w A2 n2 2 (fun i j => .int .i64 (U i j))) (hp : PL w A3 m D) (hk0 : ∀ i, 0 ≤ (D i).k) :
    Calls Try.prog 19 #[.agg #[.slice A1 n1 c1, .slice A2 n2 c2, .slice A3 m c3]] w fun e w' => TrisM (chkM n1 n2 V U D m) D m w.heap.size e w' ∧ Below w.heap.size w w' := by
  have hc := Lib.hid (fun W (h : Below w.heap.size w W) => check21_any A1 A2 A3 n1 n2 m c1 c2 c3 V U D W (hV.below h) (hU.below h) (hp.below h) hk0)
  have hbx : Below w.heap.size w (w.alloc (.cells #[.slice A1 n1 c1, .slice A2 n2 c2, .slice A3 m c3] 42)) := (Below.refl _ _).alloc (Nat.le_refl _) _
  have hbk := hasBlk_new w 42 #[.slice A1 n1 c1, .slice A2 n2 c2, .slice A3 m c3]
  have HP := Lib.hid hp
  have HK := Lib.hid hk0
  have HBx := Lib.hid (And.intro hbx hbk)
  clear hV hU hp hk0 hbx hbk
  go_enter Try.func19, Try.ntmps19
  go_wp2_with fail
  refine (hc.out _ HBx.out.1).mono ?_
  rintro e w1 ⟨rfl, bel1⟩
  have hb1 := HBx.out.1.trans (bel1.mono HBx.out.1.size)
  have hM := HBx.out.2.below bel1
  have HB1 := Lib.hid hb1
  have z1 := hb1.size
  have M_0 := hM.cell 0
  have M_1 := hM.cell 1
  have M_2 := hM.cell 2
  simp at M_0 M_1 M_2
  clear bel1 hb1 hM hc
  by_cases h0 : chkM n1 n2 V U D m = 0
  rotate_left
  · have g0 : (chkM n1 n2 V U D m != 0) = true := by simpa using h0
    have H0 := Lib.hid h0
    clear h0
    go_wp2
    go_ret2
    exact ⟨.inr ⟨H0.out, rfl⟩, HB1.out⟩
  have H0 := Lib.hid h0
  obtain ⟨⟨n164, _, h16⟩, hmay⟩ := chkM_zero h0
  have Hmay := Lib.hid hmay
  have g0 : (chkM n1 n2 V U D m != 0) = false := by simpa using h0
  clear h0 hmay
  go_wp2_with fail
  refine (all31_any A1 A2 A3 n1 n2 m c1 c2 c3 D _ (HP.out.below HB1.out) (by omega) (by omega) HK.out).mono ?_
  rintro e w2 ⟨hx, bel2⟩
  have HB2 := Lib.hid (HB1.out.trans (bel2.mono z1))
  clear M_0 M_1 M_2 bel2
  rcases hx with ⟨hok, X, cx, rfl, hown⟩ | ⟨hok, rfl⟩
  · have Hown := Lib.hid (own_base (b := w.heap.size) hown z1)
    clear hok hown
    go_wp2
    go_ret2
    exact ⟨.inl ⟨H0.out, X, cx, rfl, Hown.out⟩, HB2.out⟩
  · exact absurd Hmay.out.2.2.2.1 hok

/-- Two primitives are the same. -/
def SameP (d e : PrimD) : Prop := d.k = e.k ∧ d.n = e.n ∧ ∀ j, j < d.n → d.l j = e.l j
def SamePs (m l : Nat) (D E : Nat → PrimD) : Prop := m = l ∧ ∀ i, i < m → SameP (D i) (E i)
def SameV (s n m : Nat) (V W : Nat → Nat → Int) : Prop := n = m ∧ ∀ i, i < n → ∀ j, j < s → V i j = W i j
/-- Two meshes are the same. -/
def SameM (n1 n2 m : Nat) (V U : Nat → Nat → Int) (D : Nat → PrimD) (m1 m2 l : Nat) (V2 U2 : Nat → Nat → Int) (E : Nat → PrimD) : Prop := SameV 3 n1 m1 V V2 ∧ SameV 2 n2 m2 U U2 ∧ SamePs m l D E
theorem sameV3 {n m : Nat} {V W : Nat → Nat → Int} : (n = m ∧ ∀ k, k < n → V k 0 = W k 0 ∧ V k 1 = W k 1 ∧ V k 2 = W k 2) ↔ SameV 3 n m V W := by
  refine and_congr Iff.rfl ⟨fun h i hi j hj => ?_, fun h k hk => ⟨h k hk 0 (by omega), h k hk 1 (by omega), h k hk 2 (by omega)⟩⟩
  obtain ⟨a, b, c⟩ := h i hi
  match j, hj with
  | 0, _ => exact a
  | 1, _ => exact b
  | 2, _ => exact c
theorem sameV2 {n m : Nat} {V W : Nat → Nat → Int} : (n = m ∧ ∀ k, k < n → V k 0 = W k 0 ∧ V k 1 = W k 1) ↔ SameV 2 n m V W := by
  refine and_congr Iff.rfl ⟨fun h i hi j hj => ?_, fun h k hk => ⟨h k hk 0 (by omega), h k hk 1 (by omega)⟩⟩
  obtain ⟨a, b⟩ := h i hi
  match j, hj with
  | 0, _ => exact a
  | 1, _ => exact b
theorem eqr_cb {p q : Prop} {P : Program} {f : Nat} {a : Array Value} {w : World} {Q : World → Prop} (h : Calls P f a w fun e w' => EqR p e ∧ Q w') (hq : p ↔ q) : Calls P f a w fun e w' => e = .returned (.bool (cB q)) ∧ Q w' :=
  h.mono fun e w' ⟨⟨b, he, hb⟩, k⟩ => ⟨by rw [he, cB_eq (hb.trans hq)], k⟩
theorem eqvecs_cb (A B : Option Addr) (n m c d : Nat) (F G : Nat → Nat → Int) (w : World) (hA : Row w A n 3 (fun i j => .int .i64 (F i j))) (hB : Row w B m 3 (fun i j => .int .i64 (G i j))) (hn : (n : Int) ≤ 9223372036854775807) :
    Calls Try.prog 38 #[.slice A n c, .slice B m d] w fun e w' => e = .returned (.bool (cB (SameV 3 n m F G))) ∧ Below w.heap.size w w' := eqr_cb (eqvecs A B n m c d F G w hA hB hn) sameV3
theorem equvs_cb (A B : Option Addr) (n m c d : Nat) (F G : Nat → Nat → Int) (w : World) (hA : Row w A n 2 (fun i j => .int .i64 (F i j))) (hB : Row w B m 2 (fun i j => .int .i64 (G i j))) (hn : (n : Int) ≤ 9223372036854775807) :
    Calls Try.prog 39 #[.slice A n c, .slice B m d] w fun e w' => e = .returned (.bool (cB (SameV 2 n m F G))) ∧ Below w.heap.size w w' := eqr_cb (equvs A B n m c d F G w hA hB hn) sameV2
def SameI (n m : Nat) (f g : Nat → Int) : Prop := n = m ∧ ∀ j, j < n → f j = g j
theorem eqints_cb (A B : Option Addr) (n m c d : Nat) (f g : Nat → Int) (w : World) (hA : IS w A n f) (hB : IS w B m g) (hn : (n : Int) ≤ 9223372036854775807) :
    Calls Try.prog 37 #[.slice A n c, .slice B m d] w fun e w' => e = .returned (.bool (cB (SameI n m f g))) ∧ Below w.heap.size w w' := eqr_cb (eqints A B n m c d (fun i _ => f i) (fun i _ => g i) w (is_row hA) (is_row hB) hn) Iff.rfl
theorem numbers_cb (A B : Option Addr) (n m c d : Nat) (f g : Nat → Int) (w : World) (hA : IS w A n f) (hB : IS w B m g) (hn : (n : Int) ≤ 9223372036854775807) :
    Calls Try.prog 12 #[.slice A n c, .slice B m d] w fun e w' => e = .returned (.bool (cB (SameI n m f g))) ∧ Below w.heap.size w w' := eqr_cb (numbers A B n m c d (fun i _ => f i) (fun i _ => g i) w (is_row hA) (is_row hB) hn) Iff.rfl

set_option maxRecDepth 100000 in
set_option maxHeartbeats 2000000 in
theorem samep_any (d f : PrimD) (w : World) (hd : IS w d.a d.n d.l) (hf : IS w f.a f.n f.l) (hn : (d.n : Int) ≤ 9223372036854775807) :
    Calls Try.prog 36 #[.agg #[.int .u8 d.k, .slice d.a d.n d.c], .agg #[.int .u8 f.k, .slice f.a f.n f.c]] w fun e w' => e = .returned (.bool (cB (SameP d f))) ∧ Below w.heap.size w w' := by
  have hq := Lib.hid (fun W (hb : Below w.heap.size w W) => eqints_cb d.a f.a d.n f.n d.c f.c d.l f.l W (hd.below hb) (hf.below hb) hn)
  clear hd hf
  by_cases hk : d.k = f.k
  · have g0 : (d.k == f.k) = true := by simpa using hk
    have Hk := Lib.hid hk
    clear hk
    go_enter Try.func36, Try.ntmps36
    go_wp2_with fail
    refine (hq.out _ (by repeat' (first | exact Below.refl _ _ | assumption | apply Below.drew | refine Below.setCell ?_ (by first | omega | (simp; done) | (simp; omega)) _ | refine Below.alloc ?_ (by first | omega | (simp; done) | (simp; omega)) _))).mono ?_
    rintro e w1 ⟨rfl, bel1⟩
    go_wp2
    go_ret
    refine ⟨ret_bool (cB_congr ⟨fun h => ⟨Hk.out, h⟩, fun h => h.2⟩), Below.trans ?_ (bel1.mono (by simp; omega))⟩
    repeat' (first | exact Below.refl _ _ | assumption | apply Below.drew | refine Below.setCell ?_ (by first | omega | (simp; done) | (simp; omega)) _ | refine Below.alloc ?_ (by first | omega | (simp; done) | (simp; omega)) _)
  · have g0 : (d.k == f.k) = false := by simpa using hk
    have Hk := Lib.hid hk
    clear hk
    go_enter Try.func36, Try.ntmps36
    go_wp2
    go_ret
    refine ⟨ret_bool (cB_no fun h => Hk.out h.1).symm, ?_⟩
    repeat' (first | exact Below.refl _ _ | assumption | apply Below.drew | refine Below.setCell ?_ (by first | omega | (simp; done) | (simp; omega)) _ | refine Below.alloc ?_ (by first | omega | (simp; done) | (simp; omega)) _)

set_option maxRecDepth 100000 in
set_option maxHeartbeats 4000000 in
theorem sameps_any (A B : Option Addr) (m l c e : Nat) (D F : Nat → PrimD) (w : World) (hA : PL w A m D) (hB : PL w B l F) (hm : (m : Int) ≤ 9223372036854775807) (hn : ∀ i, i < m → ((D i).n : Int) ≤ 9223372036854775807) :
    Calls Try.prog 40 #[.slice A m c, .slice B l e, .func (.func 36) #[] #[]] w fun e w' => e = .returned (.bool (cB (SamePs m l D F))) ∧ Below w.heap.size w w' := by
  by_cases hml : m = l
  rotate_left
  · have g0 : ((m : Int) != (l : Int)) = true := by simp; omega
    have Hml := Lib.hid hml
    clear hA hB hml
    go_enter Try.func40, Try.ntmps40
    go_wp2
    go_ret
    exact ⟨ret_bool (cB_no fun h => Hml.out h.1).symm, Below.refl _ _⟩
  subst hml
  have HA := Lib.hid hA
  have HB := Lib.hid hB
  have HN := Lib.hid hn
  clear hA hB hn
  go_enter Try.func40, Try.ntmps40
  go_wp2
  go_loopw [17] (fun i wr => ∃ k : Nat, k ≤ m ∧ i = .int .i64 k ∧ Below w.heap.size w wr ∧ ∀ i, i < k → SameP (D i) (F i)) (fun i wr => m - (intOf i).toNat)
  case atStart => exact ⟨0, Nat.zero_le _, rfl, Below.refl _ _, fun i hi => absurd hi (by omega)⟩
  case round =>
    obtain ⟨k, hk, rfl, hbel, hall⟩ := hrel
    have Hall := Lib.hid hall
    have Hbel := Lib.hid hbel
    have zb := hbel.size
    clear hall
    by_cases hkm : k < m
    · obtain ⟨b, o, rfl, hb, hc, hi⟩ := HA.out (by omega)
      obtain ⟨b', o', rfl, hb', hc', hi'⟩ := HB.out (by omega)
      have c0 := (hbel.cell (p := ⟨b, o + k * 2, none⟩) hb).trans (hc k hkm).1
      have c1 := (hbel.cell (p := ⟨b, o + k * 2 + 1, none⟩) hb).trans (hc k hkm).2
      have d0 := (hbel.cell (p := ⟨b', o' + k * 2, none⟩) hb').trans (hc' k hkm).1
      have d1 := (hbel.cell (p := ⟨b', o' + k * 2 + 1, none⟩) hb').trans (hc' k hkm).2
      have hi0 : (0 : Int) ≤ (k : Int) := by omega
      have hi1 : (k : Int) < (m : Int) := by omega
      have hsp := Lib.hid (fun W (h : Below wr.heap.size wr W) => samep_any (D k) (F k) W ((hi k hkm).below (hbel.trans (h.mono zb))) ((hi' k hkm).below (hbel.trans (h.mono zb))) (HN.out k hkm))
      have ltb : b < wr.heap.size := by omega
      have ltb' : b' < wr.heap.size := by omega
      clear hc hc' hi hi' hbel
      go_wp2_with fail
      refine (hsp.out _ (by repeat' (first | exact Below.refl _ _ | assumption | apply Below.drew | refine Below.setCell ?_ (by first | omega | (simp; done) | (simp; omega)) _ | refine Below.alloc ?_ (by first | omega | (simp; done) | (simp; omega)) _))).mono ?_
      rintro e w1 ⟨rfl, bel1⟩
      have hB1 : Below wr.heap.size wr w1 := Below.trans (by repeat' (first | exact Below.refl _ _ | assumption | apply Below.drew | refine Below.setCell ?_ (by first | omega | (simp; done) | (simp; omega)) _ | refine Below.alloc ?_ (by first | omega | (simp; done) | (simp; omega)) _)) (bel1.mono (by simp; omega))
      have HB1 := Lib.hid (Hbel.out.trans (hB1.mono zb))
      clear bel1 hB1 c0 c1 d0 d1
      by_cases hs : SameP (D k) (F k)
      · have g0 := cB_yes hs
        have Hs := Lib.hid hs
        clear hs
        go_wp2
        go_roundw
        case rel =>
          refine ⟨k + 1, by omega, by go_num, HB1.out, fun i hi => ?_⟩
          rcases Nat.lt_or_ge i k with h | h
          · exact Hall.out i h
          · obtain rfl : i = k := by omega
            exact Hs.out
        case measure => simp [intOf]; omega
      · have g0 := cB_no hs
        have Hs := Lib.hid hs
        clear hs
        go_wp2
        go_ret
        exact ⟨ret_bool (cB_no fun h => Hs.out (h.2 k hkm)).symm, HB1.out⟩
    · obtain rfl : k = m := by omega
      clear hbel
      go_wp2
      go_ret
      exact ⟨ret_bool (cB_yes ⟨by trivial, Hall.out⟩).symm, Hbel.out⟩

set_option maxRecDepth 100000 in
set_option maxHeartbeats 4000000 in
theorem same22_any (A1 A2 A3 : Option Addr) (n1 n2 m c1 c2 c3 : Nat) (V U : Nat → Nat → Int) (D : Nat → PrimD) (E1 E2 E3 : Option Addr) (m1 m2 l e1 e2 e3 : Nat) (V2 U2 : Nat → Nat → Int) (F : Nat → PrimD) (w : World) (hV : Row w A1 n1 3 (fun i j => .int .i64 (V i j))) (hU : Row w A2 n2 2 (fun i j => .int .i64 (U i j))) (hp : PL w A3 m D) (hV2 : Row w E1 m1 3 (fun i j => .int .i64 (V2 i j))) (hU2 : Row w E2 m2 2 (fun i j => .int .i64 (U2 i j))) (hp2 : PL w E3 l F) (hfit : n1 ≤ 1000 ∧ n2 ≤ 1000 ∧ m ≤ 100) (hn : ∀ i, i < m → (D i).n ≤ 1000) :
    Calls Try.prog 22 #[.agg #[.slice A1 n1 c1, .slice A2 n2 c2, .slice A3 m c3], .agg #[.slice E1 m1 e1, .slice E2 m2 e2, .slice E3 l e3]] w fun e w' => e = .returned (.bool (cB (SameM n1 n2 m V U D m1 m2 l V2 U2 F))) ∧ Below w.heap.size w w' := by
  obtain ⟨hf1, hf2, hf3⟩ := hfit
  have h1 := Lib.hid (fun W (h : Below w.heap.size w W) => eqvecs_cb A1 E1 n1 m1 c1 e1 V V2 W (hV.below h) (hV2.below h) (by omega))
  have h2 := Lib.hid (fun W (h : Below w.heap.size w W) => equvs_cb A2 E2 n2 m2 c2 e2 U U2 W (hU.below h) (hU2.below h) (by omega))
  have h3 := Lib.hid (fun W (h : Below w.heap.size w W) => sameps_any A3 E3 m l c3 e3 D F W (hp.below h) (hp2.below h) (by omega) (fun i hi => by have := hn i hi; omega))
  have bx : Below w.heap.size w ((w.alloc (.cells #[.slice A1 n1 c1, .slice A2 n2 c2, .slice A3 m c3] 42)).alloc (.cells #[.slice E1 m1 e1, .slice E2 m2 e2, .slice E3 l e3] 42)) := by
    repeat' (first | exact Below.refl _ _ | assumption | apply Below.drew | refine Below.setCell ?_ (by first | omega | (simp; done) | (simp; omega)) _ | refine Below.alloc ?_ (by first | omega | (simp; done) | (simp; omega)) _)
  have pb := (hasBlk_new w 42 #[.slice A1 n1 c1, .slice A2 n2 c2, .slice A3 m c3]).alloc (.cells #[.slice E1 m1 e1, .slice E2 m2 e2, .slice E3 l e3] 42)
  have qb := hasBlk_new (w.alloc (.cells #[.slice A1 n1 c1, .slice A2 n2 c2, .slice A3 m c3] 42)) 42 #[.slice E1 m1 e1, .slice E2 m2 e2, .slice E3 l e3]
  have HBx := Lib.hid (And.intro bx (And.intro pb qb))
  clear hV hU hp hV2 hU2 hp2 hn bx pb qb
  go_enter Try.func22, Try.ntmps22
  go_wp2_with fail
  refine (h1.out _ HBx.out.1).mono ?_
  rintro e w1 ⟨rfl, bel1⟩
  have HB1 := Lib.hid (HBx.out.1.trans (bel1.mono HBx.out.1.size))
  have p1 := HBx.out.2.1.below bel1
  have q1 := HBx.out.2.2.below bel1
  have HX1 := Lib.hid (And.intro p1 q1)
  have pc1 := p1.cell 1
  have qc1 := q1.cell 1
  simp at pc1 qc1
  clear bel1 p1 q1
  by_cases s1 : SameV 3 n1 m1 V V2
  rotate_left
  · have g0 := cB_no s1
    have Hs := Lib.hid s1
    clear s1
    go_wp2
    go_ret
    exact ⟨ret_bool (cB_no fun h => Hs.out h.1).symm, HB1.out⟩
  have g0 := cB_yes s1
  have Hs1 := Lib.hid s1
  clear s1
  go_wp2_with fail
  refine (h2.out _ HB1.out).mono ?_
  rintro e w2 ⟨rfl, bel2⟩
  have HB2 := Lib.hid (HB1.out.trans (bel2.mono HB1.out.size))
  have p2 := HX1.out.1.below bel2
  have q2 := HX1.out.2.below bel2
  have pc2 := p2.cell 2
  have qc2 := q2.cell 2
  simp at pc2 qc2
  clear bel2 p2 q2 pc1 qc1
  by_cases s2 : SameV 2 n2 m2 U U2
  rotate_left
  · have g1 := cB_no s2
    have Hs := Lib.hid s2
    clear s2
    go_wp2
    go_ret
    exact ⟨ret_bool (cB_no fun h => Hs.out h.2.1).symm, HB2.out⟩
  have g1 := cB_yes s2
  have Hs2 := Lib.hid s2
  clear s2
  go_wp2_with fail
  refine (h3.out _ HB2.out).mono ?_
  rintro e w3 ⟨rfl, bel3⟩
  have HB3 := Lib.hid (HB2.out.trans (bel3.mono HB2.out.size))
  clear bel3 pc2 qc2
  go_wp2
  go_ret
  exact ⟨ret_bool (cB_congr ⟨fun h => ⟨Hs1.out, Hs2.out, h⟩, fun h => h.2.2⟩), HB3.out⟩
end Go.Proofs.Ytkclkillphafkaa
