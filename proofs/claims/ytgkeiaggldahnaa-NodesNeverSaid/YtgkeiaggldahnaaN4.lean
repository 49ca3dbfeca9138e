/- nodes: asked, Kids, Reaches. -/
import Derived.Test.YtgkeiaggldahnaaN3
import Derived.Test.YtgkeiaggldahnaaCb
namespace Go.Proofs.Ytgkeiaggldahnaa
open Go.RowKit
set_option linter.unusedVariables false
theorem hdl_info : (Try.prog.info? 29).map (fun i => (i.zero, i.size, i.bytes)) = some (some (.agg #[.int .i64 0, .int .i64 0]), 2, 16) := by kernel_rfl

set_option maxRecDepth 100000 in
set_option maxHeartbeats 1000000 in
theorem cloneHd (A : Option Addr) (n c : Nat) (F : Nat → Nat → Value) (w : World) (hA : Row w A n 2 F) (h1 : ∀ i j, (F i j).oneCell' = true) (hn : (n : Int) ≤ 1000000) :
    Calls Try.prog 38 #[.slice A n c] w fun e w' => OwnR 29 2 n F w.heap.size e w' ∧ Below w.heap.size w w' := by
  have hnil := fun W => Lib.run_eql_slice_nil (P := Try.prog) W 32 29 A n c 0 0 Try.underlying32
  cases A with
  | none =>
    have hn0 : n = 0 := by
      rcases Nat.eq_zero_or_pos n with h | h
      · exact h
      · obtain ⟨g, off, e, _⟩ := hA h
        cases e
    subst hn0
    clear hA
    simp only [Option.isNone_none] at hnil
    go_enter Try.func38, Try.ntmps38
    go_wp2
    go_ret
    exact ⟨⟨none, 0, rfl, own_nil _ _ _ _⟩, Below.refl _ _⟩
  | some ad =>
    simp only [Option.isNone_some] at hnil
    have HA := Lib.hid hA
    have H1 := Lib.hid (cellsR_one (s := 2) h1 n)
    have HL := Lib.hid (cellsR_len 2 F n)
    obtain ⟨i0, hi0, hz0, hz1, hz2⟩ := info_parts hdl_info
    have hlit : (w.alloc (.cells #[] 29)).ownsRow w.heap.size 29 2 (.slice (some ⟨w.heap.size, 0, none⟩) 0 0) 0 [] := World.ownsRow_lit w #[] 0 (Nat.le_refl _) (Nat.zero_le _) rfl
    clear hA h1
    go_enter Try.func38, Try.ntmps38
    go_wp2_with (at_builtin; refine wpList_app rfl (.tmp 5) (.tmp 6) 32 rfl w.heap.size 29 i0 _ 2 16 Try.underlying32 hi0 hz0 hz1 hz2 rfl (by omega) (some ⟨w.heap.size, 0, none⟩) 0 0 [] rfl hlit (some ad) n c (cellsR 2 F n) rfl HL.out ((Row.below HA.out (by repeat' (first | exact Below.refl _ _ | assumption | apply Below.drew | refine Below.setCell ?_ (by first | omega | (simp; done) | (simp; omega)) _ | refine Below.alloc ?_ (by first | omega | (simp; done) | (simp; omega)) _))).news (by omega)) H1.out (by unfold maxLen; omega) (by omega) (by simp) ?_; intro A1 c1 w1 hown1 hgr1; simp only [Nat.zero_add, List.nil_append] at hown1 ⊢)
    have bel := below_grown (a := w) (B := w.heap.size) (by repeat' (first | exact Below.refl _ _ | assumption | apply Below.drew | refine Below.setCell ?_ (by first | omega | (simp; done) | (simp; omega)) _ | refine Below.alloc ?_ (by first | omega | (simp; done) | (simp; omega)) _)) hgr1 hlit (Nat.le_refl _) (by simp)
    have Hown := Lib.hid hown1
    clear hown1 hgr1 hlit
    go_wp2
    go_ret
    exact ⟨⟨A1, c1, rfl, Hown.out⟩, bel⟩

open Classical in
/-- The error of a graph and of handles that are held, or not. -/
noncomputable def askv (d : GD) (H : Prop) : Int := if d.May then (if H then 0 else 50) else 8
theorem askv_bad {d : GD} {H : Prop} (h : ¬ d.May) : askv d H = 8 := if_neg h
theorem askv_ok {d : GD} {H : Prop} (h : d.May) (h' : H) : askv d H = 0 := by unfold askv; rw [if_pos h, if_pos h']
theorem askv_no {d : GD} {H : Prop} (h : d.May) (h' : ¬ H) : askv d H = 50 := by unfold askv; rw [if_pos h, if_neg h']
theorem askv_congr {d : GD} {H H' : Prop} (h : H ↔ H') : askv d H = askv d H' := by rw [propext h]
theorem askv_cases (d : GD) (H : Prop) : (¬ d.May ∧ askv d H = 8) ∨ (d.May ∧ ¬ H ∧ askv d H = 50) ∨ (d.May ∧ H ∧ askv d H = 0) := by
  by_cases h : d.May
  · by_cases h' : H
    · exact .inr (.inr ⟨h, h', askv_ok h h'⟩)
    · exact .inr (.inl ⟨h, h', askv_no h h'⟩)
  · exact .inl ⟨h, askv_bad h⟩
theorem holds_dec (d : GD) (p : GP) (s q : Int) (w : World) (hm : MayA d.n d.g) (hok : GOk w p d) :
    Calls Try.prog 54 #[.agg #[.slice p.A d.n p.c], .agg #[.int .i64 s, .int .i64 q]] w fun e w' => e = .returned (.bool (decide (HeldA d.n d.g d.b s q))) ∧ Below w.heap.size w w' :=
  (holds_any p.A d.n p.c d.g d.b s q w hok.ar (by have := hm.1; omega)).mono fun e w' ⟨⟨r, he, hr⟩, hb⟩ => ⟨by
    rw [he]
    have : r = decide (HeldA d.n d.g d.b s q) := by
      rw [Bool.eq_iff_iff, hr, decide_eq_true_eq]
      exact ⟨fun h => h.2, fun h => ⟨hm, h⟩⟩
    rw [this], hb⟩

set_option maxRecDepth 100000 in
set_option maxHeartbeats 4000000 in
theorem asked_any (d : GD) (p : GP) (hsm : d.Sm) (AL : Option Addr) (l0 cl : Nat) (HS HQ : Nat → Int) (w : World) (hok : GOk w p d) (hL : Row w AL l0 2 (hv HS HQ)) (hl : l0 ≤ 1000) :
    Calls Try.prog 37 #[.agg #[.slice p.A d.n p.c, .slice p.K d.m p.kc], .slice AL l0 cl] w fun e w' => e = .returned (.int .i64 (askv d (∀ j, j < l0 → HeldA d.n d.g d.b (HS j) (HQ j)))) ∧ Below w.heap.size w w' := by
  obtain ⟨A, c, K, kc, KA, KC⟩ := p
  dsimp only
  have b1 := (Below.refl w.heap.size w).alloc (Nat.le_refl _) (.cells #[.slice A d.n c, .slice K d.m kc] 27)
  have OK := Lib.hid hok
  have Sm := Lib.hid hsm
  have B1 := Lib.hid b1
  have hP := hasBlk_new w 27 #[.slice A d.n c, .slice K d.m kc]
  have hc := Lib.hid (check_any d _ hsm _ (hok.below b1))
  have HL := Lib.hid hL
  clear hok hsm b1 hL
  go_enter Try.func37, Try.ntmps37
  go_wp2_with fail
  refine hc.out.mono ?_
  rintro e w1 ⟨⟨x, rfl, hx⟩, bel⟩
  have B2 := Lib.hid (B1.out.trans (bel.mono B1.out.size))
  have hP1 := hP.below bel
  have HP := Lib.hid hP1
  rcases hx with ⟨hmay, rfl⟩ | ⟨hmay, rfl⟩
  rotate_left
  · have MN := Lib.hid hmay
    clear bel hP hP1 hmay
    go_wp2
    go_ret
    exact ⟨by rw [askv_bad MN.out]; rfl, B2.out⟩
  have MN := Lib.hid hmay
  clear bel hP hP1 hmay
  go_wp2
  go_loopw [15] (fun i wr => ∃ k : Nat, k ≤ l0 ∧ i = .int .i64 k ∧ HasBlk wr w.heap.size 27 #[.slice A d.n c, .slice K d.m kc] ∧ Below w.heap.size w wr ∧ ∀ j, j < k → HeldA d.n d.g d.b (HS j) (HQ j)) (fun i wr => l0 - (intOf i).toNat)
  case atStart => exact ⟨0, Nat.zero_le _, rfl, HP.out, B2.out, fun j h => absurd h (by omega)⟩
  case round =>
    clear HP B2
    obtain ⟨k, hkl, rfl, hP, hbel, hro⟩ := hrel
    have RO := Lib.hid hro
    have HB := Lib.hid hbel
    have HP := Lib.hid hP
    have zb := hbel.size
    have p0 := hP.cell 0
    have zp := hP.lt
    simp at p0
    clear hro hP hbel
    by_cases hlt : k < l0
    · obtain ⟨ga, oa, hA, hga, hca⟩ := HL.out.below HB.out (by omega)
      subst hA
      have c0 := hca k hlt 0 (by omega)
      have c1 := hca k hlt 1 (by omega)
      simp only [hv, Nat.add_zero] at c0
      simp only [hv] at c1
      rw [if_neg (by decide)] at c1
      have i1 : (k : Int) < (l0 : Int) := by omega
      have i0 : (0 : Int) ≤ (k : Int) := by omega
      have b3 := (Below.refl wr.heap.size wr).alloc (Nat.le_refl _) (.cells #[.int .i64 (HS k), .int .i64 (HQ k)] 29)
      have hh := holds_dec d _ (HS k) (HQ k) _ MN.out.1 ((OK.out.below HB.out).below b3)
      have B3 := Lib.hid (HB.out.trans (b3.mono zb))
      have HP3 := Lib.hid (HP.out.below b3)
      clear hca b3 HP
      by_cases hheld : HeldA d.n d.g d.b (HS k) (HQ k)
      · rw [decide_eq_true hheld] at hh
        have hh' := Lib.hid hh
        have HH := Lib.hid hheld
        clear hh hheld
        go_wp2_with fail
        refine hh'.out.mono ?_
        rintro e w4 ⟨rfl, bel⟩
        have B4 := Lib.hid (B3.out.trans (bel.mono B3.out.size))
        have HP4 := Lib.hid (HP3.out.below bel)
        clear bel
        go_wp2
        go_roundw
        case rel =>
          refine ⟨k + 1, by omega, by go_num, HP4.out, B4.out, fun j hj => ?_⟩
          rcases Nat.lt_or_ge j k with h1 | h1
          · exact RO.out j h1
          · obtain rfl : j = k := by omega
            exact HH.out
        case measure => simp [intOf]; omega
      · rw [decide_eq_false hheld] at hh
        have hh' := Lib.hid hh
        have HH := Lib.hid hheld
        clear hh hheld
        go_wp2_with fail
        refine hh'.out.mono ?_
        rintro e w4 ⟨rfl, bel⟩
        have B4 := Lib.hid (B3.out.trans (bel.mono B3.out.size))
        clear bel
        go_wp2
        go_ret
        exact ⟨by rw [askv_no MN.out (fun h => HH.out (h k hlt))]; rfl, B4.out⟩
    · have hkl2 : k = l0 := by omega
      subst hkl2
      go_wp2
      go_ret
      exact ⟨by rw [askv_ok MN.out RO.out]; rfl, HB.out⟩

/-- A list of handles of the call's own, and an error. -/
def HlR (n : Nat) (S Q : Nat → Int) (x : Int) (B : Nat) (e : Ending) (w' : World) : Prop := ∃ A' c', e = .returned (.tuple #[.slice A' n c', .int .i64 x]) ∧ w'.ownsRow B 29 2 (.slice A' n c') n (cellsR 2 (hv S Q) n)
open Classical in
/-- How many children are told. -/
noncomputable def kidN (d : GD) (s q : Int) : Nat := if askv d (HeldA d.n d.g d.b s q) = 0 then d.L s.toNat else 0
theorem askv_zero {d : GD} {H : Prop} (h : askv d H = 0) : d.May ∧ H := by
  rcases askv_cases d H with ⟨_, e⟩ | ⟨_, _, e⟩ | ⟨h1, h2, _⟩
  · rw [h] at e; cases e
  · rw [h] at e; cases e
  · exact ⟨h1, h2⟩
theorem one_iff {p : Nat → Prop} : (∀ j, j < 1 → p j) ↔ p 0 := ⟨fun h => h 0 (by omega), fun h j hj => (show j = 0 by omega) ▸ h⟩
theorem two_iff {p : Nat → Prop} : (∀ j, j < 2 → p j) ↔ (p 0 ∧ p 1) := ⟨fun h => ⟨h 0 (by omega), h 1 (by omega)⟩, fun h j hj => by
  obtain rfl | rfl : j = 0 ∨ j = 1 := by omega
  · exact h.1
  · exact h.2⟩
theorem row_one {w : World} {g : Nat} {s q : Int} (h : HasBlk w g 29 #[.int .i64 s, .int .i64 q]) : Row w (some ⟨g, 0, none⟩) 1 2 (hv (fun _ => s) (fun _ => q)) :=
  Row.of_blk h fun i hi j hj => by
    obtain rfl : i = 0 := by omega
    obtain rfl | rfl : j = 0 ∨ j = 1 := by omega
    · rfl
    · rfl

set_option maxRecDepth 100000 in
set_option maxHeartbeats 4000000 in
theorem kids_any (d : GD) (p : GP) (hsm : d.Sm) (s q : Int) (w : World) (hok : GOk w p d) :
    Calls Try.prog 11 #[.agg #[.slice p.A d.n p.c, .slice p.K d.m p.kc], hval s q] w fun e w' => HlR (kidN d s q) (d.S s.toNat) (d.Q s.toNat) (askv d (HeldA d.n d.g d.b s q)) w.heap.size e w' ∧ Below w.heap.size w w' := by
  obtain ⟨A, c, K, kc, KA, KC⟩ := p
  dsimp only
  have b2 : Below w.heap.size w (((w.alloc (.cells #[.slice A d.n c, .slice K d.m kc] 27)).alloc (.cells #[.int .i64 s, .int .i64 q] 29)).alloc (.cells #[.int .i64 s, .int .i64 q] 29)) := by
    repeat' (first | exact Below.refl _ _ | assumption | apply Below.drew | refine Below.setCell ?_ (by first | omega | (simp; done) | (simp; omega)) _ | refine Below.alloc ?_ (by first | omega | (simp; done) | (simp; omega)) _)
  have OK := Lib.hid hok
  have Sm := Lib.hid hsm
  have B2 := Lib.hid b2
  have hL : HasBlk (((w.alloc (.cells #[.slice A d.n c, .slice K d.m kc] 27)).alloc (.cells #[.int .i64 s, .int .i64 q] 29)).alloc (.cells #[.int .i64 s, .int .i64 q] 29)) (w.heap.size + 1 + 1) 29 #[.int .i64 s, .int .i64 q] := by
    have h := hasBlk_new ((w.alloc (.cells #[.slice A d.n c, .slice K d.m kc] 27)).alloc (.cells #[.int .i64 s, .int .i64 q] 29)) 29 #[.int .i64 s, .int .i64 q]
    simpa using h
  have hP : HasBlk (((w.alloc (.cells #[.slice A d.n c, .slice K d.m kc] 27)).alloc (.cells #[.int .i64 s, .int .i64 q] 29)).alloc (.cells #[.int .i64 s, .int .i64 q] 29)) w.heap.size 27 #[.slice A d.n c, .slice K d.m kc] := ((hasBlk_new w 27 #[.slice A d.n c, .slice K d.m kc]).alloc _).alloc _
  have hH : HasBlk (((w.alloc (.cells #[.slice A d.n c, .slice K d.m kc] 27)).alloc (.cells #[.int .i64 s, .int .i64 q] 29)).alloc (.cells #[.int .i64 s, .int .i64 q] 29)) (w.heap.size + 1) 29 #[.int .i64 s, .int .i64 q] := by
    have h := (hasBlk_new (w.alloc (.cells #[.slice A d.n c, .slice K d.m kc] 27)) 29 #[.int .i64 s, .int .i64 q]).alloc (.cells #[.int .i64 s, .int .i64 q] 29)
    simpa using h
  have HP := Lib.hid hP
  have HH := Lib.hid hH
  have hc := asked_any d _ hsm _ 1 1 _ _ _ (hok.below b2) (row_one hL) (by omega)
  rw [askv_congr one_iff] at hc
  clear hsm b2 hL hP hH
  have hkn : ∀ x, askv d (HeldA d.n d.g d.b s q) = x → kidN d s q = if x = 0 then d.L s.toNat else 0 := fun x hx => by unfold kidN; rw [hx]
  obtain ⟨x, hx⟩ : ∃ x, askv d (HeldA d.n d.g d.b s q) = x := ⟨_, rfl⟩
  rw [hx] at hc ⊢
  rw [hkn x hx]
  clear hkn
  by_cases hx0 : x = 0
  rotate_left
  · rw [if_neg hx0]
    have x1 : (x == 0) = false := by simpa using hx0
    have x2 : (x != 0) = true := by simpa using hx0
    have HC := Lib.hid hc
    clear hx hx0 hc hok HP HH
    go_enter Try.func11, Try.ntmps11
    go_wp2_with fail
    refine HC.out.mono ?_
    rintro e w1 ⟨rfl, bel⟩
    have B3 := Lib.hid (B2.out.trans (bel.mono B2.out.size))
    clear bel
    go_wp2
    go_ret2
    exact ⟨⟨none, 0, rfl, own_nil _ _ _ _⟩, B3.out⟩
  subst hx0
  rw [if_pos rfl]
  obtain ⟨hmay, hheld⟩ := askv_zero hx
  obtain ⟨k, rfl⟩ := Int.eq_ofNat_of_zero_le hheld.1
  simp only [Int.toNat_natCast]
  have hkn : k < d.n := by have := hheld.2.1; omega
  have hkm : k < d.m := by rw [hmay.2.1]; exact hkn
  obtain ⟨gk, ok, hA, hgk, hck⟩ := hok.ks (by omega)
  dsimp only at hA
  subst hA
  have k0 := Lib.hid (hck k hkm 0 (by omega))
  have HC := Lib.hid hc
  have i1 : (k : Int) < (d.m : Int) := by omega
  have i0 : (0 : Int) ≤ (k : Int) := by omega
  have hrow := Lib.hid (hok.kd k hkm)
  have hlk := Sm.out.L k hkm
  clear hck hok hc hx hheld hmay
  go_enter Try.func11, Try.ntmps11
  go_wp2_with fail
  refine HC.out.mono ?_
  rintro e w1 ⟨rfl, bel⟩
  have B3 := Lib.hid (B2.out.trans (bel.mono B2.out.size))
  have HP1 := Lib.hid (HP.out.below bel)
  have HH1 := Lib.hid (HH.out.below bel)
  have p1 := HP1.out.cell 1
  have h0 := HH1.out.cell 0
  have zp := HP1.out.lt
  have zh := HH1.out.lt
  have c0 := (B3.out.cell (p := ⟨gk, ok + k * 1 + 0, none⟩) hgk).trans k0.out
  simp only [Nat.add_zero, Nat.mul_one, kv] at c0
  simp at p1 h0
  have zb := B3.out.size
  have hcl := Lib.hid (cloneHd (KA k) (d.L k) (KC k) (hv (d.S k) (d.Q k)) w1 (hrow.out.below B3.out) (hv_one _ _) (by omega))
  clear bel
  go_wp2_with fail
  refine hcl.out.mono ?_
  rintro e w2 ⟨⟨A', c', rfl, ho⟩, bel⟩
  have HO := Lib.hid ho
  have B4 := Lib.hid (B3.out.trans (bel.mono zb))
  clear ho bel
  go_wp2
  go_ret2
  exact ⟨⟨A', c', rfl, own_base HO.out zb⟩, B4.out⟩

open Classical in
/-- Does one reach another one, where one may ask? -/
noncomputable def rchv (d : GD) (s q s' q' : Int) : Bool := if askv d (HeldA d.n d.g d.b s q ∧ HeldA d.n d.g d.b s' q') = 0 then d.E.reachB s.toNat s'.toNat else false
theorem row_two {w : World} {g : Nat} {s q s' q' : Int} (h : HasBlk w g 29 #[.int .i64 s, .int .i64 q, .int .i64 s', .int .i64 q']) : Row w (some ⟨g, 0, none⟩) 2 2 (hv (fun j => if j = 0 then s else s') (fun j => if j = 0 then q else q')) :=
  Row.of_blk h fun i hi j hj => by
    obtain rfl | rfl : i = 0 ∨ i = 1 := by omega
    all_goals (obtain rfl | rfl : j = 0 ∨ j = 1 := by omega)
    all_goals rfl

set_option maxRecDepth 100000 in
set_option maxHeartbeats 4000000 in
theorem rch_any (d : GD) (p : GP) (hsm : d.Sm) (s q s' q' : Int) (w : World) (hok : GOk w p d) :
    Calls Try.prog 15 #[.agg #[.slice p.A d.n p.c, .slice p.K d.m p.kc], hval s q, hval s' q'] w fun e w' => e = .returned (.tuple #[.bool (rchv d s q s' q'), .int .i64 (askv d (HeldA d.n d.g d.b s q ∧ HeldA d.n d.g d.b s' q'))]) ∧ Below w.heap.size w w' := by
  obtain ⟨A, c, K, kc, KA, KC⟩ := p
  dsimp only
  have b2 : Below w.heap.size w ((((w.alloc (.cells #[.slice A d.n c, .slice K d.m kc] 27)).alloc (.cells #[.int .i64 s, .int .i64 q] 29)).alloc (.cells #[.int .i64 s', .int .i64 q'] 29)).alloc (.cells #[.int .i64 s, .int .i64 q, .int .i64 s', .int .i64 q'] 29)) := by
    repeat' (first | exact Below.refl _ _ | assumption | apply Below.drew | refine Below.setCell ?_ (by first | omega | (simp; done) | (simp; omega)) _ | refine Below.alloc ?_ (by first | omega | (simp; done) | (simp; omega)) _)
  have OK := Lib.hid hok
  have Sm := Lib.hid hsm
  have B2 := Lib.hid b2
  have hL : HasBlk ((((w.alloc (.cells #[.slice A d.n c, .slice K d.m kc] 27)).alloc (.cells #[.int .i64 s, .int .i64 q] 29)).alloc (.cells #[.int .i64 s', .int .i64 q'] 29)).alloc (.cells #[.int .i64 s, .int .i64 q, .int .i64 s', .int .i64 q'] 29)) (w.heap.size + 1 + 1 + 1) 29 #[.int .i64 s, .int .i64 q, .int .i64 s', .int .i64 q'] := by
    have h := hasBlk_new (((w.alloc (.cells #[.slice A d.n c, .slice K d.m kc] 27)).alloc (.cells #[.int .i64 s, .int .i64 q] 29)).alloc (.cells #[.int .i64 s', .int .i64 q'] 29)) 29 #[.int .i64 s, .int .i64 q, .int .i64 s', .int .i64 q']
    simpa using h
  have hP : HasBlk ((((w.alloc (.cells #[.slice A d.n c, .slice K d.m kc] 27)).alloc (.cells #[.int .i64 s, .int .i64 q] 29)).alloc (.cells #[.int .i64 s', .int .i64 q'] 29)).alloc (.cells #[.int .i64 s, .int .i64 q, .int .i64 s', .int .i64 q'] 29)) w.heap.size 27 #[.slice A d.n c, .slice K d.m kc] := (((hasBlk_new w 27 #[.slice A d.n c, .slice K d.m kc]).alloc _).alloc _).alloc _
  have hH : HasBlk ((((w.alloc (.cells #[.slice A d.n c, .slice K d.m kc] 27)).alloc (.cells #[.int .i64 s, .int .i64 q] 29)).alloc (.cells #[.int .i64 s', .int .i64 q'] 29)).alloc (.cells #[.int .i64 s, .int .i64 q, .int .i64 s', .int .i64 q'] 29)) (w.heap.size + 1) 29 #[.int .i64 s, .int .i64 q] := by
    have h := ((hasBlk_new (w.alloc (.cells #[.slice A d.n c, .slice K d.m kc] 27)) 29 #[.int .i64 s, .int .i64 q]).alloc (.cells #[.int .i64 s', .int .i64 q'] 29)).alloc (.cells #[.int .i64 s, .int .i64 q, .int .i64 s', .int .i64 q'] 29)
    simpa using h
  have hJ : HasBlk ((((w.alloc (.cells #[.slice A d.n c, .slice K d.m kc] 27)).alloc (.cells #[.int .i64 s, .int .i64 q] 29)).alloc (.cells #[.int .i64 s', .int .i64 q'] 29)).alloc (.cells #[.int .i64 s, .int .i64 q, .int .i64 s', .int .i64 q'] 29)) (w.heap.size + 1 + 1) 29 #[.int .i64 s', .int .i64 q'] := by
    have h := (hasBlk_new ((w.alloc (.cells #[.slice A d.n c, .slice K d.m kc] 27)).alloc (.cells #[.int .i64 s, .int .i64 q] 29)) 29 #[.int .i64 s', .int .i64 q']).alloc (.cells #[.int .i64 s, .int .i64 q, .int .i64 s', .int .i64 q'] 29)
    simpa using h
  have HP := Lib.hid hP
  have HH := Lib.hid hH
  have HJ := Lib.hid hJ
  have hc := asked_any d _ hsm _ 2 2 _ _ _ (hok.below b2) (row_two hL) (by omega)
  rw [askv_congr two_iff] at hc
  simp only [if_true, if_neg (show ¬ (1 : Nat) = 0 by omega)] at hc
  have hrv : ∀ x, askv d (HeldA d.n d.g d.b s q ∧ HeldA d.n d.g d.b s' q') = x → rchv d s q s' q' = if x = 0 then d.E.reachB s.toNat s'.toNat else false := fun x hx => by unfold rchv; rw [hx]
  obtain ⟨x, hx⟩ : ∃ x, askv d (HeldA d.n d.g d.b s q ∧ HeldA d.n d.g d.b s' q') = x := ⟨_, rfl⟩
  rw [hx] at hc ⊢
  rw [hrv x hx]
  clear hrv b2 hL hP hH hJ hsm
  by_cases hx0 : x = 0
  rotate_left
  · rw [if_neg hx0]
    have x1 : (x == 0) = false := by simpa using hx0
    have x2 : (x != 0) = true := by simpa using hx0
    have HC := Lib.hid hc
    clear hx hx0 hc hok HP HH HJ
    go_enter Try.func15, Try.ntmps15
    go_wp2_with fail
    refine HC.out.mono ?_
    rintro e w1 ⟨rfl, bel⟩
    have B3 := Lib.hid (B2.out.trans (bel.mono B2.out.size))
    clear bel
    go_wp2
    go_ret2
    exact ⟨rfl, B3.out⟩
  subst hx0
  rw [if_pos rfl]
  obtain ⟨hmay, hheld, hheld'⟩ := askv_zero hx
  obtain ⟨i, rfl⟩ := Int.eq_ofNat_of_zero_le hheld.1
  obtain ⟨t, rfl⟩ := Int.eq_ofNat_of_zero_le hheld'.1
  have hq1 := hheld.2.2.1
  have hq2 := hheld'.2.2.1
  have hi : i < d.n := by have := hheld.2.1; omega
  have ht : t < d.n := by have := hheld'.2.1; omega
  simp only [Int.toNat_natCast] at hq1 hq2 ⊢
  subst hq1 hq2
  have HC := Lib.hid hc
  have hr := Lib.hid (fun W (hb : Below w.heap.size w W) => reaches_any d _ hmay.kids Sm.out t i W ht hi (hok.below hb))
  clear hok hc hx hheld hheld' hmay
  go_enter Try.func15, Try.ntmps15
  go_wp2_with fail
  refine HC.out.mono ?_
  rintro e w1 ⟨rfl, bel⟩
  have B3 := Lib.hid (B2.out.trans (bel.mono B2.out.size))
  have HP1 := Lib.hid (HP.out.below bel)
  have HH1 := Lib.hid (HH.out.below bel)
  have HJ1 := Lib.hid (HJ.out.below bel)
  have p0 := HP1.out.cell 0
  have p1 := HP1.out.cell 1
  have h0 := HH1.out.cell 0
  have h1 := HH1.out.cell 1
  have j0 := HJ1.out.cell 0
  have j1 := HJ1.out.cell 1
  have zp := HP1.out.lt
  have zh := HH1.out.lt
  have zj := HJ1.out.lt
  simp at p0 p1 h0 h1 j0 j1
  have hr1 := Lib.hid (hr.out w1 B3.out)
  have zb := B3.out.size
  clear bel hr
  go_wp2_with fail
  refine hr1.out.mono ?_
  rintro e w2 ⟨rfl, bel⟩
  have B4 := Lib.hid (B3.out.trans (bel.mono zb))
  clear bel
  go_wp2
  go_ret2
  exact ⟨rfl, B4.out⟩
end Go.Proofs.Ytgkeiaggldahnaa
