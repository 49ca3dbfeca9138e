/- nodes: Parents. -/
import Derived.Test.YtgkeiaggldahnaaN7
namespace Go.Proofs.Ytgkeiaggldahnaa
open Go.RowKit
set_option linter.unusedVariables false
/-- The parents of a handle among the first k children of i: i, as often as it is its child. -/
def parK (d : GD) (s q : Int) (i : Nat) : Nat → List Nat
  | 0 => []
  | k + 1 => if d.S i k = s ∧ d.Q i k = q then parK d s q i k ++ [i] else parK d s q i k
def parL (d : GD) (s q : Int) : Nat → List Nat
  | 0 => []
  | i + 1 => parL d s q i ++ parK d s q i (d.L i)
theorem parK_len (d : GD) (s q : Int) (i : Nat) : ∀ k, (parK d s q i k).length ≤ k
  | 0 => Nat.le_refl _
  | k + 1 => by
    have := parK_len d s q i k
    unfold parK
    split
    · rw [List.length_append]; show _ + 1 ≤ _; omega
    · omega
theorem parL_len {d : GD} (h : d.Sm) (s q : Int) : ∀ i, i ≤ d.m → (parL d s q i).length ≤ 1000 * i
  | 0, _ => Nat.le_refl _
  | i + 1, hi => by
    have h1 := parL_len h s q i (by omega)
    have h2 := parK_len d s q i (d.L i)
    have h3 := h.L i (by omega)
    unfold parL
    rw [List.length_append]
    omega
/-- The cells of the handles of these slots. -/
def hdc (g : Nat → Int) (l : List Nat) : List Value := l.flatMap fun (k : Nat) => [Value.int .i64 (k : Int), Value.int .i64 (g k)]
theorem hdc_snoc (g : Nat → Int) (l : List Nat) (k : Nat) : hdc g (l ++ [k]) = hdc g l ++ [.int .i64 k, .int .i64 (g k)] := by simp [hdc]
/-- These slots' handles of the call's own, and an error. -/
def ParR (d : GD) (l : List Nat) (x : Int) (B : Nat) (e : Ending) (w' : World) : Prop := ∃ A' c', e = .returned (.tuple #[.slice A' l.length c', .int .i64 x]) ∧ w'.ownsRow B 29 2 (.slice A' l.length c') l.length (hdc d.g l)
open Classical in
noncomputable def parV (d : GD) (s q : Int) : List Nat := if askv d (HeldA d.n d.g d.b s q) = 0 then parL d s q d.m else []

theorem own_low {w : World} {b e s n g : Nat} {v : Value} {xs : List Value} (h : w.ownsRow b e s v n xs) (hg : g < b) : v.ownBlock ≠ some g := by
  intro e1
  rcases h.2 with ⟨h1, h2⟩ | ⟨g', cap, cur, h1, h2, h3⟩
  · rw [h1] at e1
    cases e1
  · rw [h1] at e1
    have e2 : g' = g := by injection e1
    omega

set_option maxRecDepth 100000 in
set_option maxHeartbeats 8000000 in
theorem parents_any (d : GD) (p : GP) (hsm : d.Sm) (s q : Int) (w : World) (hok : GOk w p d) :
    Calls Try.prog 13 #[.agg #[.slice p.A d.n p.c, .slice p.K d.m p.kc], hval s q] w fun e w' => ParR d (parV d s q) (askv d (HeldA d.n d.g d.b s q)) w.heap.size e w' ∧ Below w.heap.size w w' := by
  obtain ⟨A, c, K, kc, KA, KC⟩ := p
  dsimp only
  obtain ⟨i0', hi0, hz0, hz1, hz2⟩ := info_parts hdl_info
  obtain ⟨i0, hi00⟩ : ∃ i0, i0 = i0' := ⟨_, rfl⟩
  rw [← hi00] at hi0 hz0 hz1 hz2
  clear hi00
  have b2 : Below w.heap.size w (((w.alloc (.cells #[.slice A d.n c, .slice K d.m kc] 27)).alloc (.cells #[.int .i64 s, .int .i64 q] 29)).alloc (.cells #[.int .i64 s, .int .i64 q] 29)) := by
    repeat' (first | exact Below.refl _ _ | assumption | apply Below.drew | refine Below.setCell ?_ (by first | omega | (simp; done) | (simp; omega)) _ | refine Below.alloc ?_ (by first | omega | (simp; done) | (simp; omega)) _)
  have hP : HasBlk (((w.alloc (.cells #[.slice A d.n c, .slice K d.m kc] 27)).alloc (.cells #[.int .i64 s, .int .i64 q] 29)).alloc (.cells #[.int .i64 s, .int .i64 q] 29)) w.heap.size 27 #[.slice A d.n c, .slice K d.m kc] := ((hasBlk_new w 27 #[.slice A d.n c, .slice K d.m kc]).alloc _).alloc _
  have hH : HasBlk (((w.alloc (.cells #[.slice A d.n c, .slice K d.m kc] 27)).alloc (.cells #[.int .i64 s, .int .i64 q] 29)).alloc (.cells #[.int .i64 s, .int .i64 q] 29)) (w.heap.size + 1) 29 #[.int .i64 s, .int .i64 q] := by
    have h := (hasBlk_new (w.alloc (.cells #[.slice A d.n c, .slice K d.m kc] 27)) 29 #[.int .i64 s, .int .i64 q]).alloc (.cells #[.int .i64 s, .int .i64 q] 29)
    simpa using h
  have hL : HasBlk (((w.alloc (.cells #[.slice A d.n c, .slice K d.m kc] 27)).alloc (.cells #[.int .i64 s, .int .i64 q] 29)).alloc (.cells #[.int .i64 s, .int .i64 q] 29)) (w.heap.size + 1 + 1) 29 #[.int .i64 s, .int .i64 q] := by
    have h := hasBlk_new ((w.alloc (.cells #[.slice A d.n c, .slice K d.m kc] 27)).alloc (.cells #[.int .i64 s, .int .i64 q] 29)) 29 #[.int .i64 s, .int .i64 q]
    simpa using h
  have hc := asked_any d _ hsm _ 1 1 _ _ _ (hok.below b2) (row_one hL) (by omega)
  rw [askv_congr one_iff] at hc
  have OK := Lib.hid hok
  have Sm := Lib.hid hsm
  have hm1 := hsm.m
  have B2 := Lib.hid b2
  have HP0 := Lib.hid hP
  have HH0 := Lib.hid hH
  clear hsm hok b2 hP hH hL
  have hpv : ∀ x, askv d (HeldA d.n d.g d.b s q) = x → parV d s q = if x = 0 then parL d s q d.m else [] := fun x hx => by unfold parV; rw [hx]
  obtain ⟨x, hx⟩ : ∃ x, askv d (HeldA d.n d.g d.b s q) = x := ⟨_, rfl⟩
  rw [hx] at hc ⊢
  rw [hpv x hx]
  clear hpv
  by_cases hx0 : x = 0
  rotate_left
  · rw [if_neg hx0]
    have x1 : (x == 0) = false := by simpa using hx0
    have x2 : (x != 0) = true := by simpa using hx0
    have HC := Lib.hid hc
    clear hx hx0 hc HP0 HH0
    go_enter Try.func13, Try.ntmps13
    go_wp2_with fail
    refine HC.out.mono ?_
    rintro e w1 ⟨rfl, bel⟩
    have B3 := Lib.hid (B2.out.trans (bel.mono B2.out.size))
    clear bel
    go_wp2
    go_ret2
    exact ⟨⟨none, 0, rfl, own_nil _ _ _ _⟩, B3.out⟩
  subst hx0
  rw [if_pos rfl]
  have HM := Lib.hid (askv_zero hx).1.2.1
  have HC := Lib.hid hc
  clear hc hx
  go_enter Try.func13, Try.ntmps13
  go_wp2_with fail
  refine HC.out.mono ?_
  rintro e w1 ⟨rfl, bel⟩
  have HB := Lib.hid (B2.out.trans (bel.mono B2.out.size))
  have HP := Lib.hid (HP0.out.below bel)
  have HH := Lib.hid (HH0.out.below bel)
  have p1 := HP.out.cell 1
  have zp := HP.out.lt
  simp at p1
  clear bel HP0 HH0
  go_wp2
  go_loopw [7, 22] (fun o i' wr => ∃ i : Nat, i ≤ d.m ∧ i' = .int .i64 i ∧ (∃ X cx, o = .slice X (parL d s q i).length cx ∧ wr.ownsRow (w.heap.size + 1 + 1) 29 2 (.slice X (parL d s q i).length cx) (parL d s q i).length (hdc d.g (parL d s q i))) ∧ HasBlk wr w.heap.size 27 #[.slice A d.n c, .slice K d.m kc] ∧ HasBlk wr (w.heap.size + 1) 29 #[.int .i64 s, .int .i64 q] ∧ Below w.heap.size w wr) (fun o i' wr => d.m - (intOf i').toNat)
  case atStart => exact ⟨0, Nat.zero_le _, rfl, ⟨none, 0, rfl, own_nil _ _ _ _⟩, HP.out, HH.out, HB.out⟩
  case round =>
    clear HP HH HB zp p1
    obtain ⟨i, hil, rfl, ⟨X, cx, rfl, hown⟩, hP, hH, hbel⟩ := hrel
    have HB := Lib.hid hbel
    have HP := Lib.hid hP
    have HH := Lib.hid hH
    have HO := Lib.hid hown
    have p0 := hP.cell 0
    have p1 := hP.cell 1
    have zp := hP.lt
    simp at p0 p1
    have zb := hbel.size
    clear hown
    by_cases him : i < d.m
    · obtain ⟨gk, ok, hA, hgk, hck⟩ := OK.out.ks (by omega)
      dsimp only at hA
      subst hA
      have hin : i < d.n := by have := HM.out; omega
      obtain ⟨ga, oa, hA2, hga, hca⟩ := OK.out.ar (by omega)
      dsimp only at hA2
      subst hA2
      have hrow := OK.out.kd i him
      dsimp only at hrow
      have k1 := hck i him 0 (by omega)
      simp only [kv, Nat.add_zero, Nat.mul_one] at k1
      obtain ⟨Ai, hAi⟩ : ∃ Ai, KA i = Ai := ⟨_, rfl⟩
      rw [hAi] at hrow k1
      have RW := Lib.hid hrow
      have KR := Lib.hid k1
      have AR := Lib.hid (show w.cell? ⟨ga, oa + i * 2, none⟩ = some (.int .i64 (d.g i)) by
        have h := hca i hin 0 (by omega)
        simpa [sv] using h)
      have k0 := (hbel.cell (p := ⟨gk, ok + i, none⟩) hgk).trans k1
      have q16 := Sm.out.L i him
      have i1i : (i : Int) < (d.m : Int) := by omega
      have i2i : (i : Int) < (d.n : Int) := by omega
      have i0i : (0 : Int) ≤ (i : Int) := by omega
      clear hck hca hrow k1 hAi hbel hP hH
      go_wp2
      obtain ⟨wo, rfl⟩ : ∃ wo : World, wo = wr := ⟨wr, rfl⟩
      clear p0 p1 zp zb k0
      go_loopw [7, 29] (fun o t' wr => ∃ t : Nat, t ≤ d.L i ∧ t' = .int .i64 t ∧ (∃ X cx, o = .slice X (parL d s q i ++ parK d s q i t).length cx ∧ wr.ownsRow (w.heap.size + 1 + 1) 29 2 (.slice X (parL d s q i ++ parK d s q i t).length cx) (parL d s q i ++ parK d s q i t).length (hdc d.g (parL d s q i ++ parK d s q i t))) ∧ HasBlk wr w.heap.size 27 #[.slice (some ⟨ga, oa, none⟩) d.n c, .slice (some ⟨gk, ok, none⟩) d.m kc] ∧ HasBlk wr (w.heap.size + 1) 29 #[.int .i64 s, .int .i64 q] ∧ Below w.heap.size w wr) (fun o t' wr => d.L i - (intOf t').toNat)
      case atStart => exact ⟨0, Nat.zero_le _, rfl, ⟨X, cx, by simp [parK], by simpa [parK] using HO.out⟩, HP.out, HH.out, HB.out⟩
      case round =>
        clear HB HP HH HO
        obtain ⟨t, htl, rfl, ⟨X, cx, rfl, hown⟩, hP, hH, hbel⟩ := hrel
        have HB := Lib.hid hbel
        have HP := Lib.hid hP
        have HH := Lib.hid hH
        have p0 := hP.cell 0
        have p1 := hP.cell 1
        have h0 := hH.cell 0
        have h1 := hH.cell 1
        have zp := hP.lt
        have zh := hH.lt
        simp at p0 p1 h0 h1
        have zb := hbel.size
        by_cases htL : t < d.L i
        · obtain ⟨gi, oi, hAi, hgi, hci⟩ := RW.out.below hbel (by omega)
          subst hAi
          have c0 := hci t htL 0 (by omega)
          have c1 := hci t htL 1 (by omega)
          simp only [hv, Nat.add_zero, if_true] at c0
          simp only [hv] at c1
          rw [if_neg (by decide)] at c1
          have i1 : (t : Int) < (d.L i : Int) := by omega
          have j0 : (0 : Int) ≤ (t : Int) := by omega
          have hq := fun W => eql_hdl (d.S i t) (d.Q i t) s q W
          have a0 := (hbel.cell (p := ⟨ga, oa + i * 2, none⟩) hga).trans AR.out
          have hga2 : ga < wr.heap.size := by omega
          clear hbel hP hH hci
          have hpl := parL_len Sm.out s q i (by omega)
          have hpk := parK_len d s q i t
          have hm1 := Sm.out.m
          obtain ⟨LL, hLL⟩ : ∃ LL, parL d s q i ++ parK d s q i t = LL := ⟨_, rfl⟩
          have hll : LL.length ≤ 1001000 := by rw [← hLL, List.length_append]; omega
          rw [hLL] at hown ⊢
          by_cases hm : d.S i t = s ∧ d.Q i t = q
          · have hv1 : (d.S i t == s && d.Q i t == q) = true := by rw [hm.1, hm.2]; simp
            simp only [hv1] at hq
            have EL := Lib.hid (show parL d s q i ++ parK d s q i (t + 1) = LL ++ [i] by
              have eL : parK d s q i (t + 1) = parK d s q i t ++ [i] := if_pos hm
              rw [eL, ← List.append_assoc, hLL])
            clear hpl hpk hLL hm hv1
            generalize hml : LL.length = m at *
            have HML := Lib.hid hml
            clear hml
            have b3 := (Below.refl wr.heap.size wr).alloc (Nat.le_refl _) (.cells #[.int .i64 (d.S i t), .int .i64 (d.Q i t)] 29)
            have HB2 := Lib.hid (HB.out.trans (b3.mono zb))
            have HP2 := Lib.hid (HP.out.below b3)
            have HH2 := Lib.hid (HH.out.below b3)
            have hown2 := own_below hown b3
            clear b3
            have Hne := Lib.hid (own_low hown2 (show w.heap.size < (w.heap.size + 1 + 1) by omega))
            have Hne2 := Lib.hid (own_low hown2 (show w.heap.size + 1 < (w.heap.size + 1 + 1) by omega))
            have Hown := Lib.hid hown2
            have hnew : (((wr.alloc (.cells #[.int .i64 (d.S i t), .int .i64 (d.Q i t)] 29))).alloc (.cells #[.int .i64 i, .int .i64 (d.g i)] 29)).heap[wr.heap.size + 1]? = some (.cells #[.int .i64 i, .int .i64 (d.g i)] 29 (0, 0)) := by
              have := heap_alloc_new ((wr.alloc (.cells #[.int .i64 (d.S i t), .int .i64 (d.Q i t)] 29))) (.cells #[.int .i64 i, .int .i64 (d.g i)] 29)
              simpa using this
            clear hown
            go_wp2_with (at_builtin; refine wpList_append_lies _ rfl (.tmp 36) (.tmp 46) _ rfl (w.heap.size + 1 + 1) 29 i0 _ 2 16 Try.underlying32 hi0 hz0 hz1 hz2 rfl (by omega) (.slice X m cx) (m) (hdc d.g LL) rfl (hown2.alloc _) ⟨wr.heap.size + 1, 0, none⟩ 1 1 [.int .i64 i, .int .i64 (d.g i)] (by rfl) rfl (World.news_of_block (cs := #[.int .i64 i, .int .i64 (d.g i)]) (t := 29) (fr := (0, 0)) hnew) (by simp [Value.oneCell']) (by omega) (by unfold maxLen; omega) (by omega) (by simp; omega) (wr.heap.size + 1 + 1) (by simp) ?_; intro g' cap w3 hown3 hgrow hat hlt)
            go_roundw
            case rel =>
              refine ⟨t + 1, by omega, by go_num, ⟨some ⟨g', 0, none⟩, cap, by rw [EL.out, List.length_append, HML.out]; rfl, ?_⟩, (HP2.out.alloc _).grown hgrow Hne.out, (HH2.out.alloc _).grown hgrow Hne2.out, below_grown (v := .slice X m cx) (HB2.out.alloc (by first | omega | (simp; omega)) _) hgrow (Hown.out.alloc _) (by omega) (by first | omega | (simp; omega))⟩
              rw [EL.out, List.length_append, HML.out, hdc_snoc]
              exact hown3
            case measure => simp [intOf]; omega
          · have hv1 : (d.S i t == s && d.Q i t == q) = false := by
              rw [Bool.and_eq_false_iff]
              by_cases hm2 : d.S i t = s
              · right
                simpa using fun h => hm ⟨hm2, h⟩
              · left
                simpa using hm2
            simp only [hv1] at hq
            have EL := Lib.hid (show parL d s q i ++ parK d s q i (t + 1) = LL by
              have eL : parK d s q i (t + 1) = parK d s q i t := if_neg hm
              rw [eL, hLL])
            clear hpl hpk hLL hm hv1
            have b3 := (Below.refl wr.heap.size wr).alloc (Nat.le_refl _) (.cells #[.int .i64 (d.S i t), .int .i64 (d.Q i t)] 29)
            have HB2 := Lib.hid (HB.out.trans (b3.mono zb))
            have HP2 := Lib.hid (HP.out.below b3)
            have HH2 := Lib.hid (HH.out.below b3)
            have hown2 := own_below hown b3
            clear b3
            have Hown := Lib.hid hown2
            clear hown hown2
            go_wp2
            go_roundw
            case rel => exact ⟨t + 1, by omega, by go_num, ⟨X, cx, by rw [EL.out], by rw [EL.out]; exact Hown.out⟩, HP2.out, HH2.out, HB2.out⟩
            case measure => simp [intOf]; omega
        · have htL2 : t = d.L i := by omega
          subst htL2
          have Hown := Lib.hid hown
          clear hown hbel hP hH
          go_wp2
          go_roundw
          case rel => exact ⟨i + 1, by omega, by go_num, ⟨X, cx, rfl, Hown.out⟩, HP.out, HH.out, HB.out⟩
          case measure => simp [intOf]; omega
    · have him2 : i = d.m := by omega
      subst him2
      clear hbel hP hH
      go_wp2
      go_ret2
      exact ⟨⟨X, cx, rfl, own_base HO.out (by omega)⟩, HB.out⟩

set_option maxRecDepth 100000 in
set_option maxHeartbeats 8000000 in
theorem refparents_any (d : GD) (p : GP) (hsm : d.Sm) (s q : Int) (w : World) (hok : GOk w p d) :
    Calls Try.prog 14 #[.agg #[.slice p.A d.n p.c, .slice p.K d.m p.kc], hval s q] w fun e w' => ParR d (parV d s q) (askv d (HeldA d.n d.g d.b s q)) w.heap.size e w' ∧ Below w.heap.size w w' := by
  obtain ⟨A, c, K, kc, KA, KC⟩ := p
  dsimp only
  obtain ⟨i0', hi0, hz0, hz1, hz2⟩ := info_parts hdl_info
  obtain ⟨i0, hi00⟩ : ∃ i0, i0 = i0' := ⟨_, rfl⟩
  rw [← hi00] at hi0 hz0 hz1 hz2
  clear hi00
  have b2 : Below w.heap.size w ((w.alloc (.cells #[.slice A d.n c, .slice K d.m kc] 27)).alloc (.cells #[.int .i64 s, .int .i64 q] 29)) := by
    repeat' (first | exact Below.refl _ _ | assumption | apply Below.drew | refine Below.setCell ?_ (by first | omega | (simp; done) | (simp; omega)) _ | refine Below.alloc ?_ (by first | omega | (simp; done) | (simp; omega)) _)
  have hP : HasBlk ((w.alloc (.cells #[.slice A d.n c, .slice K d.m kc] 27)).alloc (.cells #[.int .i64 s, .int .i64 q] 29)) w.heap.size 27 #[.slice A d.n c, .slice K d.m kc] := ((hasBlk_new w 27 #[.slice A d.n c, .slice K d.m kc]).alloc _)
  have hH : HasBlk ((w.alloc (.cells #[.slice A d.n c, .slice K d.m kc] 27)).alloc (.cells #[.int .i64 s, .int .i64 q] 29)) (w.heap.size + 1) 29 #[.int .i64 s, .int .i64 q] := by
    have h := (hasBlk_new (w.alloc (.cells #[.slice A d.n c, .slice K d.m kc] 27)) 29 #[.int .i64 s, .int .i64 q])
    simpa using h
  have hc := refasked_any d _ hsm s q s q _ (hok.below b2)
  rw [askv_twice] at hc
  have OK := Lib.hid hok
  have Sm := Lib.hid hsm
  have hm1 := hsm.m
  have B2 := Lib.hid b2
  have HP0 := Lib.hid hP
  have HH0 := Lib.hid hH
  clear hsm hok b2 hP hH
  have hpv : ∀ x, askv d (HeldA d.n d.g d.b s q) = x → parV d s q = if x = 0 then parL d s q d.m else [] := fun x hx => by unfold parV; rw [hx]
  obtain ⟨x, hx⟩ : ∃ x, askv d (HeldA d.n d.g d.b s q) = x := ⟨_, rfl⟩
  rw [hx] at hc ⊢
  rw [hpv x hx]
  clear hpv
  by_cases hx0 : x = 0
  rotate_left
  · rw [if_neg hx0]
    have x1 : (x == 0) = false := by simpa using hx0
    have x2 : (x != 0) = true := by simpa using hx0
    have HC := Lib.hid hc
    clear hx hx0 hc HP0 HH0
    go_enter Try.func14, Try.ntmps14
    go_wp2_with fail
    refine HC.out.mono ?_
    rintro e w1 ⟨rfl, bel⟩
    have B3 := Lib.hid (B2.out.trans (bel.mono B2.out.size))
    clear bel
    go_wp2
    go_ret2
    exact ⟨⟨none, 0, rfl, own_nil _ _ _ _⟩, B3.out⟩
  subst hx0
  rw [if_pos rfl]
  have HM := Lib.hid (askv_zero hx).1.2.1
  have HC := Lib.hid hc
  clear hc hx
  go_enter Try.func14, Try.ntmps14
  go_wp2_with fail
  refine HC.out.mono ?_
  rintro e w1 ⟨rfl, bel⟩
  have HB := Lib.hid (B2.out.trans (bel.mono B2.out.size))
  have HP := Lib.hid (HP0.out.below bel)
  have HH := Lib.hid (HH0.out.below bel)
  have p1 := HP.out.cell 1
  have zp := HP.out.lt
  simp at p1
  clear bel HP0 HH0
  go_wp2
  go_loopw [7, 8] (fun o i' wr => ∃ i : Nat, i ≤ d.m ∧ i' = .int .i64 i ∧ (∃ X cx, o = .slice X (parL d s q i).length cx ∧ wr.ownsRow (w.heap.size + 1 + 1) 29 2 (.slice X (parL d s q i).length cx) (parL d s q i).length (hdc d.g (parL d s q i))) ∧ HasBlk wr w.heap.size 27 #[.slice A d.n c, .slice K d.m kc] ∧ HasBlk wr (w.heap.size + 1) 29 #[.int .i64 s, .int .i64 q] ∧ Below w.heap.size w wr) (fun o i' wr => d.m - (intOf i').toNat)
  case atStart => exact ⟨0, Nat.zero_le _, rfl, ⟨none, 0, rfl, own_nil _ _ _ _⟩, HP.out, HH.out, HB.out⟩
  case round =>
    clear HP HH HB zp p1
    obtain ⟨i, hil, rfl, ⟨X, cx, rfl, hown⟩, hP, hH, hbel⟩ := hrel
    have HB := Lib.hid hbel
    have HP := Lib.hid hP
    have HH := Lib.hid hH
    have HO := Lib.hid hown
    have p0 := hP.cell 0
    have p1 := hP.cell 1
    have zp := hP.lt
    simp at p0 p1
    have zb := hbel.size
    clear hown
    by_cases him : i < d.m
    · obtain ⟨gk, ok, hA, hgk, hck⟩ := OK.out.ks (by omega)
      dsimp only at hA
      subst hA
      have hin : i < d.n := by have := HM.out; omega
      obtain ⟨ga, oa, hA2, hga, hca⟩ := OK.out.ar (by omega)
      dsimp only at hA2
      subst hA2
      have hrow := OK.out.kd i him
      dsimp only at hrow
      have k1 := hck i him 0 (by omega)
      simp only [kv, Nat.add_zero, Nat.mul_one] at k1
      obtain ⟨Ai, hAi⟩ : ∃ Ai, KA i = Ai := ⟨_, rfl⟩
      rw [hAi] at hrow k1
      have RW := Lib.hid hrow
      have KR := Lib.hid k1
      have AR := Lib.hid (show w.cell? ⟨ga, oa + i * 2, none⟩ = some (.int .i64 (d.g i)) by
        have h := hca i hin 0 (by omega)
        simpa [sv] using h)
      have k0 := (hbel.cell (p := ⟨gk, ok + i, none⟩) hgk).trans k1
      have q16 := Sm.out.L i him
      have i1i : (i : Int) < (d.m : Int) := by omega
      have i2i : (i : Int) < (d.n : Int) := by omega
      have i0i : (0 : Int) ≤ (i : Int) := by omega
      clear hck hca hrow k1 hAi hbel hP hH
      go_wp2
      obtain ⟨wo, rfl⟩ : ∃ wo : World, wo = wr := ⟨wr, rfl⟩
      clear p0 p1 zp zb k0
      go_loopw [7, 9] (fun o t' wr => ∃ t : Nat, t ≤ d.L i ∧ t' = .int .i64 t ∧ (∃ X cx, o = .slice X (parL d s q i ++ parK d s q i t).length cx ∧ wr.ownsRow (w.heap.size + 1 + 1) 29 2 (.slice X (parL d s q i ++ parK d s q i t).length cx) (parL d s q i ++ parK d s q i t).length (hdc d.g (parL d s q i ++ parK d s q i t))) ∧ HasBlk wr w.heap.size 27 #[.slice (some ⟨ga, oa, none⟩) d.n c, .slice (some ⟨gk, ok, none⟩) d.m kc] ∧ HasBlk wr (w.heap.size + 1) 29 #[.int .i64 s, .int .i64 q] ∧ Below w.heap.size w wr) (fun o t' wr => d.L i - (intOf t').toNat)
      case atStart => exact ⟨0, Nat.zero_le _, rfl, ⟨X, cx, by simp [parK], by simpa [parK] using HO.out⟩, HP.out, HH.out, HB.out⟩
      case round =>
        clear HB HP HH HO
        obtain ⟨t, htl, rfl, ⟨X, cx, rfl, hown⟩, hP, hH, hbel⟩ := hrel
        have HB := Lib.hid hbel
        have HP := Lib.hid hP
        have HH := Lib.hid hH
        have p0 := hP.cell 0
        have p1 := hP.cell 1
        have h0 := hH.cell 0
        have h1 := hH.cell 1
        have zp := hP.lt
        have zh := hH.lt
        simp at p0 p1 h0 h1
        have zb := hbel.size
        have k0 := (hbel.cell (p := ⟨gk, ok + i, none⟩) hgk).trans KR.out
        by_cases htL : t < d.L i
        · obtain ⟨gi, oi, hAi, hgi, hci⟩ := RW.out.below hbel (by omega)
          subst hAi
          have c0 := hci t htL 0 (by omega)
          have c1 := hci t htL 1 (by omega)
          simp only [hv, Nat.add_zero, if_true] at c0
          simp only [hv] at c1
          rw [if_neg (by decide)] at c1
          have i1 : (t : Int) < (d.L i : Int) := by omega
          have j0 : (0 : Int) ≤ (t : Int) := by omega
          have hq := fun W => eql_hdl (d.S i t) (d.Q i t) s q W
          have a0 := (hbel.cell (p := ⟨ga, oa + i * 2, none⟩) hga).trans AR.out
          have hga2 : ga < wr.heap.size := by omega
          clear hbel hP hH hci
          have hpl := parL_len Sm.out s q i (by omega)
          have hpk := parK_len d s q i t
          have hm1 := Sm.out.m
          obtain ⟨LL, hLL⟩ : ∃ LL, parL d s q i ++ parK d s q i t = LL := ⟨_, rfl⟩
          have hll : LL.length ≤ 1001000 := by rw [← hLL, List.length_append]; omega
          rw [hLL] at hown ⊢
          by_cases hm : d.S i t = s ∧ d.Q i t = q
          · have hv1 : (d.S i t == s && d.Q i t == q) = true := by rw [hm.1, hm.2]; simp
            simp only [hv1] at hq
            have EL := Lib.hid (show parL d s q i ++ parK d s q i (t + 1) = LL ++ [i] by
              have eL : parK d s q i (t + 1) = parK d s q i t ++ [i] := if_pos hm
              rw [eL, ← List.append_assoc, hLL])
            clear hpl hpk hLL hm hv1
            generalize hml : LL.length = m at *
            have HML := Lib.hid hml
            clear hml
            have r1 := fun b : BW wr => BW.cell p1 zp b
            have r2 := fun b : BW wr => BW.cell k0 (Nat.lt_of_lt_of_le hgk zb) b
            have r3 := fun b : BW wr => BW.cell c0 hgi b
            have r4 := fun b : BW wr => BW.cell c1 hgi b
            have r5 := fun b : BW wr => BW.cell h0 zh b
            have r6 := fun b : BW wr => BW.cell h1 zh b
            go_wp2_with fail
            clear p0 p1 k0 c0 c1 h0 h1 a0
            refine wp_region_quiet_bw (by kernel_rfl) (by kernel_rfl) ?_
            repeat (go_big_quiet_step (fail))
            refine wpQuiet_nil ?_
            intro _ hw'
            obtain ⟨pq, hw''⟩ := hw'
            subst hw''
            clear r1 r2 r3 r4 r5 r6
            have HB2 := Lib.hid (HB.out.trans (pq.h.mono zb))
            have HP2 := Lib.hid (HP.out.below pq.h)
            have HH2 := Lib.hid (HH.out.below pq.h)
            have hown2 := own_below hown pq.h
            have zq := pq.h.size
            have p0 := HP2.out.cell 0
            have zp2 := HP2.out.lt
            simp at p0
            have a0 := (HB2.out.cell (p := ⟨ga, oa + i * 2, none⟩) hga).trans AR.out
            have zb2 := HB2.out.size
            have Hne := Lib.hid (own_low hown2 (show w.heap.size < (w.heap.size + 1 + 1) by omega))
            have Hne2 := Lib.hid (own_low hown2 (show w.heap.size + 1 < (w.heap.size + 1 + 1) by omega))
            have Hown := Lib.hid hown2
            have hnew : ((pq.W).alloc (.cells #[.int .i64 i, .int .i64 (d.g i)] 29)).heap[pq.W.heap.size]? = some (.cells #[.int .i64 i, .int .i64 (d.g i)] 29 (0, 0)) := by
              have := heap_alloc_new (pq.W) (.cells #[.int .i64 i, .int .i64 (d.g i)] 29)
              simpa using this
            clear hown
            go_wp2_with (at_builtin; refine wpList_append_lies _ rfl (.tmp 44) (.tmp 54) _ rfl (w.heap.size + 1 + 1) 29 i0 _ 2 16 Try.underlying32 hi0 hz0 hz1 hz2 rfl (by omega) (.slice X m cx) (m) (hdc d.g LL) rfl (hown2.alloc _) ⟨pq.W.heap.size, 0, none⟩ 1 1 [.int .i64 i, .int .i64 (d.g i)] (by rfl) rfl (World.news_of_block (cs := #[.int .i64 i, .int .i64 (d.g i)]) (t := 29) (fr := (0, 0)) hnew) (by simp [Value.oneCell']) (by omega) (by unfold maxLen; omega) (by omega) (by simp; omega) (pq.W.heap.size + 1) (by simp) ?_; intro g' cap w3 hown3 hgrow hat hlt)
            go_roundw
            case rel =>
              refine ⟨t + 1, by omega, by go_num, ⟨some ⟨g', 0, none⟩, cap, by rw [EL.out, List.length_append, HML.out]; rfl, ?_⟩, (HP2.out.alloc _).grown hgrow Hne.out, (HH2.out.alloc _).grown hgrow Hne2.out, below_grown (v := .slice X m cx) (HB2.out.alloc (by first | omega | (simp; omega)) _) hgrow (Hown.out.alloc _) (by omega) (by first | omega | (simp; omega))⟩
              rw [EL.out, List.length_append, HML.out, hdc_snoc]
              exact hown3
            case measure => simp [intOf]; omega
          · have hv1 : (d.S i t == s && d.Q i t == q) = false := by
              rw [Bool.and_eq_false_iff]
              by_cases hm2 : d.S i t = s
              · right
                simpa using fun h => hm ⟨hm2, h⟩
              · left
                simpa using hm2
            simp only [hv1] at hq
            have EL := Lib.hid (show parL d s q i ++ parK d s q i (t + 1) = LL by
              have eL : parK d s q i (t + 1) = parK d s q i t := if_neg hm
              rw [eL, hLL])
            clear hpl hpk hLL hm hv1
            have r1 := fun b : BW wr => BW.cell p1 zp b
            have r2 := fun b : BW wr => BW.cell k0 (Nat.lt_of_lt_of_le hgk zb) b
            have r3 := fun b : BW wr => BW.cell c0 hgi b
            have r4 := fun b : BW wr => BW.cell c1 hgi b
            have r5 := fun b : BW wr => BW.cell h0 zh b
            have r6 := fun b : BW wr => BW.cell h1 zh b
            go_wp2_with fail
            clear p0 p1 k0 c0 c1 h0 h1 a0
            refine wp_region_quiet_bw (by kernel_rfl) (by kernel_rfl) ?_
            repeat (go_big_quiet_step (fail))
            refine wpQuiet_nil ?_
            intro _ hw'
            obtain ⟨pq, hw''⟩ := hw'
            subst hw''
            clear r1 r2 r3 r4 r5 r6
            have HB2 := Lib.hid (HB.out.trans (pq.h.mono zb))
            have HP2 := Lib.hid (HP.out.below pq.h)
            have HH2 := Lib.hid (HH.out.below pq.h)
            have hown2 := own_below hown pq.h
            have zq := pq.h.size
            have p0 := HP2.out.cell 0
            have zp2 := HP2.out.lt
            simp at p0
            have a0 := (HB2.out.cell (p := ⟨ga, oa + i * 2, none⟩) hga).trans AR.out
            have zb2 := HB2.out.size
            have Hown := Lib.hid hown2
            clear hown hown2
            go_wp2
            go_roundw
            case rel => exact ⟨t + 1, by omega, by go_num, ⟨X, cx, by rw [EL.out], by rw [EL.out]; exact Hown.out⟩, HP2.out, HH2.out, HB2.out⟩
            case measure => simp [intOf]; omega
        · have htL2 : t = d.L i := by omega
          subst htL2
          have Hown := Lib.hid hown
          clear hown hbel hP hH
          go_wp2
          go_roundw
          case rel => exact ⟨i + 1, by omega, by go_num, ⟨X, cx, rfl, Hown.out⟩, HP.out, HH.out, HB.out⟩
          case measure => simp [intOf]; omega
    · have him2 : i = d.m := by omega
      subst him2
      clear hbel hP hH
      go_wp2
      go_ret2
      exact ⟨⟨X, cx, rfl, own_base HO.out (by omega)⟩, HB.out⟩
end Go.Proofs.Ytgkeiaggldahnaa
