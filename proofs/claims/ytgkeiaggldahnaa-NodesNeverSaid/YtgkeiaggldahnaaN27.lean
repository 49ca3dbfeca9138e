/- nodes: NodesNever. -/
import Derived.Test.YtgkeiaggldahnaaN26
import Derived.Test.YtgkeiaggldahnaaHeldE
import Derived.Deep.CutRange
import Derived.Deep.DeepCutAuto
namespace Go.Proofs.Ytgkeiaggldahnaa
open Go.RowKit
set_option linter.unusedVariables false
/-- A graph that was there before, or one of the call's own. -/
def GAt (w : World) (B : Nat) (W : World) (p : GP) (d : GD) : Prop := GOk w p d ∨ GOwn B W p d
theorem GAt.ok {w W : World} {B : Nat} {p : GP} {d : GD} (h : GAt w B W p d) (hb : Below w.heap.size w W) : GOk W p d := h.elim (fun h => h.below hb) (fun h => h.ok)
theorem GAt.below {w W W' : World} {B : Nat} {p : GP} {d : GD} (h : GAt w B W p d) (hb : Below W.heap.size W W') : GAt w B W' p d := h.elim (fun h => .inl h) (fun h => .inr (h.below hb))
theorem GAt.lset {w W : World} {B g j : Nat} {p : GP} {d : GD} (h : GAt w B W p d) (hg : g < B) (u : Value) : GAt w B (W.setCell ⟨g, j, none⟩ u) p d := h.elim (fun h => .inl h) (fun h => .inr (h.lset hg u))
theorem GAt.set {w W : World} {B g j : Nat} {cs : Array Value} {p : GP} {d : GD} (h : GAt w B W p d) (hb : HasBlk W g 27 cs) (u : Value) : GAt w B (W.setCell ⟨g, j, none⟩ u) p d :=
  h.elim (fun h => .inl h) (fun h => .inr ⟨ownsRow_setCell_other h.ar (hb.ne_own h.ar (by decide)) u, ownsRow_setCell_other h.ks (hb.ne_own h.ks (by decide)) u, h.kd.set (a := ⟨g, j, none⟩) hb (by decide) u⟩)
theorem GOwn.grown {w W : World} {B : Nat} {v : Value} {p : GP} {d : GD} (h : GOwn B w p d) (hg : w.grownBy W v.ownBlock) (hx : ∀ x, v.ownBlock = some x → x < B) : GOwn B W p d := by
  have key : ∀ {e s n : Nat} {u : Value} {xs : List Value}, w.ownsRow B e s u n xs → u.ownBlock = none ∨ u.ownBlock ≠ v.ownBlock := fun {e s n u xs} ho => by
    cases hk : u.ownBlock with
    | none => exact .inl rfl
    | some k =>
      right
      intro e2
      have h1 := (ho.lt k hk).1
      have h2 := hx k e2.symm
      omega
  exact ⟨own_keep h.ar hg (key h.ar), own_keep h.ks hg (key h.ks), h.kd.keep hg (fun i hi => key (h.kd.kd i hi))⟩
theorem hv_snoc (S Q : Nat → Int) (n : Nat) (x y : Int) : cellsR 2 (hv (upd S n x) (upd Q n y)) (n + 1) = cellsR 2 (hv S Q) n ++ [.int .i64 x, .int .i64 y] := by
  rw [cellsR_succ, cellsR_congr (F := hv (upd S n x) (upd Q n y)) (G := hv S Q) (fun i hi j _ => by unfold hv; rw [upd_ne _ _ (by omega), upd_ne _ _ (by omega)])]
  congr 1
  show [hv (upd S n x) (upd Q n y) n 0, hv (upd S n x) (upd Q n y) n 1] = _
  unfold hv
  rw [upd_at, upd_at, if_pos rfl, if_neg (by decide)]
theorem sx_cells {w : World} {B n c gx ox ai bi : Nat} {S Q : Nat → Int} (h : w.ownsRow B 29 2 (.slice (some ⟨gx, ox, none⟩) n c) n (cellsR 2 (hv S Q) n)) (ha : ai < n) (hb : bi < n) :
    w.cell? ⟨gx, ox + ai * 2, none⟩ = some (.int .i64 (S ai)) ∧ w.cell? ⟨gx, ox + ai * 2 + 1, none⟩ = some (.int .i64 (Q ai)) ∧ w.cell? ⟨gx, ox + bi * 2, none⟩ = some (.int .i64 (S bi)) ∧ w.cell? ⟨gx, ox + bi * 2 + 1, none⟩ = some (.int .i64 (Q bi)) := by
  obtain ⟨g, o, e, _, hc⟩ := (Row.of_cells h) (by omega)
  cases e
  exact ⟨hc ai ha 0 (by omega), hc ai ha 1 (by omega), hc bi hb 0 (by omega), hc bi hb 1 (by omega)⟩
theorem sx_lt {w : World} {B n c gx ox : Nat} {S Q : Nat → Int} (h : w.ownsRow B 29 2 (.slice (some ⟨gx, ox, none⟩) n c) n (cellsR 2 (hv S Q) n)) (hn : 0 < n) : gx < w.heap.size := by
  obtain ⟨g, o, e, hl, _⟩ := (Row.of_cells h) hn
  cases e
  exact hl
theorem kill_nm (d : GD) (k : Nat) : (d.kill k).n = d.n ∧ (d.kill k).m = d.m := killN_n (d.dead k) (k : Nat) (d.g k) d.m
theorem kill_mayS {d : GD} {s q : Int} (h : askv d (HeldA d.n d.g d.b s q) = 0) (hm : d.May) : (d.kill s.toNat).May := by
  obtain ⟨_, hh⟩ := askv_zero h
  obtain ⟨k, rfl⟩ := Int.eq_ofNat_of_zero_le hh.1
  have e := hh.2.2.1
  simp only [Int.toNat_natCast] at e ⊢
  subst e
  exact kill_may hm hh
theorem unlink_mayS {d : GD} {s q x : Int} (h : unlinkE d s q x = 0) (hm : d.May) : (d.unlink s.toNat x.toNat).May := by
  unfold unlinkE at h
  split at h
  · rename_i h0
    split at h
    · cases h
    · exact unlink_may hm (by omega)
  · rename_i h0
    exact absurd h h0
theorem link_mayS {d : GD} {s q s' q' x : Int} (h : linkE d s q s' q' x = 0) (hm : d.May) : (d.link s.toNat x.toNat s' q').May := by
  obtain ⟨k, t, a, rfl, rfl, rfl, rfl, rfl, _, h1, h2, ha, h16, hr⟩ := linkE_zero h
  exact link_may hm (by have := h1.2.1; omega) h1.2.2.2 h2 ha h16 hr
theorem link_up (d : GD) (s q s' q' x : Int) : (linkE d s q s' q' x = 60 → rchv d s' q' s q = true ∧ askv d (HeldA d.n d.g d.b s' q' ∧ HeldA d.n d.g d.b s q) = 0) ∧ (linkE d s q s' q' x = 0 → rchv d s' q' s q = false ∧ askv d (HeldA d.n d.g d.b s' q' ∧ HeldA d.n d.g d.b s q) = 0) := by
  have key : askv d (HeldA d.n d.g d.b s' q' ∧ HeldA d.n d.g d.b s q) = askv d (HeldA d.n d.g d.b s q ∧ HeldA d.n d.g d.b s' q') := askv_congr And.comm
  unfold linkE rchv
  rw [key]
  rcases askv_cases d (HeldA d.n d.g d.b s q ∧ HeldA d.n d.g d.b s' q') with ⟨_, e⟩ | ⟨_, _, e⟩ | ⟨_, _, e⟩
  · rw [e, if_neg (by decide)]
    exact ⟨fun h => absurd h (by decide), fun h => absurd h (by decide)⟩
  · rw [e, if_neg (by decide)]
    exact ⟨fun h => absurd h (by decide), fun h => absurd h (by decide)⟩
  · rw [e, if_pos rfl, if_pos rfl]
    unfold linkH
    refine ⟨fun h => ⟨?_, rfl⟩, fun h => ⟨?_, rfl⟩⟩
    · split at h
      · cases h
      · split at h
        · cases h
        · split at h
          · assumption
          · cases h
    · split at h
      · cases h
      · split at h
        · cases h
        · split at h
          · cases h
          · rename_i hh
            simpa using hh
/-- The cells of an act. -/
def av (K a b t : Nat → Int) (k j : Nat) : Value := if j = 0 then .int .u8 (K k) else if j = 1 then .int .i64 (a k) else if j = 2 then .int .i64 (b k) else .int .i64 (t k)

set_option maxRecDepth 100000 in
set_option maxHeartbeats 100000000 in
theorem nodesNever_walk (d : GD) (p : GP) (hrc : d.Rch) (lA : Option Addr) (ln lc : Nat) (K a b t : Nat → Int) (hK : ∀ i, 0 ≤ K i ∧ K i ≤ 255) (w : World) (hok : GOk w p d) (hla : Row w lA ln 4 (av K a b t)) :
    Calls Try.prog 7 #[.agg #[.slice p.A d.n p.c, .slice p.K d.m p.kc], .slice lA ln lc] w fun e w' => e = .returned (.bool true) ∧ Below w.heap.size w w' := by
  obtain ⟨i0', hi0, hz0, hz1, hz2⟩ := info_parts hdl_info
  obtain ⟨i0, hi00⟩ : ∃ i0, i0 = i0' := ⟨_, rfl⟩
  rw [← hi00] at hi0 hz0 hz1 hz2
  clear hi00
  have B0 := Lib.hid ((Below.refl w.heap.size w).alloc (Nat.le_refl _) (.cells #[.slice p.A d.n p.c, .slice p.K d.m p.kc] 27))
  have P0 := Lib.hid (hasBlk_new w 27 #[.slice p.A d.n p.c, .slice p.K d.m p.kc])
  have RC := Lib.hid hrc
  have OK := Lib.hid hok
  have LA := Lib.hid hla
  clear hrc hok hla
  go_enter Try.func7, Try.ntmps7
  go_wp2_with fail
  refine (alive_any _).mono ?_
  rintro e w1 ⟨rfl, bel⟩
  have B1 := Lib.hid (B0.out.trans (bel.mono (by simp)))
  have P1 := Lib.hid (P0.out.below bel)
  have p0 := P1.out.cell 0
  have p1 := P1.out.cell 1
  have zp := P1.out.lt
  simp at p0 p1
  have KX := Lib.hid (great_any d p RC.out w1 (OK.out.below B1.out))
  clear B0 P0 bel
  go_wp2_with fail
  refine KX.out.mono ?_
  rintro e w2 ⟨⟨r, rfl, hr⟩, bel⟩
  have B2 := Lib.hid (B1.out.trans (bel.mono B1.out.size))
  have P2 := Lib.hid (P1.out.below bel)
  clear B1 P1 KX p0 p1 zp bel
  cases r with
  | true =>
    clear hr P2
    go_wp2
    go_ret
    exact ⟨rfl, B2.out⟩
  | false =>
    have Sm := Lib.hid (GD.Sm.mk2 (hr rfl))
    have N200 := Lib.hid (hr rfl).1
    clear hr
    by_cases h60 : 60 < ln
    · have g60 : decide ((60 : Int) < (ln : Int)) = true := decide_eq_true (by omega)
      have g61 : (60 : Int) < (ln : Int) := by omega
      clear h60 P2
      go_wp2
      go_ret
      exact ⟨rfl, B2.out⟩
    have g60 : decide ((60 : Int) < (ln : Int)) = false := decide_eq_false (by omega)
    have g61 : ¬ (60 : Int) < (ln : Int) := by omega
    have L60 := Lib.hid h60
    clear h60
    have p0 := P2.out.cell 0
    have p1 := P2.out.cell 1
    have zp := P2.out.lt
    simp at p0 p1
    have KX := Lib.hid (check_any d p Sm.out w2 (OK.out.below B2.out))
    go_wp2_with fail
    refine KX.out.mono ?_
    rintro e w3 ⟨⟨x, rfl, hx⟩, bel⟩
    have B3 := Lib.hid (B2.out.trans (bel.mono B2.out.size))
    have P3 := Lib.hid (P2.out.below bel)
    clear B2 P2 KX p0 p1 zp bel
    rcases hx with ⟨hmay, rfl⟩ | ⟨_, rfl⟩
    rotate_left
    · clear P3
      go_wp2
      go_ret
      exact ⟨rfl, B3.out⟩
    have MAY := Lib.hid hmay
    clear hmay
    clear g60 g61
    have p0 := P3.out.cell 0
    have p1 := P3.out.cell 1
    have zp := P3.out.lt
    simp at p0 p1
    go_wp2
    clear p0 p1 zp
    go_loopw [7, 6] (fun i' o wr => ∃ (k : Nat) (X : Option Addr) (cx : Nat), k ≤ d.n ∧ i' = .int .i64 k ∧ o = .slice X k cx ∧ wr.ownsRow (w.heap.size + 1) 29 2 (.slice X k cx) k (cellsR 2 (hv (fun j => (j : Int)) d.g) k) ∧ HasBlk wr w.heap.size 27 #[.slice p.A d.n p.c, .slice p.K d.m p.kc] ∧ Below w.heap.size w wr) (fun i' o wr => d.n - (intOf i').toNat)
    case atStart => exact ⟨0, none, 0, Nat.zero_le _, rfl, rfl, own_nil _ _ _ _, P3.out, B3.out⟩
    case round =>
      clear B3 P3
      obtain ⟨k, X, cx, hk, rfl, rfl, hown, hP, hbel⟩ := hrel
      have HO := Lib.hid hown
      have HP := Lib.hid hP
      have HB := Lib.hid hbel
      have p0 := hP.cell 0
      have p1 := hP.cell 1
      have zp := hP.lt
      simp at p0 p1
      have zb := hbel.size
      have n200 := N200.out
      by_cases hkn : k < d.n
      · obtain ⟨ga, oa, hA2, hga, hca⟩ := (OK.out.below hbel).ar (by omega)
        have a0 := hca k hkn 0 (by omega)
        simp [sv] at a0
        rw [hA2] at p0 ⊢
        have i1 : (k : Int) < (d.n : Int) := by omega
        have i0' : (0 : Int) ≤ (k : Int) := by omega
        have Hne := Lib.hid (own_low hown (show w.heap.size < (w.heap.size + 1) by omega))
        have hnew : (wr.alloc (.cells #[.int .i64 k, .int .i64 (d.g k)] 29)).heap[wr.heap.size]? = some (.cells #[.int .i64 k, .int .i64 (d.g k)] 29 (0, 0)) := heap_alloc_new _ _
        have HA := Lib.hid hA2
        clear hA2 hca hP hbel
        go_wp2_with (at_builtin; refine wpList_append_lies _ rfl (.tmp 43) (.tmp 53) _ rfl (w.heap.size + 1) 29 i0 _ 2 16 Try.underlying32 hi0 hz0 hz1 hz2 rfl (by omega) (.slice X k cx) (k) (cellsR 2 (hv (fun j => (j : Int)) d.g) k) rfl (hown.alloc _) ⟨wr.heap.size, 0, none⟩ 1 1 [.int .i64 k, .int .i64 (d.g k)] (by rfl) rfl (World.news_of_block (cs := #[.int .i64 k, .int .i64 (d.g k)]) (t := 29) (fr := (0, 0)) hnew) (by simp [Value.oneCell']) (by omega) (by unfold maxLen; omega) (by omega) (by simp; omega) (wr.heap.size + 1) (by simp) ?_; intro g' cap w3 hown3 hgrow hat hlt)
        go_roundw
        case rel =>
          refine ⟨k + 1, some ⟨g', 0, none⟩, cap, by omega, by go_num, rfl, hown3, by rw [← HA.out]; exact (HP.out.alloc _).grown hgrow Hne.out, below_grown (v := .slice X k cx) (HB.out.alloc (by first | omega | (simp; omega)) _) hgrow (HO.out.alloc _) (by omega) (by first | omega | (simp; omega))⟩
        case measure => simp [intOf]; omega
      · obtain rfl : k = d.n := by omega
        clear hown hP hbel
        go_wp2
        go_loopw [8, 6] (fun i' o wr => ∃ (k n cx : Nat) (X : Option Addr) (d : GD) (p : GP) (S Q : Nat → Int), k ≤ ln ∧ i' = .int .i64 k ∧ o = .slice X n cx ∧ n ≤ 200 + k ∧ d.May ∧ GAt w (w.heap.size + 1) wr p d ∧ HasBlk wr w.heap.size 27 #[.slice p.A d.n p.c, .slice p.K d.m p.kc] ∧ wr.ownsRow (w.heap.size + 1) 29 2 (.slice X n cx) n (cellsR 2 (hv S Q) n) ∧ Below w.heap.size w wr) (fun i' o wr => ln - (intOf i').toNat)
        case atStart => exact ⟨0, d.n, cx, X, d, p, fun j => (j : Int), d.g, Nat.zero_le _, rfl, rfl, by omega, MAY.out, .inl OK.out, HP.out, HO.out, HB.out⟩
        case round =>
          clear HB HP HO p0 p1 zp zb hk hkn n200 MAY
          have OKA := Lib.hid OK.out
          clear OK
          obtain ⟨k, n, cx, X, dg, pg, S, Q, hk, rfl, rfl, hn, hmay, hga, hP, hown, hbel⟩ := hrel
          have GA := Lib.hid hga
          have MAY := Lib.hid hmay
          have HO := Lib.hid hown
          have HP := Lib.hid hP
          have HB := Lib.hid hbel
          have zb := hbel.size
          have l60 := L60.out
          by_cases hkl : k < ln
          · obtain ⟨gl, ol, hlA, hgl, hcl⟩ := (LA.out.below hbel) (by omega)
            subst hlA
            have c0 := hcl k hkl 0 (by omega)
            have c1 := hcl k hkl 1 (by omega)
            have c2 := hcl k hkl 2 (by omega)
            have c3 := hcl k hkl 3 (by omega)
            simp only [av, Nat.add_zero, if_true] at c0
            simp [av] at c1 c2 c3
            have hKk := hK k
            generalize hk0 : K k = kk at c0 hKk
            generalize hk1 : a k = aa at c1
            generalize hk2 : b k = bb at c2
            generalize hk3 : t k = tt at c3
            have i1 : (k : Int) < (ln : Int) := by omega
            have i0' : (0 : Int) ≤ (k : Int) := by omega
            have hP0 := Lib.hid hP.lt
            clear hcl hP hown hbel hga hmay hk0 hk1 hk2 hk3
            go_upto_region 13 with fail
            have bA := (Below.refl wr.heap.size wr).alloc (Nat.le_refl _) (.cells #[.int .u8 kk, .int .i64 aa, .int .i64 bb, .int .i64 tt] 60)
            have AB := Lib.hid (show HasBlk (wr.alloc (.cells #[.int .u8 kk, .int .i64 aa, .int .i64 bb, .int .i64 tt] 60)) wr.heap.size 60 #[.int .u8 kk, .int .i64 aa, .int .i64 bb, .int .i64 tt] from hasBlk_new wr 60 _)
            have GA' := Lib.hid (GA.out.below bA)
            clear GA
            have GA := Lib.hid GA'.out
            clear GA'
            have HO' := Lib.hid (own_below HO.out bA)
            clear HO
            have HO := Lib.hid HO'.out
            clear HO'
            have HP' := Lib.hid (HP.out.below bA)
            clear HP
            have HP := Lib.hid HP'.out
            clear HP'
            have HB' := Lib.hid (HB.out.trans (bA.mono HB.out.size))
            clear HB
            have HB := Lib.hid HB'.out
            clear HB'
            have A9 := Lib.hid (show (w.heap.size + 1) ≤ wr.heap.size from by have := HB.out.size; have := hP0.out; omega)
            clear bA c0 c1 c2 c3 hgl zb LA
            obtain ⟨b9, hb9⟩ : ∃ b9, b9 = wr.heap.size := ⟨_, rfl⟩
            rw [← hb9] at AB A9 ⊢
            clear hb9
            generalize (wr.alloc (.cells #[.int .u8 kk, .int .i64 aa, .int .i64 bb, .int .i64 tt] 60)) = v1 at *
            by_cases h5 : kk % 5 = 0
            · have h5' : (kk % 5 == 0) = true := by rw [h5]; rfl
              as_aux_lemma =>
                have a0 := AB.out.cell 0
                have a1 := AB.out.cell 1
                have a2 := AB.out.cell 2
                have a3 := AB.out.cell 3
                have za := AB.out.lt
                simp at a0 a1 a2 a3
                have p0 := HP.out.cell 0
                have p1 := HP.out.cell 1
                have zp := HP.out.lt
                simp at p0 p1
                have KX := Lib.hid (makeg_any dg pg MAY.out.sm v1 (GA.out.ok HB.out))
                go_wp2_with fail
                refine KX.out.mono ?_
                rintro e v2 ⟨hx, bel⟩
                have zs := HO.out
                have HLT := Lib.hid (fun x (hx : (Value.slice X n cx).ownBlock = some x) => (HO.out.lt x hx).2)
                clear a0 a1 a2 a3 za
                clear p0 p1 zp
                clear KX zs
                have HPL := Lib.hid HP.out.lt
                have GA' := Lib.hid (GA.out.below bel)
                clear GA
                have GA := Lib.hid GA'.out
                clear GA'
                have HO' := Lib.hid (own_below HO.out bel)
                clear HO
                have HO := Lib.hid HO'.out
                clear HO'
                have HP' := Lib.hid (HP.out.below bel)
                clear HP
                have HP := Lib.hid HP'.out
                clear HP'
                have AB' := Lib.hid (AB.out.below bel)
                clear AB
                have AB := Lib.hid AB'.out
                clear AB'
                have HB' := Lib.hid (HB.out.trans (bel.mono HB.out.size))
                clear HB
                have HB := Lib.hid HB'.out
                clear HB'
                clear bel
                rcases hx with ⟨h, _⟩ | ⟨_, _, _, rfl⟩ | ⟨_, j, n', gg, bbb, pn, hmd, rfl, hnw⟩
                · exact absurd MAY.out h
                · go_upto_region 15 with fail
                  have bA := ((Below.refl v2.heap.size v2).alloc (Nat.le_refl _) (.cells #[.slice none 0 0, .slice none 0 0] 27)).alloc (by simp) (.cells #[.int .i64 0, .int .i64 0] 29)
                  have GA' := Lib.hid (GA.out.below bA)
                  clear GA
                  have GA := Lib.hid GA'.out
                  clear GA'
                  have HO' := Lib.hid (own_below HO.out bA)
                  clear HO
                  have HO := Lib.hid HO'.out
                  clear HO'
                  have HP' := Lib.hid (HP.out.below bA)
                  clear HP
                  have HP := Lib.hid HP'.out
                  clear HP'
                  have AB' := Lib.hid (AB.out.below bA)
                  clear AB
                  have AB := Lib.hid AB'.out
                  clear AB'
                  have HB' := Lib.hid (HB.out.trans (bA.mono HB.out.size))
                  clear HB
                  have HB := Lib.hid HB'.out
                  clear HB'
                  clear bA
                  generalize ((v2.alloc (.cells #[.slice none 0 0, .slice none 0 0] 27)).alloc (.cells #[.int .i64 0, .int .i64 0] 29)) = v3 at *
                  go_wp2
                  go_roundw
                  case rel => exact ⟨k + 1, n, cx, X, dg, pg, S, Q, by omega, by go_num, rfl, by omega, MAY.out, GA.out, HP.out, HO.out, HB.out⟩
                  case measure => simp [intOf]; omega

                have MAYN := Lib.hid (made_may MAY.out hmd)
                have GO := Lib.hid hnw
                clear hmd hnw
                go_upto_region 15 with fail
                have bA := ((Below.refl v2.heap.size v2).alloc (Nat.le_refl _) (.cells #[.slice pn.A n' pn.c, .slice pn.K n' pn.kc] 27)).alloc (by simp) (.cells #[.int .i64 j, .int .i64 (gg j)] 29)
                have NB := Lib.hid (show HasBlk ((v2.alloc (.cells #[.slice pn.A n' pn.c, .slice pn.K n' pn.kc] 27)).alloc (.cells #[.int .i64 j, .int .i64 (gg j)] 29)) v2.heap.size 27 #[.slice pn.A n' pn.c, .slice pn.K n' pn.kc] from (hasBlk_new v2 27 _).alloc _)
                have NH := Lib.hid (show HasBlk ((v2.alloc (.cells #[.slice pn.A n' pn.c, .slice pn.K n' pn.kc] 27)).alloc (.cells #[.int .i64 j, .int .i64 (gg j)] 29)) (v2.heap.size + 1) 29 #[.int .i64 j, .int .i64 (gg j)] by simpa using hasBlk_new (v2.alloc (.cells #[.slice pn.A n' pn.c, .slice pn.K n' pn.kc] 27)) 29 #[.int .i64 j, .int .i64 (gg j)])
                have HBL := Lib.hid (show w.heap.size < v2.heap.size from HP.out.lt)
                clear AB GA
                have HO' := Lib.hid (own_below HO.out bA)
                clear HO
                have HO := Lib.hid HO'.out
                clear HO'
                have HP' := Lib.hid (HP.out.below bA)
                clear HP
                have HP := Lib.hid HP'.out
                clear HP'
                have GO' := Lib.hid (GO.out.below bA)
                clear GO
                have GO := Lib.hid GO'.out
                clear GO'
                have HB' := Lib.hid (HB.out.trans (bA.mono HB.out.size))
                clear HB
                have HB := Lib.hid HB'.out
                clear HB'
                have VS := Lib.hid (show w.heap.size < v1.heap.size from by have := HPL.out; omega)
                clear bA
                obtain ⟨b10, hb⟩ : ∃ x, x = v2.heap.size := ⟨_, rfl⟩
                rw [← hb] at NB NH HBL ⊢
                clear hb
                generalize ((v2.alloc (.cells #[.slice pn.A n' pn.c, .slice pn.K n' pn.kc] 27)).alloc (.cells #[.int .i64 j, .int .i64 (gg j)] 29)) = v3 at *
                have p0 := HP.out.cell 0
                have p1 := HP.out.cell 1
                have zp := HP.out.lt
                simp at p0 p1
                have n0 := NB.out.cell 0
                have n1 := NB.out.cell 1
                have m0 := NH.out.cell 0
                have m1 := NH.out.cell 1
                have zn := NB.out.lt
                have zm := NH.out.lt
                have f0 := HP.out.frozen 0
                have f1 := HP.out.frozen 1
                simp at n0 n1 m0 m1
                have tb := HBL.out
                go_upto_region 17 with fail
                have hP' := (HP.out.set 0 (.slice pn.A n' pn.c)).set 1 (.slice pn.K n' pn.kc)
                simp at hP'
                have HP' := Lib.hid hP'
                have NH' := Lib.hid ((NH.out.far (p := ⟨w.heap.size, 0, none⟩) (by simp; omega) (.slice pn.A n' pn.c)).far (p := ⟨w.heap.size, 1, none⟩) (by simp; omega) (.slice pn.K n' pn.kc))
                have GO' := Lib.hid ((GO.out.lset (j := 0) VS.out (.slice pn.A n' pn.c)).lset (j := 1) VS.out (.slice pn.K n' pn.kc))
                have hown := own_lset (j := 1) (own_lset (j := 0) HO.out (show w.heap.size < (w.heap.size + 1) by omega) (.slice pn.A n' pn.c)) (show w.heap.size < (w.heap.size + 1) by omega) (.slice pn.K n' pn.kc)
                have HB' := Lib.hid (Below.setCell (p := ⟨w.heap.size, 1, none⟩) (Below.setCell (p := ⟨w.heap.size, 0, none⟩) HB.out (Nat.le_refl _) (.slice pn.A n' pn.c)) (Nat.le_refl _) (.slice pn.K n' pn.kc))
                clear p0 p1 zp n0 n1 m0 m1 zn zm f0 f1 tb hP' HP HO HB GO NH NB
                generalize ((v3.setCell ⟨w.heap.size, 0, none⟩ (.slice pn.A n' pn.c)).setCell ⟨w.heap.size, 1, none⟩ (.slice pn.K n' pn.kc)) = v4 at *
                have Hne := Lib.hid (own_low hown (show w.heap.size < (w.heap.size + 1) by omega))
                have HO := Lib.hid hown
                have hnew : (v4.alloc (.cells #[.int .i64 j, .int .i64 (gg j)] 29)).heap[v4.heap.size]? = some (.cells #[.int .i64 j, .int .i64 (gg j)] 29 (0, 0)) := heap_alloc_new _ _
                have m0 := NH'.out.cell 0
                have m1 := NH'.out.cell 1
                have zm := NH'.out.lt
                have vz := HP'.out.lt
                simp at m0 m1
                go_wp2_with (at_builtin; refine wpList_append_lies _ rfl (.tmp 78) (.tmp 80) _ rfl (w.heap.size + 1) 29 i0 _ 2 16 Try.underlying32 hi0 hz0 hz1 hz2 rfl (by omega) (.slice X n cx) (n) (cellsR 2 (hv S Q) n) rfl (hown.alloc _) ⟨v4.heap.size, 0, none⟩ 1 1 [.int .i64 j, .int .i64 (gg j)] (by rfl) rfl (World.news_of_block (cs := #[.int .i64 j, .int .i64 (gg j)]) (t := 29) (fr := (0, 0)) hnew) (by simp [Value.oneCell']) (by omega) (by unfold maxLen; omega) (by omega) (by simp; omega) (v4.heap.size + 1) (by simp) ?_; intro g' cap w3 hown3 hgrow hat hlt)
                have MAY' := Lib.hid MAYN.out
                clear m0 m1 zm vz
                go_roundw
                case rel =>
                  have vz := HP'.out.lt
                  refine ⟨k + 1, n + 1, cap, some ⟨g', 0, none⟩, dg.made n' gg bbb, pn, upd S n j, upd Q n (gg j), by omega, by go_num, rfl, by omega, MAY'.out, .inr (((GO'.out.below ((Below.refl _ _).alloc (Nat.le_refl _) _)).grown hgrow HLT.out).base (by have := VS.out; omega)), (HP'.out.alloc _).grown hgrow Hne.out, ?_, below_grown (v := .slice X n cx) (HB'.out.alloc (by first | omega | (simp; omega)) _) hgrow (HO.out.alloc _) (by omega) (by first | omega | (simp; omega))⟩
                  rw [hv_snoc]
                  exact hown3
                case measure => simp [intOf]; omega
            have h5' : (kk % 5 == 0) = false := by simpa using h5
            have a0 := AB.out.cell 0
            have a1 := AB.out.cell 1
            have a2 := AB.out.cell 2
            have a3 := AB.out.cell 3
            have za := AB.out.lt
            simp at a0 a1 a2 a3
            by_cases q1 : aa < 0
            · have gq1 : decide (aa < 0) = true := decide_eq_true q1
              go_wp2
              go_roundw
              case rel => exact ⟨k + 1, n, cx, X, dg, pg, S, Q, by omega, by go_num, rfl, by omega, MAY.out, GA.out, HP.out, HO.out, HB.out⟩
              case measure => simp [intOf]; omega
            have gq1 : decide (aa < 0) = false := decide_eq_false q1
            by_cases q2 : (n : Int) ≤ aa
            · have gq2 : decide ((n : Int) ≤ aa) = true := decide_eq_true q2
              go_wp2
              go_roundw
              case rel => exact ⟨k + 1, n, cx, X, dg, pg, S, Q, by omega, by go_num, rfl, by omega, MAY.out, GA.out, HP.out, HO.out, HB.out⟩
              case measure => simp [intOf]; omega
            have gq2 : decide ((n : Int) ≤ aa) = false := decide_eq_false q2
            by_cases q3 : bb < 0
            · have gq3 : decide (bb < 0) = true := decide_eq_true q3
              go_wp2
              go_roundw
              case rel => exact ⟨k + 1, n, cx, X, dg, pg, S, Q, by omega, by go_num, rfl, by omega, MAY.out, GA.out, HP.out, HO.out, HB.out⟩
              case measure => simp [intOf]; omega
            have gq3 : decide (bb < 0) = false := decide_eq_false q3
            by_cases q4 : (n : Int) ≤ bb
            · have gq4 : decide ((n : Int) ≤ bb) = true := decide_eq_true q4
              go_wp2
              go_roundw
              case rel => exact ⟨k + 1, n, cx, X, dg, pg, S, Q, by omega, by go_num, rfl, by omega, MAY.out, GA.out, HP.out, HO.out, HB.out⟩
              case measure => simp [intOf]; omega
            have gq4 : decide ((n : Int) ≤ bb) = false := decide_eq_false q4
            go_upto_region 19 with fail
            clear gq1 gq2 gq3 gq4
            obtain ⟨ai, rfl⟩ := Int.eq_ofNat_of_zero_le (show 0 ≤ aa by omega)
            obtain ⟨bi, rfl⟩ := Int.eq_ofNat_of_zero_le (show 0 ≤ bb by omega)
            have ABI := Lib.hid (show ai < n ∧ bi < n from ⟨by omega, by omega⟩)
            clear q1 q2 q3 q4
            have RX := Row.of_cells HO.out
            obtain ⟨gx, ox, hX, _, _⟩ := RX (by have := ABI.out.1; omega)
            subst hX
            clear RX
            have p0 := HP.out.cell 0
            have p1 := HP.out.cell 1
            have zp := HP.out.lt
            simp at p0 p1
            go_upto_region 20 with fail
            clear p0 p1 zp
            have bA := (Below.refl v1.heap.size v1).alloc (Nat.le_refl _) (.cells #[.slice pg.A dg.n pg.c, .slice pg.K dg.m pg.kc] 27)
            have CB := Lib.hid (show HasBlk (v1.alloc (.cells #[.slice pg.A dg.n pg.c, .slice pg.K dg.m pg.kc] 27)) v1.heap.size 27 #[.slice pg.A dg.n pg.c, .slice pg.K dg.m pg.kc] from hasBlk_new v1 27 _)
            have C9 := Lib.hid (show b9 < v1.heap.size from AB.out.lt)
            clear a0 a1 a2 a3 za
            have GA' := Lib.hid (GA.out.below bA)
            clear GA
            have GA := Lib.hid GA'.out
            clear GA'
            have HO' := Lib.hid (own_below HO.out bA)
            clear HO
            have HO := Lib.hid HO'.out
            clear HO'
            have HP' := Lib.hid (HP.out.below bA)
            clear HP
            have HP := Lib.hid HP'.out
            clear HP'
            have AB' := Lib.hid (AB.out.below bA)
            clear AB
            have AB := Lib.hid AB'.out
            clear AB'
            have HB' := Lib.hid (HB.out.trans (bA.mono HB.out.size))
            clear HB
            have HB := Lib.hid HB'.out
            clear HB'
            clear bA
            obtain ⟨c13, hb⟩ : ∃ x, x = v1.heap.size := ⟨_, rfl⟩
            rw [← hb] at CB C9 ⊢
            clear hb
            have C13 := Lib.hid (show (w.heap.size + 1) ≤ c13 ∧ b9 < c13 from ⟨by have := C9.out; have := A9.out; omega, C9.out⟩)
            generalize (v1.alloc (.cells #[.slice pg.A dg.n pg.c, .slice pg.K dg.m pg.kc] 27)) = v0 at *
            obtain ⟨v1, rfl⟩ : ∃ v1 : World, v1 = v0 := ⟨_, rfl⟩
            have a0 := AB.out.cell 0
            have a1 := AB.out.cell 1
            have a2 := AB.out.cell 2
            have a3 := AB.out.cell 3
            have za := AB.out.lt
            simp at a0 a1 a2 a3
            have hr : kk % 5 = 1 ∨ (kk % 5 = 2 ∨ kk % 5 = 3) ∨ kk % 5 = 4 := by omega
            have hKm := Lib.hid (show kk.tmod 5 = kk % 5 from Int.tmod_eq_emod_of_nonneg hKk.1)
            clear h5 h5' hKk
            rcases hr with h5 | h5 | h5
            · as_aux_lemma =>
                have m1 : (kk.tmod 5 == 1) = true := by rw [hKm.out, h5]; rfl
                have m2 : (kk.tmod 5 == 2) = false := by rw [hKm.out, h5]; rfl
                have m3 : (kk.tmod 5 == 3) = false := by rw [hKm.out, h5]; rfl
                clear h5
                go_upto_region 23 with fail
                clear a0 a1 a2 a3 za m1 m2 m3
                have HS := Lib.hid (show (fun W => HasBlk W w.heap.size 27 #[.slice pg.A dg.n pg.c, .slice pg.K dg.m pg.kc] ∧ HasBlk W b9 60 #[.int .u8 kk, .int .i64 ai, .int .i64 bi, .int .i64 tt] ∧ W.cell? ⟨gx, ox + ai * 2, none⟩ = some (.int .i64 (S ai)) ∧ W.cell? ⟨gx, ox + ai * 2 + 1, none⟩ = some (.int .i64 (Q ai)) ∧ W.cell? ⟨gx, ox + bi * 2, none⟩ = some (.int .i64 (S bi)) ∧ W.cell? ⟨gx, ox + bi * 2 + 1, none⟩ = some (.int .i64 (Q bi))) v1.drew from ⟨HP.out.drew, AB.out.drew, sx_cells HO.out ABI.out.1 ABI.out.2⟩)
                have bd := (Below.refl v1.heap.size v1).drew
                have HO' := Lib.hid (own_below HO.out bd)
                clear HO
                have HO := Lib.hid HO'.out
                clear HO'
                have HP' := Lib.hid (HP.out.below bd)
                clear HP
                have HP := Lib.hid HP'.out
                clear HP'
                have AB' := Lib.hid (AB.out.below bd)
                clear AB
                have AB := Lib.hid AB'.out
                clear AB'
                have CB' := Lib.hid (CB.out.below bd)
                clear CB
                have CB := Lib.hid CB'.out
                clear CB'
                have GA' := Lib.hid (GA.out.below bd)
                clear GA
                have GA := Lib.hid GA'.out
                clear GA'
                have HB' := Lib.hid (HB.out.trans (bd.mono HB.out.size))
                clear HB
                have HB := Lib.hid HB'.out
                clear HB'
                clear bd
                have ai1 := ABI.out.1
                have bi1 := ABI.out.2
                have ia : (ai : Int) < (n : Int) := by omega
                have ib : (bi : Int) < (n : Int) := by omega
                have ia0 : (0 : Int) ≤ (ai : Int) := by omega
                have ib0 : (0 : Int) ≤ (bi : Int) := by omega
                refine wp_region_E (fun W => HasBlk W w.heap.size 27 #[.slice pg.A dg.n pg.c, .slice pg.K dg.m pg.kc] ∧ HasBlk W b9 60 #[.int .u8 kk, .int .i64 ai, .int .i64 bi, .int .i64 tt] ∧ W.cell? ⟨gx, ox + ai * 2, none⟩ = some (.int .i64 (S ai)) ∧ W.cell? ⟨gx, ox + ai * 2 + 1, none⟩ = some (.int .i64 (Q ai)) ∧ W.cell? ⟨gx, ox + bi * 2, none⟩ = some (.int .i64 (S bi)) ∧ W.cell? ⟨gx, ox + bi * 2 + 1, none⟩ = some (.int .i64 (Q bi))) 11 (by kernel_rfl) ?_
                generalize gwd : v1.drew = v2 at *
                clear gwd
                refine wpAnyE_take (i := 0) (v := .agg #[.slice pg.A dg.n pg.c, .slice pg.K dg.m pg.kc]) rfl (by as_aux_lemma => kernel_rfl) (fun _ _ _ h => h) (.inl ⟨by kernel_rfl, fun W hW => ?_⟩) HS.out ?_
                · obtain ⟨hWP, hWA, x0, x1, y0, y1⟩ := hW
                  have q0 := hWP.cell 0
                  have q1 := hWP.cell 1
                  have r1 := hWA.cell 1
                  have r2 := hWA.cell 2
                  have r3 := hWA.cell 3
                  simp at q0 q1 r1 r2 r3
                  go_simp
                simp only [Act.put, List.setIfInBounds_toArray]
                refine wpAnyE_take (i := 1) (v := .slice (some ⟨gx, ox, none⟩) n cx) rfl (by as_aux_lemma => kernel_rfl) (fun _ _ _ h => h) (.inl ⟨by kernel_rfl, fun W hW => ?_⟩) HS.out ?_
                · obtain ⟨hWP, hWA, x0, x1, y0, y1⟩ := hW
                  have q0 := hWP.cell 0
                  have q1 := hWP.cell 1
                  have r1 := hWA.cell 1
                  have r2 := hWA.cell 2
                  have r3 := hWA.cell 3
                  simp at q0 q1 r1 r2 r3
                  go_simp
                simp only [Act.put]
                refine wpAnyE_take (i := 2) (v := .pointer (some ⟨b9, 1, none⟩)) rfl (by as_aux_lemma => kernel_rfl) (fun _ _ _ h => h) (.inl ⟨by kernel_rfl, fun W hW => ?_⟩) HS.out ?_
                · obtain ⟨hWP, hWA, x0, x1, y0, y1⟩ := hW
                  have q0 := hWP.cell 0
                  have q1 := hWP.cell 1
                  have r1 := hWA.cell 1
                  have r2 := hWA.cell 2
                  have r3 := hWA.cell 3
                  simp at q0 q1 r1 r2 r3
                  go_simp
                simp only [Act.put]
                refine wpAnyE_take (i := 3) (v := .int .i64 ai) rfl (by as_aux_lemma => kernel_rfl) (fun _ _ _ h => h) (.inl ⟨by kernel_rfl, fun W hW => ?_⟩) HS.out ?_
                · obtain ⟨hWP, hWA, x0, x1, y0, y1⟩ := hW
                  have q0 := hWP.cell 0
                  have q1 := hWP.cell 1
                  have r1 := hWA.cell 1
                  have r2 := hWA.cell 2
                  have r3 := hWA.cell 3
                  simp at q0 q1 r1 r2 r3
                  go_simp
                simp only [Act.put]
                refine wpAnyE_take (i := 4) (v := .pointer (some ⟨gx, ox + ai * 2, none⟩)) rfl (by as_aux_lemma => kernel_rfl) (fun _ _ _ h => h) (.inl ⟨by kernel_rfl, fun W hW => ?_⟩) HS.out ?_
                · obtain ⟨hWP, hWA, x0, x1, y0, y1⟩ := hW
                  have q0 := hWP.cell 0
                  have q1 := hWP.cell 1
                  have r1 := hWA.cell 1
                  have r2 := hWA.cell 2
                  have r3 := hWA.cell 3
                  simp at q0 q1 r1 r2 r3
                  go_simp
                simp only [Act.put]
                refine wpAnyE_take (i := 5) (v := .agg #[.int .i64 (S ai), .int .i64 (Q ai)]) rfl (by as_aux_lemma => kernel_rfl) (fun _ _ _ h => h) (.inl ⟨by kernel_rfl, fun W hW => ?_⟩) HS.out ?_
                · obtain ⟨hWP, hWA, x0, x1, y0, y1⟩ := hW
                  have q0 := hWP.cell 0
                  have q1 := hWP.cell 1
                  have r1 := hWA.cell 1
                  have r2 := hWA.cell 2
                  have r3 := hWA.cell 3
                  simp at q0 q1 r1 r2 r3
                  go_simp
                simp only [Act.put]
                clear ia ib ia0 ib0 ai1 bi1
                refine wpAnyE_step (i := 6) rfl (by as_aux_lemma => kernel_rfl) (fun KQ HK => ?_)
                have KX := Lib.hid (killg_any dg pg MAY.out.sm (S ai) (Q ai) v2 (GA.out.ok HB.out))
                clear HS
                go_wp2_with fail
                refine KX.out.mono ?_
                rintro e v3 ⟨hx, bel⟩
                clear KX
                have C13' := Lib.hid (show c13 < v2.heap.size from CB.out.lt)
                have HO' := Lib.hid (own_below HO.out bel)
                clear HO
                have HO := Lib.hid HO'.out
                clear HO'
                have HP' := Lib.hid (HP.out.below bel)
                clear HP
                have HP := Lib.hid HP'.out
                clear HP'
                have AB' := Lib.hid (AB.out.below bel)
                clear AB
                have AB := Lib.hid AB'.out
                clear AB'
                have CB' := Lib.hid (CB.out.below bel)
                clear CB
                have CB := Lib.hid CB'.out
                clear CB'
                have GA' := Lib.hid (GA.out.below bel)
                clear GA
                have GA := Lib.hid GA'.out
                clear GA'
                have HB' := Lib.hid (HB.out.trans (bel.mono HB.out.size))
                clear HB
                have HB := Lib.hid HB'.out
                clear HB'
                clear bel
                have HS := Lib.hid (show (fun W => HasBlk W w.heap.size 27 #[.slice pg.A dg.n pg.c, .slice pg.K dg.m pg.kc] ∧ HasBlk W b9 60 #[.int .u8 kk, .int .i64 ai, .int .i64 bi, .int .i64 tt] ∧ W.cell? ⟨gx, ox + ai * 2, none⟩ = some (.int .i64 (S ai)) ∧ W.cell? ⟨gx, ox + ai * 2 + 1, none⟩ = some (.int .i64 (Q ai)) ∧ W.cell? ⟨gx, ox + bi * 2, none⟩ = some (.int .i64 (S bi)) ∧ W.cell? ⟨gx, ox + bi * 2 + 1, none⟩ = some (.int .i64 (Q bi))) v3 from ⟨HP.out, AB.out, sx_cells HO.out ABI.out.1 ABI.out.2⟩)
                rcases hx with ⟨h0, rfl⟩ | ⟨h0, pn, rfl, hown⟩
                · obtain ⟨er, her⟩ : ∃ er, askv dg (HeldA dg.n dg.g dg.b (S ai) (Q ai)) = er := ⟨_, rfl⟩
                  rw [her] at h0 ⊢
                  clear her
                  have er0 : (er == 0) = false := by simpa using h0
                  have er1 : (er != 0) = true := by simpa using h0
                  clear h0
                  go_wp2
                  refine HK _ _ (fun _ => HS.out) ?_
                  clear HK
                  refine wpAnyE_take (i := 7) (v := .tuple #[.agg #[.slice none 0 0, .slice none 0 0], .int .i64 er]) rfl (by as_aux_lemma => kernel_rfl) (fun _ _ _ h => h) (.inl ⟨by kernel_rfl, fun W hW => ?_⟩) HS.out ?_
                  · obtain ⟨hWP, hWA, x0, x1, y0, y1⟩ := hW
                    have q0 := hWP.cell 0
                    have q1 := hWP.cell 1
                    have r1 := hWA.cell 1
                    have r2 := hWA.cell 2
                    have r3 := hWA.cell 3
                    simp at q0 q1 r1 r2 r3
                    go_simp
                  simp only [Act.put, List.setIfInBounds_toArray]
                  refine wpAnyE_take (i := 8) (v := .agg #[.slice none 0 0, .slice none 0 0]) rfl (by as_aux_lemma => kernel_rfl) (fun _ _ _ h => h) (.inl ⟨by kernel_rfl, fun W hW => ?_⟩) HS.out ?_
                  · obtain ⟨hWP, hWA, x0, x1, y0, y1⟩ := hW
                    have q0 := hWP.cell 0
                    have q1 := hWP.cell 1
                    have r1 := hWA.cell 1
                    have r2 := hWA.cell 2
                    have r3 := hWA.cell 3
                    simp at q0 q1 r1 r2 r3
                    go_simp
                  simp only [Act.put]
                  refine wpAnyE_take (i := 9) (v := .int .i64 er) rfl (by as_aux_lemma => kernel_rfl) (fun _ _ _ h => h) (.inl ⟨by kernel_rfl, fun W hW => ?_⟩) HS.out ?_
                  · obtain ⟨hWP, hWA, x0, x1, y0, y1⟩ := hW
                    have q0 := hWP.cell 0
                    have q1 := hWP.cell 1
                    have r1 := hWA.cell 1
                    have r2 := hWA.cell 2
                    have r3 := hWA.cell 3
                    simp at q0 q1 r1 r2 r3
                    go_simp
                  simp only [Act.put]
                  refine wpAnyE_step (i := 10) rfl (by as_aux_lemma => kernel_rfl) (fun KQ HK => ?_)
                  have c0 := CB.out.cell 0
                  have c1 := CB.out.cell 1
                  have cf0 := CB.out.frozen 0
                  have cf1 := CB.out.frozen 1
                  have zc := CB.out.lt
                  simp at c0 c1
                  go_wp2
                  clear c0 c1 cf0 cf1
                  have t9 := A9.out
                  have t13 := C13.out
                  have tp := HP.out.lt
                  have HO' := Lib.hid (ownsRow_setCell_other (a := ⟨c13, 1, none⟩) (ownsRow_setCell_other (a := ⟨c13, 0, none⟩) HO.out (CB.out.ne_own HO.out (by decide)) (.slice none 0 0)) ((CB.out.set 0 (.slice none 0 0)).ne_own (ownsRow_setCell_other (a := ⟨c13, 0, none⟩) HO.out (CB.out.ne_own HO.out (by decide)) (.slice none 0 0)) (by decide)) (.slice none 0 0))
                  have HP' := Lib.hid ((HP.out.far (p := ⟨c13, 0, none⟩) (by simp; omega) (.slice none 0 0)).far (p := ⟨c13, 1, none⟩) (by simp; omega) (.slice none 0 0))
                  have AB' := Lib.hid ((AB.out.far (p := ⟨c13, 0, none⟩) (by simp; omega) (.slice none 0 0)).far (p := ⟨c13, 1, none⟩) (by simp; omega) (.slice none 0 0))
                  have HB' := Lib.hid (Below.setCell (p := ⟨c13, 1, none⟩) (Below.setCell (p := ⟨c13, 0, none⟩) HB.out (show w.heap.size ≤ c13 by omega) (.slice none 0 0)) (show w.heap.size ≤ c13 by omega) (.slice none 0 0))
                  have GA' := Lib.hid ((GA.out.set (j := 0) CB.out (.slice none 0 0)).set (j := 1) (CB.out.set 0 (.slice none 0 0)) (.slice none 0 0))
                  have CBt := (CB.out.set 0 (.slice none 0 0)).set 1 (.slice none 0 0)
                  simp at CBt
                  have CB' := Lib.hid CBt
                  clear CBt
                  clear HO HP AB HB GA CB
                  have HO := Lib.hid HO'.out
                  clear HO'
                  have HP := Lib.hid HP'.out
                  clear HP'
                  have AB := Lib.hid AB'.out
                  clear AB'
                  have HB := Lib.hid HB'.out
                  clear HB'
                  have GA := Lib.hid GA'.out
                  clear GA'
                  have CB := Lib.hid CB'.out
                  clear CB'
                  clear t9 t13 tp zc
                  have HS := Lib.hid (show (fun W => HasBlk W w.heap.size 27 #[.slice pg.A dg.n pg.c, .slice pg.K dg.m pg.kc] ∧ HasBlk W b9 60 #[.int .u8 kk, .int .i64 ai, .int .i64 bi, .int .i64 tt] ∧ W.cell? ⟨gx, ox + ai * 2, none⟩ = some (.int .i64 (S ai)) ∧ W.cell? ⟨gx, ox + ai * 2 + 1, none⟩ = some (.int .i64 (Q ai)) ∧ W.cell? ⟨gx, ox + bi * 2, none⟩ = some (.int .i64 (S bi)) ∧ W.cell? ⟨gx, ox + bi * 2 + 1, none⟩ = some (.int .i64 (Q bi))) _ from ⟨HP.out, AB.out, sx_cells HO.out ABI.out.1 ABI.out.2⟩)
                  refine HK _ _ (fun _ => HS.out) ?_
                  clear HK
                  generalize ((v3.setCell ⟨c13, 0, none⟩ (.slice none 0 0)).setCell ⟨c13, 1, none⟩ (.slice none 0 0)) = v4 at *
                  refine wpAnyE_step (i := 11) rfl (by as_aux_lemma => kernel_rfl) (fun KQ HK => ?_)
                  go_wp2
                  refine HK _ _ (fun h => absurd rfl h) ?_
                  clear HK
                  refine wpAnyE_done (by as_aux_lemma => kernel_rfl) ?_
                  go_wp2
                  go_roundw
                  case rel => exact ⟨k + 1, n, cx, some ⟨gx, ox, none⟩, dg, pg, S, Q, by omega, by go_num, rfl, by omega, MAY.out, GA.out, HP.out, HO.out, HB.out⟩
                  case measure => simp [intOf]; omega
                have MAYN := Lib.hid (kill_mayS h0 MAY.out)
                have NM := Lib.hid (show (dg.kill (S ai).toNat).n = dg.n ∧ (dg.kill (S ai).toNat).m = dg.m from kill_nm _ _)
                rw [← NM.out.1, ← NM.out.2]
                clear NM h0
                generalize (dg.kill (S ai).toNat) = dn at *
                obtain ⟨bc, hbc⟩ : ∃ bc, bc = v2.heap.size := ⟨_, rfl⟩
                rw [← hbc] at hown C13'
                clear hbc C13
                have GN := Lib.hid hown
                have C13 := Lib.hid (show (w.heap.size + 1) ≤ c13 ∧ c13 < bc ∧ b9 < c13 from ⟨by have := C9.out; have := A9.out; omega, C13'.out, C9.out⟩)
                clear hown C13'
                go_wp2
                refine HK _ _ (fun _ => HS.out) ?_
                clear HK
                refine wpAnyE_take (i := 7) (v := .tuple #[.agg #[.slice pn.A dn.n pn.c, .slice pn.K dn.m pn.kc], .int .i64 0]) rfl (by as_aux_lemma => kernel_rfl) (fun _ _ _ h => h) (.inl ⟨by kernel_rfl, fun W hW => ?_⟩) HS.out ?_
                · obtain ⟨hWP, hWA, x0, x1, y0, y1⟩ := hW
                  have q0 := hWP.cell 0
                  have q1 := hWP.cell 1
                  have r1 := hWA.cell 1
                  have r2 := hWA.cell 2
                  have r3 := hWA.cell 3
                  simp at q0 q1 r1 r2 r3
                  go_simp
                simp only [Act.put, List.setIfInBounds_toArray]
                refine wpAnyE_take (i := 8) (v := .agg #[.slice pn.A dn.n pn.c, .slice pn.K dn.m pn.kc]) rfl (by as_aux_lemma => kernel_rfl) (fun _ _ _ h => h) (.inl ⟨by kernel_rfl, fun W hW => ?_⟩) HS.out ?_
                · obtain ⟨hWP, hWA, x0, x1, y0, y1⟩ := hW
                  have q0 := hWP.cell 0
                  have q1 := hWP.cell 1
                  have r1 := hWA.cell 1
                  have r2 := hWA.cell 2
                  have r3 := hWA.cell 3
                  simp at q0 q1 r1 r2 r3
                  go_simp
                simp only [Act.put]
                refine wpAnyE_take (i := 9) (v := .int .i64 0) rfl (by as_aux_lemma => kernel_rfl) (fun _ _ _ h => h) (.inl ⟨by kernel_rfl, fun W hW => ?_⟩) HS.out ?_
                · obtain ⟨hWP, hWA, x0, x1, y0, y1⟩ := hW
                  have q0 := hWP.cell 0
                  have q1 := hWP.cell 1
                  have r1 := hWA.cell 1
                  have r2 := hWA.cell 2
                  have r3 := hWA.cell 3
                  simp at q0 q1 r1 r2 r3
                  go_simp
                simp only [Act.put]
                refine wpAnyE_step (i := 10) rfl (by as_aux_lemma => kernel_rfl) (fun KQ HK => ?_)
                have c0 := CB.out.cell 0
                have c1 := CB.out.cell 1
                have cf0 := CB.out.frozen 0
                have cf1 := CB.out.frozen 1
                have zc := CB.out.lt
                simp at c0 c1
                go_wp2
                clear c0 c1 cf0 cf1
                have t9 := A9.out
                have t13 := C13.out
                have tp := HP.out.lt
                have HO' := Lib.hid (ownsRow_setCell_other (a := ⟨c13, 1, none⟩) (ownsRow_setCell_other (a := ⟨c13, 0, none⟩) HO.out (CB.out.ne_own HO.out (by decide)) (.slice pn.A dn.n pn.c)) ((CB.out.set 0 (.slice pn.A dn.n pn.c)).ne_own (ownsRow_setCell_other (a := ⟨c13, 0, none⟩) HO.out (CB.out.ne_own HO.out (by decide)) (.slice pn.A dn.n pn.c)) (by decide)) (.slice pn.K dn.m pn.kc))
                have HP' := Lib.hid ((HP.out.far (p := ⟨c13, 0, none⟩) (by simp; omega) (.slice pn.A dn.n pn.c)).far (p := ⟨c13, 1, none⟩) (by simp; omega) (.slice pn.K dn.m pn.kc))
                have AB' := Lib.hid ((AB.out.far (p := ⟨c13, 0, none⟩) (by simp; omega) (.slice pn.A dn.n pn.c)).far (p := ⟨c13, 1, none⟩) (by simp; omega) (.slice pn.K dn.m pn.kc))
                have HB' := Lib.hid (Below.setCell (p := ⟨c13, 1, none⟩) (Below.setCell (p := ⟨c13, 0, none⟩) HB.out (show w.heap.size ≤ c13 by omega) (.slice pn.A dn.n pn.c)) (show w.heap.size ≤ c13 by omega) (.slice pn.K dn.m pn.kc))
                have GN' := Lib.hid ((GN.out.lset (j := 0) (show c13 < bc from by omega) (.slice pn.A dn.n pn.c)).lset (j := 1) (show c13 < bc from by omega) (.slice pn.K dn.m pn.kc))
                have GA' := Lib.hid ((GA.out.set (j := 0) CB.out (.slice pn.A dn.n pn.c)).set (j := 1) (CB.out.set 0 (.slice pn.A dn.n pn.c)) (.slice pn.K dn.m pn.kc))
                have CBt := (CB.out.set 0 (.slice pn.A dn.n pn.c)).set 1 (.slice pn.K dn.m pn.kc)
                simp at CBt
                have CB' := Lib.hid CBt
                clear CBt
                clear HO HP AB HB GN GA CB
                have HO := Lib.hid HO'.out
                clear HO'
                have HP := Lib.hid HP'.out
                clear HP'
                have AB := Lib.hid AB'.out
                clear AB'
                have HB := Lib.hid HB'.out
                clear HB'
                have GN := Lib.hid GN'.out
                clear GN'
                have GA := Lib.hid GA'.out
                clear GA'
                have CB := Lib.hid CB'.out
                clear CB'
                clear t9 t13 tp zc
                have HS := Lib.hid (show (fun W => HasBlk W w.heap.size 27 #[.slice pg.A dg.n pg.c, .slice pg.K dg.m pg.kc] ∧ HasBlk W b9 60 #[.int .u8 kk, .int .i64 ai, .int .i64 bi, .int .i64 tt] ∧ W.cell? ⟨gx, ox + ai * 2, none⟩ = some (.int .i64 (S ai)) ∧ W.cell? ⟨gx, ox + ai * 2 + 1, none⟩ = some (.int .i64 (Q ai)) ∧ W.cell? ⟨gx, ox + bi * 2, none⟩ = some (.int .i64 (S bi)) ∧ W.cell? ⟨gx, ox + bi * 2 + 1, none⟩ = some (.int .i64 (Q bi))) _ from ⟨HP.out, AB.out, sx_cells HO.out ABI.out.1 ABI.out.2⟩)
                refine HK _ _ (fun _ => HS.out) ?_
                clear HK
                generalize ((v3.setCell ⟨c13, 0, none⟩ (.slice pn.A dn.n pn.c)).setCell ⟨c13, 1, none⟩ (.slice pn.K dn.m pn.kc)) = v4 at *
                refine wpAnyE_step (i := 11) rfl (by as_aux_lemma => kernel_rfl) (fun KQ HK => ?_)
                go_wp2
                refine HK _ _ (fun h => absurd rfl h) ?_
                clear HK
                refine wpAnyE_done (by as_aux_lemma => kernel_rfl) ?_
                have c0 := CB.out.cell 0
                have c1 := CB.out.cell 1
                have zc := CB.out.lt
                have f0 := HP.out.frozen 0
                have f1 := HP.out.frozen 1
                have p0 := HP.out.cell 0
                have p1 := HP.out.cell 1
                have zp := HP.out.lt
                simp at p0 p1
                simp at c0 c1
                go_upto_region 32 with fail
                clear c0 c1 zc f0 f1 p0 p1 zp
                have tbc := C13.out
                have HO' := Lib.hid (own_lset (j := 1) (own_lset (j := 0) HO.out (show w.heap.size < (w.heap.size + 1) by omega) (.slice pn.A dn.n pn.c)) (show w.heap.size < (w.heap.size + 1) by omega) (.slice pn.K dn.m pn.kc))
                have HB' := Lib.hid (Below.setCell (p := ⟨w.heap.size, 1, none⟩) (Below.setCell (p := ⟨w.heap.size, 0, none⟩) HB.out (show w.heap.size ≤ w.heap.size by omega) (.slice pn.A dn.n pn.c)) (show w.heap.size ≤ w.heap.size by omega) (.slice pn.K dn.m pn.kc))
                have GN' := Lib.hid ((GN.out.lset (j := 0) (show w.heap.size < bc from by omega) (.slice pn.A dn.n pn.c)).lset (j := 1) (show w.heap.size < bc from by omega) (.slice pn.K dn.m pn.kc))
                have HPt := (HP.out.set 0 (.slice pn.A dn.n pn.c)).set 1 (.slice pn.K dn.m pn.kc)
                simp at HPt
                have HP' := Lib.hid HPt
                clear HPt
                clear HO HB GN HP
                have HO := Lib.hid HO'.out
                clear HO'
                have HB := Lib.hid HB'.out
                clear HB'
                have GN := Lib.hid GN'.out
                clear GN'
                have HP := Lib.hid HP'.out
                clear HP'
                clear tbc CB
                generalize ((v4.setCell ⟨w.heap.size, 0, none⟩ (.slice pn.A dn.n pn.c)).setCell ⟨w.heap.size, 1, none⟩ (.slice pn.K dn.m pn.kc)) = v6 at *
                have p0 := HP.out.cell 0
                have p1 := HP.out.cell 1
                have zp := HP.out.lt
                simp at p0 p1
                have KX := Lib.hid (check_any dn pn MAYN.out.sm v6 GN.out.ok)
                go_wp2_with fail
                refine KX.out.mono ?_
                rintro e v7 ⟨⟨x, rfl, hx⟩, bel⟩
                obtain rfl : x = 0 := by
                  rcases hx with ⟨_, h⟩ | ⟨h, _⟩
                  · exact h
                  · exact absurd MAYN.out h
                clear p0 p1 zp
                clear KX hx
                have HO' := Lib.hid (own_below HO.out bel)
                clear HO
                have HO := Lib.hid HO'.out
                clear HO'
                have HP' := Lib.hid (HP.out.below bel)
                clear HP
                have HP := Lib.hid HP'.out
                clear HP'
                have HB' := Lib.hid (HB.out.trans (bel.mono HB.out.size))
                clear HB
                have HB := Lib.hid HB'.out
                clear HB'
                have GN' := Lib.hid (GN.out.below bel)
                clear GN
                have GN := Lib.hid GN'.out
                clear GN'
                clear bel MAY
                have MAY := Lib.hid MAYN.out
                have GA := Lib.hid (show GAt w (w.heap.size + 1) v7 pn dn from .inr (GN.out.base (by have := C13.out; have := A9.out; omega)))
                clear GN
                go_wp2
                go_roundw
                case rel => exact ⟨k + 1, n, cx, some ⟨gx, ox, none⟩, dn, pn, S, Q, by omega, by go_num, rfl, by omega, MAY.out, GA.out, HP.out, HO.out, HB.out⟩
                case measure => simp [intOf]; omega
            · have m1 : (kk.tmod 5 == 1) = false := by rcases h5 with h5 | h5 <;> (rw [hKm.out, h5]; rfl)
              obtain ⟨e2, m2⟩ : ∃ e2, (kk.tmod 5 == 2) = e2 := ⟨_, rfl⟩
              have M3 := Lib.hid (show e2 = false → (kk.tmod 5 == 3) = true from fun h => by
                rcases h5 with h5 | h5
                · rw [← m2, hKm.out, h5] at h; cases h
                · rw [hKm.out, h5]; rfl)
              clear h5
              go_upto_if 132 with (fail)
              clear a0 a1 a2 a3 za
              go_cut [132] from 55 to 193 (fun s132 wx => s132 = .bool true ∧ wx = v1)
              case first =>
                cases e2
                · have m3 := M3.out rfl
                  go_wp2
                  go_meet
                  exact ⟨rfl, rfl⟩
                · go_wp2
                  go_meet
                  exact ⟨rfl, rfl⟩
              case rest =>
                obtain ⟨rfl, hwc⟩ := hcut
                obtain rfl : v1 = wc := hwc.symm
                clear m1 m2 M3
                go_upto_region 26 with fail
                have HS := Lib.hid (show (fun W => HasBlk W w.heap.size 27 #[.slice pg.A dg.n pg.c, .slice pg.K dg.m pg.kc] ∧ HasBlk W b9 60 #[.int .u8 kk, .int .i64 ai, .int .i64 bi, .int .i64 tt] ∧ W.cell? ⟨gx, ox + ai * 2, none⟩ = some (.int .i64 (S ai)) ∧ W.cell? ⟨gx, ox + ai * 2 + 1, none⟩ = some (.int .i64 (Q ai)) ∧ W.cell? ⟨gx, ox + bi * 2, none⟩ = some (.int .i64 (S bi)) ∧ W.cell? ⟨gx, ox + bi * 2 + 1, none⟩ = some (.int .i64 (Q bi))) v1.drew from ⟨HP.out.drew, AB.out.drew, sx_cells HO.out ABI.out.1 ABI.out.2⟩)
                have bd := (Below.refl v1.heap.size v1).drew
                have HO' := Lib.hid (own_below HO.out bd)
                clear HO
                have HO := Lib.hid HO'.out
                clear HO'
                have HP' := Lib.hid (HP.out.below bd)
                clear HP
                have HP := Lib.hid HP'.out
                clear HP'
                have AB' := Lib.hid (AB.out.below bd)
                clear AB
                have AB := Lib.hid AB'.out
                clear AB'
                have CB' := Lib.hid (CB.out.below bd)
                clear CB
                have CB := Lib.hid CB'.out
                clear CB'
                have GA' := Lib.hid (GA.out.below bd)
                clear GA
                have GA := Lib.hid GA'.out
                clear GA'
                have HB' := Lib.hid (HB.out.trans (bd.mono HB.out.size))
                clear HB
                have HB := Lib.hid HB'.out
                clear HB'
                clear bd
                have ai1 := ABI.out.1
                have bi1 := ABI.out.2
                have ia : (ai : Int) < (n : Int) := by omega
                have ib : (bi : Int) < (n : Int) := by omega
                have ia0 : (0 : Int) ≤ (ai : Int) := by omega
                have ib0 : (0 : Int) ≤ (bi : Int) := by omega
                refine wp_region_E (fun W => HasBlk W w.heap.size 27 #[.slice pg.A dg.n pg.c, .slice pg.K dg.m pg.kc] ∧ HasBlk W b9 60 #[.int .u8 kk, .int .i64 ai, .int .i64 bi, .int .i64 tt] ∧ W.cell? ⟨gx, ox + ai * 2, none⟩ = some (.int .i64 (S ai)) ∧ W.cell? ⟨gx, ox + ai * 2 + 1, none⟩ = some (.int .i64 (Q ai)) ∧ W.cell? ⟨gx, ox + bi * 2, none⟩ = some (.int .i64 (S bi)) ∧ W.cell? ⟨gx, ox + bi * 2 + 1, none⟩ = some (.int .i64 (Q bi))) 18 (by kernel_rfl) ?_
                generalize gwd : v1.drew = v2 at *
                clear gwd
                refine wpAnyE_take (i := 0) (v := .agg #[.slice pg.A dg.n pg.c, .slice pg.K dg.m pg.kc]) rfl (by as_aux_lemma => kernel_rfl) (fun _ _ _ h => h) (.inl ⟨by kernel_rfl, fun W hW => ?_⟩) HS.out ?_
                · obtain ⟨hWP, hWA, x0, x1, y0, y1⟩ := hW
                  have q0 := hWP.cell 0
                  have q1 := hWP.cell 1
                  have r1 := hWA.cell 1
                  have r2 := hWA.cell 2
                  have r3 := hWA.cell 3
                  simp at q0 q1 r1 r2 r3
                  go_simp
                simp only [Act.put, List.setIfInBounds_toArray]
                refine wpAnyE_take (i := 1) (v := .slice (some ⟨gx, ox, none⟩) n cx) rfl (by as_aux_lemma => kernel_rfl) (fun _ _ _ h => h) (.inl ⟨by kernel_rfl, fun W hW => ?_⟩) HS.out ?_
                · obtain ⟨hWP, hWA, x0, x1, y0, y1⟩ := hW
                  have q0 := hWP.cell 0
                  have q1 := hWP.cell 1
                  have r1 := hWA.cell 1
                  have r2 := hWA.cell 2
                  have r3 := hWA.cell 3
                  simp at q0 q1 r1 r2 r3
                  go_simp
                simp only [Act.put]
                refine wpAnyE_take (i := 2) (v := .pointer (some ⟨b9, 1, none⟩)) rfl (by as_aux_lemma => kernel_rfl) (fun _ _ _ h => h) (.inl ⟨by kernel_rfl, fun W hW => ?_⟩) HS.out ?_
                · obtain ⟨hWP, hWA, x0, x1, y0, y1⟩ := hW
                  have q0 := hWP.cell 0
                  have q1 := hWP.cell 1
                  have r1 := hWA.cell 1
                  have r2 := hWA.cell 2
                  have r3 := hWA.cell 3
                  simp at q0 q1 r1 r2 r3
                  go_simp
                simp only [Act.put]
                refine wpAnyE_take (i := 3) (v := .int .i64 ai) rfl (by as_aux_lemma => kernel_rfl) (fun _ _ _ h => h) (.inl ⟨by kernel_rfl, fun W hW => ?_⟩) HS.out ?_
                · obtain ⟨hWP, hWA, x0, x1, y0, y1⟩ := hW
                  have q0 := hWP.cell 0
                  have q1 := hWP.cell 1
                  have r1 := hWA.cell 1
                  have r2 := hWA.cell 2
                  have r3 := hWA.cell 3
                  simp at q0 q1 r1 r2 r3
                  go_simp
                simp only [Act.put]
                refine wpAnyE_take (i := 4) (v := .pointer (some ⟨gx, ox + ai * 2, none⟩)) rfl (by as_aux_lemma => kernel_rfl) (fun _ _ _ h => h) (.inl ⟨by kernel_rfl, fun W hW => ?_⟩) HS.out ?_
                · obtain ⟨hWP, hWA, x0, x1, y0, y1⟩ := hW
                  have q0 := hWP.cell 0
                  have q1 := hWP.cell 1
                  have r1 := hWA.cell 1
                  have r2 := hWA.cell 2
                  have r3 := hWA.cell 3
                  simp at q0 q1 r1 r2 r3
                  go_simp
                simp only [Act.put]
                refine wpAnyE_take (i := 5) (v := .agg #[.int .i64 (S ai), .int .i64 (Q ai)]) rfl (by as_aux_lemma => kernel_rfl) (fun _ _ _ h => h) (.inl ⟨by kernel_rfl, fun W hW => ?_⟩) HS.out ?_
                · obtain ⟨hWP, hWA, x0, x1, y0, y1⟩ := hW
                  have q0 := hWP.cell 0
                  have q1 := hWP.cell 1
                  have r1 := hWA.cell 1
                  have r2 := hWA.cell 2
                  have r3 := hWA.cell 3
                  simp at q0 q1 r1 r2 r3
                  go_simp
                simp only [Act.put]
                refine wpAnyE_take (i := 6) (v := .slice (some ⟨gx, ox, none⟩) n cx) rfl (by as_aux_lemma => kernel_rfl) (fun _ _ _ h => h) (.inl ⟨by kernel_rfl, fun W hW => ?_⟩) HS.out ?_
                · obtain ⟨hWP, hWA, x0, x1, y0, y1⟩ := hW
                  have q0 := hWP.cell 0
                  have q1 := hWP.cell 1
                  have r1 := hWA.cell 1
                  have r2 := hWA.cell 2
                  have r3 := hWA.cell 3
                  simp at q0 q1 r1 r2 r3
                  go_simp
                simp only [Act.put]
                refine wpAnyE_take (i := 7) (v := .pointer (some ⟨b9, 2, none⟩)) rfl (by as_aux_lemma => kernel_rfl) (fun _ _ _ h => h) (.inl ⟨by kernel_rfl, fun W hW => ?_⟩) HS.out ?_
                · obtain ⟨hWP, hWA, x0, x1, y0, y1⟩ := hW
                  have q0 := hWP.cell 0
                  have q1 := hWP.cell 1
                  have r1 := hWA.cell 1
                  have r2 := hWA.cell 2
                  have r3 := hWA.cell 3
                  simp at q0 q1 r1 r2 r3
                  go_simp
                simp only [Act.put]
                refine wpAnyE_take (i := 8) (v := .int .i64 bi) rfl (by as_aux_lemma => kernel_rfl) (fun _ _ _ h => h) (.inl ⟨by kernel_rfl, fun W hW => ?_⟩) HS.out ?_
                · obtain ⟨hWP, hWA, x0, x1, y0, y1⟩ := hW
                  have q0 := hWP.cell 0
                  have q1 := hWP.cell 1
                  have r1 := hWA.cell 1
                  have r2 := hWA.cell 2
                  have r3 := hWA.cell 3
                  simp at q0 q1 r1 r2 r3
                  go_simp
                simp only [Act.put]
                refine wpAnyE_take (i := 9) (v := .pointer (some ⟨gx, ox + bi * 2, none⟩)) rfl (by as_aux_lemma => kernel_rfl) (fun _ _ _ h => h) (.inl ⟨by kernel_rfl, fun W hW => ?_⟩) HS.out ?_
                · obtain ⟨hWP, hWA, x0, x1, y0, y1⟩ := hW
                  have q0 := hWP.cell 0
                  have q1 := hWP.cell 1
                  have r1 := hWA.cell 1
                  have r2 := hWA.cell 2
                  have r3 := hWA.cell 3
                  simp at q0 q1 r1 r2 r3
                  go_simp
                simp only [Act.put]
                refine wpAnyE_take (i := 10) (v := .agg #[.int .i64 (S bi), .int .i64 (Q bi)]) rfl (by as_aux_lemma => kernel_rfl) (fun _ _ _ h => h) (.inl ⟨by kernel_rfl, fun W hW => ?_⟩) HS.out ?_
                · obtain ⟨hWP, hWA, x0, x1, y0, y1⟩ := hW
                  have q0 := hWP.cell 0
                  have q1 := hWP.cell 1
                  have r1 := hWA.cell 1
                  have r2 := hWA.cell 2
                  have r3 := hWA.cell 3
                  simp at q0 q1 r1 r2 r3
                  go_simp
                simp only [Act.put]
                refine wpAnyE_take (i := 11) (v := .pointer (some ⟨b9, 3, none⟩)) rfl (by as_aux_lemma => kernel_rfl) (fun _ _ _ h => h) (.inl ⟨by kernel_rfl, fun W hW => ?_⟩) HS.out ?_
                · obtain ⟨hWP, hWA, x0, x1, y0, y1⟩ := hW
                  have q0 := hWP.cell 0
                  have q1 := hWP.cell 1
                  have r1 := hWA.cell 1
                  have r2 := hWA.cell 2
                  have r3 := hWA.cell 3
                  simp at q0 q1 r1 r2 r3
                  go_simp
                simp only [Act.put]
                refine wpAnyE_take (i := 12) (v := .int .i64 tt) rfl (by as_aux_lemma => kernel_rfl) (fun _ _ _ h => h) (.inl ⟨by kernel_rfl, fun W hW => ?_⟩) HS.out ?_
                · obtain ⟨hWP, hWA, x0, x1, y0, y1⟩ := hW
                  have q0 := hWP.cell 0
                  have q1 := hWP.cell 1
                  have r1 := hWA.cell 1
                  have r2 := hWA.cell 2
                  have r3 := hWA.cell 3
                  simp at q0 q1 r1 r2 r3
                  go_simp
                simp only [Act.put]
                clear ia ib ia0 ib0 ai1 bi1
                refine wpAnyE_step (i := 13) rfl (by as_aux_lemma => kernel_rfl) (fun KQ HK => ?_)
                have KX := Lib.hid (linkg_any dg pg MAY.out.sm (S ai) (Q ai) (S bi) (Q bi) tt v2 (GA.out.ok HB.out))
                clear HS
                go_wp2_with fail
                refine KX.out.mono ?_
                rintro e v3 ⟨hx, bel⟩
                clear KX
                have C13' := Lib.hid (show c13 < v2.heap.size from CB.out.lt)
                have HO' := Lib.hid (own_below HO.out bel)
                clear HO
                have HO := Lib.hid HO'.out
                clear HO'
                have HP' := Lib.hid (HP.out.below bel)
                clear HP
                have HP := Lib.hid HP'.out
                clear HP'
                have AB' := Lib.hid (AB.out.below bel)
                clear AB
                have AB := Lib.hid AB'.out
                clear AB'
                have CB' := Lib.hid (CB.out.below bel)
                clear CB
                have CB := Lib.hid CB'.out
                clear CB'
                have GA' := Lib.hid (GA.out.below bel)
                clear GA
                have GA := Lib.hid GA'.out
                clear GA'
                have HB' := Lib.hid (HB.out.trans (bel.mono HB.out.size))
                clear HB
                have HB := Lib.hid HB'.out
                clear HB'
                clear bel
                have HS := Lib.hid (show (fun W => HasBlk W w.heap.size 27 #[.slice pg.A dg.n pg.c, .slice pg.K dg.m pg.kc] ∧ HasBlk W b9 60 #[.int .u8 kk, .int .i64 ai, .int .i64 bi, .int .i64 tt] ∧ W.cell? ⟨gx, ox + ai * 2, none⟩ = some (.int .i64 (S ai)) ∧ W.cell? ⟨gx, ox + ai * 2 + 1, none⟩ = some (.int .i64 (Q ai)) ∧ W.cell? ⟨gx, ox + bi * 2, none⟩ = some (.int .i64 (S bi)) ∧ W.cell? ⟨gx, ox + bi * 2 + 1, none⟩ = some (.int .i64 (Q bi))) v3 from ⟨HP.out, AB.out, sx_cells HO.out ABI.out.1 ABI.out.2⟩)
                have UPE := Lib.hid (link_up dg (S ai) (Q ai) (S bi) (Q bi) tt)
                rcases hx with ⟨h0, rfl⟩ | ⟨h0, pn, rfl, hown⟩
                · obtain ⟨er, her⟩ : ∃ er, linkE dg (S ai) (Q ai) (S bi) (Q bi) tt = er := ⟨_, rfl⟩
                  rw [her] at h0 ⊢
                  by_cases h60 : er = 60
                  · subst h60
                    have UPE' := Lib.hid (UPE.out.1 her)
                    clear UPE h0 her
                    have UPE := Lib.hid UPE'.out
                    clear UPE'
                    go_wp2
                    refine HK _ _ (fun _ => HS.out) ?_
                    clear HK
                    refine wpAnyE_take (i := 14) (v := .tuple #[.agg #[.slice none 0 0, .slice none 0 0], .int .i64 60]) rfl (by as_aux_lemma => kernel_rfl) (fun _ _ _ h => h) (.inl ⟨by kernel_rfl, fun W hW => ?_⟩) HS.out ?_
                    · obtain ⟨hWP, hWA, x0, x1, y0, y1⟩ := hW
                      have q0 := hWP.cell 0
                      have q1 := hWP.cell 1
                      have r1 := hWA.cell 1
                      have r2 := hWA.cell 2
                      have r3 := hWA.cell 3
                      simp at q0 q1 r1 r2 r3
                      go_simp
                    simp only [Act.put, List.setIfInBounds_toArray]
                    refine wpAnyE_take (i := 15) (v := .agg #[.slice none 0 0, .slice none 0 0]) rfl (by as_aux_lemma => kernel_rfl) (fun _ _ _ h => h) (.inl ⟨by kernel_rfl, fun W hW => ?_⟩) HS.out ?_
                    · obtain ⟨hWP, hWA, x0, x1, y0, y1⟩ := hW
                      have q0 := hWP.cell 0
                      have q1 := hWP.cell 1
                      have r1 := hWA.cell 1
                      have r2 := hWA.cell 2
                      have r3 := hWA.cell 3
                      simp at q0 q1 r1 r2 r3
                      go_simp
                    simp only [Act.put]
                    refine wpAnyE_take (i := 16) (v := .int .i64 60) rfl (by as_aux_lemma => kernel_rfl) (fun _ _ _ h => h) (.inl ⟨by kernel_rfl, fun W hW => ?_⟩) HS.out ?_
                    · obtain ⟨hWP, hWA, x0, x1, y0, y1⟩ := hW
                      have q0 := hWP.cell 0
                      have q1 := hWP.cell 1
                      have r1 := hWA.cell 1
                      have r2 := hWA.cell 2
                      have r3 := hWA.cell 3
                      simp at q0 q1 r1 r2 r3
                      go_simp
                    simp only [Act.put]
                    refine wpAnyE_step (i := 17) rfl (by as_aux_lemma => kernel_rfl) (fun KQ HK => ?_)
                    have c0 := CB.out.cell 0
                    have c1 := CB.out.cell 1
                    have cf0 := CB.out.frozen 0
                    have cf1 := CB.out.frozen 1
                    have zc := CB.out.lt
                    simp at c0 c1
                    go_wp2
                    clear c0 c1 cf0 cf1
                    have t9 := A9.out
                    have t13 := C13.out
                    have tp := HP.out.lt
                    have HO' := Lib.hid (ownsRow_setCell_other (a := ⟨c13, 1, none⟩) (ownsRow_setCell_other (a := ⟨c13, 0, none⟩) HO.out (CB.out.ne_own HO.out (by decide)) (.slice none 0 0)) ((CB.out.set 0 (.slice none 0 0)).ne_own (ownsRow_setCell_other (a := ⟨c13, 0, none⟩) HO.out (CB.out.ne_own HO.out (by decide)) (.slice none 0 0)) (by decide)) (.slice none 0 0))
                    have HP' := Lib.hid ((HP.out.far (p := ⟨c13, 0, none⟩) (by simp; omega) (.slice none 0 0)).far (p := ⟨c13, 1, none⟩) (by simp; omega) (.slice none 0 0))
                    have AB' := Lib.hid ((AB.out.far (p := ⟨c13, 0, none⟩) (by simp; omega) (.slice none 0 0)).far (p := ⟨c13, 1, none⟩) (by simp; omega) (.slice none 0 0))
                    have HB' := Lib.hid (Below.setCell (p := ⟨c13, 1, none⟩) (Below.setCell (p := ⟨c13, 0, none⟩) HB.out (show w.heap.size ≤ c13 by omega) (.slice none 0 0)) (show w.heap.size ≤ c13 by omega) (.slice none 0 0))
                    have GA' := Lib.hid ((GA.out.set (j := 0) CB.out (.slice none 0 0)).set (j := 1) (CB.out.set 0 (.slice none 0 0)) (.slice none 0 0))
                    have CBt := (CB.out.set 0 (.slice none 0 0)).set 1 (.slice none 0 0)
                    simp at CBt
                    have CB' := Lib.hid CBt
                    clear CBt
                    clear HO HP AB HB GA CB
                    have HO := Lib.hid HO'.out
                    clear HO'
                    have HP := Lib.hid HP'.out
                    clear HP'
                    have AB := Lib.hid AB'.out
                    clear AB'
                    have HB := Lib.hid HB'.out
                    clear HB'
                    have GA := Lib.hid GA'.out
                    clear GA'
                    have CB := Lib.hid CB'.out
                    clear CB'
                    clear t9 t13 tp zc
                    have HS := Lib.hid (show (fun W => HasBlk W w.heap.size 27 #[.slice pg.A dg.n pg.c, .slice pg.K dg.m pg.kc] ∧ HasBlk W b9 60 #[.int .u8 kk, .int .i64 ai, .int .i64 bi, .int .i64 tt] ∧ W.cell? ⟨gx, ox + ai * 2, none⟩ = some (.int .i64 (S ai)) ∧ W.cell? ⟨gx, ox + ai * 2 + 1, none⟩ = some (.int .i64 (Q ai)) ∧ W.cell? ⟨gx, ox + bi * 2, none⟩ = some (.int .i64 (S bi)) ∧ W.cell? ⟨gx, ox + bi * 2 + 1, none⟩ = some (.int .i64 (Q bi))) _ from ⟨HP.out, AB.out, sx_cells HO.out ABI.out.1 ABI.out.2⟩)
                    refine HK _ _ (fun _ => HS.out) ?_
                    clear HK
                    generalize ((v3.setCell ⟨c13, 0, none⟩ (.slice none 0 0)).setCell ⟨c13, 1, none⟩ (.slice none 0 0)) = v4 at *
                    refine wpAnyE_step (i := 18) rfl (by as_aux_lemma => kernel_rfl) (fun KQ HK => ?_)
                    go_wp2
                    refine HK _ _ (fun h => absurd rfl h) ?_
                    clear HK
                    refine wpAnyE_done (by as_aux_lemma => kernel_rfl) ?_
                    have zl := HO.out
                    obtain ⟨x0, x1, y0, y1⟩ := sx_cells HO.out ABI.out.1 ABI.out.2
                    have zx := sx_lt HO.out (by have := ABI.out.1; omega)
                    clear zl
                    have p0 := HP.out.cell 0
                    have p1 := HP.out.cell 1
                    have zp := HP.out.lt
                    simp at p0 p1
                    have b1 := AB.out.cell 1
                    have b2 := AB.out.cell 2
                    have zb := AB.out.lt
                    simp at b1 b2
                    have ai1 := ABI.out.1
                    have bi1 := ABI.out.2
                    have ia : (ai : Int) < (n : Int) := by omega
                    have ib : (bi : Int) < (n : Int) := by omega
                    have ia0 : (0 : Int) ≤ (ai : Int) := by omega
                    have ib0 : (0 : Int) ≤ (bi : Int) := by omega
                    have e0 := fun b : BW v4 => BW.cell p0 zp b
                    have e1 := fun b : BW v4 => BW.cell p1 zp b
                    have e2 := fun b : BW v4 => BW.cell b1 zb b
                    have e3 := fun b : BW v4 => BW.cell b2 zb b
                    have e4 := fun b : BW v4 => BW.cell x0 zx b
                    have e5 := fun b : BW v4 => BW.cell x1 zx b
                    have e6 := fun b : BW v4 => BW.cell y0 zx b
                    have e7 := fun b : BW v4 => BW.cell y1 zx b
                    have KH := Lib.hid (show ∀ b : BW v4, Calls Try.prog 15 #[.agg #[.slice pg.A dg.n pg.c, .slice pg.K dg.m pg.kc], .agg #[.int .i64 (S bi), .int .i64 (Q bi)], .agg #[.int .i64 (S ai), .int .i64 (Q ai)]] b.W fun e w'' => e = .returned (.tuple #[.bool true, .int .i64 0]) ∧ ∃ p' : BW v4, w'' = p'.W from fun b => BW.call (fun W' (h : Below v4.heap.size v4 W') => (rch_any dg pg MAY.out.sm (S bi) (Q bi) (S ai) (Q ai) W' ((GA.out.below h).ok (HB.out.trans (h.mono HB.out.size)))).mono (fun e w' h' => ⟨h'.1.trans (by rw [UPE.out.1, UPE.out.2]), h'.2⟩)) b)
                    go_upto_region 27 with fail
                    clear p0 p1 b1 b2 x0 x1 y0 y1
                    refine wp_region_quiet_bw (by kernel_rfl) (by kernel_rfl) ?_
                    repeat (go_big_quiet_step ((go_at_call 15; with_reducible exact KH.out _)))
                    refine wpQuiet_nil ?_
                    intro _ hw'
                    obtain ⟨pq, hw''⟩ := hw'
                    subst hw''
                    clear e0 e1 e2 e3 e4 e5 e6 e7 KH
                    have HO' := Lib.hid (own_below HO.out pq.h)
                    clear HO
                    have HO := Lib.hid HO'.out
                    clear HO'
                    have HP' := Lib.hid (HP.out.below pq.h)
                    clear HP
                    have HP := Lib.hid HP'.out
                    clear HP'
                    have HB' := Lib.hid (HB.out.trans (pq.h.mono HB.out.size))
                    clear HB
                    have HB := Lib.hid HB'.out
                    clear HB'
                    have GA' := Lib.hid (GA.out.below pq.h)
                    clear GA
                    have GA := Lib.hid GA'.out
                    clear GA'
                    have CB' := Lib.hid (CB.out.below pq.h)
                    clear CB
                    have CB := Lib.hid CB'.out
                    clear CB'
                    generalize pq.W = v5 at *
                    clear pq zp zb zx ai1 bi1 ia ib ia0 ib0
                    go_wp2
                    go_roundw
                    case rel => first | exact ⟨k + 1, n, cx, some ⟨gx, ox, none⟩, dg, pg, S, Q, by omega, by go_num, rfl, by omega, MAY.out, GA.out, HP.out, HO.out, HB.out⟩ | ((repeat apply Exists.intro); exact ⟨⟨k + 1, n, cx, some ⟨gx, ox, none⟩, dg, pg, S, Q, by omega, by go_num, rfl, by omega, MAY.out, GA.out, HP.out, HO.out, HB.out⟩, rfl⟩)
                    case measure => simp [intOf]; omega
                  · have er0 : (er == 0) = false := by simpa using h0
                    have er1 : (er != 0) = true := by simpa using h0
                    have er6 : (er == 60) = false := by simpa using h60
                    clear h0 h60 her UPE
                    obtain ⟨up, hup⟩ : ∃ up, rchv dg (S bi) (Q bi) (S ai) (Q ai) = up := ⟨_, rfl⟩
                    obtain ⟨fe, hfe⟩ : ∃ fe, askv dg (HeldA dg.n dg.g dg.b (S bi) (Q bi) ∧ HeldA dg.n dg.g dg.b (S ai) (Q ai)) = fe := ⟨_, rfl⟩
                    have UPE := Lib.hid (And.intro hup hfe)
                    clear hup hfe
                    go_wp2
                    refine HK _ _ (fun _ => HS.out) ?_
                    clear HK
                    refine wpAnyE_take (i := 14) (v := .tuple #[.agg #[.slice none 0 0, .slice none 0 0], .int .i64 er]) rfl (by as_aux_lemma => kernel_rfl) (fun _ _ _ h => h) (.inl ⟨by kernel_rfl, fun W hW => ?_⟩) HS.out ?_
                    · obtain ⟨hWP, hWA, x0, x1, y0, y1⟩ := hW
                      have q0 := hWP.cell 0
                      have q1 := hWP.cell 1
                      have r1 := hWA.cell 1
                      have r2 := hWA.cell 2
                      have r3 := hWA.cell 3
                      simp at q0 q1 r1 r2 r3
                      go_simp
                    simp only [Act.put, List.setIfInBounds_toArray]
                    refine wpAnyE_take (i := 15) (v := .agg #[.slice none 0 0, .slice none 0 0]) rfl (by as_aux_lemma => kernel_rfl) (fun _ _ _ h => h) (.inl ⟨by kernel_rfl, fun W hW => ?_⟩) HS.out ?_
                    · obtain ⟨hWP, hWA, x0, x1, y0, y1⟩ := hW
                      have q0 := hWP.cell 0
                      have q1 := hWP.cell 1
                      have r1 := hWA.cell 1
                      have r2 := hWA.cell 2
                      have r3 := hWA.cell 3
                      simp at q0 q1 r1 r2 r3
                      go_simp
                    simp only [Act.put]
                    refine wpAnyE_take (i := 16) (v := .int .i64 er) rfl (by as_aux_lemma => kernel_rfl) (fun _ _ _ h => h) (.inl ⟨by kernel_rfl, fun W hW => ?_⟩) HS.out ?_
                    · obtain ⟨hWP, hWA, x0, x1, y0, y1⟩ := hW
                      have q0 := hWP.cell 0
                      have q1 := hWP.cell 1
                      have r1 := hWA.cell 1
                      have r2 := hWA.cell 2
                      have r3 := hWA.cell 3
                      simp at q0 q1 r1 r2 r3
                      go_simp
                    simp only [Act.put]
                    refine wpAnyE_step (i := 17) rfl (by as_aux_lemma => kernel_rfl) (fun KQ HK => ?_)
                    have c0 := CB.out.cell 0
                    have c1 := CB.out.cell 1
                    have cf0 := CB.out.frozen 0
                    have cf1 := CB.out.frozen 1
                    have zc := CB.out.lt
                    simp at c0 c1
                    go_wp2
                    clear c0 c1 cf0 cf1
                    have t9 := A9.out
                    have t13 := C13.out
                    have tp := HP.out.lt
                    have HO' := Lib.hid (ownsRow_setCell_other (a := ⟨c13, 1, none⟩) (ownsRow_setCell_other (a := ⟨c13, 0, none⟩) HO.out (CB.out.ne_own HO.out (by decide)) (.slice none 0 0)) ((CB.out.set 0 (.slice none 0 0)).ne_own (ownsRow_setCell_other (a := ⟨c13, 0, none⟩) HO.out (CB.out.ne_own HO.out (by decide)) (.slice none 0 0)) (by decide)) (.slice none 0 0))
                    have HP' := Lib.hid ((HP.out.far (p := ⟨c13, 0, none⟩) (by simp; omega) (.slice none 0 0)).far (p := ⟨c13, 1, none⟩) (by simp; omega) (.slice none 0 0))
                    have AB' := Lib.hid ((AB.out.far (p := ⟨c13, 0, none⟩) (by simp; omega) (.slice none 0 0)).far (p := ⟨c13, 1, none⟩) (by simp; omega) (.slice none 0 0))
                    have HB' := Lib.hid (Below.setCell (p := ⟨c13, 1, none⟩) (Below.setCell (p := ⟨c13, 0, none⟩) HB.out (show w.heap.size ≤ c13 by omega) (.slice none 0 0)) (show w.heap.size ≤ c13 by omega) (.slice none 0 0))
                    have GA' := Lib.hid ((GA.out.set (j := 0) CB.out (.slice none 0 0)).set (j := 1) (CB.out.set 0 (.slice none 0 0)) (.slice none 0 0))
                    have CBt := (CB.out.set 0 (.slice none 0 0)).set 1 (.slice none 0 0)
                    simp at CBt
                    have CB' := Lib.hid CBt
                    clear CBt
                    clear HO HP AB HB GA CB
                    have HO := Lib.hid HO'.out
                    clear HO'
                    have HP := Lib.hid HP'.out
                    clear HP'
                    have AB := Lib.hid AB'.out
                    clear AB'
                    have HB := Lib.hid HB'.out
                    clear HB'
                    have GA := Lib.hid GA'.out
                    clear GA'
                    have CB := Lib.hid CB'.out
                    clear CB'
                    clear t9 t13 tp zc
                    have HS := Lib.hid (show (fun W => HasBlk W w.heap.size 27 #[.slice pg.A dg.n pg.c, .slice pg.K dg.m pg.kc] ∧ HasBlk W b9 60 #[.int .u8 kk, .int .i64 ai, .int .i64 bi, .int .i64 tt] ∧ W.cell? ⟨gx, ox + ai * 2, none⟩ = some (.int .i64 (S ai)) ∧ W.cell? ⟨gx, ox + ai * 2 + 1, none⟩ = some (.int .i64 (Q ai)) ∧ W.cell? ⟨gx, ox + bi * 2, none⟩ = some (.int .i64 (S bi)) ∧ W.cell? ⟨gx, ox + bi * 2 + 1, none⟩ = some (.int .i64 (Q bi))) _ from ⟨HP.out, AB.out, sx_cells HO.out ABI.out.1 ABI.out.2⟩)
                    refine HK _ _ (fun _ => HS.out) ?_
                    clear HK
                    generalize ((v3.setCell ⟨c13, 0, none⟩ (.slice none 0 0)).setCell ⟨c13, 1, none⟩ (.slice none 0 0)) = v4 at *
                    refine wpAnyE_step (i := 18) rfl (by as_aux_lemma => kernel_rfl) (fun KQ HK => ?_)
                    go_wp2
                    refine HK _ _ (fun h => absurd rfl h) ?_
                    clear HK
                    refine wpAnyE_done (by as_aux_lemma => kernel_rfl) ?_
                    have zl := HO.out
                    obtain ⟨x0, x1, y0, y1⟩ := sx_cells HO.out ABI.out.1 ABI.out.2
                    have zx := sx_lt HO.out (by have := ABI.out.1; omega)
                    clear zl
                    have p0 := HP.out.cell 0
                    have p1 := HP.out.cell 1
                    have zp := HP.out.lt
                    simp at p0 p1
                    have b1 := AB.out.cell 1
                    have b2 := AB.out.cell 2
                    have zb := AB.out.lt
                    simp at b1 b2
                    have ai1 := ABI.out.1
                    have bi1 := ABI.out.2
                    have ia : (ai : Int) < (n : Int) := by omega
                    have ib : (bi : Int) < (n : Int) := by omega
                    have ia0 : (0 : Int) ≤ (ai : Int) := by omega
                    have ib0 : (0 : Int) ≤ (bi : Int) := by omega
                    have e0 := fun b : BW v4 => BW.cell p0 zp b
                    have e1 := fun b : BW v4 => BW.cell p1 zp b
                    have e2 := fun b : BW v4 => BW.cell b1 zb b
                    have e3 := fun b : BW v4 => BW.cell b2 zb b
                    have e4 := fun b : BW v4 => BW.cell x0 zx b
                    have e5 := fun b : BW v4 => BW.cell x1 zx b
                    have e6 := fun b : BW v4 => BW.cell y0 zx b
                    have e7 := fun b : BW v4 => BW.cell y1 zx b
                    have KH := Lib.hid (show ∀ b : BW v4, Calls Try.prog 15 #[.agg #[.slice pg.A dg.n pg.c, .slice pg.K dg.m pg.kc], .agg #[.int .i64 (S bi), .int .i64 (Q bi)], .agg #[.int .i64 (S ai), .int .i64 (Q ai)]] b.W fun e w'' => e = .returned (.tuple #[.bool up, .int .i64 fe]) ∧ ∃ p' : BW v4, w'' = p'.W from fun b => BW.call (fun W' (h : Below v4.heap.size v4 W') => (rch_any dg pg MAY.out.sm (S bi) (Q bi) (S ai) (Q ai) W' ((GA.out.below h).ok (HB.out.trans (h.mono HB.out.size)))).mono (fun e w' h' => ⟨h'.1.trans (by rw [UPE.out.1, UPE.out.2]), h'.2⟩)) b)
                    go_upto_region 27 with fail
                    clear p0 p1 b1 b2 x0 x1 y0 y1
                    refine wp_region_quiet_bw (by kernel_rfl) (by kernel_rfl) ?_
                    repeat (go_big_quiet_step ((go_at_call 15; with_reducible exact KH.out _)))
                    refine wpQuiet_nil ?_
                    intro _ hw'
                    obtain ⟨pq, hw''⟩ := hw'
                    subst hw''
                    clear e0 e1 e2 e3 e4 e5 e6 e7 KH
                    have HO' := Lib.hid (own_below HO.out pq.h)
                    clear HO
                    have HO := Lib.hid HO'.out
                    clear HO'
                    have HP' := Lib.hid (HP.out.below pq.h)
                    clear HP
                    have HP := Lib.hid HP'.out
                    clear HP'
                    have HB' := Lib.hid (HB.out.trans (pq.h.mono HB.out.size))
                    clear HB
                    have HB := Lib.hid HB'.out
                    clear HB'
                    have GA' := Lib.hid (GA.out.below pq.h)
                    clear GA
                    have GA := Lib.hid GA'.out
                    clear GA'
                    have CB' := Lib.hid (CB.out.below pq.h)
                    clear CB
                    have CB := Lib.hid CB'.out
                    clear CB'
                    generalize pq.W = v5 at *
                    clear pq zp zb zx ai1 bi1 ia ib ia0 ib0
                    go_wp2
                    go_roundw
                    case rel => first | exact ⟨k + 1, n, cx, some ⟨gx, ox, none⟩, dg, pg, S, Q, by omega, by go_num, rfl, by omega, MAY.out, GA.out, HP.out, HO.out, HB.out⟩ | ((repeat apply Exists.intro); exact ⟨⟨k + 1, n, cx, some ⟨gx, ox, none⟩, dg, pg, S, Q, by omega, by go_num, rfl, by omega, MAY.out, GA.out, HP.out, HO.out, HB.out⟩, rfl⟩)
                    case measure => simp [intOf]; omega
                have MAYN := Lib.hid (link_mayS h0 MAY.out)
                have UPE' := Lib.hid (UPE.out.2 h0)
                clear UPE
                have UPE := Lib.hid UPE'.out
                clear UPE'
                have NM := Lib.hid (show (dg.link (S ai).toNat tt.toNat (S bi) (Q bi)).n = dg.n ∧ (dg.link (S ai).toNat tt.toNat (S bi) (Q bi)).m = dg.m from ⟨rfl, rfl⟩)
                rw [← NM.out.1, ← NM.out.2]
                clear NM h0
                generalize (dg.link (S ai).toNat tt.toNat (S bi) (Q bi)) = dn at *
                obtain ⟨bc, hbc⟩ : ∃ bc, bc = v2.heap.size := ⟨_, rfl⟩
                rw [← hbc] at hown C13'
                clear hbc C13
                have GN := Lib.hid hown
                have C13 := Lib.hid (show (w.heap.size + 1) ≤ c13 ∧ c13 < bc ∧ b9 < c13 from ⟨by have := C9.out; have := A9.out; omega, C13'.out, C9.out⟩)
                clear hown C13'
                go_wp2
                refine HK _ _ (fun _ => HS.out) ?_
                clear HK
                refine wpAnyE_take (i := 14) (v := .tuple #[.agg #[.slice pn.A dn.n pn.c, .slice pn.K dn.m pn.kc], .int .i64 0]) rfl (by as_aux_lemma => kernel_rfl) (fun _ _ _ h => h) (.inl ⟨by kernel_rfl, fun W hW => ?_⟩) HS.out ?_
                · obtain ⟨hWP, hWA, x0, x1, y0, y1⟩ := hW
                  have q0 := hWP.cell 0
                  have q1 := hWP.cell 1
                  have r1 := hWA.cell 1
                  have r2 := hWA.cell 2
                  have r3 := hWA.cell 3
                  simp at q0 q1 r1 r2 r3
                  go_simp
                simp only [Act.put, List.setIfInBounds_toArray]
                refine wpAnyE_take (i := 15) (v := .agg #[.slice pn.A dn.n pn.c, .slice pn.K dn.m pn.kc]) rfl (by as_aux_lemma => kernel_rfl) (fun _ _ _ h => h) (.inl ⟨by kernel_rfl, fun W hW => ?_⟩) HS.out ?_
                · obtain ⟨hWP, hWA, x0, x1, y0, y1⟩ := hW
                  have q0 := hWP.cell 0
                  have q1 := hWP.cell 1
                  have r1 := hWA.cell 1
                  have r2 := hWA.cell 2
                  have r3 := hWA.cell 3
                  simp at q0 q1 r1 r2 r3
                  go_simp
                simp only [Act.put]
                refine wpAnyE_take (i := 16) (v := .int .i64 0) rfl (by as_aux_lemma => kernel_rfl) (fun _ _ _ h => h) (.inl ⟨by kernel_rfl, fun W hW => ?_⟩) HS.out ?_
                · obtain ⟨hWP, hWA, x0, x1, y0, y1⟩ := hW
                  have q0 := hWP.cell 0
                  have q1 := hWP.cell 1
                  have r1 := hWA.cell 1
                  have r2 := hWA.cell 2
                  have r3 := hWA.cell 3
                  simp at q0 q1 r1 r2 r3
                  go_simp
                simp only [Act.put]
                refine wpAnyE_step (i := 17) rfl (by as_aux_lemma => kernel_rfl) (fun KQ HK => ?_)
                have c0 := CB.out.cell 0
                have c1 := CB.out.cell 1
                have cf0 := CB.out.frozen 0
                have cf1 := CB.out.frozen 1
                have zc := CB.out.lt
                simp at c0 c1
                go_wp2
                clear c0 c1 cf0 cf1
                have t9 := A9.out
                have t13 := C13.out
                have tp := HP.out.lt
                have HO' := Lib.hid (ownsRow_setCell_other (a := ⟨c13, 1, none⟩) (ownsRow_setCell_other (a := ⟨c13, 0, none⟩) HO.out (CB.out.ne_own HO.out (by decide)) (.slice pn.A dn.n pn.c)) ((CB.out.set 0 (.slice pn.A dn.n pn.c)).ne_own (ownsRow_setCell_other (a := ⟨c13, 0, none⟩) HO.out (CB.out.ne_own HO.out (by decide)) (.slice pn.A dn.n pn.c)) (by decide)) (.slice pn.K dn.m pn.kc))
                have HP' := Lib.hid ((HP.out.far (p := ⟨c13, 0, none⟩) (by simp; omega) (.slice pn.A dn.n pn.c)).far (p := ⟨c13, 1, none⟩) (by simp; omega) (.slice pn.K dn.m pn.kc))
                have AB' := Lib.hid ((AB.out.far (p := ⟨c13, 0, none⟩) (by simp; omega) (.slice pn.A dn.n pn.c)).far (p := ⟨c13, 1, none⟩) (by simp; omega) (.slice pn.K dn.m pn.kc))
                have HB' := Lib.hid (Below.setCell (p := ⟨c13, 1, none⟩) (Below.setCell (p := ⟨c13, 0, none⟩) HB.out (show w.heap.size ≤ c13 by omega) (.slice pn.A dn.n pn.c)) (show w.heap.size ≤ c13 by omega) (.slice pn.K dn.m pn.kc))
                have GN' := Lib.hid ((GN.out.lset (j := 0) (show c13 < bc from by omega) (.slice pn.A dn.n pn.c)).lset (j := 1) (show c13 < bc from by omega) (.slice pn.K dn.m pn.kc))
                have GA' := Lib.hid ((GA.out.set (j := 0) CB.out (.slice pn.A dn.n pn.c)).set (j := 1) (CB.out.set 0 (.slice pn.A dn.n pn.c)) (.slice pn.K dn.m pn.kc))
                have CBt := (CB.out.set 0 (.slice pn.A dn.n pn.c)).set 1 (.slice pn.K dn.m pn.kc)
                simp at CBt
                have CB' := Lib.hid CBt
                clear CBt
                clear HO HP AB HB GN GA CB
                have HO := Lib.hid HO'.out
                clear HO'
                have HP := Lib.hid HP'.out
                clear HP'
                have AB := Lib.hid AB'.out
                clear AB'
                have HB := Lib.hid HB'.out
                clear HB'
                have GN := Lib.hid GN'.out
                clear GN'
                have GA := Lib.hid GA'.out
                clear GA'
                have CB := Lib.hid CB'.out
                clear CB'
                clear t9 t13 tp zc
                have HS := Lib.hid (show (fun W => HasBlk W w.heap.size 27 #[.slice pg.A dg.n pg.c, .slice pg.K dg.m pg.kc] ∧ HasBlk W b9 60 #[.int .u8 kk, .int .i64 ai, .int .i64 bi, .int .i64 tt] ∧ W.cell? ⟨gx, ox + ai * 2, none⟩ = some (.int .i64 (S ai)) ∧ W.cell? ⟨gx, ox + ai * 2 + 1, none⟩ = some (.int .i64 (Q ai)) ∧ W.cell? ⟨gx, ox + bi * 2, none⟩ = some (.int .i64 (S bi)) ∧ W.cell? ⟨gx, ox + bi * 2 + 1, none⟩ = some (.int .i64 (Q bi))) _ from ⟨HP.out, AB.out, sx_cells HO.out ABI.out.1 ABI.out.2⟩)
                refine HK _ _ (fun _ => HS.out) ?_
                clear HK
                generalize ((v3.setCell ⟨c13, 0, none⟩ (.slice pn.A dn.n pn.c)).setCell ⟨c13, 1, none⟩ (.slice pn.K dn.m pn.kc)) = v4 at *
                refine wpAnyE_step (i := 18) rfl (by as_aux_lemma => kernel_rfl) (fun KQ HK => ?_)
                go_wp2
                refine HK _ _ (fun h => absurd rfl h) ?_
                clear HK
                refine wpAnyE_done (by as_aux_lemma => kernel_rfl) ?_
                have zl := HO.out
                obtain ⟨x0, x1, y0, y1⟩ := sx_cells HO.out ABI.out.1 ABI.out.2
                have zx := sx_lt HO.out (by have := ABI.out.1; omega)
                clear zl
                have p0 := HP.out.cell 0
                have p1 := HP.out.cell 1
                have zp := HP.out.lt
                simp at p0 p1
                have b1 := AB.out.cell 1
                have b2 := AB.out.cell 2
                have zb := AB.out.lt
                simp at b1 b2
                have ai1 := ABI.out.1
                have bi1 := ABI.out.2
                have ia : (ai : Int) < (n : Int) := by omega
                have ib : (bi : Int) < (n : Int) := by omega
                have ia0 : (0 : Int) ≤ (ai : Int) := by omega
                have ib0 : (0 : Int) ≤ (bi : Int) := by omega
                have e0 := fun b : BW v4 => BW.cell p0 zp b
                have e1 := fun b : BW v4 => BW.cell p1 zp b
                have e2 := fun b : BW v4 => BW.cell b1 zb b
                have e3 := fun b : BW v4 => BW.cell b2 zb b
                have e4 := fun b : BW v4 => BW.cell x0 zx b
                have e5 := fun b : BW v4 => BW.cell x1 zx b
                have e6 := fun b : BW v4 => BW.cell y0 zx b
                have e7 := fun b : BW v4 => BW.cell y1 zx b
                have KH := Lib.hid (show ∀ b : BW v4, Calls Try.prog 15 #[.agg #[.slice pg.A dg.n pg.c, .slice pg.K dg.m pg.kc], .agg #[.int .i64 (S bi), .int .i64 (Q bi)], .agg #[.int .i64 (S ai), .int .i64 (Q ai)]] b.W fun e w'' => e = .returned (.tuple #[.bool false, .int .i64 0]) ∧ ∃ p' : BW v4, w'' = p'.W from fun b => BW.call (fun W' (h : Below v4.heap.size v4 W') => (rch_any dg pg MAY.out.sm (S bi) (Q bi) (S ai) (Q ai) W' ((GA.out.below h).ok (HB.out.trans (h.mono HB.out.size)))).mono (fun e w' h' => ⟨h'.1.trans (by rw [UPE.out.1, UPE.out.2]), h'.2⟩)) b)
                go_upto_region 27 with fail
                clear p0 p1 b1 b2 x0 x1 y0 y1
                refine wp_region_quiet_bw (by kernel_rfl) (by kernel_rfl) ?_
                repeat (go_big_quiet_step ((go_at_call 15; with_reducible exact KH.out _)))
                refine wpQuiet_nil ?_
                intro _ hw'
                obtain ⟨pq, hw''⟩ := hw'
                subst hw''
                clear e0 e1 e2 e3 e4 e5 e6 e7 KH
                have HO' := Lib.hid (own_below HO.out pq.h)
                clear HO
                have HO := Lib.hid HO'.out
                clear HO'
                have HP' := Lib.hid (HP.out.below pq.h)
                clear HP
                have HP := Lib.hid HP'.out
                clear HP'
                have HB' := Lib.hid (HB.out.trans (pq.h.mono HB.out.size))
                clear HB
                have HB := Lib.hid HB'.out
                clear HB'
                have GN' := Lib.hid (GN.out.below pq.h)
                clear GN
                have GN := Lib.hid GN'.out
                clear GN'
                have CB' := Lib.hid (CB.out.below pq.h)
                clear CB
                have CB := Lib.hid CB'.out
                clear CB'
                generalize pq.W = v5 at *
                clear pq zp zb zx ai1 bi1 ia ib ia0 ib0
                have c0 := CB.out.cell 0
                have c1 := CB.out.cell 1
                have zc := CB.out.lt
                have f0 := HP.out.frozen 0
                have f1 := HP.out.frozen 1
                have p0 := HP.out.cell 0
                have p1 := HP.out.cell 1
                have zp := HP.out.lt
                simp at p0 p1
                simp at c0 c1
                go_upto_region 32 with fail
                clear c0 c1 zc f0 f1 p0 p1 zp
                have tbc := C13.out
                have HO' := Lib.hid (own_lset (j := 1) (own_lset (j := 0) HO.out (show w.heap.size < (w.heap.size + 1) by omega) (.slice pn.A dn.n pn.c)) (show w.heap.size < (w.heap.size + 1) by omega) (.slice pn.K dn.m pn.kc))
                have HB' := Lib.hid (Below.setCell (p := ⟨w.heap.size, 1, none⟩) (Below.setCell (p := ⟨w.heap.size, 0, none⟩) HB.out (show w.heap.size ≤ w.heap.size by omega) (.slice pn.A dn.n pn.c)) (show w.heap.size ≤ w.heap.size by omega) (.slice pn.K dn.m pn.kc))
                have GN' := Lib.hid ((GN.out.lset (j := 0) (show w.heap.size < bc from by omega) (.slice pn.A dn.n pn.c)).lset (j := 1) (show w.heap.size < bc from by omega) (.slice pn.K dn.m pn.kc))
                have HPt := (HP.out.set 0 (.slice pn.A dn.n pn.c)).set 1 (.slice pn.K dn.m pn.kc)
                simp at HPt
                have HP' := Lib.hid HPt
                clear HPt
                clear HO HB GN HP
                have HO := Lib.hid HO'.out
                clear HO'
                have HB := Lib.hid HB'.out
                clear HB'
                have GN := Lib.hid GN'.out
                clear GN'
                have HP := Lib.hid HP'.out
                clear HP'
                clear tbc CB
                generalize ((v5.setCell ⟨w.heap.size, 0, none⟩ (.slice pn.A dn.n pn.c)).setCell ⟨w.heap.size, 1, none⟩ (.slice pn.K dn.m pn.kc)) = v6 at *
                have p0 := HP.out.cell 0
                have p1 := HP.out.cell 1
                have zp := HP.out.lt
                simp at p0 p1
                have KX := Lib.hid (check_any dn pn MAYN.out.sm v6 GN.out.ok)
                go_wp2_with fail
                refine KX.out.mono ?_
                rintro e v7 ⟨⟨x, rfl, hx⟩, bel⟩
                obtain rfl : x = 0 := by
                  rcases hx with ⟨_, h⟩ | ⟨h, _⟩
                  · exact h
                  · exact absurd MAYN.out h
                clear p0 p1 zp
                clear KX hx
                have HO' := Lib.hid (own_below HO.out bel)
                clear HO
                have HO := Lib.hid HO'.out
                clear HO'
                have HP' := Lib.hid (HP.out.below bel)
                clear HP
                have HP := Lib.hid HP'.out
                clear HP'
                have HB' := Lib.hid (HB.out.trans (bel.mono HB.out.size))
                clear HB
                have HB := Lib.hid HB'.out
                clear HB'
                have GN' := Lib.hid (GN.out.below bel)
                clear GN
                have GN := Lib.hid GN'.out
                clear GN'
                clear bel MAY
                have MAY := Lib.hid MAYN.out
                have GA := Lib.hid (show GAt w (w.heap.size + 1) v7 pn dn from .inr (GN.out.base (by have := C13.out; have := A9.out; omega)))
                clear GN
                go_wp2
                go_roundw
                case rel => first | exact ⟨k + 1, n, cx, some ⟨gx, ox, none⟩, dn, pn, S, Q, by omega, by go_num, rfl, by omega, MAY.out, GA.out, HP.out, HO.out, HB.out⟩ | ((repeat apply Exists.intro); exact ⟨⟨k + 1, n, cx, some ⟨gx, ox, none⟩, dn, pn, S, Q, by omega, by go_num, rfl, by omega, MAY.out, GA.out, HP.out, HO.out, HB.out⟩, rfl⟩)
                case measure => simp [intOf]; omega
            · have m1 : (kk.tmod 5 == 1) = false := by rw [hKm.out, h5]; rfl
              have m2 : (kk.tmod 5 == 2) = false := by rw [hKm.out, h5]; rfl
              have m3 : (kk.tmod 5 == 3) = false := by rw [hKm.out, h5]; rfl
              clear h5
              go_upto_region 21 with fail
              clear a0 a1 a2 a3 za m1 m2 m3
              have HS := Lib.hid (show (fun W => HasBlk W w.heap.size 27 #[.slice pg.A dg.n pg.c, .slice pg.K dg.m pg.kc] ∧ HasBlk W b9 60 #[.int .u8 kk, .int .i64 ai, .int .i64 bi, .int .i64 tt] ∧ W.cell? ⟨gx, ox + ai * 2, none⟩ = some (.int .i64 (S ai)) ∧ W.cell? ⟨gx, ox + ai * 2 + 1, none⟩ = some (.int .i64 (Q ai)) ∧ W.cell? ⟨gx, ox + bi * 2, none⟩ = some (.int .i64 (S bi)) ∧ W.cell? ⟨gx, ox + bi * 2 + 1, none⟩ = some (.int .i64 (Q bi))) v1.drew from ⟨HP.out.drew, AB.out.drew, sx_cells HO.out ABI.out.1 ABI.out.2⟩)
              have bd := (Below.refl v1.heap.size v1).drew
              have HO' := Lib.hid (own_below HO.out bd)
              clear HO
              have HO := Lib.hid HO'.out
              clear HO'
              have HP' := Lib.hid (HP.out.below bd)
              clear HP
              have HP := Lib.hid HP'.out
              clear HP'
              have AB' := Lib.hid (AB.out.below bd)
              clear AB
              have AB := Lib.hid AB'.out
              clear AB'
              have CB' := Lib.hid (CB.out.below bd)
              clear CB
              have CB := Lib.hid CB'.out
              clear CB'
              have GA' := Lib.hid (GA.out.below bd)
              clear GA
              have GA := Lib.hid GA'.out
              clear GA'
              have HB' := Lib.hid (HB.out.trans (bd.mono HB.out.size))
              clear HB
              have HB := Lib.hid HB'.out
              clear HB'
              clear bd
              have ai1 := ABI.out.1
              have bi1 := ABI.out.2
              have ia : (ai : Int) < (n : Int) := by omega
              have ib : (bi : Int) < (n : Int) := by omega
              have ia0 : (0 : Int) ≤ (ai : Int) := by omega
              have ib0 : (0 : Int) ≤ (bi : Int) := by omega
              refine wp_region_E (fun W => HasBlk W w.heap.size 27 #[.slice pg.A dg.n pg.c, .slice pg.K dg.m pg.kc] ∧ HasBlk W b9 60 #[.int .u8 kk, .int .i64 ai, .int .i64 bi, .int .i64 tt] ∧ W.cell? ⟨gx, ox + ai * 2, none⟩ = some (.int .i64 (S ai)) ∧ W.cell? ⟨gx, ox + ai * 2 + 1, none⟩ = some (.int .i64 (Q ai)) ∧ W.cell? ⟨gx, ox + bi * 2, none⟩ = some (.int .i64 (S bi)) ∧ W.cell? ⟨gx, ox + bi * 2 + 1, none⟩ = some (.int .i64 (Q bi))) 13 (by kernel_rfl) ?_
              generalize gwd : v1.drew = v2 at *
              clear gwd
              refine wpAnyE_take (i := 0) (v := .agg #[.slice pg.A dg.n pg.c, .slice pg.K dg.m pg.kc]) rfl (by as_aux_lemma => kernel_rfl) (fun _ _ _ h => h) (.inl ⟨by kernel_rfl, fun W hW => ?_⟩) HS.out ?_
              · obtain ⟨hWP, hWA, x0, x1, y0, y1⟩ := hW
                have q0 := hWP.cell 0
                have q1 := hWP.cell 1
                have r1 := hWA.cell 1
                have r2 := hWA.cell 2
                have r3 := hWA.cell 3
                simp at q0 q1 r1 r2 r3
                go_simp
              simp only [Act.put, List.setIfInBounds_toArray]
              refine wpAnyE_take (i := 1) (v := .slice (some ⟨gx, ox, none⟩) n cx) rfl (by as_aux_lemma => kernel_rfl) (fun _ _ _ h => h) (.inl ⟨by kernel_rfl, fun W hW => ?_⟩) HS.out ?_
              · obtain ⟨hWP, hWA, x0, x1, y0, y1⟩ := hW
                have q0 := hWP.cell 0
                have q1 := hWP.cell 1
                have r1 := hWA.cell 1
                have r2 := hWA.cell 2
                have r3 := hWA.cell 3
                simp at q0 q1 r1 r2 r3
                go_simp
              simp only [Act.put, List.set_cons_succ]
              refine wpAnyE_take (i := 2) (v := .pointer (some ⟨b9, 1, none⟩)) rfl (by as_aux_lemma => kernel_rfl) (fun _ _ _ h => h) (.inl ⟨by kernel_rfl, fun W hW => ?_⟩) HS.out ?_
              · obtain ⟨hWP, hWA, x0, x1, y0, y1⟩ := hW
                have q0 := hWP.cell 0
                have q1 := hWP.cell 1
                have r1 := hWA.cell 1
                have r2 := hWA.cell 2
                have r3 := hWA.cell 3
                simp at q0 q1 r1 r2 r3
                go_simp
              simp only [Act.put, List.setIfInBounds_toArray, List.set_cons_zero, List.set_cons_succ]
              refine wpAnyE_take (i := 3) (v := .int .i64 ai) rfl (by as_aux_lemma => kernel_rfl) (fun _ _ _ h => h) (.inl ⟨by kernel_rfl, fun W hW => ?_⟩) HS.out ?_
              · obtain ⟨hWP, hWA, x0, x1, y0, y1⟩ := hW
                have q0 := hWP.cell 0
                have q1 := hWP.cell 1
                have r1 := hWA.cell 1
                have r2 := hWA.cell 2
                have r3 := hWA.cell 3
                simp at q0 q1 r1 r2 r3
                go_simp
              simp only [Act.put, List.setIfInBounds_toArray, List.set_cons_zero, List.set_cons_succ]
              refine wpAnyE_take (i := 4) (v := .pointer (some ⟨gx, ox + ai * 2, none⟩)) rfl (by as_aux_lemma => kernel_rfl) (fun _ _ _ h => h) (.inl ⟨by kernel_rfl, fun W hW => ?_⟩) HS.out ?_
              · obtain ⟨hWP, hWA, x0, x1, y0, y1⟩ := hW
                have q0 := hWP.cell 0
                have q1 := hWP.cell 1
                have r1 := hWA.cell 1
                have r2 := hWA.cell 2
                have r3 := hWA.cell 3
                simp at q0 q1 r1 r2 r3
                go_simp
              simp only [Act.put, List.setIfInBounds_toArray, List.set_cons_zero, List.set_cons_succ]
              refine wpAnyE_take (i := 5) (v := .agg #[.int .i64 (S ai), .int .i64 (Q ai)]) rfl (by as_aux_lemma => kernel_rfl) (fun _ _ _ h => h) (.inl ⟨by kernel_rfl, fun W hW => ?_⟩) HS.out ?_
              · obtain ⟨hWP, hWA, x0, x1, y0, y1⟩ := hW
                have q0 := hWP.cell 0
                have q1 := hWP.cell 1
                have r1 := hWA.cell 1
                have r2 := hWA.cell 2
                have r3 := hWA.cell 3
                simp at q0 q1 r1 r2 r3
                go_simp
              simp only [Act.put, List.setIfInBounds_toArray, List.set_cons_zero, List.set_cons_succ]
              refine wpAnyE_take (i := 6) (v := .pointer (some ⟨b9, 3, none⟩)) rfl (by as_aux_lemma => kernel_rfl) (fun _ _ _ h => h) (.inl ⟨by kernel_rfl, fun W hW => ?_⟩) HS.out ?_
              · obtain ⟨hWP, hWA, x0, x1, y0, y1⟩ := hW
                have q0 := hWP.cell 0
                have q1 := hWP.cell 1
                have r1 := hWA.cell 1
                have r2 := hWA.cell 2
                have r3 := hWA.cell 3
                simp at q0 q1 r1 r2 r3
                go_simp
              simp only [Act.put, List.setIfInBounds_toArray, List.set_cons_zero, List.set_cons_succ]
              refine wpAnyE_take (i := 7) (v := .int .i64 tt) rfl (by as_aux_lemma => kernel_rfl) (fun _ _ _ h => h) (.inl ⟨by kernel_rfl, fun W hW => ?_⟩) HS.out ?_
              · obtain ⟨hWP, hWA, x0, x1, y0, y1⟩ := hW
                have q0 := hWP.cell 0
                have q1 := hWP.cell 1
                have r1 := hWA.cell 1
                have r2 := hWA.cell 2
                have r3 := hWA.cell 3
                simp at q0 q1 r1 r2 r3
                go_simp
              simp only [Act.put, List.setIfInBounds_toArray, List.set_cons_zero, List.set_cons_succ]
              clear ia ib ia0 ib0 ai1 bi1
              refine wpAnyE_step (i := 8) rfl (by as_aux_lemma => kernel_rfl) (fun KQ HK => ?_)
              have KX := Lib.hid (unlinkg_any dg pg MAY.out.sm (S ai) (Q ai) tt v2 (GA.out.ok HB.out))
              clear HS
              go_wp2_with fail
              refine KX.out.mono ?_
              rintro e v3 ⟨hx, bel⟩
              clear KX
              have C13' := Lib.hid (show c13 < v2.heap.size from CB.out.lt)
              have HO' := Lib.hid (own_below HO.out bel)
              clear HO
              have HO := Lib.hid HO'.out
              clear HO'
              have HP' := Lib.hid (HP.out.below bel)
              clear HP
              have HP := Lib.hid HP'.out
              clear HP'
              have AB' := Lib.hid (AB.out.below bel)
              clear AB
              have AB := Lib.hid AB'.out
              clear AB'
              have CB' := Lib.hid (CB.out.below bel)
              clear CB
              have CB := Lib.hid CB'.out
              clear CB'
              have GA' := Lib.hid (GA.out.below bel)
              clear GA
              have GA := Lib.hid GA'.out
              clear GA'
              have HB' := Lib.hid (HB.out.trans (bel.mono HB.out.size))
              clear HB
              have HB := Lib.hid HB'.out
              clear HB'
              clear bel
              have HS := Lib.hid (show (fun W => HasBlk W w.heap.size 27 #[.slice pg.A dg.n pg.c, .slice pg.K dg.m pg.kc] ∧ HasBlk W b9 60 #[.int .u8 kk, .int .i64 ai, .int .i64 bi, .int .i64 tt] ∧ W.cell? ⟨gx, ox + ai * 2, none⟩ = some (.int .i64 (S ai)) ∧ W.cell? ⟨gx, ox + ai * 2 + 1, none⟩ = some (.int .i64 (Q ai)) ∧ W.cell? ⟨gx, ox + bi * 2, none⟩ = some (.int .i64 (S bi)) ∧ W.cell? ⟨gx, ox + bi * 2 + 1, none⟩ = some (.int .i64 (Q bi))) v3 from ⟨HP.out, AB.out, sx_cells HO.out ABI.out.1 ABI.out.2⟩)
              rcases hx with ⟨h0, rfl⟩ | ⟨h0, pn, rfl, hown⟩
              · obtain ⟨er, her⟩ : ∃ er, unlinkE dg (S ai) (Q ai) tt = er := ⟨_, rfl⟩
                rw [her] at h0 ⊢
                clear her
                have er0 : (er == 0) = false := by simpa using h0
                have er1 : (er != 0) = true := by simpa using h0
                clear h0
                go_wp2
                refine HK _ _ (fun _ => HS.out) ?_
                clear HK
                refine wpAnyE_take (i := 9) (v := .tuple #[.agg #[.slice none 0 0, .slice none 0 0], .int .i64 er]) rfl (by as_aux_lemma => kernel_rfl) (fun _ _ _ h => h) (.inl ⟨by kernel_rfl, fun W hW => ?_⟩) HS.out ?_
                · obtain ⟨hWP, hWA, x0, x1, y0, y1⟩ := hW
                  have q0 := hWP.cell 0
                  have q1 := hWP.cell 1
                  have r1 := hWA.cell 1
                  have r2 := hWA.cell 2
                  have r3 := hWA.cell 3
                  simp at q0 q1 r1 r2 r3
                  go_simp
                simp only [Act.put, List.setIfInBounds_toArray, List.set_cons_zero, List.set_cons_succ]
                refine wpAnyE_take (i := 10) (v := .agg #[.slice none 0 0, .slice none 0 0]) rfl (by as_aux_lemma => kernel_rfl) (fun _ _ _ h => h) (.inl ⟨by kernel_rfl, fun W hW => ?_⟩) HS.out ?_
                · obtain ⟨hWP, hWA, x0, x1, y0, y1⟩ := hW
                  have q0 := hWP.cell 0
                  have q1 := hWP.cell 1
                  have r1 := hWA.cell 1
                  have r2 := hWA.cell 2
                  have r3 := hWA.cell 3
                  simp at q0 q1 r1 r2 r3
                  go_simp
                simp only [Act.put, List.setIfInBounds_toArray, List.set_cons_zero, List.set_cons_succ]
                refine wpAnyE_take (i := 11) (v := .int .i64 er) rfl (by as_aux_lemma => kernel_rfl) (fun _ _ _ h => h) (.inl ⟨by kernel_rfl, fun W hW => ?_⟩) HS.out ?_
                · obtain ⟨hWP, hWA, x0, x1, y0, y1⟩ := hW
                  have q0 := hWP.cell 0
                  have q1 := hWP.cell 1
                  have r1 := hWA.cell 1
                  have r2 := hWA.cell 2
                  have r3 := hWA.cell 3
                  simp at q0 q1 r1 r2 r3
                  go_simp
                simp only [Act.put, List.setIfInBounds_toArray, List.set_cons_zero, List.set_cons_succ]
                refine wpAnyE_step (i := 12) rfl (by as_aux_lemma => kernel_rfl) (fun KQ HK => ?_)
                have c0 := CB.out.cell 0
                have c1 := CB.out.cell 1
                have cf0 := CB.out.frozen 0
                have cf1 := CB.out.frozen 1
                have zc := CB.out.lt
                simp at c0 c1
                go_wp2
                clear c0 c1 cf0 cf1
                have t9 := A9.out
                have t13 := C13.out
                have tp := HP.out.lt
                have HO' := Lib.hid (ownsRow_setCell_other (a := ⟨c13, 1, none⟩) (ownsRow_setCell_other (a := ⟨c13, 0, none⟩) HO.out (CB.out.ne_own HO.out (by decide)) (.slice none 0 0)) ((CB.out.set 0 (.slice none 0 0)).ne_own (ownsRow_setCell_other (a := ⟨c13, 0, none⟩) HO.out (CB.out.ne_own HO.out (by decide)) (.slice none 0 0)) (by decide)) (.slice none 0 0))
                have HP' := Lib.hid ((HP.out.far (p := ⟨c13, 0, none⟩) (by simp; omega) (.slice none 0 0)).far (p := ⟨c13, 1, none⟩) (by simp; omega) (.slice none 0 0))
                have AB' := Lib.hid ((AB.out.far (p := ⟨c13, 0, none⟩) (by simp; omega) (.slice none 0 0)).far (p := ⟨c13, 1, none⟩) (by simp; omega) (.slice none 0 0))
                have HB' := Lib.hid (Below.setCell (p := ⟨c13, 1, none⟩) (Below.setCell (p := ⟨c13, 0, none⟩) HB.out (show w.heap.size ≤ c13 by omega) (.slice none 0 0)) (show w.heap.size ≤ c13 by omega) (.slice none 0 0))
                have GA' := Lib.hid ((GA.out.set (j := 0) CB.out (.slice none 0 0)).set (j := 1) (CB.out.set 0 (.slice none 0 0)) (.slice none 0 0))
                have CBt := (CB.out.set 0 (.slice none 0 0)).set 1 (.slice none 0 0)
                simp at CBt
                have CB' := Lib.hid CBt
                clear CBt
                clear HO HP AB HB GA CB
                have HO := Lib.hid HO'.out
                clear HO'
                have HP := Lib.hid HP'.out
                clear HP'
                have AB := Lib.hid AB'.out
                clear AB'
                have HB := Lib.hid HB'.out
                clear HB'
                have GA := Lib.hid GA'.out
                clear GA'
                have CB := Lib.hid CB'.out
                clear CB'
                clear t9 t13 tp zc
                have HS := Lib.hid (show (fun W => HasBlk W w.heap.size 27 #[.slice pg.A dg.n pg.c, .slice pg.K dg.m pg.kc] ∧ HasBlk W b9 60 #[.int .u8 kk, .int .i64 ai, .int .i64 bi, .int .i64 tt] ∧ W.cell? ⟨gx, ox + ai * 2, none⟩ = some (.int .i64 (S ai)) ∧ W.cell? ⟨gx, ox + ai * 2 + 1, none⟩ = some (.int .i64 (Q ai)) ∧ W.cell? ⟨gx, ox + bi * 2, none⟩ = some (.int .i64 (S bi)) ∧ W.cell? ⟨gx, ox + bi * 2 + 1, none⟩ = some (.int .i64 (Q bi))) _ from ⟨HP.out, AB.out, sx_cells HO.out ABI.out.1 ABI.out.2⟩)
                refine HK _ _ (fun _ => HS.out) ?_
                clear HK
                generalize ((v3.setCell ⟨c13, 0, none⟩ (.slice none 0 0)).setCell ⟨c13, 1, none⟩ (.slice none 0 0)) = v4 at *
                refine wpAnyE_step (i := 13) rfl (by as_aux_lemma => kernel_rfl) (fun KQ HK => ?_)
                go_wp2
                refine HK _ _ (fun h => absurd rfl h) ?_
                clear HK
                refine wpAnyE_done (by as_aux_lemma => kernel_rfl) ?_
                go_wp2
                go_roundw
                case rel => exact ⟨k + 1, n, cx, some ⟨gx, ox, none⟩, dg, pg, S, Q, by omega, by go_num, rfl, by omega, MAY.out, GA.out, HP.out, HO.out, HB.out⟩
                case measure => simp [intOf]; omega
              have MAYN := Lib.hid (unlink_mayS h0 MAY.out)
              have NM := Lib.hid (show (dg.unlink (S ai).toNat tt.toNat).n = dg.n ∧ (dg.unlink (S ai).toNat tt.toNat).m = dg.m from ⟨rfl, rfl⟩)
              rw [← NM.out.1, ← NM.out.2]
              clear NM h0
              generalize (dg.unlink (S ai).toNat tt.toNat) = dn at *
              obtain ⟨bc, hbc⟩ : ∃ bc, bc = v2.heap.size := ⟨_, rfl⟩
              rw [← hbc] at hown C13'
              clear hbc C13
              have GN := Lib.hid hown
              have C13 := Lib.hid (show (w.heap.size + 1) ≤ c13 ∧ c13 < bc ∧ b9 < c13 from ⟨by have := C9.out; have := A9.out; omega, C13'.out, C9.out⟩)
              clear hown C13'
              go_wp2
              refine HK _ _ (fun _ => HS.out) ?_
              clear HK
              refine wpAnyE_take (i := 9) (v := .tuple #[.agg #[.slice pn.A dn.n pn.c, .slice pn.K dn.m pn.kc], .int .i64 0]) rfl (by as_aux_lemma => kernel_rfl) (fun _ _ _ h => h) (.inl ⟨by kernel_rfl, fun W hW => ?_⟩) HS.out ?_
              · obtain ⟨hWP, hWA, x0, x1, y0, y1⟩ := hW
                have q0 := hWP.cell 0
                have q1 := hWP.cell 1
                have r1 := hWA.cell 1
                have r2 := hWA.cell 2
                have r3 := hWA.cell 3
                simp at q0 q1 r1 r2 r3
                go_simp
              simp only [Act.put, List.setIfInBounds_toArray, List.set_cons_zero, List.set_cons_succ]
              refine wpAnyE_take (i := 10) (v := .agg #[.slice pn.A dn.n pn.c, .slice pn.K dn.m pn.kc]) rfl (by as_aux_lemma => kernel_rfl) (fun _ _ _ h => h) (.inl ⟨by kernel_rfl, fun W hW => ?_⟩) HS.out ?_
              · obtain ⟨hWP, hWA, x0, x1, y0, y1⟩ := hW
                have q0 := hWP.cell 0
                have q1 := hWP.cell 1
                have r1 := hWA.cell 1
                have r2 := hWA.cell 2
                have r3 := hWA.cell 3
                simp at q0 q1 r1 r2 r3
                go_simp
              simp only [Act.put, List.setIfInBounds_toArray, List.set_cons_zero, List.set_cons_succ]
              refine wpAnyE_take (i := 11) (v := .int .i64 0) rfl (by as_aux_lemma => kernel_rfl) (fun _ _ _ h => h) (.inl ⟨by kernel_rfl, fun W hW => ?_⟩) HS.out ?_
              · obtain ⟨hWP, hWA, x0, x1, y0, y1⟩ := hW
                have q0 := hWP.cell 0
                have q1 := hWP.cell 1
                have r1 := hWA.cell 1
                have r2 := hWA.cell 2
                have r3 := hWA.cell 3
                simp at q0 q1 r1 r2 r3
                go_simp
              simp only [Act.put, List.setIfInBounds_toArray, List.set_cons_zero, List.set_cons_succ]
              refine wpAnyE_step (i := 12) rfl (by as_aux_lemma => kernel_rfl) (fun KQ HK => ?_)
              have c0 := CB.out.cell 0
              have c1 := CB.out.cell 1
              have cf0 := CB.out.frozen 0
              have cf1 := CB.out.frozen 1
              have zc := CB.out.lt
              simp at c0 c1
              go_wp2
              clear c0 c1 cf0 cf1
              have t9 := A9.out
              have t13 := C13.out
              have tp := HP.out.lt
              have HO' := Lib.hid (ownsRow_setCell_other (a := ⟨c13, 1, none⟩) (ownsRow_setCell_other (a := ⟨c13, 0, none⟩) HO.out (CB.out.ne_own HO.out (by decide)) (.slice pn.A dn.n pn.c)) ((CB.out.set 0 (.slice pn.A dn.n pn.c)).ne_own (ownsRow_setCell_other (a := ⟨c13, 0, none⟩) HO.out (CB.out.ne_own HO.out (by decide)) (.slice pn.A dn.n pn.c)) (by decide)) (.slice pn.K dn.m pn.kc))
              have HP' := Lib.hid ((HP.out.far (p := ⟨c13, 0, none⟩) (by simp; omega) (.slice pn.A dn.n pn.c)).far (p := ⟨c13, 1, none⟩) (by simp; omega) (.slice pn.K dn.m pn.kc))
              have AB' := Lib.hid ((AB.out.far (p := ⟨c13, 0, none⟩) (by simp; omega) (.slice pn.A dn.n pn.c)).far (p := ⟨c13, 1, none⟩) (by simp; omega) (.slice pn.K dn.m pn.kc))
              have HB' := Lib.hid (Below.setCell (p := ⟨c13, 1, none⟩) (Below.setCell (p := ⟨c13, 0, none⟩) HB.out (show w.heap.size ≤ c13 by omega) (.slice pn.A dn.n pn.c)) (show w.heap.size ≤ c13 by omega) (.slice pn.K dn.m pn.kc))
              have GN' := Lib.hid ((GN.out.lset (j := 0) (show c13 < bc from by omega) (.slice pn.A dn.n pn.c)).lset (j := 1) (show c13 < bc from by omega) (.slice pn.K dn.m pn.kc))
              have GA' := Lib.hid ((GA.out.set (j := 0) CB.out (.slice pn.A dn.n pn.c)).set (j := 1) (CB.out.set 0 (.slice pn.A dn.n pn.c)) (.slice pn.K dn.m pn.kc))
              have CBt := (CB.out.set 0 (.slice pn.A dn.n pn.c)).set 1 (.slice pn.K dn.m pn.kc)
              simp at CBt
              have CB' := Lib.hid CBt
              clear CBt
              clear HO HP AB HB GN GA CB
              have HO := Lib.hid HO'.out
              clear HO'
              have HP := Lib.hid HP'.out
              clear HP'
              have AB := Lib.hid AB'.out
              clear AB'
              have HB := Lib.hid HB'.out
              clear HB'
              have GN := Lib.hid GN'.out
              clear GN'
              have GA := Lib.hid GA'.out
              clear GA'
              have CB := Lib.hid CB'.out
              clear CB'
              clear t9 t13 tp zc
              have HS := Lib.hid (show (fun W => HasBlk W w.heap.size 27 #[.slice pg.A dg.n pg.c, .slice pg.K dg.m pg.kc] ∧ HasBlk W b9 60 #[.int .u8 kk, .int .i64 ai, .int .i64 bi, .int .i64 tt] ∧ W.cell? ⟨gx, ox + ai * 2, none⟩ = some (.int .i64 (S ai)) ∧ W.cell? ⟨gx, ox + ai * 2 + 1, none⟩ = some (.int .i64 (Q ai)) ∧ W.cell? ⟨gx, ox + bi * 2, none⟩ = some (.int .i64 (S bi)) ∧ W.cell? ⟨gx, ox + bi * 2 + 1, none⟩ = some (.int .i64 (Q bi))) _ from ⟨HP.out, AB.out, sx_cells HO.out ABI.out.1 ABI.out.2⟩)
              refine HK _ _ (fun _ => HS.out) ?_
              clear HK
              generalize ((v3.setCell ⟨c13, 0, none⟩ (.slice pn.A dn.n pn.c)).setCell ⟨c13, 1, none⟩ (.slice pn.K dn.m pn.kc)) = v4 at *
              refine wpAnyE_step (i := 13) rfl (by as_aux_lemma => kernel_rfl) (fun KQ HK => ?_)
              go_wp2
              refine HK _ _ (fun h => absurd rfl h) ?_
              clear HK
              refine wpAnyE_done (by as_aux_lemma => kernel_rfl) ?_
              have c0 := CB.out.cell 0
              have c1 := CB.out.cell 1
              have zc := CB.out.lt
              have f0 := HP.out.frozen 0
              have f1 := HP.out.frozen 1
              have p0 := HP.out.cell 0
              have p1 := HP.out.cell 1
              have zp := HP.out.lt
              simp at p0 p1
              simp at c0 c1
              go_upto_region 32 with fail
              clear c0 c1 zc f0 f1 p0 p1 zp
              have tbc := C13.out
              have HO' := Lib.hid (own_lset (j := 1) (own_lset (j := 0) HO.out (show w.heap.size < (w.heap.size + 1) by omega) (.slice pn.A dn.n pn.c)) (show w.heap.size < (w.heap.size + 1) by omega) (.slice pn.K dn.m pn.kc))
              have HB' := Lib.hid (Below.setCell (p := ⟨w.heap.size, 1, none⟩) (Below.setCell (p := ⟨w.heap.size, 0, none⟩) HB.out (show w.heap.size ≤ w.heap.size by omega) (.slice pn.A dn.n pn.c)) (show w.heap.size ≤ w.heap.size by omega) (.slice pn.K dn.m pn.kc))
              have GN' := Lib.hid ((GN.out.lset (j := 0) (show w.heap.size < bc from by omega) (.slice pn.A dn.n pn.c)).lset (j := 1) (show w.heap.size < bc from by omega) (.slice pn.K dn.m pn.kc))
              have HPt := (HP.out.set 0 (.slice pn.A dn.n pn.c)).set 1 (.slice pn.K dn.m pn.kc)
              simp at HPt
              have HP' := Lib.hid HPt
              clear HPt
              clear HO HB GN HP
              have HO := Lib.hid HO'.out
              clear HO'
              have HB := Lib.hid HB'.out
              clear HB'
              have GN := Lib.hid GN'.out
              clear GN'
              have HP := Lib.hid HP'.out
              clear HP'
              clear tbc CB
              generalize ((v4.setCell ⟨w.heap.size, 0, none⟩ (.slice pn.A dn.n pn.c)).setCell ⟨w.heap.size, 1, none⟩ (.slice pn.K dn.m pn.kc)) = v6 at *
              have p0 := HP.out.cell 0
              have p1 := HP.out.cell 1
              have zp := HP.out.lt
              simp at p0 p1
              have KX := Lib.hid (check_any dn pn MAYN.out.sm v6 GN.out.ok)
              go_wp2_with fail
              refine KX.out.mono ?_
              rintro e v7 ⟨⟨x, rfl, hx⟩, bel⟩
              obtain rfl : x = 0 := by
                rcases hx with ⟨_, h⟩ | ⟨h, _⟩
                · exact h
                · exact absurd MAYN.out h
              clear p0 p1 zp
              clear KX hx
              have HO' := Lib.hid (own_below HO.out bel)
              clear HO
              have HO := Lib.hid HO'.out
              clear HO'
              have HP' := Lib.hid (HP.out.below bel)
              clear HP
              have HP := Lib.hid HP'.out
              clear HP'
              have HB' := Lib.hid (HB.out.trans (bel.mono HB.out.size))
              clear HB
              have HB := Lib.hid HB'.out
              clear HB'
              have GN' := Lib.hid (GN.out.below bel)
              clear GN
              have GN := Lib.hid GN'.out
              clear GN'
              clear bel MAY
              have MAY := Lib.hid MAYN.out
              have GA := Lib.hid (show GAt w (w.heap.size + 1) v7 pn dn from .inr (GN.out.base (by have := C13.out; have := A9.out; omega)))
              clear GN
              go_wp2
              go_roundw
              case rel => exact ⟨k + 1, n, cx, some ⟨gx, ox, none⟩, dn, pn, S, Q, by omega, by go_num, rfl, by omega, MAY.out, GA.out, HP.out, HO.out, HB.out⟩
              case measure => simp [intOf]; omega
          · obtain rfl : k = ln := by omega
            have p0 := hP.cell 0
            have p1 := hP.cell 1
            have zp := hP.lt
            simp at p0 p1
            have KX := Lib.hid (none_any dg pg hmay wr (hga.ok hbel))
            clear hga hmay hP hown hbel
            go_wp2_with fail
            refine KX.out.mono ?_
            rintro e w9 ⟨rfl, bel⟩
            go_wp2
            go_ret
            exact ⟨rfl, HB.out.trans (bel.mono HB.out.size)⟩
theorem u8b {n : Int} (h : (Lit.int .u8 n).wf = true) : 0 ≤ n ∧ n ≤ 255 := by
  simp [Lit.wf, IntKind.min, IntKind.max, IntKind.bits, IntKind.signed] at h; omega
theorem cells_act : Try.prog.cellsOf 60 = 4 := by kernel_rfl
theorem cells_u8 : Try.prog.cellsOf 5 = 1 := by kernel_rfl
set_option maxRecDepth 100000 in
theorem rd_acts {w : World} {cs : List Value} (h : RdS Try.prog w 56 cs) : ∃ (A : Option Addr) (n c : Nat) (K a b t : Nat → Int), cs = [.slice A n c] ∧ (∀ i, 0 ≤ K i ∧ K i ≤ 255) ∧ Row w A n 4 (av K a b t) := by
  obtain ⟨A, n, c, F, rfl, _, hF, hr⟩ := rd_rowsS 4 (fun f => ∃ (x : Int × Int × Int × Int), (0 ≤ x.1 ∧ x.1 ≤ 255) ∧ f 0 = .int .u8 x.1 ∧ f 1 = .int .i64 x.2.1 ∧ f 2 = .int .i64 x.2.2.1 ∧ f 3 = .int .i64 x.2.2.2) Try.underlying56 cells_act (by omega)
    (fun cs hl hr => by
      obtain ⟨hl', hf⟩ := hr.struct Try.underlying60
      match cs, hl with
      | [x, y, z, u], _ =>
        obtain ⟨a0, e0, w0⟩ := (hf 0 _ rfl).rd.int Try.underlying5
        obtain ⟨a1, e1, _⟩ := (hf 1 _ rfl).rd.int Try.underlying3
        obtain ⟨a2, e2, _⟩ := (hf 2 _ rfl).rd.int Try.underlying3
        obtain ⟨a3, e3, _⟩ := (hf 3 _ rfl).rd.int Try.underlying3
        simp [cells_int, cells_u8] at e0 e1 e2 e3
        subst e0 e1 e2 e3
        exact ⟨(a0, a1, a2, a3), u8b w0, rfl, rfl, rfl, rfl⟩) ⟨fun j => if j = 0 then .int .u8 0 else .int .i64 0, (0, 0, 0, 0), by decide, rfl, rfl, rfl, rfl⟩ h
  obtain ⟨x, hx⟩ := Classical.axiomOfChoice hF
  refine ⟨A, n, c, fun i => (x i).1, fun i => (x i).2.1, fun i => (x i).2.2.1, fun i => (x i).2.2.2, rfl, fun i => (hx i).1, hr.congr fun i hi j hj => ?_⟩
  obtain rfl | rfl | rfl | rfl : j = 0 ∨ j = 1 ∨ j = 2 ∨ j = 3 := by omega
  · exact (hx i).2.1
  · exact (hx i).2.2.1
  · exact (hx i).2.2.2.1
  · exact (hx i).2.2.2.2
theorem nodesNever_arg (v0 v1 : Value) (w : World) (h0 : Arg Try.prog w 27 v0) (s0 : RdS Try.prog w 27 v0.cells.toList) (h1 : Arg Try.prog w 56 v1) (s1 : RdS Try.prog w 56 v1.cells.toList) : Calls Try.prog 7 #[v0, v1] w fun e w' => e = .returned (.bool true) ∧ Below w.heap.size w w' := by
  obtain ⟨p, d, rfl, hrc, hok⟩ := arg_graph h0 s0
  obtain ⟨_, _, _, rfl, _⟩ := h1.slice Try.underlying56
  obtain ⟨A, n, c, K, a, b, t, e, hK, hrow⟩ := rd_acts s1
  have e2 : [_] = [_] := e
  injection e2 with e _
  rw [e]
  exact nodesNever_walk d p hrc A n c K a b t hK w hok hrow
end Go.Proofs.Ytgkeiaggldahnaa
