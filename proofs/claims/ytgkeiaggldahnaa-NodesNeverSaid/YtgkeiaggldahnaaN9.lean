/- nodes: graphs of the call's own; the reference's Twin. -/
import Derived.Test.YtgkeiaggldahnaaN8
import Derived.Test.YtgkeiaggldahnaaR12
import Derived.Test.YtgkeiaggldahnaaApp
import Derived.Deep.AppendLies
namespace Go.Proofs.Ytgkeiaggldahnaa
open Go.RowKit
set_option linter.unusedVariables false
theorem own_keep {w w' : World} {B e s n : Nat} {v : Value} {xs : List Value} {row : Option Nat} (h : w.ownsRow B e s v n xs) (hg : w.grownBy w' row) (hne : v.ownBlock = none ∨ v.ownBlock ≠ row) : w'.ownsRow B e s v n xs := h.kept hg hne
theorem own_types {w : World} {b1 b2 e1 e2 s1 s2 n1 n2 : Nat} {v1 v2 : Value} {x1 x2 : List Value} (h1 : w.ownsRow b1 e1 s1 v1 n1 x1) (h2 : w.ownsRow b2 e2 s2 v2 n2 x2) (hne : e1 ≠ e2) : v1.ownBlock = none ∨ v1.ownBlock ≠ v2.ownBlock := by
  rcases h1.2 with ⟨h, _⟩ | ⟨g, cap, cur, h, _, hg, _⟩
  · left; rw [h]; rfl
  · rcases h2.2 with ⟨h', _⟩ | ⟨g', cap', cur', h', _, hg', _⟩
    · right; rw [h, h']; simp [Value.ownBlock]
    · right
      rw [h, h']
      intro e
      have e3 : g = g' := by simpa [Value.ownBlock] using e
      subst e3
      rw [hg] at hg'
      injection hg' with hg'
      injection hg' with _ e4 _
      exact hne e4
/-- m lists of handles of the call's own, in blocks of their own. -/
structure KOwn (B : Nat) (w : World) (KA : Nat → Option Addr) (KC : Nat → Nat) (L : Nat → Nat) (S Q : Nat → Nat → Int) (m : Nat) : Prop where
  kd : ∀ i, i < m → w.ownsRow B 29 2 (.slice (KA i) (L i) (KC i)) (L i) (cellsR 2 (hv (S i) (Q i)) (L i))
  ap : ∀ i j, i < m → j < m → i ≠ j → (Value.slice (KA i) (L i) (KC i)).ownBlock = none ∨ (Value.slice (KA i) (L i) (KC i)).ownBlock ≠ (Value.slice (KA j) (L j) (KC j)).ownBlock
theorem KOwn.zero (B : Nat) (w : World) (KA : Nat → Option Addr) (KC : Nat → Nat) (L : Nat → Nat) (S Q : Nat → Nat → Int) : KOwn B w KA KC L S Q 0 := ⟨fun i h => absurd h (by omega), fun i j h => absurd h (by omega)⟩
theorem KOwn.keep {B m : Nat} {w w' : World} {KA : Nat → Option Addr} {KC L : Nat → Nat} {S Q : Nat → Nat → Int} {row : Option Nat} (h : KOwn B w KA KC L S Q m) (hg : w.grownBy w' row) (hne : ∀ i, i < m → (Value.slice (KA i) (L i) (KC i)).ownBlock = none ∨ (Value.slice (KA i) (L i) (KC i)).ownBlock ≠ row) : KOwn B w' KA KC L S Q m :=
  ⟨fun i hi => (h.kd i hi).kept hg (hne i hi), h.ap⟩
theorem KOwn.below {B m : Nat} {w w' : World} {KA : Nat → Option Addr} {KC L : Nat → Nat} {S Q : Nat → Nat → Int} (h : KOwn B w KA KC L S Q m) (hb : Below w.heap.size w w') : KOwn B w' KA KC L S Q m :=
  ⟨fun i hi => own_below (h.kd i hi) hb, h.ap⟩
theorem KOwn.types {B m b e s n : Nat} {w : World} {v : Value} {xs : List Value} {KA : Nat → Option Addr} {KC L : Nat → Nat} {S Q : Nat → Nat → Int} (h : KOwn B w KA KC L S Q m) (ho : w.ownsRow b e s v n xs) (hne : 29 ≠ e) {i : Nat} (hi : i < m) : (Value.slice (KA i) (L i) (KC i)).ownBlock = none ∨ (Value.slice (KA i) (L i) (KC i)).ownBlock ≠ v.ownBlock := own_types (h.kd i hi) ho hne
theorem KOwn.set {B m : Nat} {w : World} {KA : Nat → Option Addr} {KC L : Nat → Nat} {S Q : Nat → Nat → Int} (h : KOwn B w KA KC L S Q m) {a : Addr} {t : TypeId} {cs : Array Value} (hb : HasBlk w a.block t cs) (hne : 29 ≠ t) (u : Value) : KOwn B (w.setCell a u) KA KC L S Q m :=
  ⟨fun i hi => ownsRow_setCell_other (h.kd i hi) (hb.ne_own (h.kd i hi) hne) u, h.ap⟩
/-- One more list, in a block made since. -/
theorem KOwn.snoc {B B' m : Nat} {w w1 : World} {KA : Nat → Option Addr} {KC L : Nat → Nat} {S Q : Nat → Nat → Int} {A : Option Addr} {c : Nat} (h : KOwn B w KA KC L S Q m) (hlt : w.heap.size ≤ B') (h1 : KOwn B w1 KA KC L S Q m) (ho : w1.ownsRow B' 29 2 (.slice A (L m) c) (L m) (cellsR 2 (hv (S m) (Q m)) (L m))) (hB : B ≤ B') : KOwn B w1 (upd KA m A) (upd KC m c) L S Q (m + 1) := by
  have old : ∀ i, i < m → ∀ k, (Value.slice (KA i) (L i) (KC i)).ownBlock = some k → k < w.heap.size := fun i hi k hk => ((h.kd i hi).lt k hk).2
  have new : ∀ k, (Value.slice A (L m) c).ownBlock = some k → B' ≤ k := fun k hk => (ho.lt k hk).1
  refine ⟨fun i hi => ?_, fun i j hi hj hij => ?_⟩
  · by_cases e : i = m
    · subst e; rw [upd_at, upd_at]; exact own_base ho hB
    · rw [upd_ne _ _ e, upd_ne _ _ e]; exact h1.kd i (by omega)
  · by_cases e : i = m
    · subst e
      rw [upd_at, upd_at, upd_ne _ _ (Ne.symm hij), upd_ne _ _ (Ne.symm hij)]
      cases hk : (Value.slice A (L i) c).ownBlock with
      | none => exact .inl rfl
      | some k =>
        right
        intro e2
        have := new k hk
        have := old j (by omega) k e2.symm
        omega
    · by_cases e' : j = m
      · subst e'
        rw [upd_at, upd_at, upd_ne _ _ e, upd_ne _ _ e]
        cases hk : (Value.slice (KA i) (L i) (KC i)).ownBlock with
        | none => exact .inl rfl
        | some k =>
          right
          intro e2
          have := new k e2.symm
          have := old i (by omega) k hk
          omega
      · rw [upd_ne _ _ e, upd_ne _ _ e, upd_ne _ _ e', upd_ne _ _ e']
        exact h1.ap i j (by omega) (by omega) hij
/-- A graph of the call's own. -/
structure GOwn (B : Nat) (w : World) (p : GP) (d : GD) : Prop where
  ar : w.ownsRow B 58 2 (.slice p.A d.n p.c) d.n (cellsR 2 (sv d.g d.b) d.n)
  ks : w.ownsRow B 32 1 (.slice p.K d.m p.kc) d.m (cellsR 1 (kv p d) d.m)
  kd : KOwn B w p.KA p.KC d.L d.S d.Q d.m
theorem GOwn.ok {B : Nat} {w : World} {p : GP} {d : GD} (h : GOwn B w p d) : GOk w p d := ⟨Row.of_cells h.ar, Row.of_cells h.ks, fun i hi => Row.of_cells (h.kd.kd i hi)⟩
theorem GOwn.below {B : Nat} {w w' : World} {p : GP} {d : GD} (h : GOwn B w p d) (hb : Below w.heap.size w w') : GOwn B w' p d := ⟨own_below h.ar hb, own_below h.ks hb, h.kd.below hb⟩
theorem GOwn.base {b B : Nat} {w : World} {p : GP} {d : GD} (h : GOwn B w p d) (hb : b ≤ B) : GOwn b w p d := ⟨own_base h.ar hb, own_base h.ks hb, fun i hi => own_base (h.kd.kd i hi) hb, h.kd.ap⟩
/-- A graph of the call's own, as a value. -/
def GOwnV (d : GD) (B : Nat) (v : Value) (w' : World) : Prop := ∃ p : GP, v = .agg #[.slice p.A d.n p.c, .slice p.K d.m p.kc] ∧ GOwn B w' p d
theorem list_info : (Try.prog.info? 32).map (fun i => (i.zero, i.size, i.bytes)) = some (some (.slice none 0 0), 1, 24) := by kernel_rfl
theorem kv_snoc {p p' : GP} {d : GD} {k : Nat} (hA : ∀ i, i < k → p'.KA i = p.KA i) (hC : ∀ i, i < k → p'.KC i = p.KC i) : cellsR 1 (kv p' d) (k + 1) = cellsR 1 (kv p d) k ++ [.slice (p'.KA k) (d.L k) (p'.KC k)] := by
  rw [cellsR_succ, cellsR_congr (F := kv p' d) (G := kv p d) (fun i hi j _ => by unfold kv; rw [hA i hi, hC i hi])]
  rfl

set_option maxRecDepth 100000 in
set_option maxHeartbeats 8000000 in
theorem reftwing_any (d : GD) (p : GP) (hsm : d.Sm) (w : World) (hok : GOk w p d) :
    Calls Try.prog 10 #[.agg #[.slice p.A d.n p.c, .slice p.K d.m p.kc]] w fun e w' => (∃ v, e = .returned v ∧ GOwnV d w.heap.size v w') ∧ Below w.heap.size w w' := by
  obtain ⟨A, c, K, kc, KA, KC⟩ := p
  dsimp only
  obtain ⟨i0', hi0, hz0, hz1, hz2⟩ := info_parts hdl_info
  obtain ⟨i0, hi00⟩ : ∃ i0, i0 = i0' := ⟨_, rfl⟩
  rw [← hi00] at hi0 hz0 hz1 hz2
  obtain ⟨j0', hj0, hy0, hy1, hy2⟩ := info_parts list_info
  obtain ⟨j0, hj00⟩ : ∃ j0, j0 = j0' := ⟨_, rfl⟩
  rw [← hj00] at hj0 hy0 hy1 hy2
  clear hi00 hj00
  have b2 : Below w.heap.size w ((w.alloc (.cells #[.slice A d.n c, .slice K d.m kc] 27)).alloc (.cells #[.slice none 0 0, .slice none 0 0] 27)) := by
    repeat' (first | exact Below.refl _ _ | assumption | apply Below.drew | refine Below.setCell ?_ (by first | omega | (simp; done) | (simp; omega)) _ | refine Below.alloc ?_ (by first | omega | (simp; done) | (simp; omega)) _)
  have hn := hsm.n
  have OK := Lib.hid hok
  have Sm := Lib.hid hsm
  have B2 := Lib.hid b2
  have HP := Lib.hid ((hasBlk_new w 27 #[.slice A d.n c, .slice K d.m kc]).alloc (.cells #[.slice none 0 0, .slice none 0 0] 27))
  have HZ := Lib.hid (show HasBlk ((w.alloc (.cells #[.slice A d.n c, .slice K d.m kc] 27)).alloc (.cells #[.slice none 0 0, .slice none 0 0] 27)) (w.heap.size + 1) 27 #[.slice none 0 0, .slice none 0 0] by simpa using hasBlk_new (w.alloc (.cells #[.slice A d.n c, .slice K d.m kc] 27)) 27 #[.slice none 0 0, .slice none 0 0])
  have hc := Lib.hid (reftwin_any A d.n c d.g d.b _ (hok.below b2).ar (by omega))
  clear hok hsm b2
  go_enter Try.func10, Try.ntmps10
  go_wp2_with fail
  refine hc.out.mono ?_
  rintro e w1 ⟨⟨v, rfl, X, xc, rfl, hAr⟩, bel⟩
  have hb3 := B2.out.trans (bel.mono B2.out.size)
  have zb := hb3.size
  have HP3 := Lib.hid ((HP.out.below bel).alloc (.cells #[.slice X d.n xc, .slice none 0 0] 27))
  have HZ3 := Lib.hid ((HZ.out.below bel).alloc (.cells #[.slice X d.n xc, .slice none 0 0] 27))
  have HT3 := Lib.hid (hasBlk_new w1 27 #[.slice X d.n xc, .slice none 0 0])
  have HAR := Lib.hid ((own_base hAr (show w.heap.size ≤ _ by simp; omega)).alloc (.cells #[.slice X d.n xc, .slice none 0 0] 27))
  have HB3 := Lib.hid (hb3.alloc zb (.cells #[.slice X d.n xc, .slice none 0 0] 27))
  have zT := (HZ.out.below bel).lt
  clear bel hb3 hAr HP HZ hc B2
  go_wp2
  obtain ⟨T0, hT0⟩ : ∃ T0, T0 = w1.heap.size := ⟨_, rfl⟩
  rw [← hT0] at HT3 ⊢
  have hTn : w.heap.size + 1 < T0 := by omega
  clear hT0 zT
  go_loopw [4] (fun i wr => ∃ (k : Nat) (X : Option Addr) (xc : Nat) (Kx : Option Addr) (kcx : Nat) (KA' : Nat → Option Addr) (KC' : Nat → Nat), k ≤ d.m ∧ i = .int .i64 k ∧ HasBlk wr w.heap.size 27 #[.slice A d.n c, .slice K d.m kc] ∧ HasBlk wr (w.heap.size + 1) 27 #[.slice none 0 0, .slice none 0 0] ∧ HasBlk wr T0 27 #[.slice X d.n xc, .slice Kx k kcx] ∧ wr.ownsRow w.heap.size 58 2 (.slice X d.n xc) d.n (cellsR 2 (sv d.g d.b) d.n) ∧ wr.ownsRow w.heap.size 32 1 (.slice Kx k kcx) k (cellsR 1 (kv ⟨X, xc, Kx, kcx, KA', KC'⟩ d) k) ∧ KOwn w.heap.size wr KA' KC' d.L d.S d.Q k ∧ Below w.heap.size w wr) (fun i wr => d.m - (intOf i).toNat)
  case atStart => exact ⟨0, X, xc, none, 0, fun _ => none, fun _ => 0, Nat.zero_le _, rfl, HP3.out, HZ3.out, HT3.out, HAR.out, own_nil _ _ _ _, .zero _ _ _ _ _ _ _, HB3.out⟩
  case round =>
    clear HP3 HZ3 HT3 HAR HB3
    obtain ⟨k, X, xc, Kx, kcx, KA', KC', hkm0, rfl, hP, hZ, hT, hAr, hKs, hKd, hbel⟩ := hrel
    have HB := Lib.hid hbel
    have HP := Lib.hid hP
    have HZ := Lib.hid hZ
    have HT := Lib.hid hT
    have HAR := Lib.hid hAr
    have HKS0 := Lib.hid hKs
    have HKD := Lib.hid hKd
    have p1 := hP.cell 1
    have zp := hP.lt
    simp at p1
    have zb := hbel.size
    clear hAr hKs hKd
    by_cases hkm : k < d.m
    · obtain ⟨gk, ok, hA, hgk, hck⟩ := (OK.out.below hbel).ks (by omega)
      dsimp only at hA
      subst hA
      have k0 := hck k hkm 0 (by omega)
      simp only [kv, Nat.add_zero, Nat.mul_one] at k0
      have hrow := (OK.out.below hbel).kd k hkm
      dsimp only at hrow
      have RW := Lib.hid (hrow.news (by omega))
      have q16 := Sm.out.L k hkm
      have q17 := Sm.out.m
      have i1 : (k : Int) < (d.m : Int) := by omega
      have i2 : (0 : Int) ≤ (k : Int) := by omega
      clear hck hrow hbel hP hZ hT
      go_upto_region 7 with (at_builtin; refine wpList_app rfl (.tmp 17) (.tmp 22) 32 rfl wr.heap.size 29 i0 _ 2 16 Try.underlying32 hi0 hz0 hz1 hz2 rfl (by omega) none 0 0 [] rfl (own_nil _ _ _ _) (KA k) (d.L k) (KC k) (cellsR 2 (hv (d.S k) (d.Q k)) (d.L k)) rfl (cellsR_len 2 _ _) RW.out (cellsR_one (hv_one _ _) _) (by unfold maxLen; omega) (by omega) (by omega) ?_; intro A1 c1 w2 hown1 hgr1; simp only [Nat.zero_add, List.nil_append] at hown1 ⊢)
      have HR1 := Lib.hid hown1
      have HT2 := Lib.hid (HT.out.grown hgr1 (by simp [Value.ownBlock]))
      have HP2 := Lib.hid (HP.out.grown hgr1 (by simp [Value.ownBlock]))
      have HZ2 := Lib.hid (HZ.out.grown hgr1 (by simp [Value.ownBlock]))
      have HAR2 := Lib.hid (own_keep HAR.out hgr1 (by simp only [Value.ownBlock]; exact (by cases X <;> simp)))
      have HKS := Lib.hid (own_keep HKS0.out hgr1 (by simp only [Value.ownBlock]; exact (by cases Kx <;> simp)))
      have hkd2 := HKD.out.keep hgr1 (fun i hi => by cases KA' i <;> simp [Value.ownBlock])
      have HKD2 := Lib.hid (KOwn.snoc (w := wr) HKD.out (Nat.le_refl _) hkd2 hown1 zb)
      have hb2 : Below w.heap.size w w2 := below_grown (v := .slice none 0 0) (base := w.heap.size) HB.out hgr1 (own_nil _ _ 29 2) (Nat.le_refl _) zb
      have HB2 := Lib.hid hb2
      have zb2 := hb2.size
      have NEK := Lib.hid (HT2.out.ne_own HKS.out (by decide))
      have t0 := HT2.out.cell 1
      have zt := HT2.out.lt
      simp at t0
      clear HP HZ HT HAR HKS0 HKD HB hkd2 hb2 hown1 hgr1 p1 k0
      go_wp2_with (at_builtin; refine wpList_append_lies _ rfl (.tmp 25) (.tmp 27) 25 rfl w.heap.size 32 j0 _ 1 24 Try.underlying25 hj0 hy0 hy1 hy2 rfl (by omega) (.slice Kx k kcx) k (cellsR 1 (kv ⟨X, xc, Kx, kcx, KA', KC'⟩ d) k) rfl (HKS.out.alloc _) ⟨w2.heap.size, 0, none⟩ 1 1 [.slice A1 (d.L k) c1] (by rfl) rfl (World.news_of_block (cs := #[.slice A1 (d.L k) c1]) (t := 32) (fr := (0, 0)) (heap_alloc_new w2 _)) (by simp [Value.oneCell']) (by omega) (by unfold maxLen; omega) (by omega) (by simp; omega) (w2.heap.size + 1) (by simp) ?_; intro A2 c2 w3 hown3 hgr3 hat3 hlt3; have hT3 := (HT2.out.alloc (.cells #[.slice A1 (d.L k) c1] 32)).grown hgr3 NEK.out; have t1 := hT3.cell 1; have f1 := hT3.frozen 1; have zt3 := hT3.lt; have HT3 := Lib.hid hT3; clear hT3; simp at t1)
      go_roundw
      case rel =>
        have hb3 : Below w.heap.size w w3 := below_grown (v := .slice Kx k kcx) (HB2.out.alloc zb2 _) hgr3 (HKS.out.alloc _) (Nat.le_refl _) (by simp; omega)
        have hkd3 := (HKD2.out.keep (World.grownBy_alloc w2 (.cells #[.slice A1 (d.L k) c1] 32) none) (fun i hi => by cases upd KA' k A1 i <;> simp [Value.ownBlock])).keep hgr3 (fun i hi => own_types (HKD2.out.kd i hi) HKS.out (by decide))
        have har3 := own_keep (HAR2.out.alloc (.cells #[.slice A1 (d.L k) c1] 32)) hgr3 (own_types HAR2.out HKS.out (by decide))
        refine ⟨k + 1, X, xc, _, c2, _, _, by omega, by go_num, ((HP2.out.alloc _).grown hgr3 (HP2.out.ne_own HKS.out (by decide))).far (by simp; omega) _, ((HZ2.out.alloc _).grown hgr3 (HZ2.out.ne_own HKS.out (by decide))).far (by simp; omega) _, by simpa using HT3.out.set 1 (.slice (some ⟨A2, 0, none⟩) (k + 1) c2), ownsRow_setCell_other har3 (HT3.out.ne_own har3 (by decide)) _, ?_, hkd3.set HT3.out (by decide) _, Below.setCell hb3 (by simp; omega) _⟩
        have h := ownsRow_setCell_other hown3 (a := ⟨T0, 1, none⟩) (HT3.out.ne_own hown3 (by decide)) (.slice (some ⟨A2, 0, none⟩) (k + 1) c2)
        rw [kv_snoc (p := ⟨X, xc, Kx, kcx, KA', KC'⟩) (fun i hi => upd_ne _ _ (by omega)) (fun i hi => upd_ne _ _ (by omega))]
        dsimp only
        rw [upd_at, upd_at]
        exact h
      case measure => simp [intOf]; omega
    · have hkm2 : k = d.m := by omega
      subst hkm2
      have z0 := hZ.cell 0
      have z1 := hZ.cell 1
      have zf0 := hZ.frozen 0
      have zf1 := hZ.frozen 1
      have zz := hZ.lt
      have t0 := hT.cell 0
      have t1 := hT.cell 1
      have zt := hT.lt
      simp at z0 z1 t0 t1
      clear hbel hP hZ hT
      go_wp2
      refine bodyPost_ret (v := .agg #[.slice X d.n xc, .slice Kx d.m kcx]) (by simp [results, Try.results10, go_sem, *]) rfl ⟨⟨_, rfl, ⟨X, xc, Kx, kcx, KA', KC'⟩, rfl, ?_⟩, ?_⟩
      · have hz2 := fun u => HZ.out.set 0 u
        have a1 := fun u => ownsRow_setCell_other HAR.out (a := ⟨w.heap.size + 1, 0, none⟩) (HZ.out.ne_own HAR.out (by decide)) u
        have a2 := fun u u' => ownsRow_setCell_other (a1 u) (a := ⟨w.heap.size + 1, 1, none⟩) ((hz2 u).ne_own (a1 u) (by decide)) u'
        have k1 := fun u => ownsRow_setCell_other HKS0.out (a := ⟨w.heap.size + 1, 0, none⟩) (HZ.out.ne_own HKS0.out (by decide)) u
        have k2 := fun u u' => ownsRow_setCell_other (k1 u) (a := ⟨w.heap.size + 1, 1, none⟩) ((hz2 u).ne_own (k1 u) (by decide)) u'
        have d2 := fun u u' => (HKD.out.set (a := ⟨w.heap.size + 1, 0, none⟩) HZ.out (by decide) u).set (a := ⟨w.heap.size + 1, 1, none⟩) (hz2 u) (by decide) u'
        exact ⟨a2 _ _, k2 _ _, d2 _ _⟩
      · exact Below.setCell (Below.setCell HB.out (by simp) _) (by simp) _
end Go.Proofs.Ytgkeiaggldahnaa
