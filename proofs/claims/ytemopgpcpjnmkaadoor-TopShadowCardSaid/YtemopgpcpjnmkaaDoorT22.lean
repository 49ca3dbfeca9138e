/- top: what is left of a triangle on the screen. -/
import Derived.Test.YtemopgpcpjnmkaaDoorT20
import Derived.Test.YtemopgpcpjnmkaaDoorT15
import Derived.Test.YtemopgpcpjnmkaaDoorT11
import Derived.Test.YtemopgpcpjnmkaaDoorLoad
namespace Go.Proofs.YtemopgpcpjnmkaaDoor
open Go.RowKit
set_option linter.unusedVariables false
def T3.cells (t : T3) : List Value := [.int .i64 t.a.x, .int .i64 t.a.y, .int .i64 t.a.d, .int .i64 t.a.u, .int .i64 t.a.v, .int .i64 t.b.x, .int .i64 t.b.y, .int .i64 t.b.d, .int .i64 t.b.u, .int .i64 t.b.v, .int .i64 t.c.x, .int .i64 t.c.y, .int .i64 t.c.d, .int .i64 t.c.u, .int .i64 t.c.v]
theorem T3.len (a : T3) : a.cells.length = 15 := rfl
theorem T3.one (a : T3) : ∀ u ∈ a.cells, u.oneCell' = true := by simp [T3.cells, Value.oneCell']
theorem inf101 : Inf Tryd.prog 101 87 15 120 := ⟨by kernel_rfl, by kernel_rfl⟩
theorem agg52 : Agg Tryd.prog 52 18 := ⟨_, Tryd.underlying52, rfl, by kernel_rfl⟩
theorem agg125 : Agg Tryd.prog 125 15 := ⟨_, Tryd.underlying125, rfl, by kernel_rfl⟩
theorem agg31 : Agg Tryd.prog 31 16 := ⟨_, Tryd.underlying31, rfl, by kernel_rfl⟩
theorem agg87 : Agg Tryd.prog 87 15 := ⟨_, Tryd.underlying87, rfl, by kernel_rfl⟩
theorem bld_124 (x y z u v : Int) (w : World) : (Instr.build 124 #[(0, .agg #[.int .i64 x, .int .i64 y, .int .i64 z]), (1, .int .i64 u), (2, .int .i64 v)]).run Tryd.prog w = .ok (.agg #[.int .i64 x, .int .i64 y, .int .i64 z, .int .i64 u, .int .i64 v]) w := by kernel_rfl
theorem OwnL.low {α : Type} {w : World} {base base' e s : Nat} {f : α → List Value} {L : List α} {v : Value} (h : OwnL w base e s f L v) (hb : base' ≤ base) : OwnL w base' e s f L v := by
  refine ⟨h.1, h.2.1, ?_⟩
  rcases h.2.2 with h | ⟨g, cap, cur, h1, h2, h3⟩
  · exact .inl h
  · exact .inr ⟨g, cap, cur, h1, Nat.le_trans hb h2, h3⟩
theorem OwnL.shape {α : Type} {w : World} {base e s : Nat} {f : α → List Value} {L : List α} {v : Value} (h : OwnL w base e s f L v) : ∃ A n c, v = .slice A n c := by
  obtain ⟨⟨A, c, h⟩, _⟩ := h
  exact ⟨A, _, c, h⟩
/-- A block of corners, or of places. -/
def Bq (w : World) (g : Nat) (cs : Array Value) : Prop := HasBlk w g 125 cs
def Bf (w : World) (g : Nat) (cs : Array Value) : Prop := HasBlk w g 87 cs
theorem Bq.below {w w' : World} {g : Nat} {cs : Array Value} (h : Bq w g cs) (hb : Below w.heap.size w w') : Bq w' g cs := HasBlk.below h hb
theorem Bf.below {w w' : World} {g : Nat} {cs : Array Value} (h : Bf w g cs) (hb : Below w.heap.size w w') : Bf w' g cs := HasBlk.below h hb
theorem Bq.grown {w w' : World} {g : Nat} {cs : Array Value} {row : Option Nat} (h : Bq w g cs) (hg : w.grownBy w' row) (hn : row ≠ some g) : Bq w' g cs := HasBlk.grown h hg hn
theorem Bq.lt {w : World} {g : Nat} {cs : Array Value} (h : Bq w g cs) : g < w.heap.size := HasBlk.lt h
theorem Bq.far {w : World} {g : Nat} {cs : Array Value} (h : Bq w g cs) {p : Addr} (hp : p.block ≠ g) (u : Value) : Bq (w.setCell p u) g cs := HasBlk.far h hp u
/-- Three cells in a row. -/
def C3 (w : World) (g o : Nat) (x y z : Value) : Prop := g < w.heap.size ∧ w.cell? ⟨g, o, none⟩ = some x ∧ w.cell? ⟨g, o + 1, none⟩ = some y ∧ w.cell? ⟨g, o + 2, none⟩ = some z
theorem C3.below {w w' : World} {g o : Nat} {x y z : Value} (h : C3 w g o x y z) (hb : Below w.heap.size w w') : C3 w' g o x y z :=
  ⟨Nat.lt_of_lt_of_le h.1 hb.size, (hb.cell (p := ⟨g, o, none⟩) h.1).trans h.2.1, (hb.cell (p := ⟨g, o + 1, none⟩) h.1).trans h.2.2.1, (hb.cell (p := ⟨g, o + 2, none⟩) h.1).trans h.2.2.2⟩
theorem C3.grown {w w' : World} {g o : Nat} {x y z : Value} {row : Option Nat} (h : C3 w g o x y z) (hg : w.grownBy w' row) (hn : row ≠ some g) : C3 w' g o x y z := by
  have hn' : some g ≠ row := fun e => hn e.symm
  refine ⟨Nat.lt_of_lt_of_le h.1 hg.size, ?_, ?_, ?_⟩
  · rw [hg.cell_far _ h.1 hn']; exact h.2.1
  · rw [hg.cell_far _ h.1 hn']; exact h.2.2.1
  · rw [hg.cell_far _ h.1 hn']; exact h.2.2.2
theorem C3.far {w : World} {g o : Nat} {x y z : Value} (h : C3 w g o x y z) {p : Addr} (hp : p.block ≠ g) (u : Value) : C3 (w.setCell p u) g o x y z := by
  have hg : w.grownBy (w.setCell p u) (some p.block) := ⟨rfl, rfl, rfl, by simp, fun k hk hne => Below.heap_setCell w p u k (fun e => hne (by rw [e]))⟩
  have hn : some g ≠ some p.block := fun e => hp (by injection e with e; exact e.symm)
  refine ⟨by simpa using h.1, ?_, ?_, ?_⟩
  · rw [hg.cell_far _ h.1 hn]; exact h.2.1
  · rw [hg.cell_far _ h.1 hn]; exact h.2.2.1
  · rw [hg.cell_far _ h.1 hn]; exact h.2.2.2
def V3.zero : V3 := ⟨0, 0, 0⟩
def U2.zero : U2 := ⟨0, 0⟩
/-- A corner of an item, as the camera sees it. -/
def It.pt (c : CD) (i : It) (n : Nat) : P5 := ⟨c.view (i.V.getD n V3.zero), (i.U.getD n U2.zero).u, (i.U.getD n U2.zero).v⟩
def It.tri3 (c : CD) (i : It) (t : I3) : Q3 := ⟨i.pt c t.a.toNat, i.pt c t.b.toNat, i.pt c t.c.toNat⟩
def CD.placed (c : CD) (q : Q3) : T3 := ⟨c.place q.a, c.place q.b, c.place q.c⟩
def CD.shown (c : CD) (cu : Int) (q : Q3) : List T3 := if shw (c.placed q).area cu then [(c.placed q).front] else []
/-- What is left of a triangle on the screen. -/
def It.parts (c : CD) (i : It) (t : I3) : List T3 := (near c.N (i.tri3 c t)).flatMap (c.shown i.look.cull)
theorem CD.view_ok5 {c : CD} {v : V3} {u : U2} (hc : c.Ok) (hv : v.Ok) (hu : u.Ok) : (⟨c.view v, u.u, u.v⟩ : P5).Ok := by
  have hb : (⟨v, v⟩ : B3).World := ⟨⟨hv.1, hv.1, Int.le_refl _⟩, ⟨hv.2.1, hv.2.1, Int.le_refl _⟩, ⟨hv.2.2, hv.2.2, Int.le_refl _⟩⟩
  have h1 := CD.box_bd hc hb
  have h2 : (c.box ⟨v, v⟩).has (c.view v) := M3.turn_in (B3.less_has (point_has v))
  unfold B3.has at h2
  unfold Wi at h1
  refine ⟨⟨?_, ?_, ?_⟩, hu.1, hu.2⟩ <;> (unfold Wi; dsimp only; omega)
theorem crn_mem {n : Int} {a b p : P5} (hn : Wi n 256 4096) (ha : a.Ok) (hb : b.Ok) (hp : p ∈ crn n a b) : p.Ok ∧ n ≤ p.p.z := by
  unfold crn at hp
  split at hp
  · split at hp
    · obtain rfl := List.mem_singleton.1 hp
      exact ⟨ha, by assumption⟩
    · rcases List.mem_cons.1 hp with rfl | hp
      · exact ⟨ha, by assumption⟩
      · obtain rfl := List.mem_singleton.1 hp
        exact ⟨P5.cut_ok hn hb ha (by omega) (by omega), Int.le_refl _⟩
  · split at hp
    · obtain rfl := List.mem_singleton.1 hp
      exact ⟨P5.cut_ok hn ha hb (by omega) (by omega), Int.le_refl _⟩
    · cases hp
theorem crns_mem {n : Int} {a b c p : P5} (hp : p ∈ crns n a b c 3) : p ∈ crn n a b ∨ p ∈ crn n b c ∨ p ∈ crn n c a := by
  simpa [crns, or_assoc] using hp
theorem getD_mem {L : List P5} {q : Nat} (h : q < L.length) : L.getD q P5.zero ∈ L := List.mem_of_getElem? (getD_get h)
theorem near_mem {n : Int} {t q : Q3} (hq : q ∈ near n t) : q.a ∈ crns n t.a t.b t.c 3 ∧ q.b ∈ crns n t.a t.b t.c 3 ∧ q.c ∈ crns n t.a t.b t.c 3 := by
  unfold near fanN at hq
  obtain ⟨i, hi, rfl⟩ := List.mem_map.1 hq
  have := List.mem_range.1 hi
  exact ⟨getD_mem (by omega), getD_mem (by omega), getD_mem (by omega)⟩
theorem near_ok3 {n : Int} {t q : Q3} (hn : Wi n 256 4096) (ha : t.a.Ok) (hb : t.b.Ok) (hc : t.c.Ok) (hq : q ∈ near n t) : (q.a.Ok ∧ n ≤ q.a.p.z) ∧ (q.b.Ok ∧ n ≤ q.b.p.z) ∧ (q.c.Ok ∧ n ≤ q.c.p.z) := by
  have key : ∀ p, p ∈ crns n t.a t.b t.c 3 → p.Ok ∧ n ≤ p.p.z := fun p hp => by
    rcases crns_mem hp with h | h | h
    · exact crn_mem hn ha hb h
    · exact crn_mem hn hb hc h
    · exact crn_mem hn hc ha h
  obtain ⟨h1, h2, h3⟩ := near_mem hq
  exact ⟨key _ h1, key _ h2, key _ h3⟩
theorem near_len (n : Int) (t : Q3) : (near n t).length ≤ 4 := by
  have := crns_len n t.a t.b t.c 3
  unfold near fanN
  simp
  omega
theorem shown_len (c : CD) (cu : Int) : ∀ L : List Q3, (L.flatMap (c.shown cu)).length ≤ L.length
  | [] => Nat.le_refl _
  | q :: L => by
    have := shown_len c cu L
    rw [List.flatMap_cons, List.length_append, List.length_cons]
    have h : (c.shown cu q).length ≤ 1 := by unfold CD.shown; split <;> simp
    omega
theorem placed_ok {c : CD} {q : Q3} (hc : c.Ok) (h : (q.a.Ok ∧ c.N ≤ q.a.p.z) ∧ (q.b.Ok ∧ c.N ≤ q.b.p.z) ∧ (q.c.Ok ∧ c.N ≤ q.c.p.z)) : (c.placed q).Ok :=
  ⟨CD.place_ok hc h.1.1 h.1.2, CD.place_ok hc h.2.1.1 h.2.1.2, CD.place_ok hc h.2.2.1 h.2.2.2⟩
theorem shw_ne {n cu : Int} (h : shw n cu = true) : ¬ n = 0 := by
  unfold shw at h
  split at h
  · simpa using h
  · split at h
    · have := of_decide_eq_true h; omega
    · have := of_decide_eq_true h; omega

set_option maxRecDepth 100000 in
set_option maxHeartbeats 32000000 in
theorem parts_ok (s : Sh) (c : CD) (k j : Nat) (it : It) (t : I3) (hs : s.Ok) (hc : c.Ok) (hk : s.I[k]? = some it) (hj : it.T[j]? = some t) (w : World) (hR : s.Rd w) : Calls Tryd.prog 33 #[.agg #[.slice s.Ai s.I.length s.ci, .slice s.Ax s.X.length s.cx], .agg #[.int .i64 c.p.x, .int .i64 c.p.y, .int .i64 c.p.z, .int .i64 (c.m 0), .int .i64 (c.m 1), .int .i64 (c.m 2), .int .i64 (c.m 3), .int .i64 (c.m 4), .int .i64 (c.m 5), .int .i64 (c.m 6), .int .i64 (c.m 7), .int .i64 (c.m 8), .int .i64 c.F, .int .i64 c.N, .int .i64 c.W, .int .i64 c.H], .int .i64 (k : Int), .int .i64 (j : Int)] w fun e w' => ∃ v, e = .returned v ∧ OwnL w' w.heap.size 87 15 T3.cells (it.parts c t) v ∧ Below w.heap.size w w' := by
  obtain ⟨I, X, Ai, ci, Ax, cx⟩ := s
  obtain ⟨V, U, T, look, box, Av, cv, Au, cu, At, ct⟩ := it
  obtain ⟨it, hit⟩ : ∃ it : It, it = ⟨V, U, T, look, box, Av, cv, Au, cu, At, ct⟩ := ⟨_, rfl⟩
  have hIok := hs.2.2 _ (List.mem_of_getElem? hk)
  obtain ⟨hRI, hRD, _⟩ := hR
  have hRit := hRD _ (List.mem_of_getElem? hk)
  obtain ⟨hRV, hRU, hRT, _, hcu0⟩ := hRit
  have hcl := hs.1.1
  dsimp only at hk hj hRI hRV hRU hRT hcu0 hcl ⊢
  have hkl := (List.getElem?_eq_some_iff.1 hk).1
  have hjl := (List.getElem?_eq_some_iff.1 hj).1
  clear hRD hs
  obtain ⟨⟨⟨h64, hUV, hT64⟩, hlook⟩, ⟨hVok, hUok⟩, hTok, hbox⟩ := hIok
  dsimp only at h64 hUV hT64 hlook hVok hUok hTok
  have hcu2 := hlook.2.2.1
  obtain ⟨ta, tb, tc⟩ := t
  have htk := hTok _ (List.mem_of_getElem? hj)
  obtain ⟨⟨ha0, ha1⟩, ⟨hb0, hb1⟩, ⟨hc0, hc1⟩⟩ := htk
  dsimp only at ha0 ha1 hb0 hb1 hc0 hc1
  obtain ⟨na, rfl⟩ := Int.eq_ofNat_of_zero_le ha0
  obtain ⟨nb, rfl⟩ := Int.eq_ofNat_of_zero_le hb0
  obtain ⟨nd, rfl⟩ := Int.eq_ofNat_of_zero_le hc0
  have KA : na < V.length := by omega
  have KB : nb < V.length := by omega
  have KD : nd < V.length := by omega
  obtain ⟨va, hva⟩ : ∃ x, V[na]? = some x := ⟨_, List.getElem?_eq_getElem KA⟩
  obtain ⟨ua, hua⟩ : ∃ x, U[na]? = some x := ⟨_, List.getElem?_eq_getElem (by rw [hUV]; exact KA)⟩
  have hpa : it.pt c na = ⟨c.view va, ua.u, ua.v⟩ := by rw [hit]; unfold It.pt; dsimp only; rw [List.getD_eq_getElem?_getD, List.getD_eq_getElem?_getD, hva, hua]; rfl
  have OVa := Lib.hid (hVok _ (List.mem_of_getElem? hva))
  have OPa := Lib.hid (CD.view_ok5 hc (hVok _ (List.mem_of_getElem? hva)) (hUok _ (List.mem_of_getElem? hua)))
  obtain ⟨vb, hvb⟩ : ∃ x, V[nb]? = some x := ⟨_, List.getElem?_eq_getElem KB⟩
  obtain ⟨ub, hub⟩ : ∃ x, U[nb]? = some x := ⟨_, List.getElem?_eq_getElem (by rw [hUV]; exact KB)⟩
  have hpb : it.pt c nb = ⟨c.view vb, ub.u, ub.v⟩ := by rw [hit]; unfold It.pt; dsimp only; rw [List.getD_eq_getElem?_getD, List.getD_eq_getElem?_getD, hvb, hub]; rfl
  have OVb := Lib.hid (hVok _ (List.mem_of_getElem? hvb))
  have OPb := Lib.hid (CD.view_ok5 hc (hVok _ (List.mem_of_getElem? hvb)) (hUok _ (List.mem_of_getElem? hub)))
  obtain ⟨vd, hvd⟩ : ∃ x, V[nd]? = some x := ⟨_, List.getElem?_eq_getElem KD⟩
  obtain ⟨ud, hud⟩ : ∃ x, U[nd]? = some x := ⟨_, List.getElem?_eq_getElem (by rw [hUV]; exact KD)⟩
  have hpd : it.pt c nd = ⟨c.view vd, ud.u, ud.v⟩ := by rw [hit]; unfold It.pt; dsimp only; rw [List.getD_eq_getElem?_getD, List.getD_eq_getElem?_getD, hvd, hud]; rfl
  have OVd := Lib.hid (hVok _ (List.mem_of_getElem? hvd))
  have OPd := Lib.hid (CD.view_ok5 hc (hVok _ (List.mem_of_getElem? hvd)) (hUok _ (List.mem_of_getElem? hud)))
  have HPARTS := Lib.hid (show it.parts c ⟨(na : Int), (nb : Int), (nd : Int)⟩ = (near c.N ⟨⟨c.view va, ua.u, ua.v⟩, ⟨c.view vb, ub.u, ub.v⟩, ⟨c.view vd, ud.u, ud.v⟩⟩).flatMap (c.shown look.cull) by
    unfold It.parts It.tri3
    dsimp only [Int.toNat_natCast]
    rw [hpa, hpb, hpd, hit])
  rw [← hit]
  clear hpa hpb hpd hit
  obtain ⟨gi, oi, rfl, hgi, hci⟩ := hRI (by omega)
  obtain ⟨gv, ov, rfl, hgv, hcv⟩ := hRV (by omega)
  obtain ⟨gu, ou, rfl, hgu, hcu⟩ := hRU (by omega)
  obtain ⟨gt, ot, rfl, hgt, hct⟩ := hRT (by omega)
  obtain ⟨nI, hnI⟩ : ∃ n, n = I.length := ⟨_, rfl⟩
  obtain ⟨nX, hnX⟩ : ∃ n, n = X.length := ⟨_, rfl⟩
  obtain ⟨nv, hnv⟩ : ∃ n, n = V.length := ⟨_, rfl⟩
  obtain ⟨nu, hnu⟩ : ∃ n, n = U.length := ⟨_, rfl⟩
  obtain ⟨nt, hnt⟩ : ∃ n, n = T.length := ⟨_, rfl⟩
  rw [← hnI, ← hnX]
  rw [← hnI] at hkl hcl
  rw [← hnt] at hjl hT64
  rw [← hnv] at KA KB KD h64
  have hnuv : nu = nv := by rw [hnu, hnv]; exact hUV
  have DI := Lib.hid (show ∀ j u, (#[.slice (some ⟨gv, ov, none⟩) nv cv, .slice (some ⟨gu, ou, none⟩) nu cu, .slice (some ⟨gt, ot, none⟩) nt ct, .int .u8 look.c0, .int .u8 look.c1, .int .u8 look.c2, .int .u8 look.c3, .int .i64 look.tex, .int .u8 look.cull, .int .i64 look.bias, .bool look.blend, .int .i64 look.bin, .int .i64 box.lo.x, .int .i64 box.lo.y, .int .i64 box.lo.z, .int .i64 box.hi.x, .int .i64 box.hi.y, .int .i64 box.hi.z] : Array Value).toList[j]? = some u → w.cell? ⟨gi, oi + k * 18 + j, none⟩ = some u from by
    rw [hnv, hnu, hnt]
    exact fun j u hj => hci k _ hk j u hj)
  have DT := Lib.hid (show C3 w gt (ot + j * 3) (.int .i64 (na : Int)) (.int .i64 (nb : Int)) (.int .i64 (nd : Int)) from ⟨hgt, hct j _ hj 0 _ rfl, hct j _ hj 1 _ rfl, hct j _ hj 2 _ rfl⟩)
  have DVa := Lib.hid (show C3 w gv (ov + na * 3) (.int .i64 va.x) (.int .i64 va.y) (.int .i64 va.z) from ⟨hgv, hcv na _ hva 0 _ rfl, hcv na _ hva 1 _ rfl, hcv na _ hva 2 _ rfl⟩)
  have DUa := Lib.hid (show gu < w.heap.size ∧ w.cell? ⟨gu, ou + na * 2, none⟩ = some (.int .i64 ua.u) ∧ w.cell? ⟨gu, ou + na * 2 + 1, none⟩ = some (.int .i64 ua.v) from ⟨hgu, hcu na _ hua 0 _ rfl, hcu na _ hua 1 _ rfl⟩)
  have DVb := Lib.hid (show C3 w gv (ov + nb * 3) (.int .i64 vb.x) (.int .i64 vb.y) (.int .i64 vb.z) from ⟨hgv, hcv nb _ hvb 0 _ rfl, hcv nb _ hvb 1 _ rfl, hcv nb _ hvb 2 _ rfl⟩)
  have DUb := Lib.hid (show gu < w.heap.size ∧ w.cell? ⟨gu, ou + nb * 2, none⟩ = some (.int .i64 ub.u) ∧ w.cell? ⟨gu, ou + nb * 2 + 1, none⟩ = some (.int .i64 ub.v) from ⟨hgu, hcu nb _ hub 0 _ rfl, hcu nb _ hub 1 _ rfl⟩)
  have DVd := Lib.hid (show C3 w gv (ov + nd * 3) (.int .i64 vd.x) (.int .i64 vd.y) (.int .i64 vd.z) from ⟨hgv, hcv nd _ hvd 0 _ rfl, hcv nd _ hvd 1 _ rfl, hcv nd _ hvd 2 _ rfl⟩)
  have DUd := Lib.hid (show gu < w.heap.size ∧ w.cell? ⟨gu, ou + nd * 2, none⟩ = some (.int .i64 ud.u) ∧ w.cell? ⟨gu, ou + nd * 2 + 1, none⟩ = some (.int .i64 ud.v) from ⟨hgu, hcu nd _ hud 0 _ rfl, hcu nd _ hud 1 _ rfl⟩)
  have HGI := Lib.hid hgi
  have HCU := Lib.hid (show look.cull = 0 ∨ look.cull = 1 ∨ look.cull = 2 by omega)
  have HC := Lib.hid hc
  have HNN := Lib.hid (show nu = nv from hnuv)
  have HB1 := Lib.hid (show k < nI ∧ j < nt ∧ (nI ≤ 256 ∧ nt ≤ 64 ∧ nv ≤ 64) ∧ (na < nv ∧ nb < nv ∧ nd < nv) from ⟨hkl, hjl, ⟨hcl, hT64, h64⟩, KA, KB, KD⟩)
  clear hgi hci hgv hcv hgu hcu hgt hct hnI hnX hnv hnu hnt hk hj hkl hjl hcl h64 hUV hT64 hlook hVok hUok hTok hbox hcu0 hcu2 hc KA KB KD hnuv hva hua hvb hub hvd hud ha0 ha1 hb0 hb1 hc0 hc1 hRI hRV hRU hRT
  obtain ⟨v0, hv0, BS, BC, HB⟩ := lay2 w 25 #[.slice (some ⟨gi, oi, none⟩) nI ci, .slice Ax nX cx] 31 #[.int .i64 c.p.x, .int .i64 c.p.y, .int .i64 c.p.z, .int .i64 (c.m 0), .int .i64 (c.m 1), .int .i64 (c.m 2), .int .i64 (c.m 3), .int .i64 (c.m 4), .int .i64 (c.m 5), .int .i64 (c.m 6), .int .i64 (c.m 7), .int .i64 (c.m 8), .int .i64 c.F, .int .i64 c.N, .int .i64 c.W, .int .i64 c.H]
  go_enter Tryd.func33, Tryd.ntmps33
  go_upto_region 1 with fail
  rw [← hv0.out]
  clear hv0
  have ik1 : (k : Int) < (nI : Int) := by have := HB1.out; omega
  have ik0 : (0 : Int) ≤ (k : Int) := by omega
  have HD0 := Lib.hid (show ∀ j u, (#[.slice (some ⟨gv, ov, none⟩) nv cv, .slice (some ⟨gu, ou, none⟩) nu cu, .slice (some ⟨gt, ot, none⟩) nt ct, .int .u8 look.c0, .int .u8 look.c1, .int .u8 look.c2, .int .u8 look.c3, .int .i64 look.tex, .int .u8 look.cull, .int .i64 look.bias, .bool look.blend, .int .i64 look.bin, .int .i64 box.lo.x, .int .i64 box.lo.y, .int .i64 box.lo.z, .int .i64 box.hi.x, .int .i64 box.hi.y, .int .i64 box.hi.z] : Array Value).toList[j]? = some u → v0.cell? ⟨gi, oi + k * 18 + j, none⟩ = some u from fun j u hj => (HB.out.cell (p := ⟨gi, oi + k * 18 + j, none⟩) HGI.out).trans (DI.out j u hj))
  have bs_ := BS.out.c2
  go_upto_region 2 with (first | (refine wpList_loadL rfl 52 _ rfl (gi) (oi + k * 18) rfl #[.slice (some ⟨gv, ov, none⟩) nv cv, .slice (some ⟨gu, ou, none⟩) nu cu, .slice (some ⟨gt, ot, none⟩) nt ct, .int .u8 look.c0, .int .u8 look.c1, .int .u8 look.c2, .int .u8 look.c3, .int .i64 look.tex, .int .u8 look.cull, .int .i64 look.bias, .bool look.blend, .int .i64 look.bin, .int .i64 box.lo.x, .int .i64 box.lo.y, .int .i64 box.lo.z, .int .i64 box.hi.x, .int .i64 box.hi.y, .int .i64 box.hi.z] agg52 HD0.out ?_) | (refine wpList_storeN rfl 52 _ _ rfl #[.slice none 0 0, .slice none 0 0, .slice none 0 0, .int .u8 0, .int .u8 0, .int .u8 0, .int .u8 0, .int .i64 0, .int .u8 0, .int .i64 0, .bool false, .int .i64 0, .int .i64 0, .int .i64 0, .int .i64 0, .int .i64 0, .int .i64 0, .int .i64 0] #[.slice (some ⟨gv, ov, none⟩) nv cv, .slice (some ⟨gu, ou, none⟩) nu cu, .slice (some ⟨gt, ot, none⟩) nt ct, .int .u8 look.c0, .int .u8 look.c1, .int .u8 look.c2, .int .u8 look.c3, .int .i64 look.tex, .int .u8 look.cull, .int .i64 look.bias, .bool look.blend, .int .i64 look.bin, .int .i64 box.lo.x, .int .i64 box.lo.y, .int .i64 box.lo.z, .int .i64 box.hi.x, .int .i64 box.hi.y, .int .i64 box.hi.z] rfl rfl (by kernel_rfl) rfl (by simp [Value.oneCell']) ?_))
  clear bs_
  obtain ⟨v1, xi, hz, hx', BI, bA⟩ := laidB v0 52 #[.slice (some ⟨gv, ov, none⟩) nv cv, .slice (some ⟨gu, ou, none⟩) nu cu, .slice (some ⟨gt, ot, none⟩) nt ct, .int .u8 look.c0, .int .u8 look.c1, .int .u8 look.c2, .int .u8 look.c3, .int .i64 look.tex, .int .u8 look.cull, .int .i64 look.bias, .bool look.blend, .int .i64 look.bin, .int .i64 box.lo.x, .int .i64 box.lo.y, .int .i64 box.lo.z, .int .i64 box.hi.x, .int .i64 box.hi.y, .int .i64 box.hi.z]
  rw [← hz.out, ← hx'.out]
  replace BS := mB BS bA
  replace BC := mB BC bA
  replace HB := mT HB bA
  clear hz hx' bA
  clear HD0 ik1 ik0 BS DI HGI
  go_upto_region 3 with fail
  have LQ := Lib.hid (show (w.heap.size + 1 < v1.heap.size ∧ xi < v1.heap.size) from ⟨BC.out.lt, BI.out.lt⟩)
  obtain ⟨v2, xq, hz, hx', BQ, bA⟩ := laidB v1 125 #[.int .i64 0, .int .i64 0, .int .i64 0, .int .i64 0, .int .i64 0, .int .i64 0, .int .i64 0, .int .i64 0, .int .i64 0, .int .i64 0, .int .i64 0, .int .i64 0, .int .i64 0, .int .i64 0, .int .i64 0]
  rw [← hz.out, ← hx'.out]
  rw [← hx'.out] at LQ
  replace BC := mB BC bA
  replace BI := mB BI bA
  replace HB := mT HB bA
  clear hz hx' bA
  have XT := Lib.hid (DT.out.below HB.out)
  obtain ⟨zt, t0, t1, t2⟩ := XT.out
  have ij1 : (j : Int) < (nt : Int) := by have := HB1.out; omega
  have ij0 : (0 : Int) ≤ (j : Int) := by omega
  have bi_ := BI.out.c18
  go_wp2
  clear bi_
  clear zt t0 t1 t2 ij1 ij0 XT DT
  obtain ⟨QA, hQA⟩ : ∃ QA : Nat → Array Value, QA = (fun r => match r with | 0 => #[.int .i64 0, .int .i64 0, .int .i64 0, .int .i64 0, .int .i64 0, .int .i64 0, .int .i64 0, .int .i64 0, .int .i64 0, .int .i64 0, .int .i64 0, .int .i64 0, .int .i64 0, .int .i64 0, .int .i64 0] | 1 => #[.int .i64 ((c.view va).x), .int .i64 ((c.view va).y), .int .i64 ((c.view va).z), .int .i64 ua.u, .int .i64 ua.v, .int .i64 0, .int .i64 0, .int .i64 0, .int .i64 0, .int .i64 0, .int .i64 0, .int .i64 0, .int .i64 0, .int .i64 0, .int .i64 0] | 2 => #[.int .i64 ((c.view va).x), .int .i64 ((c.view va).y), .int .i64 ((c.view va).z), .int .i64 ua.u, .int .i64 ua.v, .int .i64 ((c.view vb).x), .int .i64 ((c.view vb).y), .int .i64 ((c.view vb).z), .int .i64 ub.u, .int .i64 ub.v, .int .i64 0, .int .i64 0, .int .i64 0, .int .i64 0, .int .i64 0] | _ => #[.int .i64 ((c.view va).x), .int .i64 ((c.view va).y), .int .i64 ((c.view va).z), .int .i64 ua.u, .int .i64 ua.v, .int .i64 ((c.view vb).x), .int .i64 ((c.view vb).y), .int .i64 ((c.view vb).z), .int .i64 ub.u, .int .i64 ub.v, .int .i64 ((c.view vd).x), .int .i64 ((c.view vd).y), .int .i64 ((c.view vd).z), .int .i64 ud.u, .int .i64 ud.v]) := ⟨_, rfl⟩
  have HSET := Lib.hid (show ∀ r : Nat, r < 3 → ∃ (n : Nat) (v : V3) (u : U2), (v.Ok ∧ n < nv) ∧ C3 w gv (ov + n * 3) (.int .i64 v.x) (.int .i64 v.y) (.int .i64 v.z) ∧ (gu < w.heap.size ∧ w.cell? ⟨gu, ou + n * 2, none⟩ = some (.int .i64 u.u) ∧ w.cell? ⟨gu, ou + n * 2 + 1, none⟩ = some (.int .i64 u.v)) ∧ (∀ W, (Instr.index 28 (.agg #[.int .i64 ((na : Int)), .int .i64 ((nb : Int)), .int .i64 ((nd : Int))]) (.int .i64 (r : Int))).run Tryd.prog W = .ok (.int .i64 (n : Int)) W) ∧ QA (r + 1) = ((((((QA r).setIfInBounds (r * 5) (.int .i64 ((c.view v).x))).setIfInBounds (r * 5 + 1) (.int .i64 ((c.view v).y))).setIfInBounds (r * 5 + 2) (.int .i64 ((c.view v).z))).setIfInBounds (r * 5 + 3) (.int .i64 u.u)).setIfInBounds (r * 5 + 4) (.int .i64 u.v)) ∧ ((∃ z, (QA r)[r * 5]? = some z) ∧ (∃ z, (QA r)[r * 5 + 1]? = some z) ∧ (∃ z, (QA r)[r * 5 + 2]? = some z) ∧ (∃ z, (QA r)[r * 5 + 3]? = some z) ∧ (∃ z, (QA r)[r * 5 + 4]? = some z)) from fun r hr => by
    have hb := HB1.out
    subst hQA
    obtain rfl | rfl | rfl : r = 0 ∨ r = 1 ∨ r = 2 := by omega
    · exact ⟨na, va, ua, ⟨OVa.out, hb.2.2.2.1⟩, DVa.out, DUa.out, ix_num0 _ _ _, rfl, ⟨_, rfl⟩, ⟨_, rfl⟩, ⟨_, rfl⟩, ⟨_, rfl⟩, ⟨_, rfl⟩⟩
    · exact ⟨nb, vb, ub, ⟨OVb.out, hb.2.2.2.2.1⟩, DVb.out, DUb.out, ix_num1 _ _ _, rfl, ⟨_, rfl⟩, ⟨_, rfl⟩, ⟨_, rfl⟩, ⟨_, rfl⟩, ⟨_, rfl⟩⟩
    · exact ⟨nd, vd, ud, ⟨OVd.out, hb.2.2.2.2.2⟩, DVd.out, DUd.out, ix_num2 _ _ _, rfl, ⟨_, rfl⟩, ⟨_, rfl⟩, ⟨_, rfl⟩, ⟨_, rfl⟩, ⟨_, rfl⟩⟩)
  have BQ' := Lib.hid (show HasBlk v2 xq 125 (QA 0) by rw [hQA]; exact BQ.out)
  have HQ3 := Lib.hid (show QA 3 = #[.int .i64 ((c.view va).x), .int .i64 ((c.view va).y), .int .i64 ((c.view va).z), .int .i64 ua.u, .int .i64 ua.v, .int .i64 ((c.view vb).x), .int .i64 ((c.view vb).y), .int .i64 ((c.view vb).z), .int .i64 ub.u, .int .i64 ub.v, .int .i64 ((c.view vd).x), .int .i64 ((c.view vd).y), .int .i64 ((c.view vd).z), .int .i64 ud.u, .int .i64 ud.v] by rw [hQA]; rfl)
  clear BQ hQA DVa DVb DVd DUa DUb DUd OVa OVb OVd
  have BQ := Lib.hid BQ'.out
  clear BQ'
  go_loopw [34] (fun s34 wr => ∃ r : Nat, r ≤ 3 ∧ s34 = .int .i64 (r : Int) ∧ HasBlk wr xq 125 (QA r) ∧ HasBlk wr (w.heap.size + 1) 31 #[.int .i64 c.p.x, .int .i64 c.p.y, .int .i64 c.p.z, .int .i64 (c.m 0), .int .i64 (c.m 1), .int .i64 (c.m 2), .int .i64 (c.m 3), .int .i64 (c.m 4), .int .i64 (c.m 5), .int .i64 (c.m 6), .int .i64 (c.m 7), .int .i64 (c.m 8), .int .i64 c.F, .int .i64 c.N, .int .i64 c.W, .int .i64 c.H] ∧ HasBlk wr xi 52 #[.slice (some ⟨gv, ov, none⟩) nv cv, .slice (some ⟨gu, ou, none⟩) nu cu, .slice (some ⟨gt, ot, none⟩) nt ct, .int .u8 look.c0, .int .u8 look.c1, .int .u8 look.c2, .int .u8 look.c3, .int .i64 look.tex, .int .u8 look.cull, .int .i64 look.bias, .bool look.blend, .int .i64 look.bin, .int .i64 box.lo.x, .int .i64 box.lo.y, .int .i64 box.lo.z, .int .i64 box.hi.x, .int .i64 box.hi.y, .int .i64 box.hi.z] ∧ Below w.heap.size w wr) (fun s34 wr => 3 - (intOf s34).toNat)
  case atStart => exact ⟨0, Nat.zero_le _, rfl, BQ.out, BC.out, BI.out, HB.out⟩
  case round =>
    clear BC BI BQ HB
    obtain ⟨r, hr, rfl, qBQ, qBC, qBI, qHB⟩ := hrel
    have BQ := Lib.hid qBQ
    have BC := Lib.hid qBC
    have BI := Lib.hid qBI
    have HB := Lib.hid qHB
    clear qBQ qBC qBI qHB
    by_cases hr3 : r < 3
    · have d0 : decide ((r : Int) < 3) = true := decide_eq_true (by omega)
      obtain ⟨n, v, u, ⟨hvok, hnn⟩, hC3, hU, hx, hQs, hz⟩ := HSET.out r hr3
      have HV3 := Lib.hid hvok
      have HNV := Lib.hid hnn
      have DV := Lib.hid hC3
      have DU := Lib.hid hU
      have HQS := Lib.hid hQs
      have HZ := Lib.hid hz
      clear hvok hnn hC3 hU hQs hz
      go_upto_region 6 with fail
      clear hx d0
      have XV := Lib.hid (DV.out.below HB.out)
      have XQ := Lib.hid BQ.out
      clear BQ
      have BQ := Lib.hid (show Bq wr xq (QA r) from XQ.out)
      clear XQ
      have in1 : (n : Int) < (nv : Int) := by have := HNV.out; omega
      have in0 : (0 : Int) ≤ (n : Int) := by omega
      obtain ⟨z0, hz, bd⟩ := dr0 wr
      replace BC := mB BC bd
      replace BI := mB BI bd
      replace XV := Lib.hid (XV.out.below bd)
      replace BQ := Lib.hid (BQ.out.below bd)
      replace HB := mT HB bd
      have HS := Lib.hid (Below.refl z0.heap.size z0)
      refine wp_region_E (Below z0.heap.size z0) 99 (by kernel_rfl) ?_
      rw [← hz.out]
      clear hz bd
      refine wpAnyE_takeA (i := 0) (v := .agg #[.int .i64 c.p.x, .int .i64 c.p.y, .int .i64 c.p.z, .int .i64 (c.m 0), .int .i64 (c.m 1), .int .i64 (c.m 2), .int .i64 (c.m 3), .int .i64 (c.m 4), .int .i64 (c.m 5), .int .i64 (c.m 6), .int .i64 (c.m 7), .int .i64 (c.m 8), .int .i64 c.F, .int .i64 c.N, .int .i64 c.W, .int .i64 c.H]) rfl (by kernel_rfl) (fun _ _ _ h => h) (.inl ⟨by first | kernel_rfl | rfl, fun W hW => ?_⟩) HS.out ?_
      · have qBC := (BC.out.below hW).c16
        go_simp
      simp only [Act.put, List.setIfInBounds_toArray]
      refine wpAnyE_takeA (i := 1) (v := .pointer (some ⟨xi, 0, none⟩)) rfl (by kernel_rfl) (fun _ _ _ h => h) (.inl ⟨by first | kernel_rfl | rfl, fun W hW => by go_simp⟩) HS.out ?_
      simp only [Act.put]
      refine wpAnyE_takeA (i := 2) (v := .slice (some ⟨gv, ov, none⟩) nv cv) rfl (by kernel_rfl) (fun _ _ _ h => h) (.inl ⟨by first | kernel_rfl | rfl, fun W hW => ?_⟩) HS.out ?_
      · have qBI := (BI.out.below hW).c18
        go_simp
      simp only [Act.put]
      refine wpAnyE_takeA (i := 3) (v := .int .i64 (n : Int)) rfl (by kernel_rfl) (fun _ _ _ h => h) (.inl ⟨by first | kernel_rfl | rfl, fun W hW => by go_simp⟩) HS.out ?_
      simp only [Act.put]
      refine wpAnyE_takeA (i := 4) (v := .pointer (some ⟨gv, ov + n * 3, none⟩)) rfl (by kernel_rfl) (fun _ _ _ h => h) (.inl ⟨by first | kernel_rfl | rfl, fun W hW => by go_simp⟩) HS.out ?_
      simp only [Act.put]
      refine wpAnyE_takeA (i := 5) (v := .agg #[.int .i64 v.x, .int .i64 v.y, .int .i64 v.z]) rfl (by kernel_rfl) (fun _ _ _ h => h) (.inl ⟨by first | kernel_rfl | rfl, fun W hW => ?_⟩) HS.out ?_
      · obtain ⟨qzXV, qXV0, qXV1, qXV2⟩ := XV.out.below hW
        go_simp
      simp only [Act.put]
      apply wpAnyE_via1 (fun x13 z => Hid (Below z0.heap.size z0 z) ∧ Hid (HasBlk z x13 27 #[.int .i64 0, .int .i64 0, .int .i64 0]) ∧ Hid (z0.heap.size ≤ x13)) 2 #[true, true, true, true, true, true, true, true, true, true, true, false, false]
      · intro via
        refine wpAnyE_two (i := 6) (j := 10) rfl rfl (by kernel_rfl) (fun KQ HK => ?_) (fun KQ HK => ?_)
        · have KX := Lib.hid (cview_ok c v HC.out HV3.out z0)
          go_wp2_with fail
          refine KX.out.mono ?_
          rintro e z1 ⟨rfl, bel⟩
          replace HS := mT HS bel
          clear KX bel
          go_wp2
          refine HK _ _ (fun _ => HS.out) ?_
          clear HK
          refine wpAnyE_takeA (i := 7) (v := .tuple #[.agg #[.int .i64 ((c.view v).x), .int .i64 ((c.view v).y), .int .i64 ((c.view v).z)], .int .i64 0]) rfl (by kernel_rfl) (fun _ _ _ h => h) (.inl ⟨by first | kernel_rfl | rfl, fun W hW => by go_simp⟩) HS.out ?_
          simp only [Act.put, List.setIfInBounds_toArray]
          refine wpAnyE_takeA (i := 8) (v := .agg #[.int .i64 ((c.view v).x), .int .i64 ((c.view v).y), .int .i64 ((c.view v).z)]) rfl (by kernel_rfl) (fun _ _ _ h => h) (.inl ⟨by first | kernel_rfl | rfl, fun W hW => by go_simp⟩) HS.out ?_
          simp only [Act.put]
          refine wpAnyE_takeA (i := 9) (v := .int .i64 0) rfl (by kernel_rfl) (fun _ _ _ h => h) (.inl ⟨by first | kernel_rfl | rfl, fun W hW => by go_simp⟩) HS.out ?_
          simp only [Act.put]
          refine wpAnyE_step (i := 10) rfl (by kernel_rfl) (fun KQ HK => ?_)
          go_wp2
          obtain ⟨z2, x13, hz, hx', SV, bel, LSV, hN⟩ := allocB HS 27 #[.int .i64 0, .int .i64 0, .int .i64 0]
          clear hN
          rw [← hz.out, ← hx'.out]
          replace HS := mT HS bel
          refine HK _ _ (fun _ => HS.out) ?_
          clear HK hz hx' bel
          exact wpAnyE_at (by kernel_rfl) (by kernel_rfl) (by rfl) (via x13 z2 ⟨HS, SV, LSV⟩)
        · go_wp2
          obtain ⟨z1, x13, hz, hx', SV, bel, LSV, hN⟩ := allocB HS 27 #[.int .i64 0, .int .i64 0, .int .i64 0]
          clear hN
          rw [← hz.out, ← hx'.out]
          replace HS := mT HS bel
          refine HK _ _ (fun _ => HS.out) ?_
          clear HK hz hx' bel
          refine wpAnyE_step (i := 6) rfl (by kernel_rfl) (fun KQ HK => ?_)
          have KX := Lib.hid (cview_ok c v HC.out HV3.out z1)
          go_wp2_with fail
          refine KX.out.mono ?_
          rintro e z2 ⟨rfl, bel⟩
          replace SV := mB SV bel
          replace HS := mT HS bel
          clear KX bel
          go_wp2
          refine HK _ _ (fun _ => HS.out) ?_
          clear HK
          refine wpAnyE_takeA (i := 7) (v := .tuple #[.agg #[.int .i64 ((c.view v).x), .int .i64 ((c.view v).y), .int .i64 ((c.view v).z)], .int .i64 0]) rfl (by kernel_rfl) (fun _ _ _ h => h) (.inl ⟨by first | kernel_rfl | rfl, fun W hW => by go_simp⟩) HS.out ?_
          simp only [Act.put, List.setIfInBounds_toArray]
          refine wpAnyE_takeA (i := 8) (v := .agg #[.int .i64 ((c.view v).x), .int .i64 ((c.view v).y), .int .i64 ((c.view v).z)]) rfl (by kernel_rfl) (fun _ _ _ h => h) (.inl ⟨by first | kernel_rfl | rfl, fun W hW => by go_simp⟩) HS.out ?_
          simp only [Act.put]
          refine wpAnyE_takeA (i := 9) (v := .int .i64 0) rfl (by kernel_rfl) (fun _ _ _ h => h) (.inl ⟨by first | kernel_rfl | rfl, fun W hW => by go_simp⟩) HS.out ?_
          simp only [Act.put]
          exact wpAnyE_at (by kernel_rfl) (by kernel_rfl) (by rfl) (via x13 z2 ⟨HS, SV, LSV⟩)
      rintro x13 z ⟨HS, SV, LSV⟩
      refine wpAnyE_step (i := 11) rfl (by kernel_rfl) (fun KQ HK => ?_)
      (try go_simp)
      refine wpList_storeB rfl 27 _ _ rfl _ _ _ rfl rfl (by kernel_rfl) SV.out rfl (by simp [Value.oneCell']) ?_
      intro ya hSt hgr
      replace HS := gT HS hgr LSV.out
      replace SV := Lib.hid hSt
      clear hSt hgr
      (try simp only [Act.put])
      go_wp2
      refine HK _ _ (fun _ => HS.out) ?_
      clear HK
      refine wpAnyE_step (i := 12) rfl (by kernel_rfl) (fun KQ HK => ?_)
      go_wp2
      refine HK _ _ (fun _ => HS.out) ?_
      clear HK
      refine wpAnyE_done (by kernel_rfl) ?_
      (try simp only [Act.put, List.setIfInBounds_toArray, List.set_cons_zero, List.set_cons_succ])
      have NSVBC := Lib.hid (Nat.lt_of_lt_of_le BC.out.lt LSV.out)
      have NSVBI := Lib.hid (Nat.lt_of_lt_of_le BI.out.lt LSV.out)
      replace LSV := Lib.hid (Nat.le_trans HB.out.size LSV.out)
      replace BC := mB BC HS.out
      replace BI := mB BI HS.out
      replace XV := Lib.hid (XV.out.below HS.out)
      replace BQ := Lib.hid (BQ.out.below HS.out)
      replace HB := mT HB HS.out
      clear HS
      clear XV in1 in0
      go_upto_region 7 with fail
      have in1 : (n : Int) < (nu : Int) := by have := HNV.out; have := HNN.out; omega
      have in0 : (0 : Int) ≤ (n : Int) := by omega
      have ir1 : (r : Int) < 3 := by omega
      have ir0 : (0 : Int) ≤ (r : Int) := by omega
      have e8 := fun pb : BW ya => BW.cell ((HB.out.cell (p := ⟨gu, ou + n * 2, none⟩) DU.out.1).trans DU.out.2.1) (Nat.lt_of_lt_of_le DU.out.1 HB.out.size) pb
      have e9 := fun pb : BW ya => BW.cell ((HB.out.cell (p := ⟨gu, ou + n * 2 + 1, none⟩) DU.out.1).trans DU.out.2.2) (Nat.lt_of_lt_of_le DU.out.1 HB.out.size) pb
      have hbl := bld_124 (c.view v).x (c.view v).y (c.view v).z u.u u.v
      have eB0 := fun pb : BW ya => BW.cell (BI.out.at 1 rfl) BI.out.lt pb
      have eB1 := fun pb : BW ya => BW.cell (SV.out.at 0 rfl) SV.out.lt pb
      have eB2 := fun pb : BW ya => BW.cell (SV.out.at 1 rfl) SV.out.lt pb
      have eB3 := fun pb : BW ya => BW.cell (SV.out.at 2 rfl) SV.out.lt pb
      refine wp_region_bw_tail 16 (by kernel_rfl) (by kernel_rfl) ?_
      simp only [List.take_succ_cons, List.take_zero, List.drop_succ_cons, List.drop_zero]
      repeat (go_big_quiet_step (fail))
      refine wpQuiet_nil ?_
      intro _ hw'
      obtain ⟨pq, hw''⟩ := hw'
      subst hw''
      clear eB0 eB1 eB2 eB3 e8 e9
      replace BC := mB BC pq.h
      replace BI := mB BI pq.h
      replace SV := mB SV pq.h
      replace BQ := Lib.hid (BQ.out.below pq.h)
      replace HB := mT HB pq.h
      generalize pq.W = r1 at *
      clear pq
      clear hbl in1 in0 SV
      have hq0 : HasBlk r1 xq 125 (QA r) := BQ.out
      obtain ⟨y0, hy0⟩ := HZ.out.1
      have f0 := (hq0.cell (r * 5)).trans hy0
      have g0 := hq0.frozen (r * 5)
      obtain ⟨y1, hy1⟩ := HZ.out.2.1
      have f1 := (hq0.cell (r * 5 + 1)).trans hy1
      have g1 := hq0.frozen (r * 5 + 1)
      obtain ⟨y2, hy2⟩ := HZ.out.2.2.1
      have f2 := (hq0.cell (r * 5 + 2)).trans hy2
      have g2 := hq0.frozen (r * 5 + 2)
      obtain ⟨y3, hy3⟩ := HZ.out.2.2.2.1
      have f3 := (hq0.cell (r * 5 + 3)).trans hy3
      have g3 := hq0.frozen (r * 5 + 3)
      obtain ⟨y4, hy4⟩ := HZ.out.2.2.2.2
      have f4 := (hq0.cell (r * 5 + 4)).trans hy4
      have g4 := hq0.frozen (r * 5 + 4)
      have flt := hq0.lt
      go_wp2
      clear f0 g0 f1 g1 f2 g2 f3 g3 f4 g4 flt
      have qBQ : HasBlk (((((r1.setCell ⟨xq, r * 5, none⟩ (.int .i64 ((c.view v).x))).setCell ⟨xq, r * 5 + 1, none⟩ (.int .i64 ((c.view v).y))).setCell ⟨xq, r * 5 + 2, none⟩ (.int .i64 ((c.view v).z))).setCell ⟨xq, r * 5 + 3, none⟩ (.int .i64 u.u)).setCell ⟨xq, r * 5 + 4, none⟩ (.int .i64 u.v)) xq 125 (QA (r + 1)) := by
        rw [HQS.out]
        exact (((((hq0.set (r * 5) (.int .i64 ((c.view v).x))).set (r * 5 + 1) (.int .i64 ((c.view v).y))).set (r * 5 + 2) (.int .i64 ((c.view v).z))).set (r * 5 + 3) (.int .i64 u.u)).set (r * 5 + 4) (.int .i64 u.v))
      have qHB : Below w.heap.size w (((((r1.setCell ⟨xq, r * 5, none⟩ (.int .i64 ((c.view v).x))).setCell ⟨xq, r * 5 + 1, none⟩ (.int .i64 ((c.view v).y))).setCell ⟨xq, r * 5 + 2, none⟩ (.int .i64 ((c.view v).z))).setCell ⟨xq, r * 5 + 3, none⟩ (.int .i64 u.u)).setCell ⟨xq, r * 5 + 4, none⟩ (.int .i64 u.v)) := (Below.setCell (p := ⟨xq, r * 5 + 4, none⟩) (Below.setCell (p := ⟨xq, r * 5 + 3, none⟩) (Below.setCell (p := ⟨xq, r * 5 + 2, none⟩) (Below.setCell (p := ⟨xq, r * 5 + 1, none⟩) (Below.setCell (p := ⟨xq, r * 5, none⟩) HB.out (by show w.heap.size ≤ xq; have := LQ.out; omega) (.int .i64 ((c.view v).x))) (by show w.heap.size ≤ xq; have := LQ.out; omega) (.int .i64 ((c.view v).y))) (by show w.heap.size ≤ xq; have := LQ.out; omega) (.int .i64 ((c.view v).z))) (by show w.heap.size ≤ xq; have := LQ.out; omega) (.int .i64 u.u)) (by show w.heap.size ≤ xq; have := LQ.out; omega) (.int .i64 u.v))
      have qBC : HasBlk (((((r1.setCell ⟨xq, r * 5, none⟩ (.int .i64 ((c.view v).x))).setCell ⟨xq, r * 5 + 1, none⟩ (.int .i64 ((c.view v).y))).setCell ⟨xq, r * 5 + 2, none⟩ (.int .i64 ((c.view v).z))).setCell ⟨xq, r * 5 + 3, none⟩ (.int .i64 u.u)).setCell ⟨xq, r * 5 + 4, none⟩ (.int .i64 u.v)) (w.heap.size + 1) 31 #[.int .i64 c.p.x, .int .i64 c.p.y, .int .i64 c.p.z, .int .i64 (c.m 0), .int .i64 (c.m 1), .int .i64 (c.m 2), .int .i64 (c.m 3), .int .i64 (c.m 4), .int .i64 (c.m 5), .int .i64 (c.m 6), .int .i64 (c.m 7), .int .i64 (c.m 8), .int .i64 c.F, .int .i64 c.N, .int .i64 c.W, .int .i64 c.H] := (((((BC.out.far (p := ⟨xq, r * 5, none⟩) (by have := LQ.out; first | omega | (simp; done) | (simp; omega)) (.int .i64 ((c.view v).x))).far (p := ⟨xq, r * 5 + 1, none⟩) (by have := LQ.out; first | omega | (simp; done) | (simp; omega)) (.int .i64 ((c.view v).y))).far (p := ⟨xq, r * 5 + 2, none⟩) (by have := LQ.out; first | omega | (simp; done) | (simp; omega)) (.int .i64 ((c.view v).z))).far (p := ⟨xq, r * 5 + 3, none⟩) (by have := LQ.out; first | omega | (simp; done) | (simp; omega)) (.int .i64 u.u)).far (p := ⟨xq, r * 5 + 4, none⟩) (by have := LQ.out; first | omega | (simp; done) | (simp; omega)) (.int .i64 u.v))
      have qBI : HasBlk (((((r1.setCell ⟨xq, r * 5, none⟩ (.int .i64 ((c.view v).x))).setCell ⟨xq, r * 5 + 1, none⟩ (.int .i64 ((c.view v).y))).setCell ⟨xq, r * 5 + 2, none⟩ (.int .i64 ((c.view v).z))).setCell ⟨xq, r * 5 + 3, none⟩ (.int .i64 u.u)).setCell ⟨xq, r * 5 + 4, none⟩ (.int .i64 u.v)) xi 52 #[.slice (some ⟨gv, ov, none⟩) nv cv, .slice (some ⟨gu, ou, none⟩) nu cu, .slice (some ⟨gt, ot, none⟩) nt ct, .int .u8 look.c0, .int .u8 look.c1, .int .u8 look.c2, .int .u8 look.c3, .int .i64 look.tex, .int .u8 look.cull, .int .i64 look.bias, .bool look.blend, .int .i64 look.bin, .int .i64 box.lo.x, .int .i64 box.lo.y, .int .i64 box.lo.z, .int .i64 box.hi.x, .int .i64 box.hi.y, .int .i64 box.hi.z] := (((((BI.out.far (p := ⟨xq, r * 5, none⟩) (by have := LQ.out; first | omega | (simp; done) | (simp; omega)) (.int .i64 ((c.view v).x))).far (p := ⟨xq, r * 5 + 1, none⟩) (by have := LQ.out; first | omega | (simp; done) | (simp; omega)) (.int .i64 ((c.view v).y))).far (p := ⟨xq, r * 5 + 2, none⟩) (by have := LQ.out; first | omega | (simp; done) | (simp; omega)) (.int .i64 ((c.view v).z))).far (p := ⟨xq, r * 5 + 3, none⟩) (by have := LQ.out; first | omega | (simp; done) | (simp; omega)) (.int .i64 u.u)).far (p := ⟨xq, r * 5 + 4, none⟩) (by have := LQ.out; first | omega | (simp; done) | (simp; omega)) (.int .i64 u.v))
      generalize (((((r1.setCell ⟨xq, r * 5, none⟩ (.int .i64 ((c.view v).x))).setCell ⟨xq, r * 5 + 1, none⟩ (.int .i64 ((c.view v).y))).setCell ⟨xq, r * 5 + 2, none⟩ (.int .i64 ((c.view v).z))).setCell ⟨xq, r * 5 + 3, none⟩ (.int .i64 u.u)).setCell ⟨xq, r * 5 + 4, none⟩ (.int .i64 u.v)) = r2 at *
      go_roundw
      case rel => exact ⟨r + 1, by omega, by go_num, qBQ, qBC, qBI, qHB⟩
      case measure => simp [intOf]; omega
    · obtain rfl : 3 = r := by omega
      have BQ' := Lib.hid (show HasBlk wr xq 125 #[.int .i64 ((c.view va).x), .int .i64 ((c.view va).y), .int .i64 ((c.view va).z), .int .i64 ua.u, .int .i64 ua.v, .int .i64 ((c.view vb).x), .int .i64 ((c.view vb).y), .int .i64 ((c.view vb).z), .int .i64 ub.u, .int .i64 ub.v, .int .i64 ((c.view vd).x), .int .i64 ((c.view vd).y), .int .i64 ((c.view vd).z), .int .i64 ud.u, .int .i64 ud.v] by rw [← HQ3.out]; exact BQ.out)
      clear BQ HQ3 HSET
      have BQ := Lib.hid BQ'.out
      clear BQ' hr3
      have HBS := Lib.hid HB.out.size
      have KX := Lib.hid (near_ok c.N ⟨c.view va, ua.u, ua.v⟩ ⟨c.view vb, ub.u, ub.v⟩ ⟨c.view vd, ud.u, ud.v⟩ HC.out.1.2.2.1 OPa.out OPb.out OPd.out wr)
      have bc_ := BC.out.c16
      go_wp2_with (refine wpList_loadB rfl 125 _ rfl (xq) rfl #[.int .i64 ((c.view va).x), .int .i64 ((c.view va).y), .int .i64 ((c.view va).z), .int .i64 ua.u, .int .i64 ua.v, .int .i64 ((c.view vb).x), .int .i64 ((c.view vb).y), .int .i64 ((c.view vb).z), .int .i64 ub.u, .int .i64 ub.v, .int .i64 ((c.view vd).x), .int .i64 ((c.view vd).y), .int .i64 ((c.view vd).z), .int .i64 ud.u, .int .i64 ud.v] agg125 BQ.out ?_)
      refine KX.out.mono ?_
      rintro e w1 ⟨vl, rfl, qL, bel⟩
      clear KX
      clear bc_
      clear BQ
      replace BC := mB BC bel
      replace BI := mB BI bel
      replace HB := mT HB bel
      clear bel
      obtain ⟨LL, hLL⟩ : ∃ LL, LL = near c.N ⟨⟨c.view va, ua.u, ua.v⟩, ⟨c.view vb, ub.u, ub.v⟩, ⟨c.view vd, ud.u, ud.v⟩⟩ := ⟨_, rfl⟩
      rw [← hLL] at qL HPARTS
      have HLm := Lib.hid (show ∀ q ∈ LL, (q.a.Ok ∧ c.N ≤ q.a.p.z) ∧ (q.b.Ok ∧ c.N ≤ q.b.p.z) ∧ (q.c.Ok ∧ c.N ≤ q.c.p.z) from fun q hq => near_ok3 HC.out.1.2.2.1 OPa.out OPb.out OPd.out (by rw [hLL] at hq; exact hq))
      have HLn := Lib.hid (show LL.length ≤ 4 by rw [hLL]; exact near_len _ _)
      clear hLL
      obtain ⟨⟨AL, cpl, hvl⟩, qo⟩ := id qL
      clear qo
      subst hvl
      obtain ⟨m, hm⟩ : ∃ m, m = LL.length := ⟨_, rfl⟩
      rw [← hm] at qL HLn ⊢
      have HM := Lib.hid hm
      clear hm
      have LO := Lib.hid (qL.low HBS.out)
      clear qL HBS
      have OO := Lib.hid (OwnL.nil w1 w.heap.size 87 15 T3.cells)
      go_wp2
      go_loopw [8, 74] (fun s8 s74 wr => ∃ (q : Nat) (v8 : Value), v8 = s8 ∧ q ≤ m ∧ s74 = .int .i64 (q : Int) ∧ OwnL wr w.heap.size 87 15 T3.cells ((LL.take q).flatMap (c.shown look.cull)) v8 ∧ OwnL wr w.heap.size 125 15 Q3.cells LL (.slice AL m cpl) ∧ HasBlk wr (w.heap.size + 1) 31 #[.int .i64 c.p.x, .int .i64 c.p.y, .int .i64 c.p.z, .int .i64 (c.m 0), .int .i64 (c.m 1), .int .i64 (c.m 2), .int .i64 (c.m 3), .int .i64 (c.m 4), .int .i64 (c.m 5), .int .i64 (c.m 6), .int .i64 (c.m 7), .int .i64 (c.m 8), .int .i64 c.F, .int .i64 c.N, .int .i64 c.W, .int .i64 c.H] ∧ HasBlk wr xi 52 #[.slice (some ⟨gv, ov, none⟩) nv cv, .slice (some ⟨gu, ou, none⟩) nu cu, .slice (some ⟨gt, ot, none⟩) nt ct, .int .u8 look.c0, .int .u8 look.c1, .int .u8 look.c2, .int .u8 look.c3, .int .i64 look.tex, .int .u8 look.cull, .int .i64 look.bias, .bool look.blend, .int .i64 look.bin, .int .i64 box.lo.x, .int .i64 box.lo.y, .int .i64 box.lo.z, .int .i64 box.hi.x, .int .i64 box.hi.y, .int .i64 box.hi.z] ∧ Below w.heap.size w wr) (fun s8 s74 wr => m - (intOf s74).toNat)
      case atStart => exact ⟨0, _, rfl, Nat.zero_le _, rfl, OO.out, LO.out, BC.out, BI.out, HB.out⟩
      case round =>
        clear OO LO BC BI HB
        obtain ⟨q, v8, rfl, hqm, rfl, qOO, qLO, qBC, qBI, qHB⟩ := hrel
        have BC := Lib.hid qBC
        have BI := Lib.hid qBI
        have HB := Lib.hid qHB
        clear qBC qBI qHB
        have OO := Lib.hid qOO
        have LO := Lib.hid qLO
        clear qOO qLO
        by_cases hqn : q < m
        rotate_left
        · obtain rfl : m = q := by omega
          have d0 : decide ((m : Int) < (m : Int)) = false := by simp
          have ow := OO.out
          rw [List.take_of_length_le (by rw [HM.out]; exact Nat.le_refl _), ← HPARTS.out] at ow
          go_wp2
          go_ret
          exact ⟨_, rfl, ow, HB.out⟩
        have d0 : decide ((q : Int) < (m : Int)) = true := decide_eq_true (by omega)
        have iq1 : (q : Int) < (m : Int) := by omega
        have iq0 : (0 : Int) ≤ (q : Int) := by omega
        obtain ⟨x, hx⟩ : ∃ x, LL[q]? = some x := ⟨_, List.getElem?_eq_getElem (by rw [← HM.out]; exact hqn)⟩
        obtain ⟨pa, pb, pd⟩ := x
        have HXM := Lib.hid (HLm.out _ (List.mem_of_getElem? hx))
        have HXQ := Lib.hid hx
        obtain ⟨g, o, rfl, hg, hcl⟩ := (LO.out.row Q3.len).2 (by rw [← HM.out]; omega)
        have HCL := Lib.hid (show ∀ j u, (#[.int .i64 pa.p.x, .int .i64 pa.p.y, .int .i64 pa.p.z, .int .i64 pa.u, .int .i64 pa.v, .int .i64 pb.p.x, .int .i64 pb.p.y, .int .i64 pb.p.z, .int .i64 pb.u, .int .i64 pb.v, .int .i64 pd.p.x, .int .i64 pd.p.y, .int .i64 pd.p.z, .int .i64 pd.u, .int .i64 pd.v] : Array Value).toList[j]? = some u → wr.cell? ⟨g, o + q * 15 + j, none⟩ = some u from fun j u hj => hcl q _ hx j u hj)
        clear hcl hx
        have HOL := Lib.hid (show ((LL.take q).flatMap (c.shown look.cull)).length ≤ 1000000 from Nat.le_trans (shown_len c look.cull _) (Nat.le_trans (List.length_take_le _ _) (by have := HLn.out; omega)))
        go_upto_region 13 with (first | (refine wpList_loadL rfl 125 _ rfl (g) (o + q * 15) rfl #[.int .i64 pa.p.x, .int .i64 pa.p.y, .int .i64 pa.p.z, .int .i64 pa.u, .int .i64 pa.v, .int .i64 pb.p.x, .int .i64 pb.p.y, .int .i64 pb.p.z, .int .i64 pb.u, .int .i64 pb.v, .int .i64 pd.p.x, .int .i64 pd.p.y, .int .i64 pd.p.z, .int .i64 pd.u, .int .i64 pd.v] agg125 HCL.out ?_) | (refine wpList_storeN rfl 125 _ _ rfl #[.int .i64 0, .int .i64 0, .int .i64 0, .int .i64 0, .int .i64 0, .int .i64 0, .int .i64 0, .int .i64 0, .int .i64 0, .int .i64 0, .int .i64 0, .int .i64 0, .int .i64 0, .int .i64 0, .int .i64 0] #[.int .i64 pa.p.x, .int .i64 pa.p.y, .int .i64 pa.p.z, .int .i64 pa.u, .int .i64 pa.v, .int .i64 pb.p.x, .int .i64 pb.p.y, .int .i64 pb.p.z, .int .i64 pb.u, .int .i64 pb.v, .int .i64 pd.p.x, .int .i64 pd.p.y, .int .i64 pd.p.z, .int .i64 pd.u, .int .i64 pd.v] rfl rfl (by kernel_rfl) rfl (by simp [Value.oneCell']) ?_))
        obtain ⟨p1, xs, hz, hx', SQ, bA⟩ := laidB wr 125 #[.int .i64 pa.p.x, .int .i64 pa.p.y, .int .i64 pa.p.z, .int .i64 pa.u, .int .i64 pa.v, .int .i64 pb.p.x, .int .i64 pb.p.y, .int .i64 pb.p.z, .int .i64 pb.u, .int .i64 pb.v, .int .i64 pd.p.x, .int .i64 pd.p.y, .int .i64 pd.p.z, .int .i64 pd.u, .int .i64 pd.v]
        rw [← hz.out, ← hx'.out]
        replace BC := mB BC bA
        replace BI := mB BI bA
        replace OO := Lib.hid (OO.out.below bA)
        replace LO := Lib.hid (LO.out.below bA)
        replace HB := mT HB bA
        clear hz hx' bA
        clear hg HCL
        go_upto_region 14 with fail
        have NF := Lib.hid (show Value.ownBlock v8 ≠ some p1.heap.size from fun hh => absurd (OO.out.lt _ hh).2 (Nat.lt_irrefl _))
        have LF := Lib.hid (show (w.heap.size + 1 < p1.heap.size ∧ xi < p1.heap.size) from ⟨BC.out.lt, BI.out.lt⟩)
        obtain ⟨p2, xf, hz, hx', SF, bA⟩ := laidB p1 87 #[.int .i64 0, .int .i64 0, .int .i64 0, .int .i64 0, .int .i64 0, .int .i64 0, .int .i64 0, .int .i64 0, .int .i64 0, .int .i64 0, .int .i64 0, .int .i64 0, .int .i64 0, .int .i64 0, .int .i64 0]
        rw [← hz.out, ← hx'.out]
        rw [← hx'.out] at NF LF
        replace BC := mB BC bA
        replace BI := mB BI bA
        replace SQ := mB SQ bA
        replace OO := Lib.hid (OO.out.below bA)
        replace LO := Lib.hid (LO.out.below bA)
        replace HB := mT HB bA
        clear hz hx' bA
        go_wp2_with (refine wpList_loadB rfl 125 _ rfl (xs) rfl #[.int .i64 pa.p.x, .int .i64 pa.p.y, .int .i64 pa.p.z, .int .i64 pa.u, .int .i64 pa.v, .int .i64 pb.p.x, .int .i64 pb.p.y, .int .i64 pb.p.z, .int .i64 pb.u, .int .i64 pb.v, .int .i64 pd.p.x, .int .i64 pd.p.y, .int .i64 pd.p.z, .int .i64 pd.u, .int .i64 pd.v] agg125 SQ.out ?_)
        clear SQ
        obtain ⟨wo, rfl⟩ : ∃ wo : World, wo = p2 := ⟨_, rfl⟩
        obtain ⟨SA, hSA⟩ : ∃ SA : Nat → Array Value, SA = (fun r => match r with | 0 => #[.int .i64 0, .int .i64 0, .int .i64 0, .int .i64 0, .int .i64 0, .int .i64 0, .int .i64 0, .int .i64 0, .int .i64 0, .int .i64 0, .int .i64 0, .int .i64 0, .int .i64 0, .int .i64 0, .int .i64 0] | 1 => #[.int .i64 ((c.place pa).x), .int .i64 ((c.place pa).y), .int .i64 ((c.place pa).d), .int .i64 ((c.place pa).u), .int .i64 ((c.place pa).v), .int .i64 0, .int .i64 0, .int .i64 0, .int .i64 0, .int .i64 0, .int .i64 0, .int .i64 0, .int .i64 0, .int .i64 0, .int .i64 0] | 2 => #[.int .i64 ((c.place pa).x), .int .i64 ((c.place pa).y), .int .i64 ((c.place pa).d), .int .i64 ((c.place pa).u), .int .i64 ((c.place pa).v), .int .i64 ((c.place pb).x), .int .i64 ((c.place pb).y), .int .i64 ((c.place pb).d), .int .i64 ((c.place pb).u), .int .i64 ((c.place pb).v), .int .i64 0, .int .i64 0, .int .i64 0, .int .i64 0, .int .i64 0] | _ => #[.int .i64 ((c.place pa).x), .int .i64 ((c.place pa).y), .int .i64 ((c.place pa).d), .int .i64 ((c.place pa).u), .int .i64 ((c.place pa).v), .int .i64 ((c.place pb).x), .int .i64 ((c.place pb).y), .int .i64 ((c.place pb).d), .int .i64 ((c.place pb).u), .int .i64 ((c.place pb).v), .int .i64 ((c.place pd).x), .int .i64 ((c.place pd).y), .int .i64 ((c.place pd).d), .int .i64 ((c.place pd).u), .int .i64 ((c.place pd).v)]) := ⟨_, rfl⟩
        have HSET := Lib.hid (show ∀ r : Nat, r < 3 → ∃ p : P5, (p.Ok ∧ c.N ≤ p.p.z) ∧ (∀ W, (Instr.index 125 (.agg #[.int .i64 pa.p.x, .int .i64 pa.p.y, .int .i64 pa.p.z, .int .i64 pa.u, .int .i64 pa.v, .int .i64 pb.p.x, .int .i64 pb.p.y, .int .i64 pb.p.z, .int .i64 pb.u, .int .i64 pb.v, .int .i64 pd.p.x, .int .i64 pd.p.y, .int .i64 pd.p.z, .int .i64 pd.u, .int .i64 pd.v]) (.int .i64 (r : Int))).run Tryd.prog W = .ok (.agg #[.int .i64 p.p.x, .int .i64 p.p.y, .int .i64 p.p.z, .int .i64 p.u, .int .i64 p.v]) W) ∧ SA (r + 1) = ((((((SA r).setIfInBounds (r * 5) (.int .i64 ((c.place p).x))).setIfInBounds (r * 5 + 1) (.int .i64 ((c.place p).y))).setIfInBounds (r * 5 + 2) (.int .i64 ((c.place p).d))).setIfInBounds (r * 5 + 3) (.int .i64 ((c.place p).u))).setIfInBounds (r * 5 + 4) (.int .i64 ((c.place p).v))) ∧ ((∃ z, (SA r)[r * 5]? = some z) ∧ (∃ z, (SA r)[r * 5 + 1]? = some z) ∧ (∃ z, (SA r)[r * 5 + 2]? = some z) ∧ (∃ z, (SA r)[r * 5 + 3]? = some z) ∧ (∃ z, (SA r)[r * 5 + 4]? = some z)) from fun r hr => by
          subst hSA
          obtain rfl | rfl | rfl : r = 0 ∨ r = 1 ∨ r = 2 := by omega
          · exact ⟨pa, HXM.out.1, ix_pt0 _ _ _, rfl, ⟨_, rfl⟩, ⟨_, rfl⟩, ⟨_, rfl⟩, ⟨_, rfl⟩, ⟨_, rfl⟩⟩
          · exact ⟨pb, HXM.out.2.1, ix_pt1 _ _ _, rfl, ⟨_, rfl⟩, ⟨_, rfl⟩, ⟨_, rfl⟩, ⟨_, rfl⟩, ⟨_, rfl⟩⟩
          · exact ⟨pd, HXM.out.2.2, ix_pt2 _ _ _, rfl, ⟨_, rfl⟩, ⟨_, rfl⟩, ⟨_, rfl⟩, ⟨_, rfl⟩, ⟨_, rfl⟩⟩)
        have SF' := Lib.hid (show HasBlk wo xf 87 (SA 0) by rw [hSA]; exact SF.out)
        have HS3 := Lib.hid (show SA 3 = #[.int .i64 ((c.place pa).x), .int .i64 ((c.place pa).y), .int .i64 ((c.place pa).d), .int .i64 ((c.place pa).u), .int .i64 ((c.place pa).v), .int .i64 ((c.place pb).x), .int .i64 ((c.place pb).y), .int .i64 ((c.place pb).d), .int .i64 ((c.place pb).u), .int .i64 ((c.place pb).v), .int .i64 ((c.place pd).x), .int .i64 ((c.place pd).y), .int .i64 ((c.place pd).d), .int .i64 ((c.place pd).u), .int .i64 ((c.place pd).v)] by rw [hSA]; rfl)
        clear SF hSA
        have SF := Lib.hid SF'.out
        clear SF'
        go_loopw [79] (fun s79 wr => ∃ r : Nat, r ≤ 3 ∧ s79 = .int .i64 (r : Int) ∧ OwnL wr w.heap.size 87 15 T3.cells ((LL.take q).flatMap (c.shown look.cull)) v8 ∧ OwnL wr w.heap.size 125 15 Q3.cells LL (.slice (some ⟨g, o, none⟩) m cpl) ∧ HasBlk wr xf 87 (SA r) ∧ HasBlk wr (w.heap.size + 1) 31 #[.int .i64 c.p.x, .int .i64 c.p.y, .int .i64 c.p.z, .int .i64 (c.m 0), .int .i64 (c.m 1), .int .i64 (c.m 2), .int .i64 (c.m 3), .int .i64 (c.m 4), .int .i64 (c.m 5), .int .i64 (c.m 6), .int .i64 (c.m 7), .int .i64 (c.m 8), .int .i64 c.F, .int .i64 c.N, .int .i64 c.W, .int .i64 c.H] ∧ HasBlk wr xi 52 #[.slice (some ⟨gv, ov, none⟩) nv cv, .slice (some ⟨gu, ou, none⟩) nu cu, .slice (some ⟨gt, ot, none⟩) nt ct, .int .u8 look.c0, .int .u8 look.c1, .int .u8 look.c2, .int .u8 look.c3, .int .i64 look.tex, .int .u8 look.cull, .int .i64 look.bias, .bool look.blend, .int .i64 look.bin, .int .i64 box.lo.x, .int .i64 box.lo.y, .int .i64 box.lo.z, .int .i64 box.hi.x, .int .i64 box.hi.y, .int .i64 box.hi.z] ∧ Below w.heap.size w wr) (fun s79 wr => 3 - (intOf s79).toNat)
        case atStart => exact ⟨0, Nat.zero_le _, rfl, OO.out, LO.out, SF.out, BC.out, BI.out, HB.out⟩
        case round =>
          clear OO LO SF BC BI HB
          obtain ⟨r, hr, rfl, qOO, qLO, qSF, qBC, qBI, qHB⟩ := hrel
          have OO := Lib.hid qOO
          have LO := Lib.hid qLO
          have SF := Lib.hid qSF
          have BC := Lib.hid qBC
          have BI := Lib.hid qBI
          have HB := Lib.hid qHB
          clear qOO qLO qSF qBC qBI qHB
          by_cases hr3 : r < 3
          · have d0 : decide ((r : Int) < 3) = true := decide_eq_true (by omega)
            obtain ⟨p, hpo, hx, hQs, hz⟩ := HSET.out r hr3
            have HPO := Lib.hid hpo
            have HQS := Lib.hid hQs
            have HZ := Lib.hid hz
            clear hpo hQs hz
            have XQ := Lib.hid (show Bf wr xf (SA r) from SF.out)
            clear SF
            have SF := Lib.hid XQ.out
            clear XQ
            go_upto_region 17 with fail
            obtain ⟨r0, xp, hz, hx', SP, bA⟩ := laidB wr 124 #[.int .i64 p.p.x, .int .i64 p.p.y, .int .i64 p.p.z, .int .i64 p.u, .int .i64 p.v]
            rw [← hz.out, ← hx'.out]
            replace BC := mB BC bA
            replace BI := mB BI bA
            replace OO := Lib.hid (OO.out.below bA)
            replace LO := Lib.hid (LO.out.below bA)
            replace SF := Lib.hid (SF.out.below bA)
            replace HB := mT HB bA
            clear hz hx' bA
            clear hx d0
            have sp_ := SP.out.c5
            have KX := Lib.hid (place_any c p HC.out HPO.out.1 HPO.out.2 r0)
            go_wp2_with (refine wpList_loadB rfl 31 _ rfl ((w.heap.size + 1)) rfl #[.int .i64 c.p.x, .int .i64 c.p.y, .int .i64 c.p.z, .int .i64 (c.m 0), .int .i64 (c.m 1), .int .i64 (c.m 2), .int .i64 (c.m 3), .int .i64 (c.m 4), .int .i64 (c.m 5), .int .i64 (c.m 6), .int .i64 (c.m 7), .int .i64 (c.m 8), .int .i64 c.F, .int .i64 c.N, .int .i64 c.W, .int .i64 c.H] agg31 BC.out ?_)
            refine KX.out.mono ?_
            rintro e r1 ⟨rfl, bel⟩
            clear KX
            clear sp_
            replace BC := mB BC bel
            replace BI := mB BI bel
            replace SP := mB SP bel
            replace OO := Lib.hid (OO.out.below bel)
            replace LO := Lib.hid (LO.out.below bel)
            replace SF := Lib.hid (SF.out.below bel)
            replace HB := mT HB bel
            clear bel
            clear SP
            have hq0 : HasBlk r1 xf 87 (SA r) := SF.out
            have ir1 : (r : Int) < 3 := by omega
            have ir0 : (0 : Int) ≤ (r : Int) := by omega
            have NLF := LO.out.ne hq0 (by decide)
            obtain ⟨y0, hy0⟩ := HZ.out.1
            have f0 := (hq0.cell (r * 5)).trans hy0
            have g0 := hq0.frozen (r * 5)
            obtain ⟨y1, hy1⟩ := HZ.out.2.1
            have f1 := (hq0.cell (r * 5 + 1)).trans hy1
            have g1 := hq0.frozen (r * 5 + 1)
            obtain ⟨y2, hy2⟩ := HZ.out.2.2.1
            have f2 := (hq0.cell (r * 5 + 2)).trans hy2
            have g2 := hq0.frozen (r * 5 + 2)
            obtain ⟨y3, hy3⟩ := HZ.out.2.2.2.1
            have f3 := (hq0.cell (r * 5 + 3)).trans hy3
            have g3 := hq0.frozen (r * 5 + 3)
            obtain ⟨y4, hy4⟩ := HZ.out.2.2.2.2
            have f4 := (hq0.cell (r * 5 + 4)).trans hy4
            have g4 := hq0.frozen (r * 5 + 4)
            have flt := hq0.lt
            go_wp2
            clear f0 g0 f1 g1 f2 g2 f3 g3 f4 g4 flt
            have qSF : HasBlk (((((r1.setCell ⟨xf, r * 5, none⟩ (.int .i64 ((c.place p).x))).setCell ⟨xf, r * 5 + 1, none⟩ (.int .i64 ((c.place p).y))).setCell ⟨xf, r * 5 + 2, none⟩ (.int .i64 ((c.place p).d))).setCell ⟨xf, r * 5 + 3, none⟩ (.int .i64 ((c.place p).u))).setCell ⟨xf, r * 5 + 4, none⟩ (.int .i64 ((c.place p).v))) xf 87 (SA (r + 1)) := by
              rw [HQS.out]
              exact (((((hq0.set (r * 5) (.int .i64 ((c.place p).x))).set (r * 5 + 1) (.int .i64 ((c.place p).y))).set (r * 5 + 2) (.int .i64 ((c.place p).d))).set (r * 5 + 3) (.int .i64 ((c.place p).u))).set (r * 5 + 4) (.int .i64 ((c.place p).v)))
            have qHB : Below w.heap.size w (((((r1.setCell ⟨xf, r * 5, none⟩ (.int .i64 ((c.place p).x))).setCell ⟨xf, r * 5 + 1, none⟩ (.int .i64 ((c.place p).y))).setCell ⟨xf, r * 5 + 2, none⟩ (.int .i64 ((c.place p).d))).setCell ⟨xf, r * 5 + 3, none⟩ (.int .i64 ((c.place p).u))).setCell ⟨xf, r * 5 + 4, none⟩ (.int .i64 ((c.place p).v))) := (Below.setCell (p := ⟨xf, r * 5 + 4, none⟩) (Below.setCell (p := ⟨xf, r * 5 + 3, none⟩) (Below.setCell (p := ⟨xf, r * 5 + 2, none⟩) (Below.setCell (p := ⟨xf, r * 5 + 1, none⟩) (Below.setCell (p := ⟨xf, r * 5, none⟩) HB.out (by show w.heap.size ≤ xf; have := LF.out; omega) (.int .i64 ((c.place p).x))) (by show w.heap.size ≤ xf; have := LF.out; omega) (.int .i64 ((c.place p).y))) (by show w.heap.size ≤ xf; have := LF.out; omega) (.int .i64 ((c.place p).d))) (by show w.heap.size ≤ xf; have := LF.out; omega) (.int .i64 ((c.place p).u))) (by show w.heap.size ≤ xf; have := LF.out; omega) (.int .i64 ((c.place p).v)))
            have qBC := (((((BC.out.far (p := ⟨xf, r * 5, none⟩) (by have := LF.out; first | omega | (simp; done) | (simp; omega)) (.int .i64 ((c.place p).x))).far (p := ⟨xf, r * 5 + 1, none⟩) (by have := LF.out; first | omega | (simp; done) | (simp; omega)) (.int .i64 ((c.place p).y))).far (p := ⟨xf, r * 5 + 2, none⟩) (by have := LF.out; first | omega | (simp; done) | (simp; omega)) (.int .i64 ((c.place p).d))).far (p := ⟨xf, r * 5 + 3, none⟩) (by have := LF.out; first | omega | (simp; done) | (simp; omega)) (.int .i64 ((c.place p).u))).far (p := ⟨xf, r * 5 + 4, none⟩) (by have := LF.out; first | omega | (simp; done) | (simp; omega)) (.int .i64 ((c.place p).v)))
            have qBI := (((((BI.out.far (p := ⟨xf, r * 5, none⟩) (by have := LF.out; first | omega | (simp; done) | (simp; omega)) (.int .i64 ((c.place p).x))).far (p := ⟨xf, r * 5 + 1, none⟩) (by have := LF.out; first | omega | (simp; done) | (simp; omega)) (.int .i64 ((c.place p).y))).far (p := ⟨xf, r * 5 + 2, none⟩) (by have := LF.out; first | omega | (simp; done) | (simp; omega)) (.int .i64 ((c.place p).d))).far (p := ⟨xf, r * 5 + 3, none⟩) (by have := LF.out; first | omega | (simp; done) | (simp; omega)) (.int .i64 ((c.place p).u))).far (p := ⟨xf, r * 5 + 4, none⟩) (by have := LF.out; first | omega | (simp; done) | (simp; omega)) (.int .i64 ((c.place p).v)))
            have qOO := (((((OO.out.far (p := ⟨xf, r * 5, none⟩) NF.out (.int .i64 ((c.place p).x))).far (p := ⟨xf, r * 5 + 1, none⟩) NF.out (.int .i64 ((c.place p).y))).far (p := ⟨xf, r * 5 + 2, none⟩) NF.out (.int .i64 ((c.place p).d))).far (p := ⟨xf, r * 5 + 3, none⟩) NF.out (.int .i64 ((c.place p).u))).far (p := ⟨xf, r * 5 + 4, none⟩) NF.out (.int .i64 ((c.place p).v)))
            have qLO := (((((LO.out.far (p := ⟨xf, r * 5, none⟩) NLF (.int .i64 ((c.place p).x))).far (p := ⟨xf, r * 5 + 1, none⟩) NLF (.int .i64 ((c.place p).y))).far (p := ⟨xf, r * 5 + 2, none⟩) NLF (.int .i64 ((c.place p).d))).far (p := ⟨xf, r * 5 + 3, none⟩) NLF (.int .i64 ((c.place p).u))).far (p := ⟨xf, r * 5 + 4, none⟩) NLF (.int .i64 ((c.place p).v)))
            generalize (((((r1.setCell ⟨xf, r * 5, none⟩ (.int .i64 ((c.place p).x))).setCell ⟨xf, r * 5 + 1, none⟩ (.int .i64 ((c.place p).y))).setCell ⟨xf, r * 5 + 2, none⟩ (.int .i64 ((c.place p).d))).setCell ⟨xf, r * 5 + 3, none⟩ (.int .i64 ((c.place p).u))).setCell ⟨xf, r * 5 + 4, none⟩ (.int .i64 ((c.place p).v))) = r2 at *
            go_roundw
            case rel => exact ⟨r + 1, by omega, by go_num, qOO, qLO, qSF, qBC, qBI, qHB⟩
            case measure => simp [intOf]; omega
          · obtain rfl : 3 = r := by omega
            have SF' := Lib.hid (show HasBlk wr xf 87 #[.int .i64 ((c.place pa).x), .int .i64 ((c.place pa).y), .int .i64 ((c.place pa).d), .int .i64 ((c.place pa).u), .int .i64 ((c.place pa).v), .int .i64 ((c.place pb).x), .int .i64 ((c.place pb).y), .int .i64 ((c.place pb).d), .int .i64 ((c.place pb).u), .int .i64 ((c.place pb).v), .int .i64 ((c.place pd).x), .int .i64 ((c.place pd).y), .int .i64 ((c.place pd).d), .int .i64 ((c.place pd).u), .int .i64 ((c.place pd).v)] by rw [← HS3.out]; exact SF.out)
            clear SF HS3 HSET
            have SF := Lib.hid SF'.out
            clear SF' hr3
            have HPO := Lib.hid (placed_ok (q := ⟨pa, pb, pd⟩) HC.out HXM.out)
            obtain ⟨ff, hff⟩ : ∃ ff, ff = (c.placed ⟨pa, pb, pd⟩) := ⟨_, rfl⟩
            have SF' := Lib.hid (show HasBlk wr xf 87 #[.int .i64 ff.a.x, .int .i64 ff.a.y, .int .i64 ff.a.d, .int .i64 ff.a.u, .int .i64 ff.a.v, .int .i64 ff.b.x, .int .i64 ff.b.y, .int .i64 ff.b.d, .int .i64 ff.b.u, .int .i64 ff.b.v, .int .i64 ff.c.x, .int .i64 ff.c.y, .int .i64 ff.c.d, .int .i64 ff.c.u, .int .i64 ff.c.v] by rw [hff]; exact SF.out)
            clear SF
            have SF := Lib.hid SF'.out
            clear SF'
            rw [← hff] at HPO
            have HFF := Lib.hid hff
            clear hff
            have bi_ := BI.out.c18
            have KX := Lib.hid (shows_ok ff look.cull HPO.out HCU.out wr)
            go_wp2_with (refine wpList_loadB rfl 87 _ rfl (xf) rfl #[.int .i64 ff.a.x, .int .i64 ff.a.y, .int .i64 ff.a.d, .int .i64 ff.a.u, .int .i64 ff.a.v, .int .i64 ff.b.x, .int .i64 ff.b.y, .int .i64 ff.b.d, .int .i64 ff.b.u, .int .i64 ff.b.v, .int .i64 ff.c.x, .int .i64 ff.c.y, .int .i64 ff.c.d, .int .i64 ff.c.u, .int .i64 ff.c.v] agg87 SF.out ?_)
            refine KX.out.mono ?_
            rintro e r1 ⟨rfl, bel⟩
            clear KX
            clear bi_
            replace BC := mB BC bel
            replace BI := mB BI bel
            replace SF := mB SF bel
            replace OO := Lib.hid (OO.out.below bel)
            replace LO := Lib.hid (LO.out.below bel)
            replace HB := mT HB bel
            clear bel
            by_cases hsh : shw ff.area look.cull = true
            rotate_left
            · have hsf : shw ff.area look.cull = false := by simpa using hsh
              have ow := OO.out
              rw [hsf]
              have hq : (LL.take (q + 1)).flatMap (c.shown look.cull) = (LL.take q).flatMap (c.shown look.cull) := by
                rw [List.take_add_one, HXQ.out, Option.toList_some, List.flatMap_append, List.flatMap_cons, List.flatMap_nil, List.append_nil]
                have : c.shown look.cull ⟨pa, pb, pd⟩ = [] := by unfold CD.shown; rw [← HFF.out, if_neg hsh]
                rw [this, List.append_nil]
              rw [← hq] at ow
              clear hsf hsh hq SF
              have hbb := HLn.out
              go_wp2
              go_roundw
              case rel => exact ⟨q + 1, _, rfl, by omega, by go_num, ow, LO.out, BC.out, BI.out, HB.out⟩
              case measure => simp [intOf]; omega
            have HSH := Lib.hid hsh
            rw [hsh]
            clear hsh
            have KX := Lib.hid (front_ok ff HPO.out (shw_ne HSH.out) r1)
            go_wp2_with (refine wpList_loadB rfl 87 _ rfl (xf) rfl #[.int .i64 ff.a.x, .int .i64 ff.a.y, .int .i64 ff.a.d, .int .i64 ff.a.u, .int .i64 ff.a.v, .int .i64 ff.b.x, .int .i64 ff.b.y, .int .i64 ff.b.d, .int .i64 ff.b.u, .int .i64 ff.b.v, .int .i64 ff.c.x, .int .i64 ff.c.y, .int .i64 ff.c.d, .int .i64 ff.c.u, .int .i64 ff.c.v] agg87 SF.out ?_)
            refine KX.out.mono ?_
            rintro e r2 ⟨rfl, bel⟩
            clear KX
            replace BC := mB BC bel
            replace BI := mB BI bel
            replace SF := mB SF bel
            replace OO := Lib.hid (OO.out.below bel)
            replace LO := Lib.hid (LO.out.below bel)
            replace HB := mT HB bel
            clear bel
            obtain ⟨f2, hf2⟩ : ∃ f2, f2 = ff.front := ⟨_, rfl⟩
            rw [← hf2]
            have HF2 := Lib.hid hf2
            clear hf2
            go_upto_region 22 with (refine wpList_storeB rfl 87 _ _ rfl xf #[.int .i64 ff.a.x, .int .i64 ff.a.y, .int .i64 ff.a.d, .int .i64 ff.a.u, .int .i64 ff.a.v, .int .i64 ff.b.x, .int .i64 ff.b.y, .int .i64 ff.b.d, .int .i64 ff.b.u, .int .i64 ff.b.v, .int .i64 ff.c.x, .int .i64 ff.c.y, .int .i64 ff.c.d, .int .i64 ff.c.u, .int .i64 ff.c.v] #[.int .i64 f2.a.x, .int .i64 f2.a.y, .int .i64 f2.a.d, .int .i64 f2.a.u, .int .i64 f2.a.v, .int .i64 f2.b.x, .int .i64 f2.b.y, .int .i64 f2.b.d, .int .i64 f2.b.u, .int .i64 f2.b.v, .int .i64 f2.c.x, .int .i64 f2.c.y, .int .i64 f2.c.d, .int .i64 f2.c.u, .int .i64 f2.c.v] rfl rfl (by kernel_rfl) SF.out rfl (by simp [Value.oneCell']) ?_; intro r3 hSF2 hgr2)
            have NSF := LO.out.ne SF.out (by decide)
            have qBC := BC.out.grown hgr2 (fun e => by injection e with e; have := LF.out; omega)
            have qBI := BI.out.grown hgr2 (fun e => by injection e with e; have := LF.out; omega)
            have qOO := OO.out.grown hgr2 (.inr NF.out)
            have qLO := LO.out.grown hgr2 (.inr NSF)
            have qHB := HB.out.grown hgr2 HB.out.size (fun k hk => by injection hk with hk; have := LF.out; omega)
            clear OO LO BC BI SF HB NSF hgr2
            have BC := Lib.hid qBC
            have BI := Lib.hid qBI
            have HB := Lib.hid qHB
            have OO := Lib.hid qOO
            have LO := Lib.hid qLO
            have SF := Lib.hid hSF2
            clear qBC qBI qHB qOO qLO hSF2
            have hlen := HOL.out
            have NBC := Lib.hid (OO.out.ne BC.out (by decide))
            have NBI := Lib.hid (OO.out.ne BI.out (by decide))
            go_upto_region 23 with (first | (refine wpList_loadB rfl 87 _ rfl (xf) rfl #[.int .i64 f2.a.x, .int .i64 f2.a.y, .int .i64 f2.a.d, .int .i64 f2.a.u, .int .i64 f2.a.v, .int .i64 f2.b.x, .int .i64 f2.b.y, .int .i64 f2.b.d, .int .i64 f2.b.u, .int .i64 f2.b.v, .int .i64 f2.c.x, .int .i64 f2.c.y, .int .i64 f2.c.d, .int .i64 f2.c.u, .int .i64 f2.c.v] agg87 SF.out ?_) | (at_builtin; refine wpList_appL rfl (.tmp 106) (.tmp 108) 101 rfl (w.heap.size) inf101 (by decide) (by decide) T3.cells T3.len T3.one ((LL.take q).flatMap (c.shown look.cull)) _ rfl (OO.out.alloc _) (f2) _ 1 rfl _ (hasBlk_new _ _ _) rfl (by first | assumption | omega) (by have := HB.out.size; simp; omega) ?_; intro v9 r4 ho hgr hnb))
            have qHB := (OO.out.alloc (.cells #[.int .i64 f2.a.x, .int .i64 f2.a.y, .int .i64 f2.a.d, .int .i64 f2.a.u, .int .i64 f2.a.v, .int .i64 f2.b.x, .int .i64 f2.b.y, .int .i64 f2.b.d, .int .i64 f2.b.u, .int .i64 f2.b.v, .int .i64 f2.c.x, .int .i64 f2.c.y, .int .i64 f2.c.d, .int .i64 f2.c.u, .int .i64 f2.c.v] 87)).bel (HB.out.alloc HB.out.size (.cells #[.int .i64 f2.a.x, .int .i64 f2.a.y, .int .i64 f2.a.d, .int .i64 f2.a.u, .int .i64 f2.a.v, .int .i64 f2.b.x, .int .i64 f2.b.y, .int .i64 f2.b.d, .int .i64 f2.b.u, .int .i64 f2.b.v, .int .i64 f2.c.x, .int .i64 f2.c.y, .int .i64 f2.c.d, .int .i64 f2.c.u, .int .i64 f2.c.v] 87)) hgr (Nat.le_refl _) (by have := HB.out.size; simp; omega)
            have qBC := (BC.out.alloc (.cells #[.int .i64 f2.a.x, .int .i64 f2.a.y, .int .i64 f2.a.d, .int .i64 f2.a.u, .int .i64 f2.a.v, .int .i64 f2.b.x, .int .i64 f2.b.y, .int .i64 f2.b.d, .int .i64 f2.b.u, .int .i64 f2.b.v, .int .i64 f2.c.x, .int .i64 f2.c.y, .int .i64 f2.c.d, .int .i64 f2.c.u, .int .i64 f2.c.v] 87)).grown hgr NBC.out
            have qBI := (BI.out.alloc (.cells #[.int .i64 f2.a.x, .int .i64 f2.a.y, .int .i64 f2.a.d, .int .i64 f2.a.u, .int .i64 f2.a.v, .int .i64 f2.b.x, .int .i64 f2.b.y, .int .i64 f2.b.d, .int .i64 f2.b.u, .int .i64 f2.b.v, .int .i64 f2.c.x, .int .i64 f2.c.y, .int .i64 f2.c.d, .int .i64 f2.c.u, .int .i64 f2.c.v] 87)).grown hgr NBI.out
            have qLO := (LO.out.alloc (.cells #[.int .i64 f2.a.x, .int .i64 f2.a.y, .int .i64 f2.a.d, .int .i64 f2.a.u, .int .i64 f2.a.v, .int .i64 f2.b.x, .int .i64 f2.b.y, .int .i64 f2.b.d, .int .i64 f2.b.u, .int .i64 f2.b.v, .int .i64 f2.c.x, .int .i64 f2.c.y, .int .i64 f2.c.d, .int .i64 f2.c.u, .int .i64 f2.c.v] 87)).grown hgr (LO.out.ne_own OO.out (by decide))
            have hq : (LL.take (q + 1)).flatMap (c.shown look.cull) = (LL.take q).flatMap (c.shown look.cull) ++ [f2] := by
              rw [List.take_add_one, HXQ.out, Option.toList_some, List.flatMap_append, List.flatMap_cons, List.flatMap_nil, List.append_nil]
              have : c.shown look.cull ⟨pa, pb, pd⟩ = [f2] := by unfold CD.shown; rw [← HFF.out, HSH.out, if_pos rfl, HF2.out]
              rw [this]
            rw [← hq] at ho
            clear hq hgr hnb hlen
            have hbb := HLn.out
            go_wp2
            go_roundw
            case rel => exact ⟨q + 1, _, rfl, by omega, by go_num, ho, qLO, qBC, qBI, qHB⟩
            case measure => simp [intOf]; omega
end Go.Proofs.YtemopgpcpjnmkaaDoor
