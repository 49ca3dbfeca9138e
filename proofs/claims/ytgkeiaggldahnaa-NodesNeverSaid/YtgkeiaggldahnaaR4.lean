/- arena.Make. -/
import Derived.Test.YtgkeiaggldahnaaR3
import Derived.Deep.AppendLies
namespace Go.Proofs.Ytgkeiaggldahnaa
open Go.RowKit
set_option linter.unusedVariables false

/-- Which slot is given, and what becomes of the slots. -/
def Made (n : Nat) (g : Nat → Int) (b : Nat → Bool) (k n' : Nat) (g' : Nat → Int) (b' : Nat → Bool) : Prop :=
  (k < n ∧ freeS (g k) (b k) = true ∧ (∀ i, i < k → freeS (g i) (b i) = false) ∧ n' = n ∧ g' = upd g k (g k + 1) ∧ b' = upd b k true) ∨
  (k = n ∧ n < 128 ∧ (∀ i, i < n → freeS (g i) (b i) = false) ∧ n' = n + 1 ∧ g' = upd g n 1 ∧ b' = upd b n true)
/-- What Make answers. -/
def MakeR (n : Nat) (g : Nat → Int) (b : Nat → Bool) (B : Nat) (e : Ending) (w' : World) : Prop :=
  (¬ MayA n g ∧ e = .returned (.tuple #[.agg #[.slice none 0 0], .agg #[.int .i64 0, .int .i64 0], .int .i64 8])) ∨
  (MayA n g ∧ (∀ i, i < n → freeS (g i) (b i) = false) ∧ n = 128 ∧ e = .returned (.tuple #[.agg #[.slice none 0 0], .agg #[.int .i64 0, .int .i64 0], .int .i64 9])) ∨
  (MayA n g ∧ ∃ k n' g' b' A c, Made n g b k n' g' b' ∧ e = .returned (.tuple #[.agg #[.slice A n' c], .agg #[.int .i64 (k : Nat), .int .i64 (g' k)], .int .i64 0]) ∧ w'.ownsRow B 58 2 (.slice A n' c) n' (cellsR 2 (sv g' b') n'))
theorem own_of_blk {w : World} {B X n : Nat} {t : TypeId} {cs : List Value} {s : Nat} (h : HasBlk w X t cs.toArray) (hl : cs.length = n * s) (hB : B ≤ X) (hn : n ≤ maxLen) : w.ownsRow B t s (.slice (some ⟨X, 0, none⟩) n n) n cs :=
  ⟨hl, .inr ⟨X, n, cs.toArray, rfl, hB, h, Nat.le_refl _, hn, by simpa using hl, by rw [List.take_of_length_le (by simp; omega)]⟩⟩
theorem own_base {w : World} {b B e s n : Nat} {v : Value} {xs : List Value} (h : w.ownsRow B e s v n xs) (hb : b ≤ B) : w.ownsRow b e s v n xs := by
  refine ⟨h.1, ?_⟩
  rcases h.2 with h | ⟨g, cap, cur, h1, h2, h3⟩
  · exact .inl h
  · exact .inr ⟨g, cap, cur, h1, Nat.le_trans hb h2, h3⟩
theorem made_set {n k : Nat} {g : Nat → Int} {b : Nat → Bool} (hk : k < n) (x : Int) : ((cellsR 2 (sv g b) n).toArray.setIfInBounds (k * 2) (.int .i64 x)).setIfInBounds (k * 2 + 1) (.bool true) = (cellsR 2 (sv (upd g k x) (upd b k true)) n).toArray := by
  have h1 : (cellsR 2 (sv g b) n).toArray.setIfInBounds (k * 2 + 0) (.int .i64 x) = (cellsR 2 (sv (upd g k x) b) n).toArray :=
    cellsR_set (by omega) hk (by omega) (by simp [sv, upd]) (fun i j' hi hj' hne => by
      unfold sv
      split
      · rw [upd_ne _ _ (fun e => hne ⟨e, by omega⟩)]
      · rfl)
  rw [Nat.add_zero] at h1
  rw [h1]
  exact cellsR_set (by omega) hk (by omega) (by simp [sv, upd]) (fun i j' hi hj' hne => by
      unfold sv
      split
      · rfl
      · rw [upd_ne _ _ (fun e => hne ⟨e, by omega⟩)])
theorem cellsR_grow (n : Nat) (g : Nat → Int) (b : Nat → Bool) (x : Int) : cellsR 2 (sv (upd g n x) (upd b n true)) (n + 1) = cellsR 2 (sv g b) n ++ [.int .i64 x, .bool true] := by
  rw [cellsR_succ]
  have e : cellsR 2 (sv (upd g n x) (upd b n true)) n = cellsR 2 (sv g b) n := cellsR_congr fun i hi j hj => by
    unfold sv
    rw [upd_ne _ _ (by omega), upd_ne _ _ (by omega)]
  rw [e]
  simp [List.range, List.range.loop, sv, upd]

set_option maxRecDepth 100000 in
set_option maxHeartbeats 4000000 in
theorem make_any (A : Option Addr) (n c : Nat) (g : Nat → Int) (b : Nat → Bool) (w : World) (hA : Row w A n 2 (sv g b)) (hn : (n : Int) ≤ 9223372036854775807) :
    Calls Try.prog 58 #[.agg #[.slice A n c]] w fun e w' => MakeR n g b w.heap.size e w' ∧ Below w.heap.size w w' := by
  obtain ⟨i0, hi0, hz0, hz1, hz2⟩ := info_parts slot_info
  have hck := Lib.hid (fun W (h : Below w.heap.size w W) => check_may A n c g b W (hA.below h) hn)
  have htw := Lib.hid (fun W (h : Below w.heap.size w W) (hn : (n : Int) ≤ 1000000) => twin_any A n c g b W (hA.below h) hn)
  clear hA
  go_enter Try.func58, Try.ntmps58
  go_wp2_with fail
  refine (hck.out _ (by repeat' (first | exact Below.refl _ _ | assumption | apply Below.drew | refine Below.setCell ?_ (by first | omega | (simp; done) | (simp; omega)) _ | refine Below.alloc ?_ (by first | omega | (simp; done) | (simp; omega)) _))).mono ?_
  rintro e w1 ⟨⟨x, rfl, hx⟩, bel1⟩
  have BB1 : Below w.heap.size w w1 := by
    skip
    refine Below.trans ?_ (bel1.mono (by first | omega | (simp; done) | (simp; omega)))
    repeat' (first | exact Below.refl _ _ | assumption | apply Below.drew | refine Below.setCell ?_ (by first | omega | (simp; done) | (simp; omega)) _ | refine Below.alloc ?_ (by first | omega | (simp; done) | (simp; omega)) _)
  have P : Hid (HasBlk w1 (w.heap.size) 24 #[.slice A n c]) := Lib.hid (by have := (((hasBlk_new w 24 #[.slice A n c]).alloc (.cells #[.slice none 0 0] 24)).alloc (.cells #[.int .i64 0, .int .i64 0] 29)).below bel1; simpa using this)
  have Z : Hid (HasBlk w1 (w.heap.size + 1) 24 #[.slice none 0 0]) := Lib.hid (by have := ((hasBlk_new (w.alloc (.cells #[.slice A n c] 24)) 24 #[.slice none 0 0]).alloc (.cells #[.int .i64 0, .int .i64 0] 29)).below bel1; simpa using this)
  have Q : Hid (HasBlk w1 (w.heap.size + 1 + 1) 29 #[.int .i64 0, .int .i64 0]) := Lib.hid (by have := (hasBlk_new ((w.alloc (.cells #[.slice A n c] 24)).alloc (.cells #[.slice none 0 0] 24)) 29 #[.int .i64 0, .int .i64 0]).below bel1; simpa using this)
  have BB1s := BB1.size
  have HBB1 := Lib.hid BB1
  clear BB1
  have lt_P := P.out.lt
  have P_0 := P.out.cell 0
  have P_f0 := P.out.frozen 0
  simp at P_0
  have lt_Z := Z.out.lt
  have Z_0 := Z.out.cell 0
  have Z_f0 := Z.out.frozen 0
  simp at Z_0
  have lt_Q := Q.out.lt
  have Q_0 := Q.out.cell 0
  have Q_1 := Q.out.cell 1
  have Q_f0 := Q.out.frozen 0
  have Q_f1 := Q.out.frozen 1
  simp at Q_0 Q_1
  rcases hx with ⟨hm, rfl⟩ | ⟨hm, rfl⟩
  rotate_left
  · have Hm := Lib.hid hm
    clear hm
    go_wp2
    refine bodyPost_ret (v := .tuple #[.agg #[.slice none 0 0], .agg #[.int .i64 0, .int .i64 0], .int .i64 8]) (by simp [results, Try.results58, go_sem, *]) rfl ⟨.inl ⟨Hm.out, rfl⟩, ?_⟩
    have bel0 := HBB1.out
    repeat' (first | exact Below.refl _ _ | assumption | apply Below.drew | refine Below.setCell ?_ (by first | omega | (simp; done) | (simp; omega)) _ | refine Below.alloc ?_ (by first | omega | (simp; done) | (simp; omega)) _)
  have hn' := hm.1
  have Hm := Lib.hid hm
  have zz1 := Q.out.lt
  clear hm
  go_wp2_with fail
  refine (htw.out _ HBB1.out (by omega)).mono ?_
  rintro e w2 ⟨⟨v, rfl, hv⟩, bel2⟩
  obtain ⟨X, rfl, hX, hb2⟩ := hv
  clear lt_P P_0 P_f0 lt_Z Z_0 Z_f0 lt_Q Q_0 Q_1 Q_f0 Q_f1
  have BB2 : Below w.heap.size w w2 := by
    have bel0 := HBB1.out
    refine Below.trans ?_ (bel2.mono (by first | omega | (simp; done) | (simp; omega)))
    repeat' (first | exact Below.refl _ _ | assumption | apply Below.drew | refine Below.setCell ?_ (by first | omega | (simp; done) | (simp; omega)) _ | refine Below.alloc ?_ (by first | omega | (simp; done) | (simp; omega)) _)
  have t_P : HasBlk w2 (w.heap.size) 24 #[.slice A n c] := by first | exact P.out.below bel2 | exact (P.out.alloc _).below bel2 | exact ((P.out.alloc _).alloc _).below bel2 | exact (((P.out.alloc _).alloc _).alloc _).below bel2
  clear P
  have P := Lib.hid t_P
  clear t_P
  have t_Z : HasBlk w2 (w.heap.size + 1) 24 #[.slice none 0 0] := by first | exact Z.out.below bel2 | exact (Z.out.alloc _).below bel2 | exact ((Z.out.alloc _).alloc _).below bel2 | exact (((Z.out.alloc _).alloc _).alloc _).below bel2
  clear Z
  have Z := Lib.hid t_Z
  clear t_Z
  have t_Q : HasBlk w2 (w.heap.size + 1 + 1) 29 #[.int .i64 0, .int .i64 0] := by first | exact Q.out.below bel2 | exact (Q.out.alloc _).below bel2 | exact ((Q.out.alloc _).alloc _).below bel2 | exact (((Q.out.alloc _).alloc _).alloc _).below bel2
  clear Q
  have Q := Lib.hid t_Q
  clear t_Q
  clear HBB1
  have BB2s := BB2.size
  have HBB2 := Lib.hid BB2
  clear BB2
  have HX := Lib.hid hb2
  have xlt := hb2.lt
  clear bel1 hb2
  have lt_P := P.out.lt
  have P_0 := P.out.cell 0
  have P_f0 := P.out.frozen 0
  simp at P_0
  have lt_Z := Z.out.lt
  have Z_0 := Z.out.cell 0
  have Z_f0 := Z.out.frozen 0
  simp at Z_0
  have lt_Q := Q.out.lt
  have Q_0 := Q.out.cell 0
  have Q_1 := Q.out.cell 1
  have Q_f0 := Q.out.frozen 0
  have Q_f1 := Q.out.frozen 1
  simp at Q_0 Q_1
  have xne : X ≠ w.heap.size := by omega
  have xne2 : X ≠ w.heap.size + 1 := by omega
  have xne3 : X ≠ w.heap.size + 1 + 1 := by omega
  have HX2 := Lib.hid (HX.out.far (p := ⟨w.heap.size, 0, none⟩) (Ne.symm xne) (.slice (some ⟨X, 0, none⟩) n n))
  have hid := Lib.hid (frees_idx (some ⟨X, 0, none⟩) n n (fun i _ => g i) b (w2.setCell ⟨w.heap.size, 0, none⟩ (.slice (some ⟨X, 0, none⟩) n n)) (Row.of_blk HX2.out fun i hi j hj => by rw [List.getElem?_toArray]; exact cellsR_at hi hj) hn (fun i => freeS (g i) (b i)) (fun i _ W' _ => free_any _ _ W'))
  go_wp2_with fail
  refine hid.out.mono ?_
  rintro e wq ⟨hx, bel3⟩
  clear hid htw hck
  have B3 : Below w.heap.size w wq := by
    have bel0 := HBB2.out
    refine Below.trans ?_ (bel3.mono (by simp; omega))
    repeat' (first | exact Below.refl _ _ | assumption | apply Below.drew | refine Below.setCell ?_ (by first | omega | (simp; done) | (simp; omega)) _ | refine Below.alloc ?_ (by first | omega | (simp; done) | (simp; omega)) _)
  have HX3 := Lib.hid (HX2.out.below bel3)
  have tP : HasBlk wq w.heap.size 24 #[.slice (some ⟨X, 0, none⟩) n n] := by
    have := (P.out.set 0 (.slice (some ⟨X, 0, none⟩) n n)).below bel3
    simpa using this
  have tZ : HasBlk wq (w.heap.size + 1) 24 #[.slice none 0 0] := (Z.out.far (p := ⟨w.heap.size, 0, none⟩) (by first | (simp; done) | (simp; omega)) _).below bel3
  have tQ : HasBlk wq (w.heap.size + 1 + 1) 29 #[.int .i64 0, .int .i64 0] := (Q.out.far (p := ⟨w.heap.size, 0, none⟩) (by first | (simp; done) | (simp; omega)) _).below bel3
  have HB3 := Lib.hid B3
  clear lt_P P_0 P_f0 lt_Z Z_0 Z_f0 lt_Q Q_0 Q_1 Q_f0 Q_f1 P Z Q B3 HX HX2 bel3 HBB2
  have P := Lib.hid tP
  have Z := Lib.hid tZ
  have Q := Lib.hid tQ
  clear tP tZ tQ
  have xlt3 := HX3.out.lt
  have lt_P := P.out.lt
  have P_0 := P.out.cell 0
  have P_f0 := P.out.frozen 0
  simp at P_0
  have lt_Z := Z.out.lt
  have Z_0 := Z.out.cell 0
  have Z_f0 := Z.out.frozen 0
  simp at Z_0
  have lt_Q := Q.out.lt
  have Q_0 := Q.out.cell 0
  have Q_1 := Q.out.cell 1
  have Q_f0 := Q.out.frozen 0
  have Q_f1 := Q.out.frozen 1
  simp at Q_0 Q_1
  rcases hx with ⟨rfl, hno⟩ | ⟨k, rfl, hk, hfr, hno⟩
  · have Hno := Lib.hid hno
    clear hno
    by_cases h128 : n = 128
    · have g0 : ((n : Int) == 128) = true := by simp; omega
      have H128 := Lib.hid h128
      clear h128
      go_wp2
      refine bodyPost_ret (v := .tuple #[.agg #[.slice none 0 0], .agg #[.int .i64 0, .int .i64 0], .int .i64 9]) (by simp [results, Try.results58, go_sem, *]) rfl ⟨.inr (.inl ⟨Hm.out, Hno.out, H128.out, rfl⟩), ?_⟩
      have bel0 := HB3.out
      repeat' (first | exact Below.refl _ _ | assumption | apply Below.drew | refine Below.setCell ?_ (by first | omega | (simp; done) | (simp; omega)) _ | refine Below.alloc ?_ (by first | omega | (simp; done) | (simp; omega)) _)
    have g0 : ((n : Int) == 128) = false := by simp; omega
    have hown := own_of_blk HX3.out (cellsR_len 2 (sv g b) n) (Nat.le_refl X) (by unfold maxLen; omega)
    go_wp2_with (at_builtin; refine wpList_append_lies _ rfl (.tmp 26) (.tmp 28) _ rfl X 58 i0 _ 2 16 Try.underlying22 hi0 hz0 hz1 hz2 rfl (by omega) (.slice (some ⟨X, 0, none⟩) n n) (n) (cellsR 2 (sv g b) n) rfl (hown.alloc _) ⟨wq.heap.size, 0, none⟩ 1 1 [.int .i64 1, .bool true] (by rfl) rfl (World.news_of_block (cs := #[.int .i64 1, .bool true]) (t := 58) (fr := (0, 0)) (heap_alloc_new wq _)) (by simp [Value.oneCell']) (by omega) (by unfold maxLen; omega) (by omega) (by simp; omega) (wq.heap.size + 1) (by simp) ?_; intro g' cap w3 hown3 hgrow hat hlt; have tP := ((P.out.alloc _).grown hgrow (P.out.ne_own hown (by decide))); have tZ := ((Z.out.alloc _).grown hgrow (Z.out.ne_own hown (by decide))); have tQ := ((Q.out.alloc _).grown hgrow (Q.out.ne_own hown (by decide))); have p0 := tP.cell 0; have pf := tP.frozen 0; have pl := tP.lt; have TP := Lib.hid tP; have TZ := Lib.hid tZ; have TQ := Lib.hid tQ; have Hown := Lib.hid hown3; have Hgrow := Lib.hid hgrow; clear tP tZ tQ hown3 hgrow; simp at p0)
    have hP : HasBlk (w3.setCell ⟨w.heap.size, 0, none⟩ (.slice (some ⟨g', 0, none⟩) (n + 1) cap)) w.heap.size 24 #[.slice (some ⟨g', 0, none⟩) (n + 1) cap] := by
      have := TP.out.set 0 (.slice (some ⟨g', 0, none⟩) (n + 1) cap)
      simpa using this
    have hZ := TZ.out.far (p := ⟨w.heap.size, 0, none⟩) (by first | (simp; done) | (simp; omega)) (.slice (some ⟨g', 0, none⟩) (n + 1) cap)
    have hQ := TQ.out.far (p := ⟨w.heap.size, 0, none⟩) (by first | (simp; done) | (simp; omega)) (.slice (some ⟨g', 0, none⟩) (n + 1) cap)
    have hO := ownsRow_setCell_other (a := ⟨w.heap.size, 0, none⟩) Hown.out (TP.out.ne_own Hown.out (by decide)) (.slice (some ⟨g', 0, none⟩) (n + 1) cap)
    have hbel : Below w.heap.size w (w3.setCell ⟨w.heap.size, 0, none⟩ (.slice (some ⟨g', 0, none⟩) (n + 1) cap)) :=
      (below_grown (v := .slice (some ⟨X, 0, none⟩) n n) (base := X) (HB3.out.alloc (by omega) _) Hgrow.out (hown.alloc _) (by omega) (by simp; omega)).setCell (by simp) _
    clear TP TZ TQ Hown Hgrow p0 pf pl hat hlt hown lt_P P_0 P_f0 lt_Z Z_0 Z_f0 lt_Q Q_0 Q_1 Q_f0 Q_f1 HB3 HX3 P Z Q xlt3
    generalize w3.setCell ⟨w.heap.size, 0, none⟩ (.slice (some ⟨g', 0, none⟩) (n + 1) cap) = ww at *
    have P_0 := hP.cell 0
    have Z_0 := hZ.cell 0
    have Z_f0 := hZ.frozen 0
    have Q_0 := hQ.cell 0
    have Q_1 := hQ.cell 1
    have Q_f0 := hQ.frozen 0
    have Q_f1 := hQ.frozen 1
    have zl := hZ.lt
    have ql := hQ.lt
    simp at P_0 Z_0 Q_0 Q_1
    have x0 : ww.cell? ⟨g', n * 2, none⟩ = some (.int .i64 1) := by
      rw [hO.cellAt (n * 2) (by omega)]
      have hl := cellsR_len 2 (sv g b) n
      rw [List.getElem?_append_right (by omega), hl]
      simp
    have gne := hP.ne_own hO (by decide)
    have gne1 := hZ.ne_own hO (by decide)
    have gne2 := hQ.ne_own hO (by decide)
    have n1 : g' ≠ w.heap.size + 1 := fun e => gne1 (by rw [e]; rfl)
    have n2 : g' ≠ w.heap.size + 1 + 1 := fun e => gne2 (by rw [e]; rfl)
    have n1' : w.heap.size + 1 ≠ g' := Ne.symm n1
    have m1 : w.heap.size ≠ w.heap.size + 1 + 1 := by omega
    have m2 : w.heap.size + 1 + 1 ≠ w.heap.size := by omega
    have m3 : w.heap.size ≠ w.heap.size + 1 := by omega
    have m4 : w.heap.size + 1 ≠ w.heap.size := by omega
    have n2' : w.heap.size + 1 + 1 ≠ g' := Ne.symm n2
    have i0' : (0 : Int) ≤ (n : Int) := by omega
    have i1' : (n : Int) < ((n + 1 : Nat) : Int) := by omega
    have i2' : (n : Int) < (n : Int) + 1 := by omega
    have HO := Lib.hid hO
    have HBel := Lib.hid hbel
    have GN1 := Lib.hid gne1
    have GN2 := Lib.hid gne2
    clear hP hZ hQ hO hbel gne gne1 gne2
    go_wp2_with fail
    go_region_held3 (fun Wo => Wo.cell? ⟨w.heap.size, 0, none⟩ = some (.slice (some ⟨g', 0, none⟩) (n + 1) cap) ∧ Wo.cell? ⟨g', n * 2, none⟩ = some (.int .i64 1))
      (first | go_keep | (refine ⟨?_, ?_⟩ <;> simp [go_sem, *]) | fail "keep")
      (fail)
    go_wp2
    refine bodyPost_ret (v := .tuple #[.agg #[.slice (some ⟨g', 0, none⟩) (n + 1) cap], .agg #[.int .i64 n, .int .i64 1], .int .i64 0]) (by simp [results, Try.results58, go_sem, *]) rfl ⟨.inr (.inr ⟨Hm.out, n, n + 1, upd g n 1, upd b n true, _, cap, .inr ⟨rfl, by omega, Hno.out, rfl, rfl, rfl⟩, by rw [upd_at], ?_⟩), ?_⟩
    · rw [cellsR_grow]
      have h := own_base (b := w.heap.size) HO.out (by omega)
      repeat' (first | exact h | refine ownsRow_setCell_other ?_ (by first | exact GN1.out | exact GN2.out) _)
    · have bel0 := HBel.out
      repeat' (first | exact Below.refl _ _ | assumption | apply Below.drew | refine Below.setCell ?_ (by first | omega | (simp; done) | (simp; omega)) _ | refine Below.alloc ?_ (by first | omega | (simp; done) | (simp; omega)) _)
  have Hno := Lib.hid hno
  have Hfr := Lib.hid hfr
  have hok := Hm.out.2 k hk
  unfold okS at hok
  have hok2 := of_decide_eq_true hok
  obtain ⟨o1, o2⟩ := hok2
  have k0 : (0 : Int) ≤ (k : Int) := by omega
  have k1 : (k : Int) < (n : Int) := by omega
  have k2 : decide ((0 : Int) ≤ (k : Int)) = true := decide_eq_true k0
  have c0 := HX3.out.cell (k * 2)
  have c1 := HX3.out.cell (k * 2 + 1)
  have f0 := HX3.out.frozen (k * 2)
  have f1 := HX3.out.frozen (k * 2 + 1)
  rw [List.getElem?_toArray, show k * 2 = k * 2 + 0 by omega, cellsR_at hk (by omega)] at c0
  rw [List.getElem?_toArray, cellsR_at hk (by omega)] at c1
  simp only [sv, if_true, Nat.add_zero] at c0
  simp only [sv] at c1
  rw [if_neg (by decide)] at c1
  clear hno hfr hok
  go_wp2_with fail
  go_still_tail 12, (by kernel_rfl)
  change wpList _ _ _ _ _ wq.drew
  have hX : HasBlk ((wq.setCell ⟨X, k * 2, none⟩ (.int .i64 (g k + 1))).setCell ⟨X, k * 2 + 1, none⟩ (.bool true)) X 58 (cellsR 2 (sv (upd g k (g k + 1)) (upd b k true)) n).toArray := by
    have h := (HX3.out.set (k * 2) (.int .i64 (g k + 1))).set (k * 2 + 1) (.bool true)
    rw [made_set hk] at h
    exact h
  have hP := (P.out.far (p := ⟨X, k * 2, none⟩) xne (.int .i64 (g k + 1))).far (p := ⟨X, k * 2 + 1, none⟩) xne (.bool true)
  have hZ := (Z.out.far (p := ⟨X, k * 2, none⟩) xne2 (.int .i64 (g k + 1))).far (p := ⟨X, k * 2 + 1, none⟩) xne2 (.bool true)
  have hQ := (Q.out.far (p := ⟨X, k * 2, none⟩) xne3 (.int .i64 (g k + 1))).far (p := ⟨X, k * 2 + 1, none⟩) xne3 (.bool true)
  have hbel : Below w.heap.size w ((wq.setCell ⟨X, k * 2, none⟩ (.int .i64 (g k + 1))).setCell ⟨X, k * 2 + 1, none⟩ (.bool true)) := (HB3.out.setCell (by simp; omega) _).setCell (by simp; omega) _
  go_wp2
  clear lt_P P_0 P_f0 lt_Z Z_0 Z_f0 lt_Q Q_0 Q_1 Q_f0 Q_f1 HB3 HX3 P Z Q xlt3 c0 c1 f0 f1
  generalize (wq.setCell ⟨X, k * 2, none⟩ (.int .i64 (g k + 1))).setCell ⟨X, k * 2 + 1, none⟩ (.bool true) = ww at *
  have P_0 := hP.cell 0
  have Z_0 := hZ.cell 0
  have Z_f0 := hZ.frozen 0
  have Q_0 := hQ.cell 0
  have Q_1 := hQ.cell 1
  have Q_f0 := hQ.frozen 0
  have Q_f1 := hQ.frozen 1
  have zl := hZ.lt
  have ql := hQ.lt
  simp at P_0 Z_0 Q_0 Q_1
  have x0 := hX.cell (k * 2)
  rw [List.getElem?_toArray, show k * 2 = k * 2 + 0 by omega, cellsR_at hk (by omega)] at x0
  simp only [sv, if_true, Nat.add_zero, upd_at] at x0
  have xne' : w.heap.size ≠ X := Ne.symm xne
  have xne2' : w.heap.size + 1 ≠ X := Ne.symm xne2
  have xne3' : w.heap.size + 1 + 1 ≠ X := Ne.symm xne3
  have m1 : w.heap.size ≠ w.heap.size + 1 + 1 := by omega
  have m2 : w.heap.size + 1 + 1 ≠ w.heap.size := by omega
  have m3 : w.heap.size ≠ w.heap.size + 1 := by omega
  have m4 : w.heap.size + 1 ≠ w.heap.size := by omega
  have hO := own_of_blk hX (cellsR_len 2 _ n) (show w.heap.size ≤ X by omega) (by unfold maxLen; omega)
  have GN1 := Lib.hid (hZ.ne_own hO (by decide))
  have GN2 := Lib.hid (hQ.ne_own hO (by decide))
  have HO := Lib.hid hO
  have HBel := Lib.hid hbel
  clear hO
  clear hP hZ hQ hX hbel
  go_region_held3 (fun Wo => Wo.cell? ⟨w.heap.size, 0, none⟩ = some (.slice (some ⟨X, 0, none⟩) n n) ∧ Wo.cell? ⟨X, k * 2, none⟩ = some (.int .i64 (g k + 1)))
    (first | go_keep | (refine ⟨?_, ?_⟩ <;> simp [go_sem, *]) | fail "keep")
    (fail)
  go_wp2
  refine bodyPost_ret (v := .tuple #[.agg #[.slice (some ⟨X, 0, none⟩) n n], .agg #[.int .i64 k, .int .i64 (g k + 1)], .int .i64 0]) (by simp [results, Try.results58, go_sem, *]) rfl ⟨.inr (.inr ⟨Hm.out, k, n, upd g k (g k + 1), upd b k true, _, n, .inl ⟨hk, Hfr.out, Hno.out, rfl, rfl, rfl⟩, by rw [upd_at], ?_⟩), ?_⟩
  · have h := HO.out
    repeat' (first | exact h | refine ownsRow_setCell_other ?_ (by first | exact GN1.out | exact GN2.out) _)
  · have bel0 := HBel.out
    repeat' (first | exact Below.refl _ _ | assumption | apply Below.drew | refine Below.setCell ?_ (by first | omega | (simp; done) | (simp; omega)) _ | refine Below.alloc ?_ (by first | omega | (simp; done) | (simp; omega)) _)
end Go.Proofs.Ytgkeiaggldahnaa
