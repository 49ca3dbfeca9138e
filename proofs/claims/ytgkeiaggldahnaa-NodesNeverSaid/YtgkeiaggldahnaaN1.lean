/- nodes: the search below a node. -/
import Derived.Test.YtgkeiaggldahnaaNd
import Derived.Laws.EntriesVeiled
namespace Go.Proofs.Ytgkeiaggldahnaa
open Go.RowKit
set_option linter.unusedVariables false
/-- The first at which it is so (Yes), or none: the invariant stands. -/
def IdxI (Inv Yes : Nat → World → Prop) (n : Nat) (e : Ending) (w' : World) : Prop := (∃ k : Nat, k < n ∧ e = .returned (.int .i64 k) ∧ Yes k w') ∨ (e = .returned (.int .i64 (-1)) ∧ Inv n w')
/-- Is it so at one? -/
def HasI (Inv Yes : Nat → World → Prop) (n : Nat) (e : Ending) (w' : World) : Prop := (e = .returned (.bool true) ∧ ∃ k : Nat, k < n ∧ Yes k w') ∨ (e = .returned (.bool false) ∧ Inv n w')

set_option maxRecDepth 100000 in
set_option maxHeartbeats 2000000 in
theorem looks_idx (A : Option Addr) (n c : Nat) (F : Nat → Nat → Value) (q1 q2 q3 q4 : Value) (Inv Yes : Nat → World → Prop) (w : World) (hrow : ∀ k W, Inv k W → Row W A n 2 F) (hn : (n : Int) ≤ 9223372036854775807) (hcl : ∀ k, k < n → ∀ W, Inv k W → Calls Try.prog 72 #[.agg #[F k 0, F k 1], q1, q2, q3, q4] W fun e w' => (e = .returned (.bool true) ∧ Yes k w') ∨ (e = .returned (.bool false) ∧ Inv (k + 1) w')) (h0 : Inv 0 w) :
    Calls Try.prog 69 #[.slice A n c, .func (Fn.func 72) #[] #[q1, q2, q3, q4]] w fun e w' => IdxI Inv Yes n e w' := by
  have Hcl := Lib.hid hcl
  have Hrow := Lib.hid hrow
  have H0 := Lib.hid h0
  clear hcl hrow h0
  go_enter Try.func69, Try.ntmps69
  go_wp2
  go_loopw [8] (fun i wr => ∃ k : Nat, k ≤ n ∧ i = .int .i64 k ∧ Hid (Inv k wr)) (fun i wr => n - (intOf i).toNat)
  case atStart => exact ⟨0, Nat.zero_le _, rfl, H0⟩
  case round =>
    obtain ⟨k, hk, rfl, hinv⟩ := hrel
    by_cases hkn : k < n
    · obtain ⟨g, o, rfl, hg, hc⟩ := Hrow.out k _ hinv.out (by omega)
      have c0 := hc k hkn 0 (by omega)
      have c1 := hc k hkn 1 (by omega)
      simp only [Nat.add_zero] at c0
      have hi : (k : Int) < (n : Int) := by omega
      have hi0 : (0 : Int) ≤ (k : Int) := by omega
      have hc1 := Lib.hid (Hcl.out k hkn _ hinv.out)
      clear hc
      go_wp2_with fail
      refine hc1.out.mono ?_
      rintro e w1 (⟨rfl, hy⟩ | ⟨rfl, hy⟩)
      · have HY := Lib.hid hy
        clear hy
        go_wp2
        go_ret
        exact .inl ⟨k, hkn, rfl, HY.out⟩
      · have HY := Lib.hid hy
        clear hy
        go_wp2
        go_roundw
        case rel => exact ⟨k + 1, by omega, by go_num, HY⟩
        case measure => simp [intOf]; omega
    · obtain rfl : k = n := by omega
      go_wp2
      go_ret
      exact .inr ⟨rfl, hinv.out⟩

set_option maxRecDepth 100000 in
set_option maxHeartbeats 2000000 in
theorem looks_any (A : Option Addr) (n c : Nat) (F : Nat → Nat → Value) (q1 q2 q3 q4 : Value) (Inv Yes : Nat → World → Prop) (w : World) (hrow : ∀ k W, Inv k W → Row W A n 2 F) (hn : (n : Int) ≤ 9223372036854775807) (hcl : ∀ k, k < n → ∀ W, Inv k W → Calls Try.prog 72 #[.agg #[F k 0, F k 1], q1, q2, q3, q4] W fun e w' => (e = .returned (.bool true) ∧ Yes k w') ∨ (e = .returned (.bool false) ∧ Inv (k + 1) w')) (h0 : Inv 0 w) :
    Calls Try.prog 55 #[.slice A n c, .func (Fn.func 72) #[] #[q1, q2, q3, q4]] w fun e w' => HasI Inv Yes n e w' := by
  have hi := Lib.hid (looks_idx A n c F q1 q2 q3 q4 Inv Yes w hrow hn hcl h0)
  clear hcl hrow h0
  go_enter Try.func55, Try.ntmps55
  go_wp2_with fail
  refine hi.out.mono ?_
  rintro e w1 hx
  rcases hx with ⟨k, hk, rfl, hy⟩ | ⟨rfl, hy⟩
  · have HY := Lib.hid hy
    clear hy
    have g0 : decide ((0 : Int) ≤ (k : Int)) = true := decide_eq_true (by omega)
    go_wp2
    go_ret
    exact .inl ⟨rfl, k, hk, HY.out⟩
  · have HY := Lib.hid hy
    clear hy
    go_wp2
    go_ret
    exact .inr ⟨rfl, HY.out⟩

theorem fields_hdl : (Try.prog.fieldsOf 29).toList.map (fun f => (f.name == "_", f.type, f.offset)) = [(false, 3, 0), (false, 3, 1)] := by kernel_rfl
theorem eqFields_hdl (d : Nat) (x y p q : Int) (w : World) : ∀ l : List Field, l.map (fun f => (f.name == "_", f.type, f.offset)) = [(false, 3, 0), (false, 3, 1)] →
    (Op.eqFields (d + 1) #[.int .i64 x, .int .i64 p] #[.int .i64 y, .int .i64 q] l).run Try.prog w = .ok (x == y && p == q) w
  | [f1, f2], h => by
    simp only [List.map_cons, List.map_nil, List.cons.injEq, Prod.mk.injEq, and_true] at h
    obtain ⟨⟨n1, t1, o1⟩, ⟨n2, t2, o2⟩⟩ := h
    have m1 : f1.name ≠ "_" := by simpa using n1
    have m2 : f2.name ≠ "_" := by simpa using n2
    simp only [Op.eqFields, m1, m2, t1, t2, o1, o2, ne_eq, not_false_eq_true, if_true, Sem.run_bind]
    simp [part, isAgg, run_underlying Try.underlying3, run_equalIn_int _ _ _ _ _ _ _ Try.underlying3]
    by_cases h0 : x = y <;> by_cases h1 : p = q <;> simp [h0, h1]
  | [], h => by simp at h
  | [_], h => by simp at h
  | _ :: _ :: _ :: _, h => by simp at h
theorem eql_hdl (x p y q : Int) (w : World) : (binOp .eql 29 (.agg #[.int .i64 x, .int .i64 p]) (.agg #[.int .i64 y, .int .i64 q])).run Try.prog w = .ok (.bool (x == y && p == q)) w := by
  rw [run_eql_struct, run_equalIn_struct w 9999 _ _ _ (by kernel_rfl) (by kernel_rfl), eqFields_hdl 9998 x y p q w _ fields_hdl]
  rfl

/-- What stands while one looks for the node t in the graph d: the boxes of t, of the set and of the graph, the closure's own. -/
structure Env (d : GD) (p : GP) (t bt bs bg bl m : Nat) (w : World) : Prop where
  tn : t < d.n
  xt : HasBlk w bt 29 #[.int .i64 t, .int .i64 (d.g t)]
  xs : HasBlk w bs 90 #[.map (some m)]
  xg : HasBlk w bg 27 #[.slice p.A d.n p.c, .slice p.K d.m p.kc]
  xl : HasBlk w bl 86 #[.func (Fn.func 72) #[] #[.pointer (some ⟨bt, 0, none⟩), .pointer (some ⟨bs, 0, none⟩), .pointer (some ⟨bg, 0, none⟩), .pointer (some ⟨bl, 0, none⟩)]]
  ok : GOk w p d
theorem Env.gb {d : GD} {p : GP} {t bt bs bg bl m : Nat} {w w' : World} (h : Env d p t bt bs bg bl m w) (hg : w.grownBy w' (some m)) (hm : IsM w m) : Env d p t bt bs bg bl m w' :=
  ⟨h.tn, h.xt.gb hg hm, h.xs.gb hg hm, h.xg.gb hg hm, h.xl.gb hg hm, h.ok.gb hg hm⟩
/-- What a search at i answers and leaves. -/
def LookR (d : GD) (t m i : Nat) (s : Nat → Bool) (w : World) (e : Ending) (w' : World) : Prop := ∃ (r : Bool) (s' : Nat → Bool), e = .returned (.bool r) ∧ d.E.Dfs t s s' i r ∧ SetG d w' m s' ∧ w.grownBy w' (some m)
/-- The invariant among the children of i. -/
def KidsI (d : GD) (p : GP) (t bt bs bg bl m i lf : Nat) (s : Nat → Bool) (w : World) (k : Nat) (wr : World) : Prop :=
  ∃ s', d.E.Row t s s' i k ∧ left s' d.n ≤ lf ∧ SetG d wr m s' ∧ w.grownBy wr (some m) ∧ Env d p t bt bs bg bl m wr
def KidsY (d : GD) (t m i : Nat) (s : Nat → Bool) (w : World) (k : Nat) (wr : World) : Prop :=
  ∃ s', d.E.Dfs t s s' i true ∧ SetG d wr m s' ∧ w.grownBy wr (some m)
theorem left_sub {s s' : Nat → Bool} {n : Nat} (h : ∀ j, s j = true → s' j = true) : left s' n ≤ left s n := by
  have := cnt_mono (p := s) (q := s') n fun j _ => h j
  unfold left
  omega

set_option maxRecDepth 100000 in
set_option maxHeartbeats 4000000 in
theorem look_step (d : GD) (p : GP) (hk : d.Kid) (hsm : d.Sm) (t bt bs bg bl m : Nat) (s : Nat → Bool) (i : Nat) (w : World) (hi : i < d.n) (hE : Env d p t bt bs bg bl m w) (hS : SetG d w m s)
    (ih : ∀ (s' : Nat → Bool) (i' : Nat) (W : World), left s' d.n < left s d.n → i' < d.n → Env d p t bt bs bg bl m W → SetG d W m s' → Calls Try.prog 72 #[hval i' (d.g i'), .pointer (some ⟨bt, 0, none⟩), .pointer (some ⟨bs, 0, none⟩), .pointer (some ⟨bg, 0, none⟩), .pointer (some ⟨bl, 0, none⟩)] W (LookR d t m i' s' W)) :
    Calls Try.prog 72 #[hval i (d.g i), .pointer (some ⟨bt, 0, none⟩), .pointer (some ⟨bs, 0, none⟩), .pointer (some ⟨bg, 0, none⟩), .pointer (some ⟨bl, 0, none⟩)] w (LookR d t m i s w) := by
  have Ih := Lib.hid ih
  have HE := Lib.hid hE
  have HS := Lib.hid hS
  have Hk := Lib.hid hk
  have Hsm := Lib.hid hsm
  have HI := Lib.hid hi
  clear ih hE hS hk hsm
  have t0 := HE.out.xt.cell 0
  have t1 := HE.out.xt.cell 1
  have s0 := HE.out.xs.cell 0
  have g0 := HE.out.xg.cell 0
  have g1 := HE.out.xg.cell 1
  have l0 := HE.out.xl.cell 0
  have zt := HE.out.xt.lt
  have zs := HE.out.xs.lt
  have zg := HE.out.xg.lt
  have zl := HE.out.xl.lt
  simp at t0 t1 s0 g0 g1 l0
  have bel0 := (Below.refl w.heap.size w).alloc (Nat.le_refl _) (.cells #[.int .i64 i, .int .i64 (d.g i)] 29)
  by_cases hit : i = t
  · have hq := fun W => eql_hdl i (d.g i) t (d.g t) W
    have hv : ((i : Int) == (t : Int) && d.g i == d.g t) = true := by subst hit; simp
    simp only [hv] at hq
    have HB := Lib.hid bel0
    have HT := Lib.hid hit
    clear hv hit bel0
    go_enter Try.func72, Try.ntmps72
    go_wp2
    go_ret
    exact ⟨true, s, rfl, (by rw [HT.out]; exact .here _ _ _), HS.out.below HB.out, gb_below HB.out _⟩
  have hq := fun W => eql_hdl i (d.g i) t (d.g t) W
  have hv : ((i : Int) == (t : Int) && d.g i == d.g t) = false := by
    rw [Bool.and_eq_false_iff]
    left
    simp
    omega
  simp only [hv] at hq
  have HT := Lib.hid hit
  have hS1 := HS.out.below bel0
  have hlk := hS1.look Hk.out hi
  cases hsi : s i with
  | true =>
    rw [hsi] at hlk
    have HB := Lib.hid bel0
    have HQ := Lib.hid hsi
    clear hv hit bel0 hsi hS1
    go_enter Try.func72, Try.ntmps72
    go_wp2
    go_ret
    exact ⟨false, s, rfl, .seen HQ.out, HS.out.below HB.out, gb_below HB.out _⟩
  | false =>
    rw [hsi] at hlk
    obtain ⟨w1, hmk, hS2, hg1⟩ := hS1.mark Hk.out hi hsi
    have hgb := gb_trans (gb_below bel0 (some m)) hg1
    have hE1 := HE.out.gb hgb HS.out.isM
    have hX : HasBlk w1 w.heap.size 29 #[.int .i64 i, .int .i64 (d.g i)] := (hasBlk_new w 29 #[.int .i64 i, .int .i64 (d.g i)]).gb hg1 hS1.isM
    have hlf : left (fun j => if j = i then true else s j) d.n < left s d.n := left_mark hi hsi (fun j h => h)
    have HE1 := Lib.hid hE1
    have HS2 := Lib.hid hS2
    have HG := Lib.hid hgb
    have HQ := Lib.hid hsi
    have HLF := Lib.hid hlf
    have HX := Lib.hid hX
    clear hv hit bel0 hS1 hsi hS2 hg1 hgb hE1 hX hlf
    have u0 := HX.out.cell 0
    have u1 := HX.out.cell 1
    have zu := HX.out.lt
    have v0 := HE1.out.xs.cell 0
    have y0 := HE1.out.xg.cell 0
    have y1 := HE1.out.xg.cell 1
    have m0 := HE1.out.xl.cell 0
    simp at u0 u1 v0 y0 y1 m0
    obtain ⟨gk, ok, hA, hgk, hck⟩ := HE1.out.ok.ks (show 0 < d.m by rw [Hk.out.m]; omega)
    have k0 := hck i (by rw [Hk.out.m]; exact hi) 0 (by omega)
    simp only [Nat.add_zero, Nat.mul_one, kv] at k0
    have hA' := Lib.hid hA
    clear hck hA
    have hmi : (i : Int) < (d.m : Int) := by rw [Hk.out.m]; omega
    have hi0 : (0 : Int) ≤ (i : Int) := by omega
    have hcall := Lib.hid (looks_any (p.KA i) (d.L i) (p.KC i) (hv (d.S i) (d.Q i)) (.pointer (some ⟨bt, 0, none⟩)) (.pointer (some ⟨bs, 0, none⟩)) (.pointer (some ⟨bg, 0, none⟩)) (.pointer (some ⟨bl, 0, none⟩)) (KidsI d p t bt bs bg bl m i (left (fun j => if j = i then true else s j) d.n) s w1) (KidsY d t m i s w1) w1.drew
      (fun k W h => by obtain ⟨_, _, _, _, _, h⟩ := h; exact h.ok.kd i (by rw [Hk.out.m]; exact HI.out))
      (by have := Hsm.out.L i (by rw [Hk.out.m]; exact HI.out); omega)
      (fun k hkl W h => by
        obtain ⟨s', h1, h2, h3, h4, h5⟩ := h
        obtain ⟨e1, e2, e3⟩ := Hk.out.at HI.out hkl
        have hc := Ih.out s' (d.E.K i k) W (Nat.lt_of_le_of_lt h2 HLF.out) e3 h5 h3
        show Calls Try.prog 72 #[.agg #[.int .i64 (d.S i k), .int .i64 (d.Q i k)], _, _, _, _] W _
        rw [e1, e2]
        refine hc.mono ?_
        rintro e w' ⟨r, s'', rfl, hd, hs, hg⟩
        cases r with
        | true => exact .inl ⟨rfl, s'', h1.yes HI.out hkl hd, hs, gb_trans h4 hg⟩
        | false => exact .inr ⟨rfl, s'', h1.next hd, Nat.le_trans (left_sub hd.sub) h2, hs, gb_trans h4 hg, h5.gb hg h3.isM⟩)
      ⟨_, .start _ _ _ _, Nat.le_refl _, HS2.out.drew, gb_drew _ _, HE1.out.gb (gb_drew _ _) HS2.out.isM⟩)
    go_enter Try.func72, Try.ntmps72
    go_wp2
    rw [hA'.out] at y1
    go_still_tail 7, (by kernel_rfl)
    change wpList _ _ _ _ _ w1.drew
    go_wp2_with fail
    refine hcall.out.mono ?_
    rintro e w2 (⟨rfl, kk, hkk, hy⟩ | ⟨rfl, hy⟩)
    · have HY := Lib.hid hy
      clear hy
      go_wp2
      go_ret
      obtain ⟨s', h1, h2, h3⟩ := HY.out
      exact ⟨true, s', rfl, h1, h2, gb_trans HG.out h3⟩
    · have HY := Lib.hid hy
      clear hy
      go_wp2
      go_ret
      obtain ⟨s', h1, _, h2, h3, _⟩ := HY.out
      exact ⟨false, s', rfl, h1.no HT.out, h2, gb_trans HG.out h3⟩
theorem look_any (d : GD) (p : GP) (hk : d.Kid) (hsm : d.Sm) (t bt bs bg bl m : Nat) : ∀ (lf : Nat) (s : Nat → Bool) (i : Nat) (w : World), left s d.n < lf → i < d.n → Env d p t bt bs bg bl m w → SetG d w m s →
    Calls Try.prog 72 #[hval i (d.g i), .pointer (some ⟨bt, 0, none⟩), .pointer (some ⟨bs, 0, none⟩), .pointer (some ⟨bg, 0, none⟩), .pointer (some ⟨bl, 0, none⟩)] w (LookR d t m i s w)
  | 0, _, _, _, h, _, _, _ => absurd h (by omega)
  | lf + 1, s, i, w, hlf, hi, hE, hS => look_step d p hk hsm t bt bs bg bl m s i w hi hE hS fun s' i' W h1 h2 h3 h4 => look_any d p hk hsm t bt bs bg bl m lf s' i' W (by omega) h2 h3 h4
end Go.Proofs.Ytgkeiaggldahnaa
