/- sched: SchedOnce. -/
import Derived.Test.YtdilfcpgjkkjmaaS14
namespace Go.Proofs.Ytdilfcpgjkkjmaa
open Go.RowKit
set_option linter.unusedVariables false
theorem NewV.err {wn x : Int} {np : Nat} {ph : Nat → Int} {t : SD} (h : NewV wn np ph t x) (hx : x ≠ 0) : t = SD0 := by
  rcases h with ⟨_, rfl, _⟩ | ⟨_, ⟨_, _, rfl⟩ | ⟨_, e, _⟩⟩
  · rfl
  · rfl
  · exact absurd e hx
theorem NewV.good {wn : Int} {np : Nat} {ph : Nat → Int} {t : SD} (h : NewV wn np ph t 0) : SPh np ph ∧ ∃ (m j : Nat), 1 ≤ m ∧ m ≤ 64 ∧ SkipTo ph np 0 j ∧ t = SDnew np ph m j := by
  rcases h with ⟨_, _, e⟩ | ⟨hw, ⟨_, e, _⟩ | ⟨h, _, j, hj, rfl⟩⟩
  · cases e
  · exact absurd rfl e
  · exact ⟨h, wn.toNat, j, by omega, by omega, hj, rfl⟩
theorem StepV.same {s t : SD} {x u v : Int} (h : StepV s x t u v 0) : t.np = s.np ∧ t.ph = s.ph ∧ t.nb = s.nb := by
  rcases h with ⟨_, _, _, _, e⟩ | ⟨_, _, _, _, _, e⟩ | ⟨_, k, _, _, h⟩
  · cases e
  · cases e
  · rcases h with ⟨_, _, _, _, e⟩ | ⟨_, _, rfl, _⟩ | ⟨_, _, _, rfl, _⟩ | ⟨_, _, _, ⟨j, _, rfl⟩, _⟩
    · cases e
    · exact ⟨rfl, rfl, rfl⟩
    · exact ⟨rfl, rfl, rfl⟩
    · exact ⟨rfl, rfl, rfl⟩
theorem StepV.mem_ok {s t : SD} {x u v e : Int} (hm : s.May) (h : StepV s x t u v e) (hx : x ∈ rdyL s s.nb) : e = 0 :=
  Classical.byContradiction fun he => h.bad hm he hx
theorem sumTo_succ' (f : Nat → Int) (k : Nat) : sumTo f (k + 1) = sumTo f k + f k := rfl
theorem SD.May.many_bd {s : SD} (h : s.May) : -64 ≤ s.many ∧ s.many ≤ 1000000 := by
  obtain ⟨h1, h2, _, _, ⟨q, hq, hqn⟩, h0, ht, hbz, hd, _⟩ := h.parts
  have hw := wk_le s.bz s.nb
  have hb := h.2.1.2
  have h3 := sumTo_bd h1 hqn
  have h4 := h.tasks_bd
  have hqq : s.p.toNat = q := by omega
  unfold SD.many
  rw [hqq]
  omega
theorem SD.May.many_end {s : SD} (h : s.May) (ho : s.p = s.np) : s.many = sumTo s.ph s.np := by
  obtain ⟨_, _, _, _, _, h0, ht, hbz, hd, _⟩ := h.parts
  rw [SD.tasks_over ho] at ht
  have hw := wk_zero fun i hi => (by have := hbz i hi; omega : s.bz i < 0)
  unfold SD.many
  rw [ho, Int.toNat_natCast]
  omega

def ZD : Array Value := Array.replicate 360 (.bool false)
theorem zeroD (w : World) : (zeroValue 56).run Try.prog w = .ok (.agg ZD) w := by kernel_rfl
/-- The array of what is done. -/
def DB (w : World) (g : Nat) (D : Nat → Nat → Bool) : Prop := ∃ cs, HasBlk w g 56 cs ∧ cs.size = 360 ∧ ∀ q z, q < 12 → z < 30 → cs[q * 30 + z]? = some (.bool (D q z))
theorem DB.new {w : World} {g : Nat} (h : HasBlk w g 56 ZD) : DB w g (fun _ _ => false) := ⟨ZD, h, Array.size_replicate, fun q z hq hz => by unfold ZD; rw [Array.getElem?_replicate, if_pos (by omega)]⟩
theorem DB.below {w w' : World} {g : Nat} {D : Nat → Nat → Bool} (h : DB w g D) (hb : Below w.heap.size w w') : DB w' g D := by
  obtain ⟨cs, h1, h2, h3⟩ := h
  exact ⟨cs, h1.below hb, h2, h3⟩
theorem DB.far {w : World} {g : Nat} {D : Nat → Nat → Bool} (h : DB w g D) {p : Addr} (hp : p.block ≠ g) (u : Value) : DB (w.setCell p u) g D := by
  obtain ⟨cs, h1, h2, h3⟩ := h
  exact ⟨cs, h1.far hp u, h2, h3⟩
theorem DB.lt {w : World} {g : Nat} {D : Nat → Nat → Bool} (h : DB w g D) : g < w.heap.size := by
  obtain ⟨cs, h1, _⟩ := h
  exact h1.lt
theorem DB.cell {w : World} {g : Nat} {D : Nat → Nat → Bool} (h : DB w g D) {q z : Nat} (hq : q < 12) (hz : z < 30) : w.cell? ⟨g, q * 30 + z, none⟩ = some (.bool (D q z)) := by
  obtain ⟨cs, h1, h2, h3⟩ := h
  rw [h1.cell]; exact h3 q z hq hz
theorem DB.frozen {w : World} {g : Nat} {D : Nat → Nat → Bool} (h : DB w g D) (i : Nat) : w.frozen? ⟨g, i, none⟩ = false := by
  obtain ⟨cs, h1, _⟩ := h
  exact h1.frozen i
theorem DB.set {w : World} {g : Nat} {D : Nat → Nat → Bool} (h : DB w g D) {q z : Nat} (hq : q < 12) (hz : z < 30) : DB (w.setCell ⟨g, q * 30 + z, none⟩ (.bool true)) g (updD D q z) := by
  obtain ⟨cs, h1, h2, h3⟩ := h
  refine ⟨_, h1.set (q * 30 + z) _, by rw [Array.size_setIfInBounds]; exact h2, fun a b ha hb => ?_⟩
  unfold updD
  by_cases e : a = q ∧ b = z
  · obtain ⟨rfl, rfl⟩ := e
    rw [if_pos ⟨rfl, rfl⟩, Array.getElem?_setIfInBounds, if_pos rfl, if_pos (by omega)]
  · rw [if_neg e, Array.getElem?_setIfInBounds, if_neg (by omega)]
    exact h3 a b ha hb
theorem DB.own {w : World} {g B : Nat} {D : Nat → Nat → Bool} {p : SP} {s : SD} (h : DB w g D) (ho : SOwn2 B w p s) (i : Nat) (u : Value) : SOwn2 B (w.setCell ⟨g, i, none⟩ u) p s := by
  obtain ⟨cs, h1, _⟩ := h
  exact ho.far h1 (by decide) i u
theorem DB.blk {w : World} {g x : Nat} {D : Nat → Nat → Bool} {t : TypeId} {cs : Array Value} (hb : HasBlk w x t cs) (hne : g ≠ x) (i : Nat) (u : Value) : HasBlk (w.setCell ⟨g, i, none⟩ u) x t cs := hb.far hne u
/-- What holds ahead of each round. -/
structure OI (n : Nat) (l : Nat → Int) (T : Int) (P0 G : Nat) (w0 : World) (k : Nat) (s : SD) (q : SP) (D : Nat → Nat → Bool) (x : Int) (wr : World) : Prop where
  kb : (k : Int) ≤ 2 * T
  x0 : 0 ≤ x
  xp : x ≤ s.p
  may : s.May
  left : s.left = 2 * T - k
  np : s.np = n
  ph : s.ph = l
  done : DoneI s D
  ok : SOk wr q s
  cap : s.np ≤ q.ka
  blk : HasBlk wr P0 25 #[.slice q.a s.np q.ka, .int .i64 s.p, .int .i64 s.n, .slice q.b s.nb q.kb, .int .i64 s.d]
  db : DB wr G D
  bel : Below w0.heap.size w0 wr
theorem OI.below {n : Nat} {l : Nat → Int} {T : Int} {P0 G : Nat} {w0 : World} {k : Nat} {s : SD} {q : SP} {D : Nat → Nat → Bool} {x : Int} {wr w' : World} (h : OI n l T P0 G w0 k s q D x wr) (hb : Below wr.heap.size wr w') : OI n l T P0 G w0 k s q D x w' :=
  ⟨h.kb, h.x0, h.xp, h.may, h.left, h.np, h.ph, h.done, h.ok.below hb, h.cap, h.blk.below hb, h.db.below hb, h.bel.trans (hb.mono h.bel.size)⟩

set_option maxRecDepth 100000 in
set_option maxHeartbeats 16000000 in
theorem schedOnce_walk (wn : Int) (A : Option Addr) (n c : Nat) (l : Nat → Int) (A2 : Option Addr) (m c2 : Nat) (lp : Nat → Int) (w : World) (hI : IS w A n l) (hP : IS w A2 m lp) (hm : (m : Int) ≤ 9223372036854775807) (hlp : ∀ i, -9223372036854775808 ≤ lp i ∧ lp i ≤ 9223372036854775807) :
    Calls Try.prog 6 #[.int .i64 wn, .slice A n c, .slice A2 m c2] w fun e w' => e = .returned (.bool true) ∧ Below w.heap.size w w' := by
  have HI := Lib.hid hI
  have HP := Lib.hid hP
  clear hI hP
  go_enter Try.func6, Try.ntmps6
  go_wp2_with fail
  refine (alive_any _).mono ?_
  rintro e w1 ⟨rfl, bel⟩
  have SB1 : Below w.heap.size w w1 := bel
  have SB1h := Lib.hid SB1
  clear SB1 
  have szB_w1 := SB1h.out.size
  go_wp2_with fail
  refine (new_any wn A n c l _ (HI.out.below SB1h.out)).mono ?_
  rintro e w2 ⟨⟨q, t, x, rfl, hv, ho⟩, bel⟩
  have HO := Lib.hid (ho)
  have HV := Lib.hid hv
  clear ho hv
  have SB2 : Below w.heap.size w w2 := SB1h.out.trans (bel.mono SB1h.out.size)
  clear SB1h
  have SB2h := Lib.hid SB2
  clear SB2 bel
  have szB_w2 := SB2h.out.size
  go_upto_region 5 with fail
  have t_HO := HO.out.below ((Below.refl w2.heap.size w2).alloc (Nat.le_refl _) (.cells #[.slice q.a t.np q.ka, .int .i64 t.p, .int .i64 t.n, .slice q.b t.nb q.kb, .int .i64 t.d] 25))
  clear HO
  have HO := Lib.hid t_HO
  clear t_HO
  have s_P : HasBlk (w2.alloc (.cells #[.slice q.a t.np q.ka, .int .i64 t.p, .int .i64 t.n, .slice q.b t.nb q.kb, .int .i64 t.d] 25)) (w2.heap.size) 25 #[.slice q.a t.np q.ka, .int .i64 t.p, .int .i64 t.n, .slice q.b t.nb q.kb, .int .i64 t.d] := by simpa using hasBlk_new w2 25 #[.slice q.a t.np q.ka, .int .i64 t.p, .int .i64 t.n, .slice q.b t.nb q.kb, .int .i64 t.d]
  have t_P : HasBlk (w2.alloc (.cells #[.slice q.a t.np q.ka, .int .i64 t.p, .int .i64 t.n, .slice q.b t.nb q.kb, .int .i64 t.d] 25)) (w2.heap.size) 25 #[.slice q.a t.np q.ka, .int .i64 t.p, .int .i64 t.n, .slice q.b t.nb q.kb, .int .i64 t.d] := by simpa using s_P
  clear s_P
  have SB3 : Below w.heap.size w (w2.alloc (.cells #[.slice q.a t.np q.ka, .int .i64 t.p, .int .i64 t.n, .slice q.b t.nb q.kb, .int .i64 t.d] 25)) := by
    have bel0 := SB2h.out
    repeat' (first | exact Below.refl _ _ | assumption | apply Below.drew | refine Below.setCell ?_ (by first | omega | (simp; done) | (simp; omega)) _ | refine Below.alloc ?_ (by first | omega | (simp; done) | (simp; omega)) _)
  generalize gW_v2 : (w2.alloc (.cells #[.slice q.a t.np q.ka, .int .i64 t.p, .int .i64 t.n, .slice q.b t.nb q.kb, .int .i64 t.d] 25)) = v2 at *
  clear gW_v2
  have P := Lib.hid t_P
  clear t_P
  clear SB2h
  have SB3h := Lib.hid SB3
  clear SB3
  have lt_P := P.out.lt
  have P_0 := P.out.cell 0
  have P_1 := P.out.cell 1
  have P_2 := P.out.cell 2
  have P_3 := P.out.cell 3
  have P_4 := P.out.cell 4
  simp at P_0 P_1 P_2 P_3 P_4
  have szB_v2 := SB3h.out.size
  by_cases hx : x = 0
  rotate_left
  · have ht := HV.out.err hx
    have g1 : (x != 0) = true := by simpa using hx
    have g2 : (x == 0) = false := by simpa using hx
    subst ht
    have g3 : SD0.nb = 0 := rfl
    rw [g3] at P_3
    clear hx g3
    go_wp2
    go_ret
    exact ⟨rfl, SB3h.out⟩
  subst hx
  obtain ⟨hph, wm, j, hw1, hw2, hj, rfl⟩ := HV.out.good
  clear HV
  by_cases hn12 : (12 : Int) < (n : Int)
  · have g1 : decide ((12 : Int) < (n : Int)) = true := decide_eq_true hn12
    clear hn12
    go_wp2
    go_ret
    exact ⟨rfl, SB3h.out⟩
  have g1 : decide ((12 : Int) < (n : Int)) = false := decide_eq_false hn12
  have hn13 : n ≤ 12 := by omega
  obtain ⟨hmay, hleft⟩ := SDnew_may hph hw1 hw2 hj
  have hD0 : DoneI (SDnew n l wm j) (fun _ _ => false) := DoneI.new hj
  have hmany : (SDnew n l wm j).many = 0 := SDnew_many hj
  have hnp : (SDnew n l wm j).np = n := rfl
  have hph2 : (SDnew n l wm j).ph = l := rfl
  have hs0 : 0 ≤ (SDnew n l wm j).p := by show (0 : Int) ≤ (j : Int); omega
  obtain ⟨s, hs⟩ : ∃ s, SDnew n l wm j = s := ⟨_, rfl⟩
  rw [hs] at hmay hleft hD0 hmany hnp hph2 hs0 HO P P_0 P_1 P_2 P_3 P_4 ⊢
  clear hs hn12 hj hw1 hw2
  have HM := Lib.hid hmay
  have HD := Lib.hid hD0
  have HL := Lib.hid hleft
  have HY := Lib.hid hmany
  have HS0 := Lib.hid (And.intro hnp (And.intro hph2 hs0))
  have HPH := Lib.hid hph
  clear hmay hleft hD0 hmany hnp hph2 hs0 hph
  go_wp2_with fail
  refine (left_any q s _ HO.out.1.ok HO.out.cap).mono ?_
  rintro e w3 ⟨rfl, bel⟩
  clear lt_P P_0 P_1 P_2 P_3 P_4
  have t_HO := HO.out.below bel
  clear HO g1
  have HO := Lib.hid t_HO
  clear t_HO
  have t_P := P.out.below bel
  clear P
  have P := Lib.hid t_P
  clear t_P
  have SB4 : Below w.heap.size w w3 := SB3h.out.trans (bel.mono SB3h.out.size)
  clear SB3h
  have SB4h := Lib.hid SB4
  clear SB4 bel
  have lt_P := P.out.lt
  have P_0 := P.out.cell 0
  have P_1 := P.out.cell 1
  have P_2 := P.out.cell 2
  have P_3 := P.out.cell 3
  have P_4 := P.out.cell 4
  simp at P_0 P_1 P_2 P_3 P_4
  have szB_w3 := SB4h.out.size
  rw [leftv_yes HM.out, mayv_yes HM.out, HL.out]
  have HIx := Lib.hid (HI.out.below SB4h.out)
  go_wp2
  go_loop [12, 13] (fun a i => ∃ k : Nat, k ≤ n ∧ i = .int .i64 k ∧ a = .int .i64 (sumTo l k) ∧ ∀ i, i < k → l i ≤ 30) (fun a i => n - (intOf i).toNat)
  case atStart => exact ⟨0, Nat.zero_le _, rfl, rfl, fun i hi => absurd hi (by omega)⟩
  case round =>
    obtain ⟨k, hk, rfl, rfl, h30⟩ := hrel
    have H30 := Lib.hid h30
    clear h30
    have hbS := sumTo_bd HPH.out.2 (k := k) hk
    obtain ⟨T, hT⟩ : ∃ T, sumTo l k = T := ⟨_, rfl⟩
    rw [hT] at hbS ⊢
    have HT := Lib.hid hT
    obtain ⟨hb1, hb2⟩ := hbS
    clear hT
    by_cases hkn : k < n
    · obtain ⟨g, o, rfl, hg, hc⟩ := HIx.out (by omega)
      have c0 := hc k hkn
      obtain ⟨y, hy⟩ : ∃ y, l k = y := ⟨_, rfl⟩
      have hyb := HPH.out.2 k hkn
      rw [hy] at c0 hyb
      have Hy := Lib.hid hy
      obtain ⟨hy1, hy2⟩ := hyb
      clear hy hc
      have hi0 : (0 : Int) ≤ (k : Int) := by omega
      have hi1 : (k : Int) < (n : Int) := by omega
      have hwr : IntKind.i64.wrap (T + y) = T + y := IntWalk.i64_in _ (by omega)
      by_cases hy30 : (30 : Int) < y
      · have g1 : decide ((30 : Int) < y) = true := decide_eq_true hy30
        clear hy30
        go_wp2
        go_ret
        exact ⟨rfl, SB4h.out⟩
      · have g1 : decide ((30 : Int) < y) = false := decide_eq_false hy30
        have Hy30 := Lib.hid hy30
        clear hy30
        go_wp2
        go_round
        case rel => exact ⟨k + 1, by omega, by go_num, by rw [sumTo_succ', HT.out, Hy.out], fun i hi => by rcases Nat.lt_or_ge i k with h | h; exact H30.out i h; (have e : i = k := (by omega); rw [e, Hy.out]; have := Hy30.out; omega)⟩
        case measure => simp [intOf]; omega
    · obtain rfl : n = k := by omega
      rw [HT.out]
      have hwr : IntKind.i64.wrap (2 * T) = 2 * T := IntWalk.i64_in _ (by omega)
      have g1 : (2 * T != 2 * T) = false := bne_self_eq_false _
      go_upto_region 17 with fail
      clear hwr g1
      have H30x := Lib.hid H30.out
      clear lt_P P_0 P_1 P_2 P_3 P_4
      have PA := (P.out.alloc (.cells ZD 56))
      have BA := SB4h.out.alloc SB4h.out.size (.cells ZD 56)
      have OA := HO.out.1.ok.below ((Below.refl w3.heap.size w3).alloc (Nat.le_refl _) (.cells ZD 56))
      have DA := DB.new (hasBlk_new w3 56 ZD)
      have ltP := P.out.lt
      have neG : w2.heap.size ≠ w3.heap.size := Nat.ne_of_lt ltP
      have OI0 : OI n l T w2.heap.size w3.heap.size w 0 s q (fun _ _ => false) 0 (w3.alloc (.cells ZD 56)) :=
        ⟨by omega, Int.le_refl _, HS0.out.2.2, HM.out, by rw [HL.out, HT.out]; simp, HS0.out.1, HS0.out.2.1, HD.out, OA, HO.out.cap, PA, DA, BA⟩
      have HOI := Lib.hid OI0
      have NEG := Lib.hid neG
      have LEP := Lib.hid (show w.heap.size ≤ w2.heap.size by omega)
      have LEG := Lib.hid (show w.heap.size ≤ w3.heap.size by omega)
      clear PA BA OA DA ltP neG OI0
      go_wp2
      simp only [zeroD]
      go_wp2
      go_loopw [15, 16, 17] (fun la ma i wr => ∃ (k : Nat) (s : SD) (q : SP) (D : Nat → Nat → Bool) (x : Int), i = .int .i64 k ∧ la = .int .i64 x ∧ ma = .int .i64 s.many ∧ OI n l T w2.heap.size w3.heap.size w k s q D x wr) (fun la ma i wr => (2 * T).toNat - (intOf i).toNat)
      case atStart => exact ⟨0, s, q, _, 0, rfl, rfl, by rw [HY.out], HOI.out⟩
      case round =>
        clear HOI HO P HM HD HL HY HS0
        obtain ⟨k, s, q, D, x, rfl, rfl, rfl, hoi⟩ := hrel
        have HOI := Lib.hid hoi
        have hkb := hoi.kb
        have hx0 := hoi.x0
        have hxp := hoi.xp
        clear hoi
        by_cases hk2 : (k : Int) < 2 * T
        · have gk : decide ((k : Int) < 2 * T) = true := decide_eq_true hk2
          have hP := Lib.hid HOI.out.blk
          have ltP := hP.out.lt
          have P_0 := hP.out.cell 0
          have P_1 := hP.out.cell 1
          have P_2 := hP.out.cell 2
          have P_3 := hP.out.cell 3
          have P_4 := hP.out.cell 4
          simp at P_0 P_1 P_2 P_3 P_4
          go_wp2_with fail
          refine (ready_any q s _ HOI.out.ok).mono ?_
          rintro e w5 ⟨⟨X, cx, rfl, ho⟩, bel⟩
          have HX := Lib.hid (is_list ho)
          have t_HOI := HOI.out.below bel
          clear HOI
          have HOI := Lib.hid t_HOI
          have hne : s.p ≠ s.np := HOI.out.may.left_pos.1 (by have := HOI.out.left; omega)
          have hrdy := rdyv_yes HOI.out.may
          have hrp := HOI.out.may.ready.2 hne
          rw [← hrdy] at hrp
          have hr64 := rdyv_le s
          rw [mayv_yes HOI.out.may]
          have HME := Lib.hid (show ∀ j, j < (rdyv s).length → (rdyv s).getD j 0 ∈ rdyL s s.nb from fun j hj => by rw [← hrdy]; simp [List.getD, List.getElem?_eq_getElem hj])
          have HNE := Lib.hid hne
          clear t_HOI ho bel hne hrdy hP
          obtain ⟨L, hL⟩ : ∃ L, rdyv s = L := ⟨_, rfl⟩
          obtain ⟨rl, hrl⟩ : ∃ rl, L.length = rl := ⟨_, rfl⟩
          rw [hL, hrl] at HX HME
          rw [hL, hrl] at hrp hr64
          rw [hL, hrl]
          clear hL hrl
          clear ltP P_0 P_1 P_2 P_3 P_4
          have r1 : ((rl : Int) == 0) = false := by simp; omega
          have r2 : ¬ rl = 0 := by omega
          have r3 : decide (rl = 0) = false := decide_eq_false r2
          have r4 : (rl == 0) = false := by simp; omega
          go_upto_if 106 with fail
          go_cut [20] from 104 to 117 (fun s20 wx => wx = w5 ∧ ∃ jj : Nat, jj < rl ∧ s20 = .int .i64 jj)
          case first =>
            by_cases hm0 : m = 0
            · subst hm0
              go_wp2_with fail
              go_meet
              exact ⟨rfl, 0, hrp, rfl⟩
            · have m1 : decide ((0 : Int) < (m : Int)) = true := decide_eq_true (by omega)
              have m2 : 0 < m := by omega
              have m3 : decide (0 < m) = true := decide_eq_true m2
              have m4 : ¬ (m : Int) = 0 := by omega
              obtain ⟨r, hr, hrm⟩ : ∃ r : Nat, (k : Int) % (m : Int) = (r : Int) ∧ r < m := ⟨k % m, by omega, Nat.mod_lt _ m2⟩
              have ⟨g2, o2, hA2, hg2, hc2⟩ := (HP.out.below HOI.out.bel) m2
              subst hA2
              have d0 := hc2 r hrm
              obtain ⟨y, hy⟩ : ∃ y, lp r = y := ⟨_, rfl⟩
              have hyb := hlp r
              rw [hy] at d0 hyb
              have i0 : (0 : Int) ≤ (r : Int) := by omega
              have i1 : (r : Int) < (m : Int) := by omega
              clear hy hc2
              by_cases hy0 : (0 : Int) < y
              · have y1 : decide ((0 : Int) < y) = true := decide_eq_true hy0
                go_wp2_with fail
                go_meet
                exact ⟨rfl, (y % (rl : Int)).toNat, by have := Int.emod_lt_of_pos y (show (0 : Int) < rl by omega); have := Int.emod_nonneg y (show (rl : Int) ≠ 0 by omega); omega, by congr 1; have := Int.emod_nonneg y (show (rl : Int) ≠ 0 by omega); omega⟩
              · have y1 : decide ((0 : Int) < y) = false := decide_eq_false hy0
                go_wp2_with fail
                go_meet
                exact ⟨rfl, 0, hrp, rfl⟩
          case rest =>
            obtain ⟨hw5, jj, hjl, rfl⟩ := hcut
            have hw5' : w5 = wc := hw5.symm
            clear hw5
            subst hw5'
            go_upto_region 28 with fail
            obtain ⟨g3, o3, hA3, lg3, hc3⟩ := HX.out hrp
            subst hA3
            have c3 := hc3 jj hjl
            have hz := HME.out jj hjl
            obtain ⟨z, hzz⟩ : ∃ z, L.getD jj 0 = z := ⟨_, rfl⟩
            dsimp only at c3
            rw [hzz] at c3 hz
            have j0 : (0 : Int) ≤ (jj : Int) := by omega
            have j1 : (jj : Int) < (rl : Int) := by omega
            have Hz := Lib.hid hz
            clear hzz hc3 hz r1 r2 r3 r4
            have hP5 := Lib.hid HOI.out.blk
            have lP5 := HOI.out.blk.lt
            have P_0 := hP5.out.cell 0
            have P_1 := hP5.out.cell 1
            have P_2 := hP5.out.cell 2
            have P_3 := hP5.out.cell 3
            have P_4 := hP5.out.cell 4
            simp at P_0 P_1 P_2 P_3 P_4
            go_cut [21, 22, 23, 24] from 118 to 128 (fun s21 s22 s23 s24 wx => ∃ (Q : Nat) (q2 : SP) (t2 : SD) (u v e : Int), s21 = .pointer (some ⟨Q, 0, none⟩) ∧ s22 = .int .i64 u ∧ s23 = .int .i64 v ∧ s24 = .int .i64 e ∧ w5.heap.size ≤ Q ∧ HasBlk wx Q 25 #[.slice q2.a t2.np q2.ka, .int .i64 t2.p, .int .i64 t2.n, .slice q2.b t2.nb q2.kb, .int .i64 t2.d] ∧ StepV s z t2 u v e ∧ SOwn2 w5.heap.size wx q2 t2 ∧ Below w5.heap.size w5 wx)
            case first =>
              have hstep := Lib.hid (fun W' (hb : Below w5.heap.size w5 W') => step_any q s z W' (HOI.out.ok.below hb))
              have hkp' : ∀ Wa Wb, Below Wa.heap.size Wa Wb → (fun Wo => (Below w5.heap.size w5 Wo ∧ w5.heap.size ≤ Wo.heap.size) ∧ Wo.cell? ⟨w2.heap.size, 0, none⟩ = some (.slice q.a s.np q.ka) ∧ Wo.cell? ⟨w2.heap.size, 1, none⟩ = some (.int .i64 s.p) ∧ Wo.cell? ⟨w2.heap.size, 2, none⟩ = some (.int .i64 s.n) ∧ Wo.cell? ⟨w2.heap.size, 3, none⟩ = some (.slice q.b s.nb q.kb) ∧ Wo.cell? ⟨w2.heap.size, 4, none⟩ = some (.int .i64 s.d) ∧ Wo.cell? ⟨g3, o3 + jj, none⟩ = some (.int .i64 z)) Wa → (fun Wo => (Below w5.heap.size w5 Wo ∧ w5.heap.size ≤ Wo.heap.size) ∧ Wo.cell? ⟨w2.heap.size, 0, none⟩ = some (.slice q.a s.np q.ka) ∧ Wo.cell? ⟨w2.heap.size, 1, none⟩ = some (.int .i64 s.p) ∧ Wo.cell? ⟨w2.heap.size, 2, none⟩ = some (.int .i64 s.n) ∧ Wo.cell? ⟨w2.heap.size, 3, none⟩ = some (.slice q.b s.nb q.kb) ∧ Wo.cell? ⟨w2.heap.size, 4, none⟩ = some (.int .i64 s.d) ∧ Wo.cell? ⟨g3, o3 + jj, none⟩ = some (.int .i64 z)) Wb := fun Wa Wb hb h => ⟨⟨h.1.1.trans (hb.mono h.1.2), Nat.le_trans h.1.2 hb.size⟩, (hb.cell (p := ⟨w2.heap.size, _, none⟩) (Nat.lt_of_lt_of_le lP5 h.1.2)).trans h.2.1, (hb.cell (p := ⟨w2.heap.size, _, none⟩) (Nat.lt_of_lt_of_le lP5 h.1.2)).trans h.2.2.1, (hb.cell (p := ⟨w2.heap.size, _, none⟩) (Nat.lt_of_lt_of_le lP5 h.1.2)).trans h.2.2.2.1, (hb.cell (p := ⟨w2.heap.size, _, none⟩) (Nat.lt_of_lt_of_le lP5 h.1.2)).trans h.2.2.2.2.1, (hb.cell (p := ⟨w2.heap.size, _, none⟩) (Nat.lt_of_lt_of_le lP5 h.1.2)).trans h.2.2.2.2.2.1, (hb.cell (p := ⟨g3, _, none⟩) (Nat.lt_of_lt_of_le lg3 h.1.2)).trans h.2.2.2.2.2.2⟩
              have Hkp := Lib.hid hkp'
              clear hkp'
              have keepS : (fun Wo => (Below w5.heap.size w5 Wo ∧ w5.heap.size ≤ Wo.heap.size) ∧ Wo.cell? ⟨w2.heap.size, 0, none⟩ = some (.slice q.a s.np q.ka) ∧ Wo.cell? ⟨w2.heap.size, 1, none⟩ = some (.int .i64 s.p) ∧ Wo.cell? ⟨w2.heap.size, 2, none⟩ = some (.int .i64 s.n) ∧ Wo.cell? ⟨w2.heap.size, 3, none⟩ = some (.slice q.b s.nb q.kb) ∧ Wo.cell? ⟨w2.heap.size, 4, none⟩ = some (.int .i64 s.d) ∧ Wo.cell? ⟨g3, o3 + jj, none⟩ = some (.int .i64 z)) w5.drew := ⟨⟨(Below.refl _ _).drew, Nat.le_refl _⟩, P_0, P_1, P_2, P_3, P_4, c3⟩
              go_region_held3 (fun Wo => (Below w5.heap.size w5 Wo ∧ w5.heap.size ≤ Wo.heap.size) ∧ Wo.cell? ⟨w2.heap.size, 0, none⟩ = some (.slice q.a s.np q.ka) ∧ Wo.cell? ⟨w2.heap.size, 1, none⟩ = some (.int .i64 s.p) ∧ Wo.cell? ⟨w2.heap.size, 2, none⟩ = some (.int .i64 s.n) ∧ Wo.cell? ⟨w2.heap.size, 3, none⟩ = some (.slice q.b s.nb q.kb) ∧ Wo.cell? ⟨w2.heap.size, 4, none⟩ = some (.int .i64 s.d) ∧ Wo.cell? ⟨g3, o3 + jj, none⟩ = some (.int .i64 z))
                (first | with_reducible exact q3 | with_reducible exact keepS | with_reducible exact Hkp.out _ _ hbel (by assumption) | with_reducible exact Hkp.out _ _ ((Below.refl _ _).alloc (Nat.le_refl _) _) (by assumption) | with_reducible exact q9 | with_reducible exact Hkp.out _ _ ((Below.refl _ _).alloc (Nat.le_refl _) _) q9 | with_reducible exact Hkp.out _ _ ((Below.refl _ _).alloc (Nat.le_refl _) _) keepS | fail "keep")
                (first | (go_at_call 10; (with_reducible refine (hstep.out _ ?_).mono ?_); exact ‹(Below w5.heap.size w5 _ ∧ _) ∧ _›.1.1; have szc := ‹(Below w5.heap.size w5 _ ∧ _) ∧ _›.1.2; rintro e wb ⟨⟨q2, t2, u, v, x2, rfl, hv, ho⟩, hbel⟩; have HV2 := Lib.hid hv; have HO2 := Lib.hid ho; clear hv ho; (first | (have ZS := (hasBlk_new w5 25 #[.slice none 0 0, .int .i64 0, .int .i64 0, .slice none 0 0, .int .i64 0]).drew.below hbel) | skip); have q9 : (fun Wo => (Below w5.heap.size w5 Wo ∧ w5.heap.size ≤ Wo.heap.size) ∧ Wo.cell? ⟨w2.heap.size, 0, none⟩ = some (.slice q.a s.np q.ka) ∧ Wo.cell? ⟨w2.heap.size, 1, none⟩ = some (.int .i64 s.p) ∧ Wo.cell? ⟨w2.heap.size, 2, none⟩ = some (.int .i64 s.n) ∧ Wo.cell? ⟨w2.heap.size, 3, none⟩ = some (.slice q.b s.nb q.kb) ∧ Wo.cell? ⟨w2.heap.size, 4, none⟩ = some (.int .i64 s.d) ∧ Wo.cell? ⟨g3, o3 + jj, none⟩ = some (.int .i64 z)) wb := Hkp.out _ _ hbel (by assumption))
                       | (have e := st5 q2.a t2.np q2.ka t2.p t2.n q2.b t2.nb q2.kb t2.d ZS; simp [go_sem] at e; refine upon_store e ?_; clear e; have q3 : (fun Wo => (Below w5.heap.size w5 Wo ∧ w5.heap.size ≤ Wo.heap.size) ∧ Wo.cell? ⟨w2.heap.size, 0, none⟩ = some (.slice q.a s.np q.ka) ∧ Wo.cell? ⟨w2.heap.size, 1, none⟩ = some (.int .i64 s.p) ∧ Wo.cell? ⟨w2.heap.size, 2, none⟩ = some (.int .i64 s.n) ∧ Wo.cell? ⟨w2.heap.size, 3, none⟩ = some (.slice q.b s.nb q.kb) ∧ Wo.cell? ⟨w2.heap.size, 4, none⟩ = some (.int .i64 s.d) ∧ Wo.cell? ⟨g3, o3 + jj, none⟩ = some (.int .i64 z)) (((((wb.setCell ⟨w5.heap.size, 0, none⟩ (.slice q2.a t2.np q2.ka)).setCell ⟨w5.heap.size, 1, none⟩ (.int .i64 t2.p)).setCell ⟨w5.heap.size, 2, none⟩ (.int .i64 t2.n)).setCell ⟨w5.heap.size, 3, none⟩ (.slice q2.b t2.nb q2.kb)).setCell ⟨w5.heap.size, 4, none⟩ (.int .i64 t2.d)) := ⟨⟨(Below.setCell (p := ⟨w5.heap.size, 4, none⟩) (Below.setCell (p := ⟨w5.heap.size, 3, none⟩) (Below.setCell (p := ⟨w5.heap.size, 2, none⟩) (Below.setCell (p := ⟨w5.heap.size, 1, none⟩) (Below.setCell (p := ⟨w5.heap.size, 0, none⟩) q9.1.1 (show w5.heap.size ≤ w5.heap.size by omega) _) (show w5.heap.size ≤ w5.heap.size by omega) _) (show w5.heap.size ≤ w5.heap.size by omega) _) (show w5.heap.size ≤ w5.heap.size by omega) _) (show w5.heap.size ≤ w5.heap.size by omega) _), by simpa using q9.1.2⟩, (cell_far5 (show w5.heap.size ≠ w2.heap.size by omega) _ _ _ _ _).trans q9.2.1, (cell_far5 (show w5.heap.size ≠ w2.heap.size by omega) _ _ _ _ _).trans q9.2.2.1, (cell_far5 (show w5.heap.size ≠ w2.heap.size by omega) _ _ _ _ _).trans q9.2.2.2.1, (cell_far5 (show w5.heap.size ≠ w2.heap.size by omega) _ _ _ _ _).trans q9.2.2.2.2.1, (cell_far5 (show w5.heap.size ≠ w2.heap.size by omega) _ _ _ _ _).trans q9.2.2.2.2.2.1, (cell_far5 (show w5.heap.size ≠ g3 by omega) _ _ _ _ _).trans q9.2.2.2.2.2.2⟩))
              all_goals (go_wp2_with fail; go_meet; first | ((have _ := ZS; exact ⟨w5.heap.size, q2, t2, u, v, x2, rfl, rfl, rfl, rfl, (by omega), (by have := (HasBlk.set (HasBlk.set (HasBlk.set (HasBlk.set (HasBlk.set ZS 0 (.slice q2.a t2.np q2.ka)) 1 (.int .i64 t2.p)) 2 (.int .i64 t2.n)) 3 (.slice q2.b t2.nb q2.kb)) 4 (.int .i64 t2.d)); simpa using this), HV2.out, SOwn2.base (SOwn2.far (SOwn2.far (SOwn2.far (SOwn2.far (SOwn2.far HO2.out ZS (by decide) 0 (.slice q2.a t2.np q2.ka)) (HasBlk.set ZS 0 (.slice q2.a t2.np q2.ka)) (by decide) 1 (.int .i64 t2.p)) (HasBlk.set (HasBlk.set ZS 0 (.slice q2.a t2.np q2.ka)) 1 (.int .i64 t2.p)) (by decide) 2 (.int .i64 t2.n)) (HasBlk.set (HasBlk.set (HasBlk.set ZS 0 (.slice q2.a t2.np q2.ka)) 1 (.int .i64 t2.p)) 2 (.int .i64 t2.n)) (by decide) 3 (.slice q2.b t2.nb q2.kb)) (HasBlk.set (HasBlk.set (HasBlk.set (HasBlk.set ZS 0 (.slice q2.a t2.np q2.ka)) 1 (.int .i64 t2.p)) 2 (.int .i64 t2.n)) 3 (.slice q2.b t2.nb q2.kb)) (by decide) 4 (.int .i64 t2.d)) (by first | omega | (simp; done) | (simp; omega)), q3.1.1⟩)) | ((have belQ := (Hkp.out _ _ ((Below.refl wb.heap.size wb).alloc (Nat.le_refl _) (.cells #[.slice q2.a t2.np q2.ka, .int .i64 t2.p, .int .i64 t2.n, .slice q2.b t2.nb q2.kb, .int .i64 t2.d] 25)) q9).1.1; exact ⟨wb.heap.size, q2, t2, u, v, x2, rfl, rfl, rfl, rfl, q9.1.2, (by simpa using hasBlk_new wb 25 #[.slice q2.a t2.np q2.ka, .int .i64 t2.p, .int .i64 t2.n, .slice q2.b t2.nb q2.kb, .int .i64 t2.d]), HV2.out, SOwn2.base (HO2.out.below ((Below.refl wb.heap.size wb).alloc (Nat.le_refl _) (.cells #[.slice q2.a t2.np q2.ka, .int .i64 t2.p, .int .i64 t2.n, .slice q2.b t2.nb q2.kb, .int .i64 t2.d] 25))) (by first | omega | (simp; done) | (simp; omega)), belQ⟩)))
            case rest =>
              obtain ⟨w6, rfl⟩ : ∃ w6 : World, w6 = wc := ⟨wc, rfl⟩
              obtain ⟨Qb, q2, t2, u, v, e, rfl, rfl, rfl, rfl, hQ, hblk, hv, ho, hbel⟩ := hcut
              obtain rfl : e = 0 := hv.mem_ok HOI.out.may Hz.out
              have hok := hv.ok HOI.out.may
              have hsm := hv.same
              have hdn := hv.done HOI.out.may HOI.out.done
              have HOI6 := Lib.hid (HOI.out.below hbel)
              have HQ6 := Lib.hid hblk
              have HO6 := Lib.hid ho
              have HP6 := Lib.hid HOI6.out.blk
              have HD6 := Lib.hid HOI6.out.db
              have HB6 := Lib.hid HOI6.out.bel
              have NPQ := Lib.hid (show w2.heap.size ≠ Qb from by omega)
              have Hok := Lib.hid hok
              have Hsm := Lib.hid hsm
              have Hdn := Lib.hid hdn
              have hmb := HOI.out.may.many_bd
              clear hblk ho hv hok hsm hdn hQ hbel P_0 P_1 P_2 P_3 P_4 c3 lP5 lg3 hP5
              have ltP := HP6.out.lt
              have P_0 := HP6.out.cell 0
              have P_1 := HP6.out.cell 1
              have P_2 := HP6.out.cell 2
              have P_3 := HP6.out.cell 3
              have P_4 := HP6.out.cell 4
              have Pf0 := HP6.out.frozen 0
              have Pf1 := HP6.out.frozen 1
              have Pf2 := HP6.out.frozen 2
              have Pf3 := HP6.out.frozen 3
              have Pf4 := HP6.out.frozen 4
              simp at P_0 P_1 P_2 P_3 P_4
              have ltQ := HQ6.out.lt
              have Q_0 := HQ6.out.cell 0
              have Q_1 := HQ6.out.cell 1
              have Q_2 := HQ6.out.cell 2
              have Q_3 := HQ6.out.cell 3
              have Q_4 := HQ6.out.cell 4
              simp at Q_0 Q_1 Q_2 Q_3 Q_4
              go_upto_region 32 with fail
              clear ltP P_0 P_1 P_2 P_3 P_4 Pf0 Pf1 Pf2 Pf3 Pf4
              clear ltQ Q_0 Q_1 Q_2 Q_3 Q_4
              have t1 := (HasBlk.set (HasBlk.set (HasBlk.set (HasBlk.set (HasBlk.set HP6.out 0 (.slice q2.a t2.np q2.ka)) 1 (.int .i64 t2.p)) 2 (.int .i64 t2.n)) 3 (.slice q2.b t2.nb q2.kb)) 4 (.int .i64 t2.d))
              have t2_ := (SOwn2.far (SOwn2.far (SOwn2.far (SOwn2.far (SOwn2.far HO6.out HP6.out (by decide) 0 (.slice q2.a t2.np q2.ka)) (HasBlk.set HP6.out 0 (.slice q2.a t2.np q2.ka)) (by decide) 1 (.int .i64 t2.p)) (HasBlk.set (HasBlk.set HP6.out 0 (.slice q2.a t2.np q2.ka)) 1 (.int .i64 t2.p)) (by decide) 2 (.int .i64 t2.n)) (HasBlk.set (HasBlk.set (HasBlk.set HP6.out 0 (.slice q2.a t2.np q2.ka)) 1 (.int .i64 t2.p)) 2 (.int .i64 t2.n)) (by decide) 3 (.slice q2.b t2.nb q2.kb)) (HasBlk.set (HasBlk.set (HasBlk.set (HasBlk.set HP6.out 0 (.slice q2.a t2.np q2.ka)) 1 (.int .i64 t2.p)) 2 (.int .i64 t2.n)) 3 (.slice q2.b t2.nb q2.kb)) (by decide) 4 (.int .i64 t2.d))
              have t3 := (Below.setCell (p := ⟨w2.heap.size, 4, none⟩) (Below.setCell (p := ⟨w2.heap.size, 3, none⟩) (Below.setCell (p := ⟨w2.heap.size, 2, none⟩) (Below.setCell (p := ⟨w2.heap.size, 1, none⟩) (Below.setCell (p := ⟨w2.heap.size, 0, none⟩) HB6.out LEP.out (.slice q2.a t2.np q2.ka)) LEP.out (.int .i64 t2.p)) LEP.out (.int .i64 t2.n)) LEP.out (.slice q2.b t2.nb q2.kb)) LEP.out (.int .i64 t2.d))
              have t4 := (DB.far (p := ⟨w2.heap.size, 4, none⟩) (DB.far (p := ⟨w2.heap.size, 3, none⟩) (DB.far (p := ⟨w2.heap.size, 2, none⟩) (DB.far (p := ⟨w2.heap.size, 1, none⟩) (DB.far (p := ⟨w2.heap.size, 0, none⟩) HD6.out NEG.out (.slice q2.a t2.np q2.ka)) NEG.out (.int .i64 t2.p)) NEG.out (.int .i64 t2.n)) NEG.out (.slice q2.b t2.nb q2.kb)) NEG.out (.int .i64 t2.d))
              simp only [List.setIfInBounds_toArray, List.set_cons_zero, List.set_cons_succ] at t1
              have gI : IS (((((w6.setCell ⟨w2.heap.size, 0, none⟩ (.slice q2.a t2.np q2.ka)).setCell ⟨w2.heap.size, 1, none⟩ (.int .i64 t2.p)).setCell ⟨w2.heap.size, 2, none⟩ (.int .i64 t2.n)).setCell ⟨w2.heap.size, 3, none⟩ (.slice q2.b t2.nb q2.kb)).setCell ⟨w2.heap.size, 4, none⟩ (.int .i64 t2.d)) A n l := HI.out.below t3
              generalize (((((w6.setCell ⟨w2.heap.size, 0, none⟩ (.slice q2.a t2.np q2.ka)).setCell ⟨w2.heap.size, 1, none⟩ (.int .i64 t2.p)).setCell ⟨w2.heap.size, 2, none⟩ (.int .i64 t2.n)).setCell ⟨w2.heap.size, 3, none⟩ (.slice q2.b t2.nb q2.kb)).setCell ⟨w2.heap.size, 4, none⟩ (.int .i64 t2.d)) = w7 at *
              have HP7 := Lib.hid t1
              have HO7 := Lib.hid t2_
              have HB7 := Lib.hid t3
              have HD7 := Lib.hid t4
              have HI7 := Lib.hid gI
              clear t1 t2_ t3 t4 gI HP6 HO6 HD6 HB6 HQ6 NPQ
              rcases Hdn.out with ⟨rfl, rfl, hd, hmn, hpp⟩ | ⟨a, b, rfl, rfl, hpa, han, hbl, hDf, hall, hd, hmn, hpp⟩
              · have HNEW : OI n l T w2.heap.size w3.heap.size w (k + 1) t2 q2 D x w7 :=
                  ⟨by omega, hx0, by omega, Hok.out.1, by rw [Hok.out.2.1, HOI.out.left]; omega, by rw [Hsm.out.1, HOI.out.np], by rw [Hsm.out.2.1, HOI.out.ph], hd, HO7.out.1.ok, HO7.out.cap, HP7.out, HD7.out, HB7.out⟩
                have Hn := Lib.hid HNEW
                have Hm := Lib.hid hmn
                clear HNEW hd hmn hpp Hdn
                go_wp2
                go_roundw
                case rel => exact ⟨k + 1, t2, q2, D, x, by go_num, rfl, by rw [Hm.out], Hn.out⟩
                case measure => simp [intOf]; omega
              · have hnp := HOI.out.np
                have hph := HOI.out.ph
                rw [hnp] at han
                rw [hph] at hbl hall
                obtain ⟨g4, o4, hA4, hg4, hc4⟩ := HI7.out (by omega)
                have c4 := hc4 a han
                obtain ⟨y, hy⟩ : ∃ y, l a = y := ⟨_, rfl⟩
                have hy30 := H30x.out a han
                rw [hy] at c4 hbl hy30
                have HC4 := Lib.hid hc4
                have HAll := Lib.hid hall
                have HNEWD := Lib.hid hd
                have Hmn := Lib.hid hmn
                have Hpp := Lib.hid hpp
                have cD0 := HD7.out.cell (q := a) (z := b) (by omega) (by omega)
                rw [hDf] at cD0
                have fD0 := HD7.out.frozen (a * 30 + b)
                have ltG := HD7.out.lt
                have b1 : ((b : Int) == -1) = false := by first | (simp; done) | (simp; omega)
                have b2 : decide ((a : Int) < x) = false := decide_eq_false (by omega)
                have b3 : decide ((n : Int) ≤ (a : Int)) = false := decide_eq_false (by omega)
                have b4 : decide ((b : Int) < 0) = false := decide_eq_false (by omega)
                have b5 : decide (y ≤ (b : Int)) = false := decide_eq_false (by omega)
                have b6 : decide (n ≤ a) = false := decide_eq_false (by omega)
                have e0 : (0 : Int) ≤ (a : Int) := by omega
                have e1 : (a : Int) < 12 := by omega
                have e2 : (0 : Int) ≤ (b : Int) := by omega
                have e3 : (b : Int) < 30 := by omega
                have e4 : (a : Int) < (n : Int) := by omega
                have Hpa := Lib.hid hpa
                subst hA4
                clear hc4 hall hd hmn hpp hnp hph hy Hdn hpa hDf
                go_wp2
                go_loop [25] (fun t => ∃ i2 : Nat, i2 ≤ a ∧ t = .int .i64 i2) (fun t => a - (intOf t).toNat)
                case atStart => exact ⟨0, by omega, rfl⟩
                case round =>
                  obtain ⟨i2, hi2', rfl⟩ := hrel
                  by_cases hi2 : i2 < a
                  · have c5 := HC4.out i2 (by omega)
                    obtain ⟨y2, hy2⟩ : ∃ y2, l i2 = y2 := ⟨_, rfl⟩
                    have hy2b := HPH.out.2 i2 (by omega)
                    have hy2c := H30x.out i2 (by omega)
                    rw [hy2] at c5 hy2b hy2c
                    have Hy2 := Lib.hid hy2
                    have f0 : (0 : Int) ≤ (i2 : Int) := by omega
                    have f1 : (i2 : Int) < (n : Int) := by omega
                    clear hy2
                    go_wp2
                    go_loop [26] (fun t => ∃ b2 : Nat, (b2 : Int) ≤ y2 ∧ t = .int .i64 b2) (fun t => 30 - (intOf t).toNat)
                    case atStart => exact ⟨0, by omega, rfl⟩
                    case round =>
                      obtain ⟨b2, hb2, rfl⟩ := hrel
                      by_cases hb3 : (b2 : Int) < y2
                      · have q1 : decide ((b2 : Int) < y2) = true := decide_eq_true hb3
                        have cD := HD7.out.cell (q := i2) (z := b2) (by omega) (by omega)
                        rw [HAll.out i2 b2 hi2 (by rw [Hy2.out]; exact hb3)] at cD
                        have e0 : (0 : Int) ≤ (i2 : Int) := by omega
                        have e1 : (i2 : Int) < 12 := by omega
                        have e2 : (0 : Int) ≤ (b2 : Int) := by omega
                        have e3 : (b2 : Int) < 30 := by omega
                        go_wp2
                        go_round
                        case rel => exact ⟨b2 + 1, by omega, by go_num⟩
                        case measure => simp [intOf]; omega
                      · have q1 : decide ((b2 : Int) < y2) = false := decide_eq_false hb3
                        go_wp2
                        go_round
                        case rel => exact ⟨i2 + 1, by omega, by go_num⟩
                        case measure => simp [intOf]; omega
                  · obtain rfl : a = i2 := by omega
                    have HNEW : OI n l T w2.heap.size w3.heap.size w (k + 1) t2 q2 (updD D a b) a (w7.setCell ⟨w3.heap.size, a * 30 + b, none⟩ (.bool true)) :=
                      ⟨by omega, by omega, by have := Hpp.out; have := Hpa.out; omega, Hok.out.1, by rw [Hok.out.2.1, HOI.out.left]; omega, by rw [Hsm.out.1, HOI.out.np], by rw [Hsm.out.2.1, HOI.out.ph], HNEWD.out, (HD7.out.own HO7.out _ _).1.ok, HO7.out.cap, HP7.out.far (p := ⟨w3.heap.size, a * 30 + b, none⟩) (Ne.symm NEG.out) _, HD7.out.set (by omega) (by omega), Below.setCell (p := ⟨w3.heap.size, a * 30 + b, none⟩) HB7.out LEG.out _⟩
                    have Hn := Lib.hid HNEW
                    clear HNEW
                    go_wp2
                    go_roundw
                    case rel => exact ⟨k + 1, t2, q2, updD D a b, a, by go_num, rfl, by first | (rw [Hmn.out]; done) | (rw [Hmn.out]; go_num), Hn.out⟩
                    case measure => simp [intOf]; omega
        · have gk : decide ((k : Int) < 2 * T) = false := decide_eq_false hk2
          have hk3 : (k : Int) = 2 * T := by omega
          have hend : s.p = s.np := Classical.byContradiction fun h => by
            have h1 := HOI.out.may.left_pos.2 h
            have h2 := HOI.out.left
            omega
          have hmany : s.many = T := by rw [HOI.out.may.many_end hend, HOI.out.np, HOI.out.ph, HT.out]
          rw [hmany]
          have HE := Lib.hid (show endB s = true from cB_yes ⟨HOI.out.may, hend⟩)
          have hP := Lib.hid HOI.out.blk
          clear hk2 hk3 hend hmany
          have ltP := hP.out.lt
          have P_0 := hP.out.cell 0
          have P_1 := hP.out.cell 1
          have P_2 := hP.out.cell 2
          have P_3 := hP.out.cell 3
          have P_4 := hP.out.cell 4
          simp at P_0 P_1 P_2 P_3 P_4
          go_wp2_with fail
          refine (ended_any q s _ HOI.out.ok).mono ?_
          rintro e w9 ⟨rfl, bel⟩
          rw [HE.out, mayv_yes HOI.out.may]
          have HB9 := Lib.hid (HOI.out.bel.trans (bel.mono HOI.out.bel.size))
          clear bel
          go_wp2
          go_ret
          exact ⟨rfl, HB9.out⟩
theorem schedOnce_arg (v0 v1 v2 : Value) (w : World) (h0 : Arg Try.prog w 3 v0) (h1 : Arg Try.prog w 23 v1) (h2 : Arg Try.prog w 23 v2) : Calls Try.prog 6 #[v0, v1, v2] w fun e w' => e = .returned (.bool true) ∧ Below w.heap.size w w' := by
  obtain ⟨x, rfl⟩ := arg_int h0
  obtain ⟨A, n, c, l, rfl, _, _, hI⟩ := arg_ints Try.underlying23 Try.underlying3 cells_int h1
  obtain ⟨A2, m, c2, lp, rfl, hm, hlp, hP⟩ := arg_ints Try.underlying23 Try.underlying3 cells_int h2
  exact schedOnce_walk x A n c l A2 m c2 lp w hI hP (by have := hm.1; have := hm.2; unfold maxLen at *; omega) hlp
end Go.Proofs.Ytdilfcpgjkkjmaa
