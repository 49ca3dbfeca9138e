/- sched: SchedSteps. -/
import Derived.Test.YtdilfcpgjkkjmaaS12
import Derived.Test.YtdilfcpgjkkjmaaSpo
import Derived.Test.YtdilfcpgjkkjmaaApp
namespace Go.Proofs.Ytdilfcpgjkkjmaa
open Go.RowKit
set_option linter.unusedVariables false
theorem StepV.bd {s t : SD} {x u v e : Int} (h : StepV s x t u v e) : t.np ≤ s.np ∧ t.nb ≤ s.nb := by
  rcases h with ⟨_, rfl, _⟩ | ⟨_, _, rfl, _⟩ | ⟨_, k, _, _, h⟩
  · exact ⟨Nat.zero_le _, Nat.zero_le _⟩
  · exact ⟨Nat.zero_le _, Nat.zero_le _⟩
  · rcases h with ⟨_, rfl, _⟩ | ⟨_, _, rfl, _⟩ | ⟨_, _, _, rfl, _⟩ | ⟨_, _, _, ⟨j, _, rfl⟩, _⟩
    · exact ⟨Nat.zero_le _, Nat.zero_le _⟩
    · exact ⟨Nat.le_refl _, Nat.le_refl _⟩
    · exact ⟨Nat.le_refl _, Nat.le_refl _⟩
    · exact ⟨Nat.le_refl _, Nat.le_refl _⟩
theorem NewV.bd {t : SD} {wn e : Int} {np : Nat} {ph : Nat → Int} (h : NewV wn np ph t e) : t.np ≤ np ∧ t.nb ≤ 64 := by
  rcases h with ⟨_, rfl, _⟩ | ⟨hw, h⟩
  · exact ⟨Nat.zero_le _, Nat.zero_le _⟩
  · rcases h with ⟨_, _, rfl⟩ | ⟨_, _, j, _, rfl⟩
    · exact ⟨Nat.zero_le _, Nat.zero_le _⟩
    · refine ⟨Nat.le_refl _, ?_⟩
      show wn.toNat ≤ 64
      omega
theorem SD.Same.rfl' (s : SD) : s.Same s := ⟨⟨rfl, fun _ _ => rfl⟩, rfl, rfl, ⟨rfl, fun _ _ => rfl⟩, rfl⟩
theorem SOwn2.ok3 {B : Nat} {w : World} {p : SP} {s : SD} (h : SOwn2 B w p s) : SOk w p s := h.1.ok
/-- The blocks of two pools' lists that are spoilt. -/
def PS (q a : SP) (t ta : SD) (g : Nat) : Prop :=
  (Value.slice q.b t.nb q.kb).ownBlock = some g ∨ (Value.slice q.a t.np q.ka).ownBlock = some g ∨ (Value.slice a.a ta.np a.ka).ownBlock = some g
theorem ps_ge {B B1 B2 : Nat} {w : World} {q a : SP} {t ta : SD} (h : SOwn2 B1 w q t) (k : SOwn2 B2 w a ta) (h1 : B ≤ B1) (h2 : B ≤ B2) : ∀ g, PS q a t ta g → B ≤ g := by
  rintro g (hg | hg | hg)
  · exact Nat.le_trans h1 (h.1.2.lt g hg).1
  · exact Nat.le_trans h1 (h.1.1.lt g hg).1
  · exact Nat.le_trans h2 (k.1.1.lt g hg).1
theorem ps_blk {B1 B2 : Nat} {w : World} {q a : SP} {t ta : SD} (h : SOwn2 B1 w q t) (k : SOwn2 B2 w a ta) {g : Nat} {ty : TypeId} {cs : Array Value} (hb : HasBlk w g ty cs) (h1 : 3 ≠ ty) : ¬ PS q a t ta g := by
  rintro (hg | hg | hg)
  · exact hb.ne_own h.1.2 h1 hg
  · exact hb.ne_own h.1.1 h1 hg
  · exact hb.ne_own k.1.1 h1 hg

set_option maxRecDepth 100000 in
set_option maxHeartbeats 16000000 in
theorem schedSteps_walk (p : SP) (s : SD) (wk : Int) (A : Option Addr) (n c : Nat) (l : Nat → Int) (w : World) (h : SOk w p s) (hI : IS w A n l) :
    Calls Try.prog 4 #[.agg #[.slice p.a s.np p.ka, .int .i64 s.p, .int .i64 s.n, .slice p.b s.nb p.kb, .int .i64 s.d], .int .i64 wk, .slice A n c] w fun e w' => e = .returned (.bool true) ∧ Below w.heap.size w w' := by
  have HS := Lib.hid h
  have HI := Lib.hid hI
  clear h hI
  go_enter Try.func4, Try.ntmps4
  go_wp2_with fail
  have s_Pb : HasBlk (w.alloc (.cells #[.slice p.a s.np p.ka, .int .i64 s.p, .int .i64 s.n, .slice p.b s.nb p.kb, .int .i64 s.d] 25)) (w.heap.size) 25 #[.slice p.a s.np p.ka, .int .i64 s.p, .int .i64 s.n, .slice p.b s.nb p.kb, .int .i64 s.d] := by simpa using hasBlk_new w 25 #[.slice p.a s.np p.ka, .int .i64 s.p, .int .i64 s.n, .slice p.b s.nb p.kb, .int .i64 s.d]
  have t_Pb : HasBlk (w.alloc (.cells #[.slice p.a s.np p.ka, .int .i64 s.p, .int .i64 s.n, .slice p.b s.nb p.kb, .int .i64 s.d] 25)) (w.heap.size) 25 #[.slice p.a s.np p.ka, .int .i64 s.p, .int .i64 s.n, .slice p.b s.nb p.kb, .int .i64 s.d] := by simpa using s_Pb
  clear s_Pb
  have SB1 : Below w.heap.size w (w.alloc (.cells #[.slice p.a s.np p.ka, .int .i64 s.p, .int .i64 s.n, .slice p.b s.nb p.kb, .int .i64 s.d] 25)) := by
    repeat' (first | exact Below.refl _ _ | assumption | apply Below.drew | refine Below.setCell ?_ (by first | omega | (simp; done) | (simp; omega)) _ | refine Below.alloc ?_ (by first | omega | (simp; done) | (simp; omega)) _)
  generalize gW_v0 : (w.alloc (.cells #[.slice p.a s.np p.ka, .int .i64 s.p, .int .i64 s.n, .slice p.b s.nb p.kb, .int .i64 s.d] 25)) = v0 at *
  clear gW_v0
  have Pb := Lib.hid t_Pb
  clear t_Pb
  have SB1h := Lib.hid SB1
  clear SB1
  have lt_Pb := Pb.out.lt
  have Pb_0 := Pb.out.cell 0
  have Pb_1 := Pb.out.cell 1
  have Pb_2 := Pb.out.cell 2
  have Pb_3 := Pb.out.cell 3
  have Pb_4 := Pb.out.cell 4
  simp at Pb_0 Pb_1 Pb_2 Pb_3 Pb_4
  have szB_v0 := SB1h.out.size
  refine (great_any p s _).mono ?_
  rintro e w1 ⟨rfl, bel⟩
  clear lt_Pb Pb_0 Pb_1 Pb_2 Pb_3 Pb_4
  have t_Pb := Pb.out.below bel
  clear Pb
  have Pb := Lib.hid t_Pb
  clear t_Pb
  have SB2 : Below w.heap.size w w1 := SB1h.out.trans (bel.mono SB1h.out.size)
  clear SB1h
  have SB2h := Lib.hid SB2
  clear SB2 bel
  have lt_Pb := Pb.out.lt
  have Pb_0 := Pb.out.cell 0
  have Pb_1 := Pb.out.cell 1
  have Pb_2 := Pb.out.cell 2
  have Pb_3 := Pb.out.cell 3
  have Pb_4 := Pb.out.cell 4
  simp at Pb_0 Pb_1 Pb_2 Pb_3 Pb_4
  have szB_w1 := SB2h.out.size
  by_cases hg : s.Great
  · have gg := cB_yes hg
    clear hg
    go_wp2
    go_ret
    exact ⟨rfl, SB2h.out⟩
  have gg := cB_no hg
  have hs1 : s.np ≤ 100 := by unfold SD.Great at hg; omega
  have hs2 : s.nb ≤ 200 := by unfold SD.Great at hg; omega
  clear hg
  by_cases hn : (100 : Int) < (n : Int)
  · have gn : decide ((100 : Int) < (n : Int)) = true := decide_eq_true hn
    clear hn
    go_wp2
    go_ret
    exact ⟨rfl, SB2h.out⟩
  have gn : decide ((100 : Int) < (n : Int)) = false := decide_eq_false hn
  have hn1 : n ≤ 100 := by omega
  clear hn
  go_wp2_with fail
  refine (twin_any p s _ (HS.out.below SB2h.out) (by omega) (by omega)).mono ?_
  rintro e w2 ⟨⟨o, rfl, ho⟩, bel⟩
  clear lt_Pb Pb_0 Pb_1 Pb_2 Pb_3 Pb_4
  have HO := Lib.hid ho
  clear ho gg gn
  have t_Pb := Pb.out.below bel
  clear Pb
  have Pb := Lib.hid t_Pb
  clear t_Pb
  have SB3 : Below w.heap.size w w2 := SB2h.out.trans (bel.mono SB2h.out.size)
  clear SB2h
  have SB3h := Lib.hid SB3
  clear SB3 bel
  have lt_Pb := Pb.out.lt
  have Pb_0 := Pb.out.cell 0
  have Pb_1 := Pb.out.cell 1
  have Pb_2 := Pb.out.cell 2
  have Pb_3 := Pb.out.cell 3
  have Pb_4 := Pb.out.cell 4
  simp at Pb_0 Pb_1 Pb_2 Pb_3 Pb_4
  have szB_w2 := SB3h.out.size
  go_upto_region 4 with fail
  have t_HO := HO.out.below (((Below.refl w2.heap.size w2).alloc (Nat.le_refl _) (.cells #[.slice o.a s.np o.ka, .int .i64 s.p, .int .i64 s.n, .slice o.b s.nb o.kb, .int .i64 s.d] 25)))
  clear HO
  have HO := Lib.hid t_HO
  clear t_HO
  have NE_Pb_Ob := Lib.hid (show w.heap.size ≠ w2.heap.size by omega)
  have s_Pb := Pb.out
  replace s_Pb := s_Pb.alloc (.cells #[.slice o.a s.np o.ka, .int .i64 s.p, .int .i64 s.n, .slice o.b s.nb o.kb, .int .i64 s.d] 25)
  have s_Ob : HasBlk (w2.alloc (.cells #[.slice o.a s.np o.ka, .int .i64 s.p, .int .i64 s.n, .slice o.b s.nb o.kb, .int .i64 s.d] 25)) (w2.heap.size) 25 #[.slice o.a s.np o.ka, .int .i64 s.p, .int .i64 s.n, .slice o.b s.nb o.kb, .int .i64 s.d] := by simpa using hasBlk_new w2 25 #[.slice o.a s.np o.ka, .int .i64 s.p, .int .i64 s.n, .slice o.b s.nb o.kb, .int .i64 s.d]
  have t_Pb : HasBlk (w2.alloc (.cells #[.slice o.a s.np o.ka, .int .i64 s.p, .int .i64 s.n, .slice o.b s.nb o.kb, .int .i64 s.d] 25)) (w.heap.size) 25 #[.slice p.a s.np p.ka, .int .i64 s.p, .int .i64 s.n, .slice p.b s.nb p.kb, .int .i64 s.d] := by simpa using s_Pb
  clear s_Pb Pb
  have t_Ob : HasBlk (w2.alloc (.cells #[.slice o.a s.np o.ka, .int .i64 s.p, .int .i64 s.n, .slice o.b s.nb o.kb, .int .i64 s.d] 25)) (w2.heap.size) 25 #[.slice o.a s.np o.ka, .int .i64 s.p, .int .i64 s.n, .slice o.b s.nb o.kb, .int .i64 s.d] := by simpa using s_Ob
  clear s_Ob
  have SB4 : Below w.heap.size w (w2.alloc (.cells #[.slice o.a s.np o.ka, .int .i64 s.p, .int .i64 s.n, .slice o.b s.nb o.kb, .int .i64 s.d] 25)) := by
    have bel0 := SB3h.out
    repeat' (first | exact Below.refl _ _ | assumption | apply Below.drew | refine Below.setCell ?_ (by first | omega | (simp; done) | (simp; omega)) _ | refine Below.alloc ?_ (by first | omega | (simp; done) | (simp; omega)) _)
  clear lt_Pb Pb_0 Pb_1 Pb_2 Pb_3 Pb_4
  generalize gW_v1 : (w2.alloc (.cells #[.slice o.a s.np o.ka, .int .i64 s.p, .int .i64 s.n, .slice o.b s.nb o.kb, .int .i64 s.d] 25)) = v1 at *
  clear gW_v1
  have Pb := Lib.hid t_Pb
  clear t_Pb
  have Ob := Lib.hid t_Ob
  clear t_Ob
  clear SB3h
  have SB4h := Lib.hid SB4
  clear SB4
  have lt_Pb := Pb.out.lt
  have Pb_0 := Pb.out.cell 0
  have Pb_1 := Pb.out.cell 1
  have Pb_2 := Pb.out.cell 2
  have Pb_3 := Pb.out.cell 3
  have Pb_4 := Pb.out.cell 4
  simp at Pb_0 Pb_1 Pb_2 Pb_3 Pb_4
  have lt_Ob := Ob.out.lt
  have Ob_0 := Ob.out.cell 0
  have Ob_1 := Ob.out.cell 1
  have Ob_2 := Ob.out.cell 2
  have Ob_3 := Ob.out.cell 3
  have Ob_4 := Ob.out.cell 4
  simp at Ob_0 Ob_1 Ob_2 Ob_3 Ob_4
  have szB_v1 := SB4h.out.size
  obtain ⟨i0, hi0, hz0, hz1, hz2⟩ := info_parts int_info
  have hnews := (is_row (HI.out.below SB4h.out)).news (by omega)
  go_wp2_with (at_builtin; refine wpList_app rfl (.const (.slice none 0 0)) (.tmp 45) 23 rfl v1.heap.size 3 i0 _ 1 8 Try.underlying23 hi0 hz0 hz1 hz2 rfl (by omega) none 0 0 [] rfl (own_nil _ _ 3 1) A n c (cellsR 1 (ivR l) n) rfl (cellsR_len 1 _ _) hnews (cellsR_one (fun _ _ => rfl) _) (by unfold maxLen; omega) (by omega) (by omega) ?_; intro A1 d1 w3 hown hgr; simp only [Nat.zero_add, List.nil_append] at hown ⊢; have bel : Below v1.heap.size v1 w3 := below_grown (v := .slice none 0 0) (base := v1.heap.size) (Below.refl _ _) hgr (own_nil _ _ 3 1) (Nat.le_refl _) (by simp); clear hgr hnews hi0 hz0 hz1 hz2)
  clear lt_Pb Pb_0 Pb_1 Pb_2 Pb_3 Pb_4 lt_Ob Ob_0 Ob_1 Ob_2 Ob_3 Ob_4
  have t_HO := HO.out.below (bel)
  clear HO
  have HO := Lib.hid t_HO
  clear t_HO
  have HN := Lib.hid (is_own hown)
  clear hown
  have t_Pb := Pb.out.below bel
  clear Pb
  have Pb := Lib.hid t_Pb
  clear t_Pb
  have t_Ob := Ob.out.below bel
  clear Ob
  have Ob := Lib.hid t_Ob
  clear t_Ob
  have SB5 : Below w.heap.size w w3 := SB4h.out.trans (bel.mono SB4h.out.size)
  clear SB4h
  have SB5h := Lib.hid SB5
  clear SB5 bel
  have lt_Pb := Pb.out.lt
  have Pb_0 := Pb.out.cell 0
  have Pb_1 := Pb.out.cell 1
  have Pb_2 := Pb.out.cell 2
  have Pb_3 := Pb.out.cell 3
  have Pb_4 := Pb.out.cell 4
  simp at Pb_0 Pb_1 Pb_2 Pb_3 Pb_4
  have lt_Ob := Ob.out.lt
  have Ob_0 := Ob.out.cell 0
  have Ob_1 := Ob.out.cell 1
  have Ob_2 := Ob.out.cell 2
  have Ob_3 := Ob.out.cell 3
  have Ob_4 := Ob.out.cell 4
  simp at Ob_0 Ob_1 Ob_2 Ob_3 Ob_4
  have szB_w3 := SB5h.out.size
  have HO5 := Lib.hid HO.out
  have HN5 := Lib.hid HN.out
  have HBN := Lib.hid (Below.refl w3.heap.size w3)
  have HB5 := Lib.hid SB5h.out
  go_wp2_with fail
  refine (new_any wk A1 n d1 l _ HN.out).mono ?_
  rintro e w4 ⟨⟨a, ta, ea, rfl, hva, ha⟩, bel⟩
  clear lt_Pb Pb_0 Pb_1 Pb_2 Pb_3 Pb_4 lt_Ob Ob_0 Ob_1 Ob_2 Ob_3 Ob_4
  have t_HO := HO.out.below (bel)
  clear HO
  have HO := Lib.hid t_HO
  clear t_HO
  have t_HN := HN.out.below (bel)
  clear HN
  have HN := Lib.hid t_HN
  clear t_HN
  have t_HBN := HBN.out.trans ((bel).mono HBN.out.size)
  clear HBN
  have HBN := Lib.hid t_HBN
  clear t_HBN
  have HA := Lib.hid ha
  have HVA := Lib.hid hva
  clear ha hva
  have t_Pb := Pb.out.below bel
  clear Pb
  have Pb := Lib.hid t_Pb
  clear t_Pb
  have t_Ob := Ob.out.below bel
  clear Ob
  have Ob := Lib.hid t_Ob
  clear t_Ob
  have SB6 : Below w.heap.size w w4 := SB5h.out.trans (bel.mono SB5h.out.size)
  clear SB5h
  have SB6h := Lib.hid SB6
  clear SB6 bel
  have lt_Pb := Pb.out.lt
  have Pb_0 := Pb.out.cell 0
  have Pb_1 := Pb.out.cell 1
  have Pb_2 := Pb.out.cell 2
  have Pb_3 := Pb.out.cell 3
  have Pb_4 := Pb.out.cell 4
  simp at Pb_0 Pb_1 Pb_2 Pb_3 Pb_4
  have lt_Ob := Ob.out.lt
  have Ob_0 := Ob.out.cell 0
  have Ob_1 := Ob.out.cell 1
  have Ob_2 := Ob.out.cell 2
  have Ob_3 := Ob.out.cell 3
  have Ob_4 := Ob.out.cell 4
  simp at Ob_0 Ob_1 Ob_2 Ob_3 Ob_4
  have szB_w4 := SB6h.out.size
  go_wp2_with fail
  have t_HO := HO.out.below (((Below.refl w4.heap.size w4).alloc (Nat.le_refl _) (.cells #[.slice a.a ta.np a.ka, .int .i64 ta.p, .int .i64 ta.n, .slice a.b ta.nb a.kb, .int .i64 ta.d] 25)))
  clear HO
  have HO := Lib.hid t_HO
  clear t_HO
  have t_HN := HN.out.below (((Below.refl w4.heap.size w4).alloc (Nat.le_refl _) (.cells #[.slice a.a ta.np a.ka, .int .i64 ta.p, .int .i64 ta.n, .slice a.b ta.nb a.kb, .int .i64 ta.d] 25)))
  clear HN
  have HN := Lib.hid t_HN
  clear t_HN
  have t_HBN := HBN.out.trans ((((Below.refl w4.heap.size w4).alloc (Nat.le_refl _) (.cells #[.slice a.a ta.np a.ka, .int .i64 ta.p, .int .i64 ta.n, .slice a.b ta.nb a.kb, .int .i64 ta.d] 25))).mono HBN.out.size)
  clear HBN
  have HBN := Lib.hid t_HBN
  clear t_HBN
  have t_HA := HA.out.below (((Below.refl w4.heap.size w4).alloc (Nat.le_refl _) (.cells #[.slice a.a ta.np a.ka, .int .i64 ta.p, .int .i64 ta.n, .slice a.b ta.nb a.kb, .int .i64 ta.d] 25)))
  clear HA
  have HA := Lib.hid t_HA
  clear t_HA
  have NE_Pb_Ab := Lib.hid (show w.heap.size ≠ w4.heap.size by omega)
  have NE_Ob_Ab := Lib.hid (show w2.heap.size ≠ w4.heap.size by omega)
  have s_Pb := Pb.out
  have s_Ob := Ob.out
  replace s_Pb := s_Pb.alloc (.cells #[.slice a.a ta.np a.ka, .int .i64 ta.p, .int .i64 ta.n, .slice a.b ta.nb a.kb, .int .i64 ta.d] 25)
  replace s_Ob := s_Ob.alloc (.cells #[.slice a.a ta.np a.ka, .int .i64 ta.p, .int .i64 ta.n, .slice a.b ta.nb a.kb, .int .i64 ta.d] 25)
  have s_Ab : HasBlk (w4.alloc (.cells #[.slice a.a ta.np a.ka, .int .i64 ta.p, .int .i64 ta.n, .slice a.b ta.nb a.kb, .int .i64 ta.d] 25)) (w4.heap.size) 25 #[.slice a.a ta.np a.ka, .int .i64 ta.p, .int .i64 ta.n, .slice a.b ta.nb a.kb, .int .i64 ta.d] := by simpa using hasBlk_new w4 25 #[.slice a.a ta.np a.ka, .int .i64 ta.p, .int .i64 ta.n, .slice a.b ta.nb a.kb, .int .i64 ta.d]
  have t_Pb : HasBlk (w4.alloc (.cells #[.slice a.a ta.np a.ka, .int .i64 ta.p, .int .i64 ta.n, .slice a.b ta.nb a.kb, .int .i64 ta.d] 25)) (w.heap.size) 25 #[.slice p.a s.np p.ka, .int .i64 s.p, .int .i64 s.n, .slice p.b s.nb p.kb, .int .i64 s.d] := by simpa using s_Pb
  clear s_Pb Pb
  have t_Ob : HasBlk (w4.alloc (.cells #[.slice a.a ta.np a.ka, .int .i64 ta.p, .int .i64 ta.n, .slice a.b ta.nb a.kb, .int .i64 ta.d] 25)) (w2.heap.size) 25 #[.slice o.a s.np o.ka, .int .i64 s.p, .int .i64 s.n, .slice o.b s.nb o.kb, .int .i64 s.d] := by simpa using s_Ob
  clear s_Ob Ob
  have t_Ab : HasBlk (w4.alloc (.cells #[.slice a.a ta.np a.ka, .int .i64 ta.p, .int .i64 ta.n, .slice a.b ta.nb a.kb, .int .i64 ta.d] 25)) (w4.heap.size) 25 #[.slice a.a ta.np a.ka, .int .i64 ta.p, .int .i64 ta.n, .slice a.b ta.nb a.kb, .int .i64 ta.d] := by simpa using s_Ab
  clear s_Ab
  have SB7 : Below w.heap.size w (w4.alloc (.cells #[.slice a.a ta.np a.ka, .int .i64 ta.p, .int .i64 ta.n, .slice a.b ta.nb a.kb, .int .i64 ta.d] 25)) := by
    have bel0 := SB6h.out
    repeat' (first | exact Below.refl _ _ | assumption | apply Below.drew | refine Below.setCell ?_ (by first | omega | (simp; done) | (simp; omega)) _ | refine Below.alloc ?_ (by first | omega | (simp; done) | (simp; omega)) _)
  clear lt_Pb Pb_0 Pb_1 Pb_2 Pb_3 Pb_4 lt_Ob Ob_0 Ob_1 Ob_2 Ob_3 Ob_4
  generalize gW_v2 : (w4.alloc (.cells #[.slice a.a ta.np a.ka, .int .i64 ta.p, .int .i64 ta.n, .slice a.b ta.nb a.kb, .int .i64 ta.d] 25)) = v2 at *
  clear gW_v2
  have Pb := Lib.hid t_Pb
  clear t_Pb
  have Ob := Lib.hid t_Ob
  clear t_Ob
  have Ab := Lib.hid t_Ab
  clear t_Ab
  clear SB6h
  have SB7h := Lib.hid SB7
  clear SB7
  have lt_Pb := Pb.out.lt
  have Pb_0 := Pb.out.cell 0
  have Pb_1 := Pb.out.cell 1
  have Pb_2 := Pb.out.cell 2
  have Pb_3 := Pb.out.cell 3
  have Pb_4 := Pb.out.cell 4
  simp at Pb_0 Pb_1 Pb_2 Pb_3 Pb_4
  have lt_Ob := Ob.out.lt
  have Ob_0 := Ob.out.cell 0
  have Ob_1 := Ob.out.cell 1
  have Ob_2 := Ob.out.cell 2
  have Ob_3 := Ob.out.cell 3
  have Ob_4 := Ob.out.cell 4
  simp at Ob_0 Ob_1 Ob_2 Ob_3 Ob_4
  have lt_Ab := Ab.out.lt
  have Ab_0 := Ab.out.cell 0
  have Ab_1 := Ab.out.cell 1
  have Ab_2 := Ab.out.cell 2
  have Ab_3 := Ab.out.cell 3
  have Ab_4 := Ab.out.cell 4
  simp at Ab_0 Ab_1 Ab_2 Ab_3 Ab_4
  have szB_v2 := SB7h.out.size
  go_wp2_with fail
  refine (refnew_any wk A n c l _ (HI.out.below SB7h.out)).mono ?_
  rintro e w5 ⟨⟨b, tb, eb, rfl, hvb, hb⟩, bel⟩
  clear lt_Pb Pb_0 Pb_1 Pb_2 Pb_3 Pb_4 lt_Ob Ob_0 Ob_1 Ob_2 Ob_3 Ob_4 lt_Ab Ab_0 Ab_1 Ab_2 Ab_3 Ab_4
  have t_HO := HO.out.below (bel)
  clear HO
  have HO := Lib.hid t_HO
  clear t_HO
  have t_HN := HN.out.below (bel)
  clear HN
  have HN := Lib.hid t_HN
  clear t_HN
  have t_HBN := HBN.out.trans ((bel).mono HBN.out.size)
  clear HBN
  have HBN := Lib.hid t_HBN
  clear t_HBN
  have t_HA := HA.out.below (bel)
  clear HA
  have HA := Lib.hid t_HA
  clear t_HA
  obtain ⟨rfl, rfl⟩ := NewV.fn HVA.out hvb
  have HVA := Lib.hid hvb
  have HBo := Lib.hid hb
  clear hb hvb
  have t_Pb := Pb.out.below bel
  clear Pb
  have Pb := Lib.hid t_Pb
  clear t_Pb
  have t_Ob := Ob.out.below bel
  clear Ob
  have Ob := Lib.hid t_Ob
  clear t_Ob
  have t_Ab := Ab.out.below bel
  clear Ab
  have Ab := Lib.hid t_Ab
  clear t_Ab
  have SB8 : Below w.heap.size w w5 := SB7h.out.trans (bel.mono SB7h.out.size)
  clear SB7h
  have SB8h := Lib.hid SB8
  clear SB8 bel
  have lt_Pb := Pb.out.lt
  have Pb_0 := Pb.out.cell 0
  have Pb_1 := Pb.out.cell 1
  have Pb_2 := Pb.out.cell 2
  have Pb_3 := Pb.out.cell 3
  have Pb_4 := Pb.out.cell 4
  simp at Pb_0 Pb_1 Pb_2 Pb_3 Pb_4
  have lt_Ob := Ob.out.lt
  have Ob_0 := Ob.out.cell 0
  have Ob_1 := Ob.out.cell 1
  have Ob_2 := Ob.out.cell 2
  have Ob_3 := Ob.out.cell 3
  have Ob_4 := Ob.out.cell 4
  simp at Ob_0 Ob_1 Ob_2 Ob_3 Ob_4
  have lt_Ab := Ab.out.lt
  have Ab_0 := Ab.out.cell 0
  have Ab_1 := Ab.out.cell 1
  have Ab_2 := Ab.out.cell 2
  have Ab_3 := Ab.out.cell 3
  have Ab_4 := Ab.out.cell 4
  simp at Ab_0 Ab_1 Ab_2 Ab_3 Ab_4
  have szB_w5 := SB8h.out.size
  go_wp2_with fail
  have t_HO := HO.out.below (((Below.refl w5.heap.size w5).alloc (Nat.le_refl _) (.cells #[.slice b.a tb.np b.ka, .int .i64 tb.p, .int .i64 tb.n, .slice b.b tb.nb b.kb, .int .i64 tb.d] 25)))
  clear HO
  have HO := Lib.hid t_HO
  clear t_HO
  have t_HN := HN.out.below (((Below.refl w5.heap.size w5).alloc (Nat.le_refl _) (.cells #[.slice b.a tb.np b.ka, .int .i64 tb.p, .int .i64 tb.n, .slice b.b tb.nb b.kb, .int .i64 tb.d] 25)))
  clear HN
  have HN := Lib.hid t_HN
  clear t_HN
  have t_HBN := HBN.out.trans ((((Below.refl w5.heap.size w5).alloc (Nat.le_refl _) (.cells #[.slice b.a tb.np b.ka, .int .i64 tb.p, .int .i64 tb.n, .slice b.b tb.nb b.kb, .int .i64 tb.d] 25))).mono HBN.out.size)
  clear HBN
  have HBN := Lib.hid t_HBN
  clear t_HBN
  have t_HA := HA.out.below (((Below.refl w5.heap.size w5).alloc (Nat.le_refl _) (.cells #[.slice b.a tb.np b.ka, .int .i64 tb.p, .int .i64 tb.n, .slice b.b tb.nb b.kb, .int .i64 tb.d] 25)))
  clear HA
  have HA := Lib.hid t_HA
  clear t_HA
  have t_HBo := HBo.out.below (((Below.refl w5.heap.size w5).alloc (Nat.le_refl _) (.cells #[.slice b.a tb.np b.ka, .int .i64 tb.p, .int .i64 tb.n, .slice b.b tb.nb b.kb, .int .i64 tb.d] 25)))
  clear HBo
  have HBo := Lib.hid t_HBo
  clear t_HBo
  have NE_Pb_Bb := Lib.hid (show w.heap.size ≠ w5.heap.size by omega)
  have NE_Ob_Bb := Lib.hid (show w2.heap.size ≠ w5.heap.size by omega)
  have NE_Ab_Bb := Lib.hid (show w4.heap.size ≠ w5.heap.size by omega)
  have s_Pb := Pb.out
  have s_Ob := Ob.out
  have s_Ab := Ab.out
  replace s_Pb := s_Pb.alloc (.cells #[.slice b.a tb.np b.ka, .int .i64 tb.p, .int .i64 tb.n, .slice b.b tb.nb b.kb, .int .i64 tb.d] 25)
  replace s_Ob := s_Ob.alloc (.cells #[.slice b.a tb.np b.ka, .int .i64 tb.p, .int .i64 tb.n, .slice b.b tb.nb b.kb, .int .i64 tb.d] 25)
  replace s_Ab := s_Ab.alloc (.cells #[.slice b.a tb.np b.ka, .int .i64 tb.p, .int .i64 tb.n, .slice b.b tb.nb b.kb, .int .i64 tb.d] 25)
  have s_Bb : HasBlk (w5.alloc (.cells #[.slice b.a tb.np b.ka, .int .i64 tb.p, .int .i64 tb.n, .slice b.b tb.nb b.kb, .int .i64 tb.d] 25)) (w5.heap.size) 25 #[.slice b.a tb.np b.ka, .int .i64 tb.p, .int .i64 tb.n, .slice b.b tb.nb b.kb, .int .i64 tb.d] := by simpa using hasBlk_new w5 25 #[.slice b.a tb.np b.ka, .int .i64 tb.p, .int .i64 tb.n, .slice b.b tb.nb b.kb, .int .i64 tb.d]
  have t_Pb : HasBlk (w5.alloc (.cells #[.slice b.a tb.np b.ka, .int .i64 tb.p, .int .i64 tb.n, .slice b.b tb.nb b.kb, .int .i64 tb.d] 25)) (w.heap.size) 25 #[.slice p.a s.np p.ka, .int .i64 s.p, .int .i64 s.n, .slice p.b s.nb p.kb, .int .i64 s.d] := by simpa using s_Pb
  clear s_Pb Pb
  have t_Ob : HasBlk (w5.alloc (.cells #[.slice b.a tb.np b.ka, .int .i64 tb.p, .int .i64 tb.n, .slice b.b tb.nb b.kb, .int .i64 tb.d] 25)) (w2.heap.size) 25 #[.slice o.a s.np o.ka, .int .i64 s.p, .int .i64 s.n, .slice o.b s.nb o.kb, .int .i64 s.d] := by simpa using s_Ob
  clear s_Ob Ob
  have t_Ab : HasBlk (w5.alloc (.cells #[.slice b.a tb.np b.ka, .int .i64 tb.p, .int .i64 tb.n, .slice b.b tb.nb b.kb, .int .i64 tb.d] 25)) (w4.heap.size) 25 #[.slice a.a tb.np a.ka, .int .i64 tb.p, .int .i64 tb.n, .slice a.b tb.nb a.kb, .int .i64 tb.d] := by simpa using s_Ab
  clear s_Ab Ab
  have t_Bb : HasBlk (w5.alloc (.cells #[.slice b.a tb.np b.ka, .int .i64 tb.p, .int .i64 tb.n, .slice b.b tb.nb b.kb, .int .i64 tb.d] 25)) (w5.heap.size) 25 #[.slice b.a tb.np b.ka, .int .i64 tb.p, .int .i64 tb.n, .slice b.b tb.nb b.kb, .int .i64 tb.d] := by simpa using s_Bb
  clear s_Bb
  have SB9 : Below w.heap.size w (w5.alloc (.cells #[.slice b.a tb.np b.ka, .int .i64 tb.p, .int .i64 tb.n, .slice b.b tb.nb b.kb, .int .i64 tb.d] 25)) := by
    have bel0 := SB8h.out
    repeat' (first | exact Below.refl _ _ | assumption | apply Below.drew | refine Below.setCell ?_ (by first | omega | (simp; done) | (simp; omega)) _ | refine Below.alloc ?_ (by first | omega | (simp; done) | (simp; omega)) _)
  clear lt_Pb Pb_0 Pb_1 Pb_2 Pb_3 Pb_4 lt_Ob Ob_0 Ob_1 Ob_2 Ob_3 Ob_4 lt_Ab Ab_0 Ab_1 Ab_2 Ab_3 Ab_4
  generalize gW_v3 : (w5.alloc (.cells #[.slice b.a tb.np b.ka, .int .i64 tb.p, .int .i64 tb.n, .slice b.b tb.nb b.kb, .int .i64 tb.d] 25)) = v3 at *
  clear gW_v3
  have Pb := Lib.hid t_Pb
  clear t_Pb
  have Ob := Lib.hid t_Ob
  clear t_Ob
  have Ab := Lib.hid t_Ab
  clear t_Ab
  have Bb := Lib.hid t_Bb
  clear t_Bb
  clear SB8h
  have SB9h := Lib.hid SB9
  clear SB9
  have lt_Pb := Pb.out.lt
  have Pb_0 := Pb.out.cell 0
  have Pb_1 := Pb.out.cell 1
  have Pb_2 := Pb.out.cell 2
  have Pb_3 := Pb.out.cell 3
  have Pb_4 := Pb.out.cell 4
  simp at Pb_0 Pb_1 Pb_2 Pb_3 Pb_4
  have lt_Ob := Ob.out.lt
  have Ob_0 := Ob.out.cell 0
  have Ob_1 := Ob.out.cell 1
  have Ob_2 := Ob.out.cell 2
  have Ob_3 := Ob.out.cell 3
  have Ob_4 := Ob.out.cell 4
  simp at Ob_0 Ob_1 Ob_2 Ob_3 Ob_4
  have lt_Ab := Ab.out.lt
  have Ab_0 := Ab.out.cell 0
  have Ab_1 := Ab.out.cell 1
  have Ab_2 := Ab.out.cell 2
  have Ab_3 := Ab.out.cell 3
  have Ab_4 := Ab.out.cell 4
  simp at Ab_0 Ab_1 Ab_2 Ab_3 Ab_4
  have lt_Bb := Bb.out.lt
  have Bb_0 := Bb.out.cell 0
  have Bb_1 := Bb.out.cell 1
  have Bb_2 := Bb.out.cell 2
  have Bb_3 := Bb.out.cell 3
  have Bb_4 := Bb.out.cell 4
  simp at Bb_0 Bb_1 Bb_2 Bb_3 Bb_4
  have szB_v3 := SB9h.out.size
  go_wp2_with fail
  refine (ready_any o s _ HO.out.ok3).mono ?_
  rintro e w6 ⟨⟨X, cx, rfl, hx⟩, bel⟩
  clear lt_Pb Pb_0 Pb_1 Pb_2 Pb_3 Pb_4 lt_Ob Ob_0 Ob_1 Ob_2 Ob_3 Ob_4 lt_Ab Ab_0 Ab_1 Ab_2 Ab_3 Ab_4 lt_Bb Bb_0 Bb_1 Bb_2 Bb_3 Bb_4
  have t_HO := HO.out.below (bel)
  clear HO
  have HO := Lib.hid t_HO
  clear t_HO
  have t_HN := HN.out.below (bel)
  clear HN
  have HN := Lib.hid t_HN
  clear t_HN
  have t_HBN := HBN.out.trans ((bel).mono HBN.out.size)
  clear HBN
  have HBN := Lib.hid t_HBN
  clear t_HBN
  have t_HA := HA.out.below (bel)
  clear HA
  have HA := Lib.hid t_HA
  clear t_HA
  have t_HBo := HBo.out.below (bel)
  clear HBo
  have HBo := Lib.hid t_HBo
  clear t_HBo
  have HX := Lib.hid (is_list hx)
  clear hx
  have t_Pb := Pb.out.below bel
  clear Pb
  have Pb := Lib.hid t_Pb
  clear t_Pb
  have t_Ob := Ob.out.below bel
  clear Ob
  have Ob := Lib.hid t_Ob
  clear t_Ob
  have t_Ab := Ab.out.below bel
  clear Ab
  have Ab := Lib.hid t_Ab
  clear t_Ab
  have t_Bb := Bb.out.below bel
  clear Bb
  have Bb := Lib.hid t_Bb
  clear t_Bb
  have SB10 : Below w.heap.size w w6 := SB9h.out.trans (bel.mono SB9h.out.size)
  clear SB9h
  have SB10h := Lib.hid SB10
  clear SB10 bel
  have lt_Pb := Pb.out.lt
  have Pb_0 := Pb.out.cell 0
  have Pb_1 := Pb.out.cell 1
  have Pb_2 := Pb.out.cell 2
  have Pb_3 := Pb.out.cell 3
  have Pb_4 := Pb.out.cell 4
  simp at Pb_0 Pb_1 Pb_2 Pb_3 Pb_4
  have lt_Ob := Ob.out.lt
  have Ob_0 := Ob.out.cell 0
  have Ob_1 := Ob.out.cell 1
  have Ob_2 := Ob.out.cell 2
  have Ob_3 := Ob.out.cell 3
  have Ob_4 := Ob.out.cell 4
  simp at Ob_0 Ob_1 Ob_2 Ob_3 Ob_4
  have lt_Ab := Ab.out.lt
  have Ab_0 := Ab.out.cell 0
  have Ab_1 := Ab.out.cell 1
  have Ab_2 := Ab.out.cell 2
  have Ab_3 := Ab.out.cell 3
  have Ab_4 := Ab.out.cell 4
  simp at Ab_0 Ab_1 Ab_2 Ab_3 Ab_4
  have lt_Bb := Bb.out.lt
  have Bb_0 := Bb.out.cell 0
  have Bb_1 := Bb.out.cell 1
  have Bb_2 := Bb.out.cell 2
  have Bb_3 := Bb.out.cell 3
  have Bb_4 := Bb.out.cell 4
  simp at Bb_0 Bb_1 Bb_2 Bb_3 Bb_4
  have szB_w6 := SB10h.out.size
  go_wp2_with fail
  refine (refready_any p s _ (HS.out.below SB10h.out)).mono ?_
  rintro e w7 ⟨⟨Y, cy, rfl, hy⟩, bel⟩
  clear lt_Pb Pb_0 Pb_1 Pb_2 Pb_3 Pb_4 lt_Ob Ob_0 Ob_1 Ob_2 Ob_3 Ob_4 lt_Ab Ab_0 Ab_1 Ab_2 Ab_3 Ab_4 lt_Bb Bb_0 Bb_1 Bb_2 Bb_3 Bb_4
  have t_HO := HO.out.below (bel)
  clear HO
  have HO := Lib.hid t_HO
  clear t_HO
  have t_HN := HN.out.below (bel)
  clear HN
  have HN := Lib.hid t_HN
  clear t_HN
  have t_HBN := HBN.out.trans ((bel).mono HBN.out.size)
  clear HBN
  have HBN := Lib.hid t_HBN
  clear t_HBN
  have t_HA := HA.out.below (bel)
  clear HA
  have HA := Lib.hid t_HA
  clear t_HA
  have t_HBo := HBo.out.below (bel)
  clear HBo
  have HBo := Lib.hid t_HBo
  clear t_HBo
  have t_HX := HX.out.below (bel)
  clear HX
  have HX := Lib.hid t_HX
  clear t_HX
  have HY := Lib.hid (is_list hy)
  clear hy
  have t_Pb := Pb.out.below bel
  clear Pb
  have Pb := Lib.hid t_Pb
  clear t_Pb
  have t_Ob := Ob.out.below bel
  clear Ob
  have Ob := Lib.hid t_Ob
  clear t_Ob
  have t_Ab := Ab.out.below bel
  clear Ab
  have Ab := Lib.hid t_Ab
  clear t_Ab
  have t_Bb := Bb.out.below bel
  clear Bb
  have Bb := Lib.hid t_Bb
  clear t_Bb
  have SB11 : Below w.heap.size w w7 := SB10h.out.trans (bel.mono SB10h.out.size)
  clear SB10h
  have SB11h := Lib.hid SB11
  clear SB11 bel
  have lt_Pb := Pb.out.lt
  have Pb_0 := Pb.out.cell 0
  have Pb_1 := Pb.out.cell 1
  have Pb_2 := Pb.out.cell 2
  have Pb_3 := Pb.out.cell 3
  have Pb_4 := Pb.out.cell 4
  simp at Pb_0 Pb_1 Pb_2 Pb_3 Pb_4
  have lt_Ob := Ob.out.lt
  have Ob_0 := Ob.out.cell 0
  have Ob_1 := Ob.out.cell 1
  have Ob_2 := Ob.out.cell 2
  have Ob_3 := Ob.out.cell 3
  have Ob_4 := Ob.out.cell 4
  simp at Ob_0 Ob_1 Ob_2 Ob_3 Ob_4
  have lt_Ab := Ab.out.lt
  have Ab_0 := Ab.out.cell 0
  have Ab_1 := Ab.out.cell 1
  have Ab_2 := Ab.out.cell 2
  have Ab_3 := Ab.out.cell 3
  have Ab_4 := Ab.out.cell 4
  simp at Ab_0 Ab_1 Ab_2 Ab_3 Ab_4
  have lt_Bb := Bb.out.lt
  have Bb_0 := Bb.out.cell 0
  have Bb_1 := Bb.out.cell 1
  have Bb_2 := Bb.out.cell 2
  have Bb_3 := Bb.out.cell 3
  have Bb_4 := Bb.out.cell 4
  simp at Bb_0 Bb_1 Bb_2 Bb_3 Bb_4
  have szB_w7 := SB11h.out.size
  go_wp2_with fail
  have HBS := Lib.hid (show w3.heap.size ≤ w7.heap.size from HBN.out.size)
  refine (step_any o s wk _ HO.out.ok3).mono ?_
  rintro e w8 ⟨⟨q, t, u, v, x, rfl, hv, hq⟩, bel⟩
  clear lt_Pb Pb_0 Pb_1 Pb_2 Pb_3 Pb_4 lt_Ob Ob_0 Ob_1 Ob_2 Ob_3 Ob_4 lt_Ab Ab_0 Ab_1 Ab_2 Ab_3 Ab_4 lt_Bb Bb_0 Bb_1 Bb_2 Bb_3 Bb_4
  have t_HO := HO.out.below (bel)
  clear HO
  have HO := Lib.hid t_HO
  clear t_HO
  have t_HN := HN.out.below (bel)
  clear HN
  have HN := Lib.hid t_HN
  clear t_HN
  have t_HBN := HBN.out.trans ((bel).mono HBN.out.size)
  clear HBN
  have HBN := Lib.hid t_HBN
  clear t_HBN
  have t_HA := HA.out.below (bel)
  clear HA
  have HA := Lib.hid t_HA
  clear t_HA
  have t_HBo := HBo.out.below (bel)
  clear HBo
  have HBo := Lib.hid t_HBo
  clear t_HBo
  have t_HX := HX.out.below (bel)
  clear HX
  have HX := Lib.hid t_HX
  clear t_HX
  have t_HY := HY.out.below (bel)
  clear HY
  have HY := Lib.hid t_HY
  clear t_HY
  have HQ := Lib.hid hq
  have HVQ := Lib.hid hv
  clear hq hv
  have t_Pb := Pb.out.below bel
  clear Pb
  have Pb := Lib.hid t_Pb
  clear t_Pb
  have t_Ob := Ob.out.below bel
  clear Ob
  have Ob := Lib.hid t_Ob
  clear t_Ob
  have t_Ab := Ab.out.below bel
  clear Ab
  have Ab := Lib.hid t_Ab
  clear t_Ab
  have t_Bb := Bb.out.below bel
  clear Bb
  have Bb := Lib.hid t_Bb
  clear t_Bb
  have SB12 : Below w.heap.size w w8 := SB11h.out.trans (bel.mono SB11h.out.size)
  clear SB11h
  have SB12h := Lib.hid SB12
  clear SB12 bel
  have lt_Pb := Pb.out.lt
  have Pb_0 := Pb.out.cell 0
  have Pb_1 := Pb.out.cell 1
  have Pb_2 := Pb.out.cell 2
  have Pb_3 := Pb.out.cell 3
  have Pb_4 := Pb.out.cell 4
  simp at Pb_0 Pb_1 Pb_2 Pb_3 Pb_4
  have lt_Ob := Ob.out.lt
  have Ob_0 := Ob.out.cell 0
  have Ob_1 := Ob.out.cell 1
  have Ob_2 := Ob.out.cell 2
  have Ob_3 := Ob.out.cell 3
  have Ob_4 := Ob.out.cell 4
  simp at Ob_0 Ob_1 Ob_2 Ob_3 Ob_4
  have lt_Ab := Ab.out.lt
  have Ab_0 := Ab.out.cell 0
  have Ab_1 := Ab.out.cell 1
  have Ab_2 := Ab.out.cell 2
  have Ab_3 := Ab.out.cell 3
  have Ab_4 := Ab.out.cell 4
  simp at Ab_0 Ab_1 Ab_2 Ab_3 Ab_4
  have lt_Bb := Bb.out.lt
  have Bb_0 := Bb.out.cell 0
  have Bb_1 := Bb.out.cell 1
  have Bb_2 := Bb.out.cell 2
  have Bb_3 := Bb.out.cell 3
  have Bb_4 := Bb.out.cell 4
  simp at Bb_0 Bb_1 Bb_2 Bb_3 Bb_4
  have szB_w8 := SB12h.out.size
  go_wp2_with fail
  have t_HO := HO.out.below (((Below.refl w8.heap.size w8).alloc (Nat.le_refl _) (.cells #[.slice q.a t.np q.ka, .int .i64 t.p, .int .i64 t.n, .slice q.b t.nb q.kb, .int .i64 t.d] 25)))
  clear HO
  have HO := Lib.hid t_HO
  clear t_HO
  have t_HN := HN.out.below (((Below.refl w8.heap.size w8).alloc (Nat.le_refl _) (.cells #[.slice q.a t.np q.ka, .int .i64 t.p, .int .i64 t.n, .slice q.b t.nb q.kb, .int .i64 t.d] 25)))
  clear HN
  have HN := Lib.hid t_HN
  clear t_HN
  have t_HBN := HBN.out.trans ((((Below.refl w8.heap.size w8).alloc (Nat.le_refl _) (.cells #[.slice q.a t.np q.ka, .int .i64 t.p, .int .i64 t.n, .slice q.b t.nb q.kb, .int .i64 t.d] 25))).mono HBN.out.size)
  clear HBN
  have HBN := Lib.hid t_HBN
  clear t_HBN
  have t_HA := HA.out.below (((Below.refl w8.heap.size w8).alloc (Nat.le_refl _) (.cells #[.slice q.a t.np q.ka, .int .i64 t.p, .int .i64 t.n, .slice q.b t.nb q.kb, .int .i64 t.d] 25)))
  clear HA
  have HA := Lib.hid t_HA
  clear t_HA
  have t_HBo := HBo.out.below (((Below.refl w8.heap.size w8).alloc (Nat.le_refl _) (.cells #[.slice q.a t.np q.ka, .int .i64 t.p, .int .i64 t.n, .slice q.b t.nb q.kb, .int .i64 t.d] 25)))
  clear HBo
  have HBo := Lib.hid t_HBo
  clear t_HBo
  have t_HX := HX.out.below (((Below.refl w8.heap.size w8).alloc (Nat.le_refl _) (.cells #[.slice q.a t.np q.ka, .int .i64 t.p, .int .i64 t.n, .slice q.b t.nb q.kb, .int .i64 t.d] 25)))
  clear HX
  have HX := Lib.hid t_HX
  clear t_HX
  have t_HY := HY.out.below (((Below.refl w8.heap.size w8).alloc (Nat.le_refl _) (.cells #[.slice q.a t.np q.ka, .int .i64 t.p, .int .i64 t.n, .slice q.b t.nb q.kb, .int .i64 t.d] 25)))
  clear HY
  have HY := Lib.hid t_HY
  clear t_HY
  have t_HQ := HQ.out.below (((Below.refl w8.heap.size w8).alloc (Nat.le_refl _) (.cells #[.slice q.a t.np q.ka, .int .i64 t.p, .int .i64 t.n, .slice q.b t.nb q.kb, .int .i64 t.d] 25)))
  clear HQ
  have HQ := Lib.hid t_HQ
  clear t_HQ
  have NE_Pb_Qb := Lib.hid (show w.heap.size ≠ w8.heap.size by omega)
  have NE_Ob_Qb := Lib.hid (show w2.heap.size ≠ w8.heap.size by omega)
  have NE_Ab_Qb := Lib.hid (show w4.heap.size ≠ w8.heap.size by omega)
  have NE_Bb_Qb := Lib.hid (show w5.heap.size ≠ w8.heap.size by omega)
  have s_Pb := Pb.out
  have s_Ob := Ob.out
  have s_Ab := Ab.out
  have s_Bb := Bb.out
  replace s_Pb := s_Pb.alloc (.cells #[.slice q.a t.np q.ka, .int .i64 t.p, .int .i64 t.n, .slice q.b t.nb q.kb, .int .i64 t.d] 25)
  replace s_Ob := s_Ob.alloc (.cells #[.slice q.a t.np q.ka, .int .i64 t.p, .int .i64 t.n, .slice q.b t.nb q.kb, .int .i64 t.d] 25)
  replace s_Ab := s_Ab.alloc (.cells #[.slice q.a t.np q.ka, .int .i64 t.p, .int .i64 t.n, .slice q.b t.nb q.kb, .int .i64 t.d] 25)
  replace s_Bb := s_Bb.alloc (.cells #[.slice q.a t.np q.ka, .int .i64 t.p, .int .i64 t.n, .slice q.b t.nb q.kb, .int .i64 t.d] 25)
  have s_Qb : HasBlk (w8.alloc (.cells #[.slice q.a t.np q.ka, .int .i64 t.p, .int .i64 t.n, .slice q.b t.nb q.kb, .int .i64 t.d] 25)) (w8.heap.size) 25 #[.slice q.a t.np q.ka, .int .i64 t.p, .int .i64 t.n, .slice q.b t.nb q.kb, .int .i64 t.d] := by simpa using hasBlk_new w8 25 #[.slice q.a t.np q.ka, .int .i64 t.p, .int .i64 t.n, .slice q.b t.nb q.kb, .int .i64 t.d]
  have t_Pb : HasBlk (w8.alloc (.cells #[.slice q.a t.np q.ka, .int .i64 t.p, .int .i64 t.n, .slice q.b t.nb q.kb, .int .i64 t.d] 25)) (w.heap.size) 25 #[.slice p.a s.np p.ka, .int .i64 s.p, .int .i64 s.n, .slice p.b s.nb p.kb, .int .i64 s.d] := by simpa using s_Pb
  clear s_Pb Pb
  have t_Ob : HasBlk (w8.alloc (.cells #[.slice q.a t.np q.ka, .int .i64 t.p, .int .i64 t.n, .slice q.b t.nb q.kb, .int .i64 t.d] 25)) (w2.heap.size) 25 #[.slice o.a s.np o.ka, .int .i64 s.p, .int .i64 s.n, .slice o.b s.nb o.kb, .int .i64 s.d] := by simpa using s_Ob
  clear s_Ob Ob
  have t_Ab : HasBlk (w8.alloc (.cells #[.slice q.a t.np q.ka, .int .i64 t.p, .int .i64 t.n, .slice q.b t.nb q.kb, .int .i64 t.d] 25)) (w4.heap.size) 25 #[.slice a.a tb.np a.ka, .int .i64 tb.p, .int .i64 tb.n, .slice a.b tb.nb a.kb, .int .i64 tb.d] := by simpa using s_Ab
  clear s_Ab Ab
  have t_Bb : HasBlk (w8.alloc (.cells #[.slice q.a t.np q.ka, .int .i64 t.p, .int .i64 t.n, .slice q.b t.nb q.kb, .int .i64 t.d] 25)) (w5.heap.size) 25 #[.slice b.a tb.np b.ka, .int .i64 tb.p, .int .i64 tb.n, .slice b.b tb.nb b.kb, .int .i64 tb.d] := by simpa using s_Bb
  clear s_Bb Bb
  have t_Qb : HasBlk (w8.alloc (.cells #[.slice q.a t.np q.ka, .int .i64 t.p, .int .i64 t.n, .slice q.b t.nb q.kb, .int .i64 t.d] 25)) (w8.heap.size) 25 #[.slice q.a t.np q.ka, .int .i64 t.p, .int .i64 t.n, .slice q.b t.nb q.kb, .int .i64 t.d] := by simpa using s_Qb
  clear s_Qb
  have SB13 : Below w.heap.size w (w8.alloc (.cells #[.slice q.a t.np q.ka, .int .i64 t.p, .int .i64 t.n, .slice q.b t.nb q.kb, .int .i64 t.d] 25)) := by
    have bel0 := SB12h.out
    repeat' (first | exact Below.refl _ _ | assumption | apply Below.drew | refine Below.setCell ?_ (by first | omega | (simp; done) | (simp; omega)) _ | refine Below.alloc ?_ (by first | omega | (simp; done) | (simp; omega)) _)
  clear lt_Pb Pb_0 Pb_1 Pb_2 Pb_3 Pb_4 lt_Ob Ob_0 Ob_1 Ob_2 Ob_3 Ob_4 lt_Ab Ab_0 Ab_1 Ab_2 Ab_3 Ab_4 lt_Bb Bb_0 Bb_1 Bb_2 Bb_3 Bb_4
  generalize gW_v4 : (w8.alloc (.cells #[.slice q.a t.np q.ka, .int .i64 t.p, .int .i64 t.n, .slice q.b t.nb q.kb, .int .i64 t.d] 25)) = v4 at *
  clear gW_v4
  have Pb := Lib.hid t_Pb
  clear t_Pb
  have Ob := Lib.hid t_Ob
  clear t_Ob
  have Ab := Lib.hid t_Ab
  clear t_Ab
  have Bb := Lib.hid t_Bb
  clear t_Bb
  have Qb := Lib.hid t_Qb
  clear t_Qb
  clear SB12h
  have SB13h := Lib.hid SB13
  clear SB13
  have lt_Pb := Pb.out.lt
  have Pb_0 := Pb.out.cell 0
  have Pb_1 := Pb.out.cell 1
  have Pb_2 := Pb.out.cell 2
  have Pb_3 := Pb.out.cell 3
  have Pb_4 := Pb.out.cell 4
  simp at Pb_0 Pb_1 Pb_2 Pb_3 Pb_4
  have lt_Ob := Ob.out.lt
  have Ob_0 := Ob.out.cell 0
  have Ob_1 := Ob.out.cell 1
  have Ob_2 := Ob.out.cell 2
  have Ob_3 := Ob.out.cell 3
  have Ob_4 := Ob.out.cell 4
  simp at Ob_0 Ob_1 Ob_2 Ob_3 Ob_4
  have lt_Ab := Ab.out.lt
  have Ab_0 := Ab.out.cell 0
  have Ab_1 := Ab.out.cell 1
  have Ab_2 := Ab.out.cell 2
  have Ab_3 := Ab.out.cell 3
  have Ab_4 := Ab.out.cell 4
  simp at Ab_0 Ab_1 Ab_2 Ab_3 Ab_4
  have lt_Bb := Bb.out.lt
  have Bb_0 := Bb.out.cell 0
  have Bb_1 := Bb.out.cell 1
  have Bb_2 := Bb.out.cell 2
  have Bb_3 := Bb.out.cell 3
  have Bb_4 := Bb.out.cell 4
  simp at Bb_0 Bb_1 Bb_2 Bb_3 Bb_4
  have lt_Qb := Qb.out.lt
  have Qb_0 := Qb.out.cell 0
  have Qb_1 := Qb.out.cell 1
  have Qb_2 := Qb.out.cell 2
  have Qb_3 := Qb.out.cell 3
  have Qb_4 := Qb.out.cell 4
  simp at Qb_0 Qb_1 Qb_2 Qb_3 Qb_4
  have szB_v4 := SB13h.out.size
  go_wp2_with fail
  refine (refstep_any p s wk _ (HS.out.below SB13h.out)).mono ?_
  rintro e w9 ⟨⟨r, tr, u2, x2, e2, rfl, hv, hr⟩, bel⟩
  clear lt_Pb Pb_0 Pb_1 Pb_2 Pb_3 Pb_4 lt_Ob Ob_0 Ob_1 Ob_2 Ob_3 Ob_4 lt_Ab Ab_0 Ab_1 Ab_2 Ab_3 Ab_4 lt_Bb Bb_0 Bb_1 Bb_2 Bb_3 Bb_4 lt_Qb Qb_0 Qb_1 Qb_2 Qb_3 Qb_4
  have t_HO := HO.out.below (bel)
  clear HO
  have HO := Lib.hid t_HO
  clear t_HO
  have t_HN := HN.out.below (bel)
  clear HN
  have HN := Lib.hid t_HN
  clear t_HN
  have t_HBN := HBN.out.trans ((bel).mono HBN.out.size)
  clear HBN
  have HBN := Lib.hid t_HBN
  clear t_HBN
  have t_HA := HA.out.below (bel)
  clear HA
  have HA := Lib.hid t_HA
  clear t_HA
  have t_HBo := HBo.out.below (bel)
  clear HBo
  have HBo := Lib.hid t_HBo
  clear t_HBo
  have t_HX := HX.out.below (bel)
  clear HX
  have HX := Lib.hid t_HX
  clear t_HX
  have t_HY := HY.out.below (bel)
  clear HY
  have HY := Lib.hid t_HY
  clear t_HY
  have t_HQ := HQ.out.below (bel)
  clear HQ
  have HQ := Lib.hid t_HQ
  clear t_HQ
  obtain ⟨rfl, rfl, rfl, rfl⟩ := StepV.fn HVQ.out hv
  have HVQ := Lib.hid hv
  have HR := Lib.hid hr
  clear hr hv
  have t_Pb := Pb.out.below bel
  clear Pb
  have Pb := Lib.hid t_Pb
  clear t_Pb
  have t_Ob := Ob.out.below bel
  clear Ob
  have Ob := Lib.hid t_Ob
  clear t_Ob
  have t_Ab := Ab.out.below bel
  clear Ab
  have Ab := Lib.hid t_Ab
  clear t_Ab
  have t_Bb := Bb.out.below bel
  clear Bb
  have Bb := Lib.hid t_Bb
  clear t_Bb
  have t_Qb := Qb.out.below bel
  clear Qb
  have Qb := Lib.hid t_Qb
  clear t_Qb
  have SB14 : Below w.heap.size w w9 := SB13h.out.trans (bel.mono SB13h.out.size)
  clear SB13h
  have SB14h := Lib.hid SB14
  clear SB14 bel
  have lt_Pb := Pb.out.lt
  have Pb_0 := Pb.out.cell 0
  have Pb_1 := Pb.out.cell 1
  have Pb_2 := Pb.out.cell 2
  have Pb_3 := Pb.out.cell 3
  have Pb_4 := Pb.out.cell 4
  simp at Pb_0 Pb_1 Pb_2 Pb_3 Pb_4
  have lt_Ob := Ob.out.lt
  have Ob_0 := Ob.out.cell 0
  have Ob_1 := Ob.out.cell 1
  have Ob_2 := Ob.out.cell 2
  have Ob_3 := Ob.out.cell 3
  have Ob_4 := Ob.out.cell 4
  simp at Ob_0 Ob_1 Ob_2 Ob_3 Ob_4
  have lt_Ab := Ab.out.lt
  have Ab_0 := Ab.out.cell 0
  have Ab_1 := Ab.out.cell 1
  have Ab_2 := Ab.out.cell 2
  have Ab_3 := Ab.out.cell 3
  have Ab_4 := Ab.out.cell 4
  simp at Ab_0 Ab_1 Ab_2 Ab_3 Ab_4
  have lt_Bb := Bb.out.lt
  have Bb_0 := Bb.out.cell 0
  have Bb_1 := Bb.out.cell 1
  have Bb_2 := Bb.out.cell 2
  have Bb_3 := Bb.out.cell 3
  have Bb_4 := Bb.out.cell 4
  simp at Bb_0 Bb_1 Bb_2 Bb_3 Bb_4
  have lt_Qb := Qb.out.lt
  have Qb_0 := Qb.out.cell 0
  have Qb_1 := Qb.out.cell 1
  have Qb_2 := Qb.out.cell 2
  have Qb_3 := Qb.out.cell 3
  have Qb_4 := Qb.out.cell 4
  simp at Qb_0 Qb_1 Qb_2 Qb_3 Qb_4
  have szB_w9 := SB14h.out.size
  go_wp2_with fail
  have t_HO := HO.out.below (((Below.refl w9.heap.size w9).alloc (Nat.le_refl _) (.cells #[.slice r.a tr.np r.ka, .int .i64 tr.p, .int .i64 tr.n, .slice r.b tr.nb r.kb, .int .i64 tr.d] 25)))
  clear HO
  have HO := Lib.hid t_HO
  clear t_HO
  have t_HN := HN.out.below (((Below.refl w9.heap.size w9).alloc (Nat.le_refl _) (.cells #[.slice r.a tr.np r.ka, .int .i64 tr.p, .int .i64 tr.n, .slice r.b tr.nb r.kb, .int .i64 tr.d] 25)))
  clear HN
  have HN := Lib.hid t_HN
  clear t_HN
  have t_HBN := HBN.out.trans ((((Below.refl w9.heap.size w9).alloc (Nat.le_refl _) (.cells #[.slice r.a tr.np r.ka, .int .i64 tr.p, .int .i64 tr.n, .slice r.b tr.nb r.kb, .int .i64 tr.d] 25))).mono HBN.out.size)
  clear HBN
  have HBN := Lib.hid t_HBN
  clear t_HBN
  have t_HA := HA.out.below (((Below.refl w9.heap.size w9).alloc (Nat.le_refl _) (.cells #[.slice r.a tr.np r.ka, .int .i64 tr.p, .int .i64 tr.n, .slice r.b tr.nb r.kb, .int .i64 tr.d] 25)))
  clear HA
  have HA := Lib.hid t_HA
  clear t_HA
  have t_HBo := HBo.out.below (((Below.refl w9.heap.size w9).alloc (Nat.le_refl _) (.cells #[.slice r.a tr.np r.ka, .int .i64 tr.p, .int .i64 tr.n, .slice r.b tr.nb r.kb, .int .i64 tr.d] 25)))
  clear HBo
  have HBo := Lib.hid t_HBo
  clear t_HBo
  have t_HX := HX.out.below (((Below.refl w9.heap.size w9).alloc (Nat.le_refl _) (.cells #[.slice r.a tr.np r.ka, .int .i64 tr.p, .int .i64 tr.n, .slice r.b tr.nb r.kb, .int .i64 tr.d] 25)))
  clear HX
  have HX := Lib.hid t_HX
  clear t_HX
  have t_HY := HY.out.below (((Below.refl w9.heap.size w9).alloc (Nat.le_refl _) (.cells #[.slice r.a tr.np r.ka, .int .i64 tr.p, .int .i64 tr.n, .slice r.b tr.nb r.kb, .int .i64 tr.d] 25)))
  clear HY
  have HY := Lib.hid t_HY
  clear t_HY
  have t_HQ := HQ.out.below (((Below.refl w9.heap.size w9).alloc (Nat.le_refl _) (.cells #[.slice r.a tr.np r.ka, .int .i64 tr.p, .int .i64 tr.n, .slice r.b tr.nb r.kb, .int .i64 tr.d] 25)))
  clear HQ
  have HQ := Lib.hid t_HQ
  clear t_HQ
  have t_HR := HR.out.below (((Below.refl w9.heap.size w9).alloc (Nat.le_refl _) (.cells #[.slice r.a tr.np r.ka, .int .i64 tr.p, .int .i64 tr.n, .slice r.b tr.nb r.kb, .int .i64 tr.d] 25)))
  clear HR
  have HR := Lib.hid t_HR
  clear t_HR
  have NE_Pb_Rb := Lib.hid (show w.heap.size ≠ w9.heap.size by omega)
  have NE_Ob_Rb := Lib.hid (show w2.heap.size ≠ w9.heap.size by omega)
  have NE_Ab_Rb := Lib.hid (show w4.heap.size ≠ w9.heap.size by omega)
  have NE_Bb_Rb := Lib.hid (show w5.heap.size ≠ w9.heap.size by omega)
  have NE_Qb_Rb := Lib.hid (show w8.heap.size ≠ w9.heap.size by omega)
  have s_Pb := Pb.out
  have s_Ob := Ob.out
  have s_Ab := Ab.out
  have s_Bb := Bb.out
  have s_Qb := Qb.out
  replace s_Pb := s_Pb.alloc (.cells #[.slice r.a tr.np r.ka, .int .i64 tr.p, .int .i64 tr.n, .slice r.b tr.nb r.kb, .int .i64 tr.d] 25)
  replace s_Ob := s_Ob.alloc (.cells #[.slice r.a tr.np r.ka, .int .i64 tr.p, .int .i64 tr.n, .slice r.b tr.nb r.kb, .int .i64 tr.d] 25)
  replace s_Ab := s_Ab.alloc (.cells #[.slice r.a tr.np r.ka, .int .i64 tr.p, .int .i64 tr.n, .slice r.b tr.nb r.kb, .int .i64 tr.d] 25)
  replace s_Bb := s_Bb.alloc (.cells #[.slice r.a tr.np r.ka, .int .i64 tr.p, .int .i64 tr.n, .slice r.b tr.nb r.kb, .int .i64 tr.d] 25)
  replace s_Qb := s_Qb.alloc (.cells #[.slice r.a tr.np r.ka, .int .i64 tr.p, .int .i64 tr.n, .slice r.b tr.nb r.kb, .int .i64 tr.d] 25)
  have s_Rb : HasBlk (w9.alloc (.cells #[.slice r.a tr.np r.ka, .int .i64 tr.p, .int .i64 tr.n, .slice r.b tr.nb r.kb, .int .i64 tr.d] 25)) (w9.heap.size) 25 #[.slice r.a tr.np r.ka, .int .i64 tr.p, .int .i64 tr.n, .slice r.b tr.nb r.kb, .int .i64 tr.d] := by simpa using hasBlk_new w9 25 #[.slice r.a tr.np r.ka, .int .i64 tr.p, .int .i64 tr.n, .slice r.b tr.nb r.kb, .int .i64 tr.d]
  have t_Pb : HasBlk (w9.alloc (.cells #[.slice r.a tr.np r.ka, .int .i64 tr.p, .int .i64 tr.n, .slice r.b tr.nb r.kb, .int .i64 tr.d] 25)) (w.heap.size) 25 #[.slice p.a s.np p.ka, .int .i64 s.p, .int .i64 s.n, .slice p.b s.nb p.kb, .int .i64 s.d] := by simpa using s_Pb
  clear s_Pb Pb
  have t_Ob : HasBlk (w9.alloc (.cells #[.slice r.a tr.np r.ka, .int .i64 tr.p, .int .i64 tr.n, .slice r.b tr.nb r.kb, .int .i64 tr.d] 25)) (w2.heap.size) 25 #[.slice o.a s.np o.ka, .int .i64 s.p, .int .i64 s.n, .slice o.b s.nb o.kb, .int .i64 s.d] := by simpa using s_Ob
  clear s_Ob Ob
  have t_Ab : HasBlk (w9.alloc (.cells #[.slice r.a tr.np r.ka, .int .i64 tr.p, .int .i64 tr.n, .slice r.b tr.nb r.kb, .int .i64 tr.d] 25)) (w4.heap.size) 25 #[.slice a.a tb.np a.ka, .int .i64 tb.p, .int .i64 tb.n, .slice a.b tb.nb a.kb, .int .i64 tb.d] := by simpa using s_Ab
  clear s_Ab Ab
  have t_Bb : HasBlk (w9.alloc (.cells #[.slice r.a tr.np r.ka, .int .i64 tr.p, .int .i64 tr.n, .slice r.b tr.nb r.kb, .int .i64 tr.d] 25)) (w5.heap.size) 25 #[.slice b.a tb.np b.ka, .int .i64 tb.p, .int .i64 tb.n, .slice b.b tb.nb b.kb, .int .i64 tb.d] := by simpa using s_Bb
  clear s_Bb Bb
  have t_Qb : HasBlk (w9.alloc (.cells #[.slice r.a tr.np r.ka, .int .i64 tr.p, .int .i64 tr.n, .slice r.b tr.nb r.kb, .int .i64 tr.d] 25)) (w8.heap.size) 25 #[.slice q.a tr.np q.ka, .int .i64 tr.p, .int .i64 tr.n, .slice q.b tr.nb q.kb, .int .i64 tr.d] := by simpa using s_Qb
  clear s_Qb Qb
  have t_Rb : HasBlk (w9.alloc (.cells #[.slice r.a tr.np r.ka, .int .i64 tr.p, .int .i64 tr.n, .slice r.b tr.nb r.kb, .int .i64 tr.d] 25)) (w9.heap.size) 25 #[.slice r.a tr.np r.ka, .int .i64 tr.p, .int .i64 tr.n, .slice r.b tr.nb r.kb, .int .i64 tr.d] := by simpa using s_Rb
  clear s_Rb
  have SB15 : Below w.heap.size w (w9.alloc (.cells #[.slice r.a tr.np r.ka, .int .i64 tr.p, .int .i64 tr.n, .slice r.b tr.nb r.kb, .int .i64 tr.d] 25)) := by
    have bel0 := SB14h.out
    repeat' (first | exact Below.refl _ _ | assumption | apply Below.drew | refine Below.setCell ?_ (by first | omega | (simp; done) | (simp; omega)) _ | refine Below.alloc ?_ (by first | omega | (simp; done) | (simp; omega)) _)
  clear lt_Pb Pb_0 Pb_1 Pb_2 Pb_3 Pb_4 lt_Ob Ob_0 Ob_1 Ob_2 Ob_3 Ob_4 lt_Ab Ab_0 Ab_1 Ab_2 Ab_3 Ab_4 lt_Bb Bb_0 Bb_1 Bb_2 Bb_3 Bb_4 lt_Qb Qb_0 Qb_1 Qb_2 Qb_3 Qb_4
  generalize gW_v5 : (w9.alloc (.cells #[.slice r.a tr.np r.ka, .int .i64 tr.p, .int .i64 tr.n, .slice r.b tr.nb r.kb, .int .i64 tr.d] 25)) = v5 at *
  clear gW_v5
  have Pb := Lib.hid t_Pb
  clear t_Pb
  have Ob := Lib.hid t_Ob
  clear t_Ob
  have Ab := Lib.hid t_Ab
  clear t_Ab
  have Bb := Lib.hid t_Bb
  clear t_Bb
  have Qb := Lib.hid t_Qb
  clear t_Qb
  have Rb := Lib.hid t_Rb
  clear t_Rb
  clear SB14h
  have SB15h := Lib.hid SB15
  clear SB15
  have lt_Pb := Pb.out.lt
  have Pb_0 := Pb.out.cell 0
  have Pb_1 := Pb.out.cell 1
  have Pb_2 := Pb.out.cell 2
  have Pb_3 := Pb.out.cell 3
  have Pb_4 := Pb.out.cell 4
  simp at Pb_0 Pb_1 Pb_2 Pb_3 Pb_4
  have lt_Ob := Ob.out.lt
  have Ob_0 := Ob.out.cell 0
  have Ob_1 := Ob.out.cell 1
  have Ob_2 := Ob.out.cell 2
  have Ob_3 := Ob.out.cell 3
  have Ob_4 := Ob.out.cell 4
  simp at Ob_0 Ob_1 Ob_2 Ob_3 Ob_4
  have lt_Ab := Ab.out.lt
  have Ab_0 := Ab.out.cell 0
  have Ab_1 := Ab.out.cell 1
  have Ab_2 := Ab.out.cell 2
  have Ab_3 := Ab.out.cell 3
  have Ab_4 := Ab.out.cell 4
  simp at Ab_0 Ab_1 Ab_2 Ab_3 Ab_4
  have lt_Bb := Bb.out.lt
  have Bb_0 := Bb.out.cell 0
  have Bb_1 := Bb.out.cell 1
  have Bb_2 := Bb.out.cell 2
  have Bb_3 := Bb.out.cell 3
  have Bb_4 := Bb.out.cell 4
  simp at Bb_0 Bb_1 Bb_2 Bb_3 Bb_4
  have lt_Qb := Qb.out.lt
  have Qb_0 := Qb.out.cell 0
  have Qb_1 := Qb.out.cell 1
  have Qb_2 := Qb.out.cell 2
  have Qb_3 := Qb.out.cell 3
  have Qb_4 := Qb.out.cell 4
  simp at Qb_0 Qb_1 Qb_2 Qb_3 Qb_4
  have lt_Rb := Rb.out.lt
  have Rb_0 := Rb.out.cell 0
  have Rb_1 := Rb.out.cell 1
  have Rb_2 := Rb.out.cell 2
  have Rb_3 := Rb.out.cell 3
  have Rb_4 := Rb.out.cell 4
  simp at Rb_0 Rb_1 Rb_2 Rb_3 Rb_4
  have szB_v5 := SB15h.out.size
  go_wp2_with fail
  refine (ended_any o s _ HO.out.ok3).mono ?_
  rintro e w10 ⟨rfl, bel⟩
  clear lt_Pb Pb_0 Pb_1 Pb_2 Pb_3 Pb_4 lt_Ob Ob_0 Ob_1 Ob_2 Ob_3 Ob_4 lt_Ab Ab_0 Ab_1 Ab_2 Ab_3 Ab_4 lt_Bb Bb_0 Bb_1 Bb_2 Bb_3 Bb_4 lt_Qb Qb_0 Qb_1 Qb_2 Qb_3 Qb_4 lt_Rb Rb_0 Rb_1 Rb_2 Rb_3 Rb_4
  have t_HO := HO.out.below (bel)
  clear HO
  have HO := Lib.hid t_HO
  clear t_HO
  have t_HN := HN.out.below (bel)
  clear HN
  have HN := Lib.hid t_HN
  clear t_HN
  have t_HBN := HBN.out.trans ((bel).mono HBN.out.size)
  clear HBN
  have HBN := Lib.hid t_HBN
  clear t_HBN
  have t_HA := HA.out.below (bel)
  clear HA
  have HA := Lib.hid t_HA
  clear t_HA
  have t_HBo := HBo.out.below (bel)
  clear HBo
  have HBo := Lib.hid t_HBo
  clear t_HBo
  have t_HX := HX.out.below (bel)
  clear HX
  have HX := Lib.hid t_HX
  clear t_HX
  have t_HY := HY.out.below (bel)
  clear HY
  have HY := Lib.hid t_HY
  clear t_HY
  have t_HQ := HQ.out.below (bel)
  clear HQ
  have HQ := Lib.hid t_HQ
  clear t_HQ
  have t_HR := HR.out.below (bel)
  clear HR
  have HR := Lib.hid t_HR
  clear t_HR
  have t_Pb := Pb.out.below bel
  clear Pb
  have Pb := Lib.hid t_Pb
  clear t_Pb
  have t_Ob := Ob.out.below bel
  clear Ob
  have Ob := Lib.hid t_Ob
  clear t_Ob
  have t_Ab := Ab.out.below bel
  clear Ab
  have Ab := Lib.hid t_Ab
  clear t_Ab
  have t_Bb := Bb.out.below bel
  clear Bb
  have Bb := Lib.hid t_Bb
  clear t_Bb
  have t_Qb := Qb.out.below bel
  clear Qb
  have Qb := Lib.hid t_Qb
  clear t_Qb
  have t_Rb := Rb.out.below bel
  clear Rb
  have Rb := Lib.hid t_Rb
  clear t_Rb
  have SB16 : Below w.heap.size w w10 := SB15h.out.trans (bel.mono SB15h.out.size)
  clear SB15h
  have SB16h := Lib.hid SB16
  clear SB16 bel
  have lt_Pb := Pb.out.lt
  have Pb_0 := Pb.out.cell 0
  have Pb_1 := Pb.out.cell 1
  have Pb_2 := Pb.out.cell 2
  have Pb_3 := Pb.out.cell 3
  have Pb_4 := Pb.out.cell 4
  simp at Pb_0 Pb_1 Pb_2 Pb_3 Pb_4
  have lt_Ob := Ob.out.lt
  have Ob_0 := Ob.out.cell 0
  have Ob_1 := Ob.out.cell 1
  have Ob_2 := Ob.out.cell 2
  have Ob_3 := Ob.out.cell 3
  have Ob_4 := Ob.out.cell 4
  simp at Ob_0 Ob_1 Ob_2 Ob_3 Ob_4
  have lt_Ab := Ab.out.lt
  have Ab_0 := Ab.out.cell 0
  have Ab_1 := Ab.out.cell 1
  have Ab_2 := Ab.out.cell 2
  have Ab_3 := Ab.out.cell 3
  have Ab_4 := Ab.out.cell 4
  simp at Ab_0 Ab_1 Ab_2 Ab_3 Ab_4
  have lt_Bb := Bb.out.lt
  have Bb_0 := Bb.out.cell 0
  have Bb_1 := Bb.out.cell 1
  have Bb_2 := Bb.out.cell 2
  have Bb_3 := Bb.out.cell 3
  have Bb_4 := Bb.out.cell 4
  simp at Bb_0 Bb_1 Bb_2 Bb_3 Bb_4
  have lt_Qb := Qb.out.lt
  have Qb_0 := Qb.out.cell 0
  have Qb_1 := Qb.out.cell 1
  have Qb_2 := Qb.out.cell 2
  have Qb_3 := Qb.out.cell 3
  have Qb_4 := Qb.out.cell 4
  simp at Qb_0 Qb_1 Qb_2 Qb_3 Qb_4
  have lt_Rb := Rb.out.lt
  have Rb_0 := Rb.out.cell 0
  have Rb_1 := Rb.out.cell 1
  have Rb_2 := Rb.out.cell 2
  have Rb_3 := Rb.out.cell 3
  have Rb_4 := Rb.out.cell 4
  simp at Rb_0 Rb_1 Rb_2 Rb_3 Rb_4
  have szB_w10 := SB16h.out.size
  go_wp2_with fail
  refine (refended_any p s _ (HS.out.below SB16h.out)).mono ?_
  rintro e w11 ⟨rfl, bel⟩
  clear lt_Pb Pb_0 Pb_1 Pb_2 Pb_3 Pb_4 lt_Ob Ob_0 Ob_1 Ob_2 Ob_3 Ob_4 lt_Ab Ab_0 Ab_1 Ab_2 Ab_3 Ab_4 lt_Bb Bb_0 Bb_1 Bb_2 Bb_3 Bb_4 lt_Qb Qb_0 Qb_1 Qb_2 Qb_3 Qb_4 lt_Rb Rb_0 Rb_1 Rb_2 Rb_3 Rb_4
  have t_HO := HO.out.below (bel)
  clear HO
  have HO := Lib.hid t_HO
  clear t_HO
  have t_HN := HN.out.below (bel)
  clear HN
  have HN := Lib.hid t_HN
  clear t_HN
  have t_HBN := HBN.out.trans ((bel).mono HBN.out.size)
  clear HBN
  have HBN := Lib.hid t_HBN
  clear t_HBN
  have t_HA := HA.out.below (bel)
  clear HA
  have HA := Lib.hid t_HA
  clear t_HA
  have t_HBo := HBo.out.below (bel)
  clear HBo
  have HBo := Lib.hid t_HBo
  clear t_HBo
  have t_HX := HX.out.below (bel)
  clear HX
  have HX := Lib.hid t_HX
  clear t_HX
  have t_HY := HY.out.below (bel)
  clear HY
  have HY := Lib.hid t_HY
  clear t_HY
  have t_HQ := HQ.out.below (bel)
  clear HQ
  have HQ := Lib.hid t_HQ
  clear t_HQ
  have t_HR := HR.out.below (bel)
  clear HR
  have HR := Lib.hid t_HR
  clear t_HR
  have t_Pb := Pb.out.below bel
  clear Pb
  have Pb := Lib.hid t_Pb
  clear t_Pb
  have t_Ob := Ob.out.below bel
  clear Ob
  have Ob := Lib.hid t_Ob
  clear t_Ob
  have t_Ab := Ab.out.below bel
  clear Ab
  have Ab := Lib.hid t_Ab
  clear t_Ab
  have t_Bb := Bb.out.below bel
  clear Bb
  have Bb := Lib.hid t_Bb
  clear t_Bb
  have t_Qb := Qb.out.below bel
  clear Qb
  have Qb := Lib.hid t_Qb
  clear t_Qb
  have t_Rb := Rb.out.below bel
  clear Rb
  have Rb := Lib.hid t_Rb
  clear t_Rb
  have SB17 : Below w.heap.size w w11 := SB16h.out.trans (bel.mono SB16h.out.size)
  clear SB16h
  have SB17h := Lib.hid SB17
  clear SB17 bel
  have lt_Pb := Pb.out.lt
  have Pb_0 := Pb.out.cell 0
  have Pb_1 := Pb.out.cell 1
  have Pb_2 := Pb.out.cell 2
  have Pb_3 := Pb.out.cell 3
  have Pb_4 := Pb.out.cell 4
  simp at Pb_0 Pb_1 Pb_2 Pb_3 Pb_4
  have lt_Ob := Ob.out.lt
  have Ob_0 := Ob.out.cell 0
  have Ob_1 := Ob.out.cell 1
  have Ob_2 := Ob.out.cell 2
  have Ob_3 := Ob.out.cell 3
  have Ob_4 := Ob.out.cell 4
  simp at Ob_0 Ob_1 Ob_2 Ob_3 Ob_4
  have lt_Ab := Ab.out.lt
  have Ab_0 := Ab.out.cell 0
  have Ab_1 := Ab.out.cell 1
  have Ab_2 := Ab.out.cell 2
  have Ab_3 := Ab.out.cell 3
  have Ab_4 := Ab.out.cell 4
  simp at Ab_0 Ab_1 Ab_2 Ab_3 Ab_4
  have lt_Bb := Bb.out.lt
  have Bb_0 := Bb.out.cell 0
  have Bb_1 := Bb.out.cell 1
  have Bb_2 := Bb.out.cell 2
  have Bb_3 := Bb.out.cell 3
  have Bb_4 := Bb.out.cell 4
  simp at Bb_0 Bb_1 Bb_2 Bb_3 Bb_4
  have lt_Qb := Qb.out.lt
  have Qb_0 := Qb.out.cell 0
  have Qb_1 := Qb.out.cell 1
  have Qb_2 := Qb.out.cell 2
  have Qb_3 := Qb.out.cell 3
  have Qb_4 := Qb.out.cell 4
  simp at Qb_0 Qb_1 Qb_2 Qb_3 Qb_4
  have lt_Rb := Rb.out.lt
  have Rb_0 := Rb.out.cell 0
  have Rb_1 := Rb.out.cell 1
  have Rb_2 := Rb.out.cell 2
  have Rb_3 := Rb.out.cell 3
  have Rb_4 := Rb.out.cell 4
  simp at Rb_0 Rb_1 Rb_2 Rb_3 Rb_4
  have szB_w11 := SB17h.out.size
  go_wp2_with fail
  refine (left_any o s _ HO.out.ok3 HO.out.cap).mono ?_
  rintro e w12 ⟨rfl, bel⟩
  clear lt_Pb Pb_0 Pb_1 Pb_2 Pb_3 Pb_4 lt_Ob Ob_0 Ob_1 Ob_2 Ob_3 Ob_4 lt_Ab Ab_0 Ab_1 Ab_2 Ab_3 Ab_4 lt_Bb Bb_0 Bb_1 Bb_2 Bb_3 Bb_4 lt_Qb Qb_0 Qb_1 Qb_2 Qb_3 Qb_4 lt_Rb Rb_0 Rb_1 Rb_2 Rb_3 Rb_4
  have t_HO := HO.out.below (bel)
  clear HO
  have HO := Lib.hid t_HO
  clear t_HO
  have t_HN := HN.out.below (bel)
  clear HN
  have HN := Lib.hid t_HN
  clear t_HN
  have t_HBN := HBN.out.trans ((bel).mono HBN.out.size)
  clear HBN
  have HBN := Lib.hid t_HBN
  clear t_HBN
  have t_HA := HA.out.below (bel)
  clear HA
  have HA := Lib.hid t_HA
  clear t_HA
  have t_HBo := HBo.out.below (bel)
  clear HBo
  have HBo := Lib.hid t_HBo
  clear t_HBo
  have t_HX := HX.out.below (bel)
  clear HX
  have HX := Lib.hid t_HX
  clear t_HX
  have t_HY := HY.out.below (bel)
  clear HY
  have HY := Lib.hid t_HY
  clear t_HY
  have t_HQ := HQ.out.below (bel)
  clear HQ
  have HQ := Lib.hid t_HQ
  clear t_HQ
  have t_HR := HR.out.below (bel)
  clear HR
  have HR := Lib.hid t_HR
  clear t_HR
  have t_Pb := Pb.out.below bel
  clear Pb
  have Pb := Lib.hid t_Pb
  clear t_Pb
  have t_Ob := Ob.out.below bel
  clear Ob
  have Ob := Lib.hid t_Ob
  clear t_Ob
  have t_Ab := Ab.out.below bel
  clear Ab
  have Ab := Lib.hid t_Ab
  clear t_Ab
  have t_Bb := Bb.out.below bel
  clear Bb
  have Bb := Lib.hid t_Bb
  clear t_Bb
  have t_Qb := Qb.out.below bel
  clear Qb
  have Qb := Lib.hid t_Qb
  clear t_Qb
  have t_Rb := Rb.out.below bel
  clear Rb
  have Rb := Lib.hid t_Rb
  clear t_Rb
  have SB18 : Below w.heap.size w w12 := SB17h.out.trans (bel.mono SB17h.out.size)
  clear SB17h
  have SB18h := Lib.hid SB18
  clear SB18 bel
  have lt_Pb := Pb.out.lt
  have Pb_0 := Pb.out.cell 0
  have Pb_1 := Pb.out.cell 1
  have Pb_2 := Pb.out.cell 2
  have Pb_3 := Pb.out.cell 3
  have Pb_4 := Pb.out.cell 4
  simp at Pb_0 Pb_1 Pb_2 Pb_3 Pb_4
  have lt_Ob := Ob.out.lt
  have Ob_0 := Ob.out.cell 0
  have Ob_1 := Ob.out.cell 1
  have Ob_2 := Ob.out.cell 2
  have Ob_3 := Ob.out.cell 3
  have Ob_4 := Ob.out.cell 4
  simp at Ob_0 Ob_1 Ob_2 Ob_3 Ob_4
  have lt_Ab := Ab.out.lt
  have Ab_0 := Ab.out.cell 0
  have Ab_1 := Ab.out.cell 1
  have Ab_2 := Ab.out.cell 2
  have Ab_3 := Ab.out.cell 3
  have Ab_4 := Ab.out.cell 4
  simp at Ab_0 Ab_1 Ab_2 Ab_3 Ab_4
  have lt_Bb := Bb.out.lt
  have Bb_0 := Bb.out.cell 0
  have Bb_1 := Bb.out.cell 1
  have Bb_2 := Bb.out.cell 2
  have Bb_3 := Bb.out.cell 3
  have Bb_4 := Bb.out.cell 4
  simp at Bb_0 Bb_1 Bb_2 Bb_3 Bb_4
  have lt_Qb := Qb.out.lt
  have Qb_0 := Qb.out.cell 0
  have Qb_1 := Qb.out.cell 1
  have Qb_2 := Qb.out.cell 2
  have Qb_3 := Qb.out.cell 3
  have Qb_4 := Qb.out.cell 4
  simp at Qb_0 Qb_1 Qb_2 Qb_3 Qb_4
  have lt_Rb := Rb.out.lt
  have Rb_0 := Rb.out.cell 0
  have Rb_1 := Rb.out.cell 1
  have Rb_2 := Rb.out.cell 2
  have Rb_3 := Rb.out.cell 3
  have Rb_4 := Rb.out.cell 4
  simp at Rb_0 Rb_1 Rb_2 Rb_3 Rb_4
  have szB_w12 := SB18h.out.size
  go_wp2_with fail
  refine (refleft_any p s _ (HS.out.below SB18h.out)).mono ?_
  rintro e w13 ⟨rfl, bel⟩
  clear lt_Pb Pb_0 Pb_1 Pb_2 Pb_3 Pb_4 lt_Ob Ob_0 Ob_1 Ob_2 Ob_3 Ob_4 lt_Ab Ab_0 Ab_1 Ab_2 Ab_3 Ab_4 lt_Bb Bb_0 Bb_1 Bb_2 Bb_3 Bb_4 lt_Qb Qb_0 Qb_1 Qb_2 Qb_3 Qb_4 lt_Rb Rb_0 Rb_1 Rb_2 Rb_3 Rb_4
  have t_HO := HO.out.below (bel)
  clear HO
  have HO := Lib.hid t_HO
  clear t_HO
  have t_HN := HN.out.below (bel)
  clear HN
  have HN := Lib.hid t_HN
  clear t_HN
  have t_HBN := HBN.out.trans ((bel).mono HBN.out.size)
  clear HBN
  have HBN := Lib.hid t_HBN
  clear t_HBN
  have t_HA := HA.out.below (bel)
  clear HA
  have HA := Lib.hid t_HA
  clear t_HA
  have t_HBo := HBo.out.below (bel)
  clear HBo
  have HBo := Lib.hid t_HBo
  clear t_HBo
  have t_HX := HX.out.below (bel)
  clear HX
  have HX := Lib.hid t_HX
  clear t_HX
  have t_HY := HY.out.below (bel)
  clear HY
  have HY := Lib.hid t_HY
  clear t_HY
  have t_HQ := HQ.out.below (bel)
  clear HQ
  have HQ := Lib.hid t_HQ
  clear t_HQ
  have t_HR := HR.out.below (bel)
  clear HR
  have HR := Lib.hid t_HR
  clear t_HR
  have t_Pb := Pb.out.below bel
  clear Pb
  have Pb := Lib.hid t_Pb
  clear t_Pb
  have t_Ob := Ob.out.below bel
  clear Ob
  have Ob := Lib.hid t_Ob
  clear t_Ob
  have t_Ab := Ab.out.below bel
  clear Ab
  have Ab := Lib.hid t_Ab
  clear t_Ab
  have t_Bb := Bb.out.below bel
  clear Bb
  have Bb := Lib.hid t_Bb
  clear t_Bb
  have t_Qb := Qb.out.below bel
  clear Qb
  have Qb := Lib.hid t_Qb
  clear t_Qb
  have t_Rb := Rb.out.below bel
  clear Rb
  have Rb := Lib.hid t_Rb
  clear t_Rb
  have SB19 : Below w.heap.size w w13 := SB18h.out.trans (bel.mono SB18h.out.size)
  clear SB18h
  have SB19h := Lib.hid SB19
  clear SB19 bel
  have lt_Pb := Pb.out.lt
  have Pb_0 := Pb.out.cell 0
  have Pb_1 := Pb.out.cell 1
  have Pb_2 := Pb.out.cell 2
  have Pb_3 := Pb.out.cell 3
  have Pb_4 := Pb.out.cell 4
  simp at Pb_0 Pb_1 Pb_2 Pb_3 Pb_4
  have lt_Ob := Ob.out.lt
  have Ob_0 := Ob.out.cell 0
  have Ob_1 := Ob.out.cell 1
  have Ob_2 := Ob.out.cell 2
  have Ob_3 := Ob.out.cell 3
  have Ob_4 := Ob.out.cell 4
  simp at Ob_0 Ob_1 Ob_2 Ob_3 Ob_4
  have lt_Ab := Ab.out.lt
  have Ab_0 := Ab.out.cell 0
  have Ab_1 := Ab.out.cell 1
  have Ab_2 := Ab.out.cell 2
  have Ab_3 := Ab.out.cell 3
  have Ab_4 := Ab.out.cell 4
  simp at Ab_0 Ab_1 Ab_2 Ab_3 Ab_4
  have lt_Bb := Bb.out.lt
  have Bb_0 := Bb.out.cell 0
  have Bb_1 := Bb.out.cell 1
  have Bb_2 := Bb.out.cell 2
  have Bb_3 := Bb.out.cell 3
  have Bb_4 := Bb.out.cell 4
  simp at Bb_0 Bb_1 Bb_2 Bb_3 Bb_4
  have lt_Qb := Qb.out.lt
  have Qb_0 := Qb.out.cell 0
  have Qb_1 := Qb.out.cell 1
  have Qb_2 := Qb.out.cell 2
  have Qb_3 := Qb.out.cell 3
  have Qb_4 := Qb.out.cell 4
  simp at Qb_0 Qb_1 Qb_2 Qb_3 Qb_4
  have lt_Rb := Rb.out.lt
  have Rb_0 := Rb.out.cell 0
  have Rb_1 := Rb.out.cell 1
  have Rb_2 := Rb.out.cell 2
  have Rb_3 := Rb.out.cell 3
  have Rb_4 := Rb.out.cell 4
  simp at Rb_0 Rb_1 Rb_2 Rb_3 Rb_4
  have szB_w13 := SB19h.out.size
  have hbA := HVA.out.bd
  have hbQ := HVQ.out.bd
  have hrl : (rdyv s).length ≤ 64 := rdyv_le s
  obtain ⟨z, hz⟩ : ∃ z, mayv s = z := ⟨_, rfl⟩
  obtain ⟨lf, hlf⟩ : ∃ lf, leftv s = lf := ⟨_, rfl⟩
  obtain ⟨en, hen⟩ : ∃ en, endB s = en := ⟨_, rfl⟩
  obtain ⟨R, hR⟩ : ∃ R, rdyv s = R := ⟨_, rfl⟩
  obtain ⟨rl, hrl2⟩ : ∃ rl, R.length = rl := ⟨_, rfl⟩
  rw [hR, hrl2] at HX HY
  rw [hR, hrl2] at hrl
  rw [hz, hlf, hen, hR, hrl2]
  have Hz := Lib.hid hz
  clear hz hlf hen hR hrl2
  go_upto_region 15 with fail
  have n1 : (eb != eb) = false := bne_self_eq_false eb
  have n2 : (z != z) = false := bne_self_eq_false z
  have n3 : (u2 != u2) = false := bne_self_eq_false u2
  have n4 : (x2 != x2) = false := bne_self_eq_false x2
  have n5 : (e2 != e2) = false := bne_self_eq_false e2
  have n6 : (en != en) = false := bne_self_eq_false en
  have n7 : (lf != lf) = false := bne_self_eq_false lf
  have k1 := Lib.hid (fun bw : BW w13 => BW.call (v := .bool true) (fun W' (h : Below w13.heap.size w13 W') => calls_congr (same_any a b tb tb W' (HA.out.below h).ok3 (HBo.out.below h).ok3 ⟨by omega, by omega⟩) (congrArg Value.bool (cB_yes (SD.Same.rfl' tb)))) bw)
  have k2 := Lib.hid (fun bw : BW w13 => BW.call (v := .bool true) (fun W' (h : Below w13.heap.size w13 W') => calls_congr (sameints_cb X Y rl rl cx cy (fun i => R.getD i 0) (fun i => R.getD i 0) W' (HX.out.below h) (HY.out.below h) (by omega)) (congrArg Value.bool (cB_yes ⟨rfl, fun _ _ => rfl⟩))) bw)
  have k3 := Lib.hid (fun bw : BW w13 => BW.call (v := .bool true) (fun W' (h : Below w13.heap.size w13 W') => calls_congr (same_any q r tr tr W' (HQ.out.below h).ok3 (HR.out.below h).ok3 ⟨by omega, by omega⟩) (congrArg Value.bool (cB_yes (SD.Same.rfl' tr)))) bw)
  have k4 := Lib.hid (fun bw : BW w13 => BW.call (v := .int .i64 z) (fun W' (h : Below w13.heap.size w13 W') => calls_congr (check_any o s W' (HO.out.below h).ok3) (congrArg (Value.int .i64) Hz.out)) bw)
  have k5 := Lib.hid (fun bw : BW w13 => BW.call (v := .int .i64 z) (fun W' (h : Below w13.heap.size w13 W') => calls_congr (refcheck_any p s W' (HS.out.below ((SB19h.out).trans (h.mono (SB19h.out).size)))) (congrArg (Value.int .i64) Hz.out)) bw)
  have p_Pb_0 := fun b : BW w13 => BW.cell Pb_0 lt_Pb b
  have p_Pb_1 := fun b : BW w13 => BW.cell Pb_1 lt_Pb b
  have p_Pb_2 := fun b : BW w13 => BW.cell Pb_2 lt_Pb b
  have p_Pb_3 := fun b : BW w13 => BW.cell Pb_3 lt_Pb b
  have p_Pb_4 := fun b : BW w13 => BW.cell Pb_4 lt_Pb b
  have p_Ob_0 := fun b : BW w13 => BW.cell Ob_0 lt_Ob b
  have p_Ob_1 := fun b : BW w13 => BW.cell Ob_1 lt_Ob b
  have p_Ob_2 := fun b : BW w13 => BW.cell Ob_2 lt_Ob b
  have p_Ob_3 := fun b : BW w13 => BW.cell Ob_3 lt_Ob b
  have p_Ob_4 := fun b : BW w13 => BW.cell Ob_4 lt_Ob b
  have p_Ab_0 := fun b : BW w13 => BW.cell Ab_0 lt_Ab b
  have p_Ab_1 := fun b : BW w13 => BW.cell Ab_1 lt_Ab b
  have p_Ab_2 := fun b : BW w13 => BW.cell Ab_2 lt_Ab b
  have p_Ab_3 := fun b : BW w13 => BW.cell Ab_3 lt_Ab b
  have p_Ab_4 := fun b : BW w13 => BW.cell Ab_4 lt_Ab b
  have p_Bb_0 := fun b : BW w13 => BW.cell Bb_0 lt_Bb b
  have p_Bb_1 := fun b : BW w13 => BW.cell Bb_1 lt_Bb b
  have p_Bb_2 := fun b : BW w13 => BW.cell Bb_2 lt_Bb b
  have p_Bb_3 := fun b : BW w13 => BW.cell Bb_3 lt_Bb b
  have p_Bb_4 := fun b : BW w13 => BW.cell Bb_4 lt_Bb b
  have p_Qb_0 := fun b : BW w13 => BW.cell Qb_0 lt_Qb b
  have p_Qb_1 := fun b : BW w13 => BW.cell Qb_1 lt_Qb b
  have p_Qb_2 := fun b : BW w13 => BW.cell Qb_2 lt_Qb b
  have p_Qb_3 := fun b : BW w13 => BW.cell Qb_3 lt_Qb b
  have p_Qb_4 := fun b : BW w13 => BW.cell Qb_4 lt_Qb b
  have p_Rb_0 := fun b : BW w13 => BW.cell Rb_0 lt_Rb b
  have p_Rb_1 := fun b : BW w13 => BW.cell Rb_1 lt_Rb b
  have p_Rb_2 := fun b : BW w13 => BW.cell Rb_2 lt_Rb b
  have p_Rb_3 := fun b : BW w13 => BW.cell Rb_3 lt_Rb b
  have p_Rb_4 := fun b : BW w13 => BW.cell Rb_4 lt_Rb b
  clear lt_Pb Pb_0 Pb_1 Pb_2 Pb_3 Pb_4 lt_Ob Ob_0 Ob_1 Ob_2 Ob_3 Ob_4 lt_Ab Ab_0 Ab_1 Ab_2 Ab_3 Ab_4 lt_Bb Bb_0 Bb_1 Bb_2 Bb_3 Bb_4 lt_Qb Qb_0 Qb_1 Qb_2 Qb_3 Qb_4 lt_Rb Rb_0 Rb_1 Rb_2 Rb_3 Rb_4
  simp only [List.append]
  refine wp_region_quiet_bw (by kernel_rfl) (by kernel_rfl) ?_
  repeat (go_big_quiet_step ((first | (go_at_call 21; first | with_reducible exact k1.out _ | with_reducible exact k3.out _) | (go_at_call 22; with_reducible exact k2.out _) | (go_at_call 13; with_reducible exact k4.out _) | (go_at_call 23; with_reducible exact k5.out _))))
  refine wpQuiet_nil ?_
  intro _ hw'
  obtain ⟨pq, hw''⟩ := hw'
  subst hw''
  have belq := pq.h
  clear p_Pb_0 p_Pb_1 p_Pb_2 p_Pb_3 p_Pb_4 p_Ob_0 p_Ob_1 p_Ob_2 p_Ob_3 p_Ob_4 p_Ab_0 p_Ab_1 p_Ab_2 p_Ab_3 p_Ab_4 p_Bb_0 p_Bb_1 p_Bb_2 p_Bb_3 p_Bb_4 p_Qb_0 p_Qb_1 p_Qb_2 p_Qb_3 p_Qb_4 p_Rb_0 p_Rb_1 p_Rb_2 p_Rb_3 p_Rb_4 k1 k2 k3 k4 k5 n1 n2 n3 n4 n5 n6 n7 Hz HX HY
  generalize pq.W = wq at *
  clear pq
  have t_HA := HA.out.below belq
  clear HA
  have HA := Lib.hid t_HA
  clear t_HA
  have t_HQ := HQ.out.below belq
  clear HQ
  have HQ := Lib.hid t_HQ
  clear t_HQ
  have HBN7 := Lib.hid (HBN.out.trans (belq.mono HBN.out.size))
  clear HO HN HBo HR HBN
  have t_Pb := Pb.out.below belq
  clear Pb
  have Pb := Lib.hid t_Pb
  clear t_Pb
  have t_Ob := Ob.out.below belq
  clear Ob
  have Ob := Lib.hid t_Ob
  clear t_Ob
  have t_Ab := Ab.out.below belq
  clear Ab
  have Ab := Lib.hid t_Ab
  clear t_Ab
  have t_Bb := Bb.out.below belq
  clear Bb
  have Bb := Lib.hid t_Bb
  clear t_Bb
  have t_Qb := Qb.out.below belq
  clear Qb
  have Qb := Lib.hid t_Qb
  clear t_Qb
  have t_Rb := Rb.out.below belq
  clear Rb
  have Rb := Lib.hid t_Rb
  clear t_Rb
  have HB7 := Lib.hid (SB19h.out.trans (belq.mono SB19h.out.size))
  clear SB19h belq
  have NQ := Lib.hid (ps_blk HQ.out HA.out Qb.out (by decide))
  have NA := Lib.hid (ps_blk HQ.out HA.out Ab.out (by decide))
  have NP := Lib.hid (ps_blk HQ.out HA.out Pb.out (by decide))
  have NO := Lib.hid (ps_blk HQ.out HA.out Ob.out (by decide))
  have HGE := Lib.hid (ps_ge HQ.out HA.out HBS.out (Nat.le_refl _))
  obtain ⟨S, hS⟩ : ∃ S, PS q a tr tb = S := ⟨_, rfl⟩
  have HSx := Lib.hid hS
  rw [hS] at NQ NA NP NO HGE
  clear hS HBS Bb Rb
  go_wp2
  go_loopw [33] (fun i wr => ∃ k : Nat, k ≤ tr.nb ∧ i = .int .i64 k ∧ Spo S wq wr) (fun i wr => tr.nb - (intOf i).toNat)
  case atStart => exact ⟨0, Nat.zero_le _, rfl, Spo.refl _ _⟩
  case round =>
    obtain ⟨k, hk, rfl, hsp⟩ := hrel
    have HSp := Lib.hid hsp
    clear hsp
    have T0 := HSp.out.blk Qb.out NQ.out
    have ltT := T0.lt
    have T_1 := T0.cell 3
    simp at T_1
    clear T0
    by_cases hkn : k < tr.nb
    · have hi0 : (0 : Int) ≤ (k : Int) := by omega
      have hi1 : (k : Int) < (tr.nb : Int) := by omega
      obtain ⟨g, hA, hgB, hgl, hgS, hcell, hfr⟩ := own_w HQ.out.1.2 (by omega)
      have hSg : S g := by rw [← HSx.out]; exact .inl hgS
      obtain ⟨y0, x0⟩ := (by obtain ⟨v, hv⟩ := hcell k (by omega); exact HSp.out.cell _ v hv : ∃ v', wr.cell? ⟨g, k, none⟩ = some v')
      have f0 := (HSp.out.frozen ⟨g, k, none⟩ hgl).trans (hfr k)
      rw [hA] at T_1
      have HSg := Lib.hid hSg
      clear hA hgB hgS hcell hfr hSg
      go_wp2
      go_roundw
      case rel => exact ⟨k + 1, by omega, by go_num, HSp.out.set (p := ⟨g, k, none⟩) HSg.out _⟩
      case measure => simp [intOf]; omega
    · obtain hkk : k = tr.nb := by omega
      have HSp1 := Lib.hid HSp.out
      clear HSp
      obtain ⟨wo1, rfl⟩ : ∃ wo : World, wo = wr := ⟨wr, rfl⟩
      subst hkk
      go_wp2
      clear T_1 ltT
      go_loopw [34] (fun i wr => ∃ k : Nat, k ≤ tr.np ∧ i = .int .i64 k ∧ Spo S wq wr) (fun i wr => tr.np - (intOf i).toNat)
      case atStart => exact ⟨0, Nat.zero_le _, rfl, HSp1.out⟩
      case round =>
        obtain ⟨k, hk, rfl, hsp⟩ := hrel
        have HSp := Lib.hid hsp
        clear hsp
        have T0 := HSp.out.blk Qb.out NQ.out
        have ltT := T0.lt
        have T_1 := T0.cell 0
        simp at T_1
        clear T0
        by_cases hkn : k < tr.np
        · have hi0 : (0 : Int) ≤ (k : Int) := by omega
          have hi1 : (k : Int) < (tr.np : Int) := by omega
          obtain ⟨g, hA, hgB, hgl, hgS, hcell, hfr⟩ := own_w HQ.out.1.1 (by omega)
          have hSg : S g := by rw [← HSx.out]; exact .inr (.inl hgS)
          obtain ⟨y0, x0⟩ := (by obtain ⟨v, hv⟩ := hcell k (by omega); exact HSp.out.cell _ v hv : ∃ v', wr.cell? ⟨g, k, none⟩ = some v')
          have f0 := (HSp.out.frozen ⟨g, k, none⟩ hgl).trans (hfr k)
          rw [hA] at T_1
          have HSg := Lib.hid hSg
          clear hA hgB hgS hcell hfr hSg
          go_wp2
          go_roundw
          case rel => exact ⟨k + 1, by omega, by go_num, HSp.out.set (p := ⟨g, k, none⟩) HSg.out _⟩
          case measure => simp [intOf]; omega
        · obtain hkk : k = tr.np := by omega
          have HSp2 := Lib.hid HSp.out
          clear HSp
          obtain ⟨wo2, rfl⟩ : ∃ wo : World, wo = wr := ⟨wr, rfl⟩
          subst hkk
          go_wp2
          clear T_1 ltT
          go_loopw [35] (fun i wr => ∃ k : Nat, k ≤ tb.np ∧ i = .int .i64 k ∧ Spo S wq wr) (fun i wr => tb.np - (intOf i).toNat)
          case atStart => exact ⟨0, Nat.zero_le _, rfl, HSp2.out⟩
          case round =>
            obtain ⟨k, hk, rfl, hsp⟩ := hrel
            have HSp := Lib.hid hsp
            clear hsp
            have T0 := HSp.out.blk Ab.out NA.out
            have ltT := T0.lt
            have T_1 := T0.cell 0
            simp at T_1
            clear T0
            by_cases hkn : k < tb.np
            · have hi0 : (0 : Int) ≤ (k : Int) := by omega
              have hi1 : (k : Int) < (tb.np : Int) := by omega
              obtain ⟨g, hA, hgB, hgl, hgS, hcell, hfr⟩ := own_w HA.out.1.1 (by omega)
              have hSg : S g := by rw [← HSx.out]; exact .inr (.inr hgS)
              obtain ⟨y0, x0⟩ := (by obtain ⟨v, hv⟩ := hcell k (by omega); exact HSp.out.cell _ v hv : ∃ v', wr.cell? ⟨g, k, none⟩ = some v')
              have f0 := (HSp.out.frozen ⟨g, k, none⟩ hgl).trans (hfr k)
              rw [hA] at T_1
              have HSg := Lib.hid hSg
              clear hA hgB hgS hcell hfr hSg
              go_wp2
              go_roundw
              case rel => exact ⟨k + 1, by omega, by go_num, HSp.out.set (p := ⟨g, k, none⟩) HSg.out _⟩
              case measure => simp [intOf]; omega
            · obtain hkk : k = tb.np := by omega
              have HSp3 := Lib.hid HSp.out
              clear HSp
              obtain ⟨wo3, rfl⟩ : ∃ wo : World, wo = wr := ⟨wr, rfl⟩
              subst hkk
              go_upto_region 29 with fail
              clear T_1 ltT
              have HBo := Lib.hid (HSp3.out.below (B := w3.heap.size) HGE.out HBN7.out.size)
              have Pz := HSp3.out.blk Pb.out NP.out
              have Oz := HSp3.out.blk Ob.out NO.out
              have ltP := Pz.lt
              have ltO := Oz.lt
              have P_0 := Pz.cell 0
              have O_0 := Oz.cell 0
              have P_1 := Pz.cell 1
              have O_1 := Oz.cell 1
              have P_2 := Pz.cell 2
              have O_2 := Oz.cell 2
              have P_3 := Pz.cell 3
              have O_3 := Oz.cell 3
              have P_4 := Pz.cell 4
              have O_4 := Oz.cell 4
              simp at P_0 O_0 P_1 O_1 P_2 O_2 P_3 O_3 P_4 O_4
              clear Pz Oz
              have HBe := Lib.hid (HBN7.out.trans HBo.out)
              have HBz := Lib.hid (HB5.out.trans (HBe.out.mono HB5.out.size))
              go_wp2_with fail
              refine (calls_congr (same_any o p s s _ (HO5.out.below HBe.out).ok3 (HS.out.below HBz.out) ⟨by omega, by omega⟩) (congrArg Value.bool (cB_yes (SD.Same.rfl' s)))).mono ?_
              rintro e wy ⟨rfl, bel⟩
              have HBf := Lib.hid (HBz.out.trans (bel.mono HBz.out.size))
              have HBg := Lib.hid (HBe.out.trans (bel.mono HBe.out.size))
              clear bel P_0 O_0 P_1 O_1 P_2 O_2 P_3 O_3 P_4 O_4 ltP ltO
              go_wp2_with fail
              refine (calls_congr (sameints_cb A1 A n n d1 c l l _ (HN5.out.below HBg.out) (HI.out.below HBf.out) (by omega)) (congrArg Value.bool (cB_yes ⟨rfl, fun _ _ => rfl⟩))).mono ?_
              rintro e wz ⟨rfl, bel⟩
              have HBh := Lib.hid (HBf.out.trans (bel.mono HBf.out.size))
              clear bel
              go_wp2
              go_ret
              exact ⟨rfl, HBh.out⟩
theorem schedSteps_arg (v0 v1 v2 : Value) (w : World) (h0 : Arg Try.prog w 25 v0) (h1 : Arg Try.prog w 3 v1) (h2 : Arg Try.prog w 23 v2) : Calls Try.prog 4 #[v0, v1, v2] w fun e w' => e = .returned (.bool true) ∧ Below w.heap.size w w' := by
  obtain ⟨p, s, rfl, hok, _, hcap⟩ := arg_pool h0
  obtain ⟨x, rfl⟩ := arg_int h1
  obtain ⟨A, n, c, l, rfl, _, _, hI⟩ := arg_ints Try.underlying23 Try.underlying3 cells_int h2
  exact schedSteps_walk p s x A n c l w hok hI
end Go.Proofs.Ytdilfcpgjkkjmaa
