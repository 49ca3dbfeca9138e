/- arena: the reference's Twin. -/
import Derived.Test.YtgkeiaggldahnaaR9
import Derived.Deep.AppendLies
namespace Go.Proofs.Ytgkeiaggldahnaa
open Go.RowKit
set_option linter.unusedVariables false

/-- An arena of the call's own. -/
def OwnG (n : Nat) (g : Nat → Int) (b : Nat → Bool) (B : Nat) (v : Value) (w' : World) : Prop := ∃ X c, v = .agg #[.slice X n c] ∧ w'.ownsRow B 58 2 (.slice X n c) n (cellsR 2 (sv g b) n)
set_option maxRecDepth 100000 in
set_option maxHeartbeats 2000000 in
theorem reftwin_any (A : Option Addr) (n c : Nat) (g : Nat → Int) (b : Nat → Bool) (w : World) (hA : Row w A n 2 (sv g b)) (hn : (n : Int) ≤ 1000000) :
    Calls Try.prog 36 #[.agg #[.slice A n c]] w fun e w' => (∃ v, e = .returned v ∧ OwnG n g b w.heap.size v w') ∧ Below w.heap.size w w' := by
  obtain ⟨i0, hi0, hz0, hz1, hz2⟩ := info_parts slot_info
  have hbel0 : Below w.heap.size w (((w.alloc (.cells #[.slice A n c] 24)).alloc (.cells #[.slice none 0 0] 24)).alloc (.cells #[.slice none 0 0] 24)) := by
    repeat' (first | exact Below.refl _ _ | assumption | apply Below.drew | refine Below.setCell ?_ (by first | omega | (simp; done) | (simp; omega)) _ | refine Below.alloc ?_ (by first | omega | (simp; done) | (simp; omega)) _)
  have hnews := (hA.below hbel0).news (by omega)
  have hown0 := own_nil (((w.alloc (.cells #[.slice A n c] 24)).alloc (.cells #[.slice none 0 0] 24)).alloc (.cells #[.slice none 0 0] 24)) w.heap.size 58 2
  have hb0 := Lib.hid hbel0
  have tP := Lib.hid (((hasBlk_new w 24 #[.slice A n c]).alloc (.cells #[.slice none 0 0] 24)).alloc (.cells #[.slice none 0 0] 24))
  have tZ := Lib.hid ((show HasBlk ((w.alloc (.cells #[.slice A n c] 24)).alloc (.cells #[.slice none 0 0] 24)) (w.heap.size + 1) 24 #[.slice none 0 0] by simpa using hasBlk_new (w.alloc (.cells #[.slice A n c] 24)) 24 #[.slice none 0 0]).alloc (.cells #[.slice none 0 0] 24))
  have tT := Lib.hid (show HasBlk (((w.alloc (.cells #[.slice A n c] 24)).alloc (.cells #[.slice none 0 0] 24)).alloc (.cells #[.slice none 0 0] 24)) (w.heap.size + 1 + 1) 24 #[.slice none 0 0] by simpa using hasBlk_new ((w.alloc (.cells #[.slice A n c] 24)).alloc (.cells #[.slice none 0 0] 24)) 24 #[.slice none 0 0])
  clear hA hbel0
  go_enter Try.func36, Try.ntmps36
  go_wp2_with (at_builtin; refine wpList_app rfl (.tmp 5) (.tmp 7) 22 rfl w.heap.size 58 i0 _ 2 16 Try.underlying22 hi0 hz0 hz1 hz2 rfl (by omega) none 0 0 [] rfl hown0 A n c (cellsR 2 (sv g b) n) rfl (cellsR_len 2 _ n) hnews (cellsR_one (sv_one g b) n) (by unfold maxLen; omega) (by omega) (by simp; omega) ?_; intro A1 c1 w1 hown1 hgr1; simp only [Nat.zero_add, List.nil_append] at hown1 ⊢; have kZ := tZ.out.grown hgr1 (by simp [Value.ownBlock]); have kT := tT.out.grown hgr1 (by simp [Value.ownBlock]); have Hown := Lib.hid hown1; have Hgr := Lib.hid hgr1; have Z_0 := kZ.cell 0; have Z_f := kZ.frozen 0; have T_0 := kT.cell 0; have T_f := kT.frozen 0; have lZ := kZ.lt; have lT := kT.lt; have KZ := Lib.hid kZ; have KT := Lib.hid kT; clear hown1 hgr1 kZ kT hnews hown0; simp at Z_0 T_0)
  have hbel : Below w.heap.size w w1 := below_grown (v := .slice none 0 0) (base := w.heap.size) hb0.out Hgr.out (own_nil _ _ 58 2) (Nat.le_refl _) (by simp; omega)
  have nZ := KZ.out.ne_own Hown.out (by decide)
  have nT := KT.out.ne_own Hown.out (by decide)
  refine bodyPost_ret (v := .agg #[.slice A1 n c1]) (by simp [results, Try.results36, go_sem, *]) rfl ⟨⟨_, rfl, A1, c1, rfl, ?_⟩, ?_⟩
  · have h := Hown.out
    repeat' (first | exact h | refine ownsRow_setCell_other ?_ (by first | exact nZ | exact nT) _)
  · have bel0 := hbel
    repeat' (first | exact Below.refl _ _ | assumption | apply Below.drew | refine Below.setCell ?_ (by first | omega | (simp; done) | (simp; omega)) _ | refine Below.alloc ?_ (by first | omega | (simp; done) | (simp; omega)) _)
end Go.Proofs.Ytgkeiaggldahnaa
