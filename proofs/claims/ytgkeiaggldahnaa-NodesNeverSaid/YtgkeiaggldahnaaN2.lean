/- nodes: below, reaches. -/
import Derived.Test.YtgkeiaggldahnaaN1
import Derived.Carry
namespace Go.Proofs.Ytgkeiaggldahnaa
open Go.RowKit
set_option linter.unusedVariables false

set_option maxRecDepth 100000 in
set_option maxHeartbeats 4000000 in
theorem below_any (d : GD) (p : GP) (hk : d.Kid) (hsm : d.Sm) (t i m : Nat) (s : Nat → Bool) (w : World) (ht : t < d.n) (hi : i < d.n) (hok : GOk w p d) (hS : SetG d w m s) :
    Calls Try.prog 57 #[.agg #[.slice p.A d.n p.c, .slice p.K d.m p.kc], .map (some m), hval i (d.g i), hval t (d.g t)] w (LookR d t m i s w) := by
  have b1 : Below w.heap.size w (((((w.alloc (.cells #[.slice p.A d.n p.c, .slice p.K d.m p.kc] 27)).alloc (.cells #[.map (some m)] 90)).alloc (.cells #[.int .i64 i, .int .i64 (d.g i)] 29)).alloc (.cells #[.int .i64 t, .int .i64 (d.g t)] 29)).alloc (.cells #[.func (Fn.func 72) #[] #[.pointer (some ⟨w.heap.size + 1 + 1 + 1, 0, none⟩), .pointer (some ⟨w.heap.size + 1, 0, none⟩), .pointer (some ⟨w.heap.size, 0, none⟩), .pointer (some ⟨w.heap.size + 1 + 1 + 1 + 1, 0, none⟩)]] 86)) := by
    repeat' (first | exact Below.refl _ _ | assumption | apply Below.drew | refine Below.setCell ?_ (by first | omega | (simp; done) | (simp; omega)) _ | refine Below.alloc ?_ (by first | omega | (simp; done) | (simp; omega)) _)
  have hE : Env d p t (w.heap.size + 1 + 1 + 1) (w.heap.size + 1) (w.heap.size) (w.heap.size + 1 + 1 + 1 + 1) m (((((w.alloc (.cells #[.slice p.A d.n p.c, .slice p.K d.m p.kc] 27)).alloc (.cells #[.map (some m)] 90)).alloc (.cells #[.int .i64 i, .int .i64 (d.g i)] 29)).alloc (.cells #[.int .i64 t, .int .i64 (d.g t)] 29)).alloc (.cells #[.func (Fn.func 72) #[] #[.pointer (some ⟨w.heap.size + 1 + 1 + 1, 0, none⟩), .pointer (some ⟨w.heap.size + 1, 0, none⟩), .pointer (some ⟨w.heap.size, 0, none⟩), .pointer (some ⟨w.heap.size + 1 + 1 + 1 + 1, 0, none⟩)]] 86)) :=
    ⟨ht, (by have h := (hasBlk_new (((w.alloc (.cells #[.slice p.A d.n p.c, .slice p.K d.m p.kc] 27)).alloc (.cells #[.map (some m)] 90)).alloc (.cells #[.int .i64 i, .int .i64 (d.g i)] 29)) 29 #[.int .i64 t, .int .i64 (d.g t)]).alloc (.cells #[.func (Fn.func 72) #[] #[.pointer (some ⟨w.heap.size + 1 + 1 + 1, 0, none⟩), .pointer (some ⟨w.heap.size + 1, 0, none⟩), .pointer (some ⟨w.heap.size, 0, none⟩), .pointer (some ⟨w.heap.size + 1 + 1 + 1 + 1, 0, none⟩)]] 86); simpa using h),
     (by have h := (((hasBlk_new (w.alloc (.cells #[.slice p.A d.n p.c, .slice p.K d.m p.kc] 27)) 90 #[.map (some m)]).alloc (.cells #[.int .i64 i, .int .i64 (d.g i)] 29)).alloc (.cells #[.int .i64 t, .int .i64 (d.g t)] 29)).alloc (.cells #[.func (Fn.func 72) #[] #[.pointer (some ⟨w.heap.size + 1 + 1 + 1, 0, none⟩), .pointer (some ⟨w.heap.size + 1, 0, none⟩), .pointer (some ⟨w.heap.size, 0, none⟩), .pointer (some ⟨w.heap.size + 1 + 1 + 1 + 1, 0, none⟩)]] 86); simpa using h),
     (by have h := ((((hasBlk_new w 27 #[.slice p.A d.n p.c, .slice p.K d.m p.kc]).alloc (.cells #[.map (some m)] 90)).alloc (.cells #[.int .i64 i, .int .i64 (d.g i)] 29)).alloc (.cells #[.int .i64 t, .int .i64 (d.g t)] 29)).alloc (.cells #[.func (Fn.func 72) #[] #[.pointer (some ⟨w.heap.size + 1 + 1 + 1, 0, none⟩), .pointer (some ⟨w.heap.size + 1, 0, none⟩), .pointer (some ⟨w.heap.size, 0, none⟩), .pointer (some ⟨w.heap.size + 1 + 1 + 1 + 1, 0, none⟩)]] 86); simpa using h),
     (by have h := (hasBlk_new ((((w.alloc (.cells #[.slice p.A d.n p.c, .slice p.K d.m p.kc] 27)).alloc (.cells #[.map (some m)] 90)).alloc (.cells #[.int .i64 i, .int .i64 (d.g i)] 29)).alloc (.cells #[.int .i64 t, .int .i64 (d.g t)] 29)) 86 #[.func (Fn.func 72) #[] #[.pointer (some ⟨w.heap.size + 1 + 1 + 1, 0, none⟩), .pointer (some ⟨w.heap.size + 1, 0, none⟩), .pointer (some ⟨w.heap.size, 0, none⟩), .pointer (some ⟨w.heap.size + 1 + 1 + 1 + 1, 0, none⟩)]]); simpa using h),
     hok.below b1⟩
  have hc := Lib.hid (look_any d p hk hsm t _ _ _ _ m (left s d.n + 1) s i _ (by omega) hi hE (hS.below b1))
  have B1 := Lib.hid b1
  clear hE b1 hok hS hk hsm
  have hmf : ∀ (fn : Fn) (first cap : Array Value) (w : World), (Instr.makeFunc fn first cap).run Try.prog w = .ok (.func fn first cap) w := fun _ _ _ _ => rfl
  go_enter Try.func57, Try.ntmps57
  go_wp2_with fail
  refine hc.out.mono ?_
  rintro e w2 ⟨r, s', rfl, h1, h2, h3⟩
  have H1 := Lib.hid h1
  have H2 := Lib.hid h2
  have H3 := Lib.hid h3
  clear h1 h2 h3
  go_wp2
  go_ret
  exact ⟨r, s', rfl, H1.out, H2.out, gb_trans (gb_below B1.out _) H3.out⟩

open Classical in
set_option maxRecDepth 100000 in
set_option maxHeartbeats 4000000 in
theorem reaches_any (d : GD) (p : GP) (hk : d.Kid) (hsm : d.Sm) (t i : Nat) (w : World) (ht : t < d.n) (hi : i < d.n) (hok : GOk w p d) :
    Calls Try.prog 40 #[.agg #[.slice p.A d.n p.c, .slice p.K d.m p.kc], hval i (d.g i), hval t (d.g t)] w fun e w' => e = .returned (.bool (d.E.reachB i t)) ∧ Below w.heap.size w w' := by
  have b1 : Below w.heap.size w (((w.alloc (.cells #[.slice p.A d.n p.c, .slice p.K d.m p.kc] 27)).alloc (.cells #[.int .i64 i, .int .i64 (d.g i)] 29)).alloc (.cells #[.int .i64 t, .int .i64 (d.g t)] 29)) := by
    repeat' (first | exact Below.refl _ _ | assumption | apply Below.drew | refine Below.setCell ?_ (by first | omega | (simp; done) | (simp; omega)) _ | refine Below.alloc ?_ (by first | omega | (simp; done) | (simp; omega)) _)
  have b2 : Below w.heap.size w ((((w.alloc (.cells #[.slice p.A d.n p.c, .slice p.K d.m p.kc] 27)).alloc (.cells #[.int .i64 i, .int .i64 (d.g i)] 29)).alloc (.cells #[.int .i64 t, .int .i64 (d.g t)] 29)).alloc (.map #[] 0)) := by
    repeat' (first | exact Below.refl _ _ | assumption | apply Below.drew | refine Below.setCell ?_ (by first | omega | (simp; done) | (simp; omega)) _ | refine Below.alloc ?_ (by first | omega | (simp; done) | (simp; omega)) _)
  have hc := Lib.hid (below_any d p hk hsm t i (w.heap.size + 1 + 1 + 1) (fun _ => false) _ ht hi (hok.below b2) (by have h := SetG.made d (((w.alloc (.cells #[.slice p.A d.n p.c, .slice p.K d.m p.kc] 27)).alloc (.cells #[.int .i64 i, .int .i64 (d.g i)] 29)).alloc (.cells #[.int .i64 t, .int .i64 (d.g t)] 29)); simpa using h))
  have B2 := Lib.hid b2
  have hmm := @run_makeMap Try.prog
  clear b1 b2 hok hk hsm
  go_enter Try.func40, Try.ntmps40
  go_wp2_with fail
  refine hc.out.mono ?_
  rintro e w2 ⟨r, s', rfl, h1, h2, h3⟩
  have hr : r = d.E.reachB i t := by
    rw [Bool.eq_iff_iff, d.E.reachB_iff]
    exact h1.iff (.zero _ _)
  subst hr
  have B3 := Lib.hid (below_gb B2.out (by simp; omega) h3 (by omega))
  clear h1 h2 h3
  go_wp2
  go_ret
  exact ⟨rfl, B3.out⟩
end Go.Proofs.Ytgkeiaggldahnaa
