/- arena: held, Holds. -/
import Derived.Test.YtgkeiaggldahnaaR1
namespace Go.Proofs.Ytgkeiaggldahnaa
open Go.RowKit
set_option linter.unusedVariables false

theorem fields_slot : (Try.prog.fieldsOf 58).toList.map (fun f => (f.name == "_", f.type, f.offset)) = [(false, 3, 0), (false, 4, 1)] := by kernel_rfl
theorem cells_int : Try.prog.cellsOf 3 = 1 := by kernel_rfl
theorem eqFields_slot (d : Nat) (x y : Int) (p q : Bool) (w : World) : ∀ l : List Field, l.map (fun f => (f.name == "_", f.type, f.offset)) = [(false, 3, 0), (false, 4, 1)] →
    (Op.eqFields (d + 1) #[.int .i64 x, .bool p] #[.int .i64 y, .bool q] l).run Try.prog w = .ok (x == y && p == q) w
  | [f1, f2], h => by
    simp only [List.map_cons, List.map_nil, List.cons.injEq, Prod.mk.injEq, and_true] at h
    obtain ⟨⟨n1, t1, o1⟩, ⟨n2, t2, o2⟩⟩ := h
    have m1 : f1.name ≠ "_" := by simpa using n1
    have m2 : f2.name ≠ "_" := by simpa using n2
    simp only [Op.eqFields, m1, m2, t1, t2, o1, o2, ne_eq, not_false_eq_true, if_true, Sem.run_bind]
    simp [part, isAgg, run_underlying Try.underlying3, run_underlying Try.underlying4, run_equalIn_int _ _ _ _ _ _ _ Try.underlying3, run_equalIn_bool' _ _ _ _ _ Try.underlying4]
    by_cases h0 : x = y <;> by_cases h1 : p = q <;> simp [h0, h1]
  | [], h => by simp at h
  | [_], h => by simp at h
  | _ :: _ :: _ :: _, h => by simp at h
theorem eql_slot (x y : Int) (p q : Bool) (w : World) : (binOp .eql 58 (.agg #[.int .i64 x, .bool p]) (.agg #[.int .i64 y, .bool q])).run Try.prog w = .ok (.bool (x == y && p == q)) w := by
  rw [run_eql_struct, run_equalIn_struct w 9999 _ _ _ (by kernel_rfl) (by kernel_rfl), eqFields_slot 9998 x y p q w _ fields_slot]
  rfl

/-- Is a handle, of an arena that may be? -/
def HeldA (n : Nat) (g : Nat → Int) (b : Nat → Bool) (s q : Int) : Prop := 0 ≤ s ∧ s < n ∧ g s.toNat = q ∧ b s.toNat = true
instance (n : Nat) (g : Nat → Int) (b : Nat → Bool) (s q : Int) : Decidable (HeldA n g b s q) := by unfold HeldA; infer_instance

set_option maxRecDepth 100000 in
set_option maxHeartbeats 2000000 in
theorem held_any (A : Option Addr) (n c : Nat) (g : Nat → Int) (b : Nat → Bool) (s q : Int) (w : World) (hA : Row w A n 2 (sv g b)) (hn : (n : Int) ≤ 9223372036854775807) :
    Calls Try.prog 68 #[.agg #[.slice A n c], .agg #[.int .i64 s, .int .i64 q]] w fun e w' => e = .returned (.bool (decide (HeldA n g b s q))) ∧ Below w.heap.size w w' := by
  by_cases h0 : 0 ≤ s
  rotate_left
  · have g0 : decide ((0 : Int) ≤ s) = false := decide_eq_false h0
    rw [decide_eq_false (fun h => h0 h.1)]
    clear hA h0
    go_enter Try.func68, Try.ntmps68
    go_wp2_with fail
    go_quiet (fail)
    go_wp2
    go_ret
    exact ⟨rfl, by refine below_drewN ?_ _; repeat' (first | exact Below.refl _ _ | assumption | apply Below.drew | refine Below.setCell ?_ (by first | omega | (simp; done) | (simp; omega)) _ | refine Below.alloc ?_ (by first | omega | (simp; done) | (simp; omega)) _)⟩
  have g0 : decide ((0 : Int) ≤ s) = true := decide_eq_true h0
  by_cases h1 : s < n
  rotate_left
  · have g1 : decide (s < (n : Int)) = false := decide_eq_false h1
    rw [decide_eq_false (fun h => h1 h.2.1)]
    clear hA h0 h1
    go_enter Try.func68, Try.ntmps68
    go_wp2_with fail
    go_quiet (fail)
    go_wp2
    go_ret
    exact ⟨rfl, by refine below_drewN ?_ _; repeat' (first | exact Below.refl _ _ | assumption | apply Below.drew | refine Below.setCell ?_ (by first | omega | (simp; done) | (simp; omega)) _ | refine Below.alloc ?_ (by first | omega | (simp; done) | (simp; omega)) _)⟩
  obtain ⟨k, rfl⟩ := Int.eq_ofNat_of_zero_le h0
  have g1 : decide ((k : Int) < (n : Int)) = true := decide_eq_true h1
  obtain ⟨gg, o, rfl, hg, hc⟩ := hA (by omega)
  have c0 := hc k (by omega) 0 (by omega)
  have c1 := hc k (by omega) 1 (by omega)
  simp only [Nat.add_zero, sv, if_true] at c0
  simp only [sv] at c1
  rw [if_neg (by decide)] at c1
  have hq := fun W => eql_slot (g k) q (b k) true W
  have hv : (g k == q && b k == true) = decide (HeldA n g b (k : Int) q) := by
    rw [Bool.eq_iff_iff, decide_eq_true_eq]
    simp only [Bool.and_eq_true, beq_iff_eq]
    unfold HeldA
    rw [Int.toNat_natCast]
    exact ⟨fun h => ⟨by omega, by omega, h.1, h.2⟩, fun h => ⟨h.2.2.1, h.2.2.2⟩⟩
  simp only [hv] at hq
  generalize decide (HeldA n g b (k : Int) q) = r at *
  have hq2 := fun W => equalIn_of_eql (hq W)
  clear hA hc hv hq
  go_enter Try.func68, Try.ntmps68
  go_wp2_with fail
  go_quiet (fail)
  go_wp2
  go_ret
  exact ⟨rfl, by refine below_drewN ?_ _; repeat' (first | exact Below.refl _ _ | assumption | apply Below.drew | refine Below.setCell ?_ (by first | omega | (simp; done) | (simp; omega)) _ | refine Below.alloc ?_ (by first | omega | (simp; done) | (simp; omega)) _)⟩

/-- Is a handle held? -/
def HoldsA (n : Nat) (g : Nat → Int) (b : Nat → Bool) (s q : Int) : Prop := MayA n g ∧ HeldA n g b s q
end Go.Proofs.Ytgkeiaggldahnaa
