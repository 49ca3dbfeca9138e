/- Meshes as arguments; MeshIn from its argument. -/
import Derived.Test.YtkclkillphafkaaM13
import Derived.Test.YtkclkillphafkaaRd
namespace Go.Proofs.Ytkclkillphafkaa
open Go.RowKit
set_option linter.unusedVariables false

theorem row_ints {w : World} {A : Option Addr} {n s : Nat} {F : Nat → Nat → Value} {k : IntKind} (h : Row w A n s F) (hF : ∀ i, ∀ j, j < s → ∃ x, F i j = .int k x) : ∃ V : Nat → Nat → Int, Row w A n s (fun i j => .int k (V i j)) := by
  have hx : ∀ i j, ∃ x : Int, j < s → F i j = .int k x := by
    intro i j
    by_cases hj : j < s
    · obtain ⟨x, hx⟩ := hF i j hj
      exact ⟨x, fun _ => hx⟩
    · exact ⟨0, fun h => absurd h hj⟩
  obtain ⟨V, hV⟩ := Classical.axiomOfChoice (fun i => Classical.axiomOfChoice (hx i))
  exact ⟨V, h.congr fun i _ j hj => hV i j hj⟩
theorem cells51 : Try.prog.cellsOf 51 = 3 := by kernel_rfl
theorem cells52 : Try.prog.cellsOf 52 = 2 := by kernel_rfl
theorem cells38 : Try.prog.cellsOf 38 = 1 := by kernel_rfl
theorem cells39 : Try.prog.cellsOf 39 = 1 := by kernel_rfl
theorem cells40 : Try.prog.cellsOf 40 = 1 := by kernel_rfl
theorem cells42 : Try.prog.cellsOf 42 = 3 := by kernel_rfl
theorem rd_verts {w : World} {cs : List Value} (h : Rd Try.prog w 38 cs) : ∃ (A : Option Addr) (n c : Nat) (V : Nat → Nat → Int), cs = [.slice A n c] ∧ (n ≤ c ∧ c ≤ maxLen) ∧ Row w A n 3 (fun i j => .int .i64 (V i j)) := by
  obtain ⟨A, n, c, F, rfl, hnc, hF, hr⟩ := rd_rows 3 (fun f => ∀ j, j < 3 → ∃ x, f j = .int .i64 x) Try.underlying38 cells51 (by omega) (fun cs hl hr j hj => by
    obtain ⟨hl2, hf⟩ := hr.struct Try.underlying51
    match cs, hl with
    | [x, y, z], _ =>
      obtain ⟨a0, e0, _⟩ := Rd.int Try.underlying3 (hf 0 _ rfl)
      obtain ⟨a1, e1, _⟩ := Rd.int Try.underlying3 (hf 1 _ rfl)
      obtain ⟨a2, e2, _⟩ := Rd.int Try.underlying3 (hf 2 _ rfl)
      simp [cells3] at e0 e1 e2
      subst e0 e1 e2
      obtain rfl | rfl | rfl : j = 0 ∨ j = 1 ∨ j = 2 := by omega
      all_goals exact ⟨_, rfl⟩) ⟨fun _ => .int .i64 0, fun _ _ => ⟨0, rfl⟩⟩ h
  obtain ⟨V, hV⟩ := row_ints hr hF
  exact ⟨A, n, c, V, rfl, hnc, hV⟩
theorem rd_uvs {w : World} {cs : List Value} (h : Rd Try.prog w 39 cs) : ∃ (A : Option Addr) (n c : Nat) (V : Nat → Nat → Int), cs = [.slice A n c] ∧ (n ≤ c ∧ c ≤ maxLen) ∧ Row w A n 2 (fun i j => .int .i64 (V i j)) := by
  obtain ⟨A, n, c, F, rfl, hnc, hF, hr⟩ := rd_rows 2 (fun f => ∀ j, j < 2 → ∃ x, f j = .int .i64 x) Try.underlying39 cells52 (by omega) (fun cs hl hr j hj => by
    obtain ⟨hl2, hf⟩ := hr.array Try.underlying52
    rw [cells3] at hf
    match cs, hl with
    | [x, y], _ =>
      obtain ⟨a0, e0, _⟩ := Rd.int Try.underlying3 (hf 0 (by omega))
      obtain ⟨a1, e1, _⟩ := Rd.int Try.underlying3 (hf 1 (by omega))
      simp at e0 e1
      subst e0 e1
      obtain rfl | rfl : j = 0 ∨ j = 1 := by omega
      all_goals exact ⟨_, rfl⟩) ⟨fun _ => .int .i64 0, fun _ _ => ⟨0, rfl⟩⟩ h
  obtain ⟨V, hV⟩ := row_ints hr hF
  exact ⟨A, n, c, V, rfl, hnc, hV⟩
theorem rd_prims {w : World} {cs : List Value} (h : Rd Try.prog w 40 cs) : ∃ A m c D, cs = [.slice A m c] ∧ (m ≤ c ∧ c ≤ maxLen) ∧ PL w A m D ∧ (∀ i, 0 ≤ (D i).k) ∧ (∀ i, ((D i).n : Int) ≤ 9223372036854775807) ∧ (∀ i j, -9223372036854775808 ≤ (D i).l j ∧ (D i).l j ≤ 9223372036854775807) := by
  obtain ⟨a, n, c, rfl, hn, hc, hs⟩ := Rd.slice Try.underlying40 (by rw [cells24]; omega) h
  by_cases h0 : 0 < n
  · obtain ⟨b, off, rfl, hb, hi⟩ := hs (by omega)
    have key : ∀ i, ∃ d : PrimD, 0 ≤ d.k ∧ ((d.n : Int) ≤ 9223372036854775807) ∧ (∀ j, -9223372036854775808 ≤ d.l j ∧ d.l j ≤ 9223372036854775807) ∧ (i < n → (w.cell? ⟨b, off + i * 2, none⟩ = some (.int .u8 d.k) ∧ w.cell? ⟨b, off + i * 2 + 1, none⟩ = some (.slice d.a d.n d.c)) ∧ IS w d.a d.n d.l) := by
      intro i
      by_cases hin : i < n
      · obtain ⟨cs', hl, hcell, hrd⟩ := hi i (by omega)
        obtain ⟨k, pa, pn, pc, l, rfl, hk, ⟨hpn, hpc⟩, hl2, hI⟩ := rd_prim hrd
        rw [cells24] at hcell
        unfold maxLen at hpc
        exact ⟨⟨k, pa, pn, pc, l⟩, hk.1, by dsimp only; omega, hl2, fun _ => ⟨⟨hcell 0 (by omega), hcell 1 (by omega)⟩, hI⟩⟩
      · exact ⟨⟨0, none, 0, 0, fun _ => 0⟩, by decide, by decide, fun _ => ⟨by dsimp only; omega, by dsimp only; omega⟩, fun h => absurd h hin⟩
    obtain ⟨D, hD⟩ := Classical.axiomOfChoice key
    exact ⟨_, n, c, D, rfl, ⟨hn, hc⟩, fun _ => ⟨b, off, rfl, hb, fun i hi => ((hD i).2.2.2 hi).1, fun i hi => ((hD i).2.2.2 hi).2⟩, fun i => (hD i).1, fun i => (hD i).2.1, fun i => (hD i).2.2.1⟩
  · exact ⟨a, n, c, fun _ => ⟨0, none, 0, 0, fun _ => 0⟩, rfl, ⟨hn, hc⟩, fun h => absurd h h0, fun _ => (by decide : (0 : Int) ≤ 0), fun _ => (by decide : ((0 : Nat) : Int) ≤ 9223372036854775807), fun _ _ => ⟨by dsimp only; omega, by dsimp only; omega⟩⟩
theorem arg_mesh {w : World} {v : Value} (h : Arg Try.prog w 42 v) : ∃ (A1 A2 A3 : Option Addr) (n1 n2 m c1 c2 c3 : Nat) (V U : Nat → Nat → Int) (D : Nat → PrimD), v = .agg #[.slice A1 n1 c1, .slice A2 n2 c2, .slice A3 m c3] ∧ (n1 ≤ c1 ∧ c1 ≤ maxLen) ∧ (n2 ≤ c2 ∧ c2 ≤ maxLen) ∧ (m ≤ c3 ∧ c3 ≤ maxLen) ∧
    Row w A1 n1 3 (fun i j => .int .i64 (V i j)) ∧ Row w A2 n2 2 (fun i j => .int .i64 (U i j)) ∧ PL w A3 m D ∧ (∀ i, 0 ≤ (D i).k) ∧ (∀ i, ((D i).n : Int) ≤ 9223372036854775807) ∧ (∀ i j, -9223372036854775808 ≤ (D i).l j ∧ (D i).l j ≤ 9223372036854775807) := by
  obtain ⟨cs, rfl, _, hr⟩ := h.struct Try.underlying42
  obtain ⟨hl, hf⟩ := hr.struct Try.underlying42
  rw [cells42] at hl
  match cs, hl with
  | [x, y, z], _ =>
    obtain ⟨A1, n1, c1, V, e0, h0, hV⟩ := rd_verts (hf 0 _ rfl)
    obtain ⟨A2, n2, c2, U, e1, h1, hU⟩ := rd_uvs (hf 1 _ rfl)
    obtain ⟨A3, m, c3, D, e2, h2, hD⟩ := rd_prims (hf 2 _ rfl)
    simp [cells38, cells39, cells40] at e0 e1 e2
    subst e0 e1 e2
    exact ⟨A1, A2, A3, n1, n2, m, c1, c2, c3, V, U, D, rfl, h0, h1, h2, hV, hU, hD⟩
theorem meshIn_arg (v0 : Value) (w : World) (h0 : Arg Try.prog w 42 v0) : Calls Try.prog 7 #[v0] w fun e w' => e = .returned (.bool true) ∧ Below w.heap.size w w' := by
  obtain ⟨A1, A2, A3, n1, n2, m, c1, c2, c3, V, U, D, rfl, _, _, _, hV, hU, hp, hk0, hDn, _⟩ := arg_mesh h0
  exact meshIn_walk A1 A2 A3 n1 n2 m c1 c2 c3 V U D w hV hU hp hk0 hDn
end Go.Proofs.Ytkclkillphafkaa
