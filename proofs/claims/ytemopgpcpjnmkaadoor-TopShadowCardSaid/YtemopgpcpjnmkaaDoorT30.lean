/- top: how the arguments read. -/
import Derived.Test.YtemopgpcpjnmkaaDoorT18
import Derived.Test.YtemopgpcpjnmkaaDoorRd
import Derived.Test.YtemopgpcpjnmkaaDoorT8
namespace Go.Proofs.YtemopgpcpjnmkaaDoor
open Go.ChangeShapes Go.WideShapes Go.RowKit
set_option linter.unusedVariables false
theorem cells3 : Tryd.prog.cellsOf 3 = 1 := by kernel_rfl
theorem cells4 : Tryd.prog.cellsOf 4 = 1 := by kernel_rfl
theorem cells5 : Tryd.prog.cellsOf 5 = 1 := by kernel_rfl
theorem cells27 : Tryd.prog.cellsOf 27 = 3 := by kernel_rfl
theorem cells28 : Tryd.prog.cellsOf 28 = 3 := by kernel_rfl
theorem cells29 : Tryd.prog.cellsOf 29 = 9 := by kernel_rfl
theorem cells128 : Tryd.prog.cellsOf 128 = 2 := by kernel_rfl
theorem cells46 : Tryd.prog.cellsOf 46 = 4 := by kernel_rfl
theorem cells48 : Tryd.prog.cellsOf 48 = 9 := by kernel_rfl
theorem cells50 : Tryd.prog.cellsOf 50 = 6 := by kernel_rfl
theorem cells52 : Tryd.prog.cellsOf 52 = 18 := by kernel_rfl
theorem cells64 : Tryd.prog.cellsOf 64 = 3 := by kernel_rfl
theorem cells25 : Tryd.prog.cellsOf 25 = 2 := by kernel_rfl
theorem cells31 : Tryd.prog.cellsOf 31 = 16 := by kernel_rfl
theorem cells33 : Tryd.prog.cellsOf 33 = 4 := by kernel_rfl
theorem cells22 : Tryd.prog.cellsOf 22 = 1 := by kernel_rfl
theorem cells23 : Tryd.prog.cellsOf 23 = 1 := by kernel_rfl
theorem cells42 : Tryd.prog.cellsOf 42 = 1 := by kernel_rfl
theorem cells43 : Tryd.prog.cellsOf 43 = 1 := by kernel_rfl
theorem cells44 : Tryd.prog.cellsOf 44 = 1 := by kernel_rfl
theorem cells62 : Tryd.prog.cellsOf 62 = 1 := by kernel_rfl
theorem cells37 : Tryd.prog.cellsOf 37 = 1 := by kernel_rfl

theorem u_int : Tryd.prog.underlying 3 = some (.int .i64) := by kernel_rfl
theorem u_u8 : Tryd.prog.underlying 5 = some (.int .u8) := by kernel_rfl
theorem u_bool : Tryd.prog.underlying 4 = some .bool := by kernel_rfl
/- A slice's elements as a list. -/
set_option maxRecDepth 100000 in
theorem rd_list {α : Type} {P : Program} {w : World} {t e : TypeId} {cs : List Value} (s : Nat) (f : α → List Value) (hf : ∀ a, (f a).length = s) (Q : α → Prop) (ht : P.underlying t = some (.slice e)) (hk : P.cellsOf e = s) (hs : 0 < s)
    (hq : ∀ cs, cs.length = s → Rd P w e cs → ∃ a, cs = f a ∧ Q a) (h : Rd P w t cs) : ∃ (A : Option Addr) (c : Nat) (L : List α), cs = [.slice A L.length c] ∧ L.length ≤ c ∧ RowL w A s f L ∧ ∀ a ∈ L, Q a := by
  obtain ⟨A, n, c, e', hnc, hcm, hat⟩ := h.slice ht (by omega)
  rcases Nat.eq_zero_or_pos n with rfl | hn
  · exact ⟨A, c, [], e', by simp, fun h => absurd h (by simp), fun a h => by cases h⟩
  · obtain ⟨g, off, hA, hg, hc⟩ := hat (by omega)
    have hx : ∀ i, i < n → ∃ a : α, Q a ∧ ∀ j, j < s → w.cell? ⟨g, off + i * s + j, none⟩ = (f a)[j]? := by
      intro i hi
      obtain ⟨cs', hl, hcell, hrd⟩ := hc i (by omega)
      rw [hk] at hl hcell
      obtain ⟨a, rfl, hqa⟩ := hq cs' hl hrd
      exact ⟨a, hqa, hcell⟩
    obtain ⟨a0, _, _⟩ := hx 0 hn
    have hx' : ∀ i, ∃ a : α, i < n → (Q a ∧ ∀ j, j < s → w.cell? ⟨g, off + i * s + j, none⟩ = (f a)[j]?) := fun i => by
      by_cases hi : i < n
      · obtain ⟨a, h1, h2⟩ := hx i hi
        exact ⟨a, fun _ => ⟨h1, h2⟩⟩
      · exact ⟨a0, fun h => absurd h hi⟩
    obtain ⟨F, hF⟩ := Classical.axiomOfChoice hx'
    refine ⟨A, c, (List.range n).map F, by simpa using e', by simpa using hnc, fun _ => ⟨g, off, hA, hg, fun i a hi j u hj => ?_⟩, fun a ha => ?_⟩
    · have hil := (List.getElem?_eq_some_iff.1 hi).1
      simp at hil
      have he : F i = a := by simpa [List.getElem?_map, List.getElem?_range hil] using hi
      subst he
      have hjl := (List.getElem?_eq_some_iff.1 hj).1
      rw [hf] at hjl
      rw [(hF i hil).2 j hjl, hj]
    · obtain ⟨i, hi, rfl⟩ := List.mem_map.1 ha
      exact (hF i (List.mem_range.1 hi)).1
section
variable {w : World} {cs : List Value}
set_option maxRecDepth 100000 in
theorem rd_vec (h : Rd Tryd.prog w 27 cs) : ∃ v : V3, cs = v.cells := by
  obtain ⟨hl, hf⟩ := h.struct Tryd.underlying27
  rw [cells27] at hl
  match cs, hl with
  | [x, y, z], _ =>
    obtain ⟨a, ea, _⟩ := Rd.int u_int (hf 0 _ rfl)
    obtain ⟨b, eb, _⟩ := Rd.int u_int (hf 1 _ rfl)
    obtain ⟨c, ec, _⟩ := Rd.int u_int (hf 2 _ rfl)
    simp [cells3] at ea eb ec
    subst ea eb ec
    exact ⟨⟨a, b, c⟩, rfl⟩
set_option maxRecDepth 100000 in
theorem rd_i3 (h : Rd Tryd.prog w 28 cs) : ∃ v : I3, cs = v.cells := by
  obtain ⟨hl, hf⟩ := h.array Tryd.underlying28
  rw [cells28] at hl
  match cs, hl with
  | [x, y, z], _ =>
    obtain ⟨a, ea, _⟩ := Rd.int u_int (hf 0 (by decide))
    obtain ⟨b, eb, _⟩ := Rd.int u_int (hf 1 (by decide))
    obtain ⟨c, ec, _⟩ := Rd.int u_int (hf 2 (by decide))
    simp [cells3] at ea eb ec
    subst ea eb ec
    exact ⟨⟨a, b, c⟩, rfl⟩
set_option maxRecDepth 100000 in
theorem rd_u2 (h : Rd Tryd.prog w 128 cs) : ∃ v : U2, cs = v.cells := by
  obtain ⟨hl, hf⟩ := h.array Tryd.underlying128
  rw [cells128] at hl
  match cs, hl with
  | [x, y], _ =>
    obtain ⟨a, ea, _⟩ := Rd.int u_int (hf 0 (by decide))
    obtain ⟨b, eb, _⟩ := Rd.int u_int (hf 1 (by decide))
    simp [cells3] at ea eb
    subst ea eb
    exact ⟨⟨a, b⟩, rfl⟩
set_option maxRecDepth 100000 in
theorem rd_color (h : Rd Tryd.prog w 46 cs) : ∃ a b c d : Int, cs = [.int .u8 a, .int .u8 b, .int .u8 c, .int .u8 d] := by
  obtain ⟨hl, hf⟩ := h.array Tryd.underlying46
  rw [cells46] at hl
  match cs, hl with
  | [x, y, z, t], _ =>
    obtain ⟨a, ea, _⟩ := Rd.int u_u8 (hf 0 (by decide))
    obtain ⟨b, eb, _⟩ := Rd.int u_u8 (hf 1 (by decide))
    obtain ⟨c, ec, _⟩ := Rd.int u_u8 (hf 2 (by decide))
    obtain ⟨d, ed, _⟩ := Rd.int u_u8 (hf 3 (by decide))
    simp [cells5] at ea eb ec ed
    subst ea eb ec ed
    exact ⟨a, b, c, d, rfl⟩
set_option maxRecDepth 100000 in
theorem rd_look (h : Rd Tryd.prog w 48 cs) : ∃ l : Lk, cs = l.cells ∧ 0 ≤ l.cull := by
  obtain ⟨hl, hf⟩ := h.struct Tryd.underlying48
  rw [cells48] at hl
  match cs, hl with
  | [x0, x1, x2, x3, x4, x5, x6, x7, x8], _ =>
    obtain ⟨a, b, c, d, e0⟩ := rd_color (hf 0 _ rfl)
    obtain ⟨t, et, _⟩ := Rd.int u_int (hf 1 _ rfl)
    obtain ⟨u, eu, hu⟩ := Rd.int u_u8 (hf 2 _ rfl)
    obtain ⟨i, ei, _⟩ := Rd.int u_int (hf 3 _ rfl)
    obtain ⟨bl, ebl⟩ := Rd.bool u_bool (hf 4 _ rfl)
    obtain ⟨n, en, _⟩ := Rd.int u_int (hf 5 _ rfl)
    have hu' := (u8_bounds hu).1
    simp [cells3, cells4, cells5, cells46] at e0 et eu ei ebl en
    obtain ⟨rfl, rfl, rfl, rfl⟩ := e0
    subst et eu ei ebl en
    exact ⟨⟨a, b, c, d, t, u, i, bl, n⟩, rfl, hu'⟩
set_option maxRecDepth 100000 in
theorem rd_box (h : Rd Tryd.prog w 50 cs) : ∃ b : B3, cs = b.cells := by
  obtain ⟨hl, hf⟩ := h.struct Tryd.underlying50
  rw [cells50] at hl
  match cs, hl with
  | [x0, x1, x2, x3, x4, x5], _ =>
    obtain ⟨a, ea⟩ := rd_vec (hf 0 _ rfl)
    obtain ⟨b, eb⟩ := rd_vec (hf 1 _ rfl)
    simp [cells27, V3.cells] at ea eb
    obtain ⟨rfl, rfl, rfl⟩ := ea
    obtain ⟨rfl, rfl, rfl⟩ := eb
    exact ⟨⟨a, b⟩, rfl⟩
set_option maxRecDepth 100000 in
theorem rd_item (h : Rd Tryd.prog w 52 cs) : ∃ i : It, cs = i.cells ∧ i.Rd w := by
  obtain ⟨hl, hf⟩ := h.struct Tryd.underlying52
  rw [cells52] at hl
  match cs, hl with
  | [x0, x1, x2, x3, x4, x5, x6, x7, x8, x9, x10, x11, x12, x13, x14, x15, x16, x17], _ =>
    obtain ⟨Av, cv, V, eV, hV1, hV, _⟩ := rd_list 3 V3.cells V3.len (fun _ => True) Tryd.underlying42 cells27 (by decide) (fun cs _ h => by obtain ⟨v, e⟩ := rd_vec h; exact ⟨v, e, trivial⟩) (hf 0 _ rfl)
    obtain ⟨Au, cu, U, eU, hU1, hU, _⟩ := rd_list 2 U2.cells U2.len (fun _ => True) Tryd.underlying43 cells128 (by decide) (fun cs _ h => by obtain ⟨v, e⟩ := rd_u2 h; exact ⟨v, e, trivial⟩) (hf 1 _ rfl)
    obtain ⟨At, ct, T, eT, hT1, hT, _⟩ := rd_list 3 I3.cells I3.len (fun _ => True) Tryd.underlying44 cells28 (by decide) (fun cs _ h => by obtain ⟨v, e⟩ := rd_i3 h; exact ⟨v, e, trivial⟩) (hf 2 _ rfl)
    obtain ⟨l, el, hl0⟩ := rd_look (hf 3 _ rfl)
    obtain ⟨b, eb⟩ := rd_box (hf 4 _ rfl)
    simp [cells48, cells50, cells42, cells43, cells44, Lk.cells, B3.cells] at eV eU eT el eb
    obtain ⟨rfl, rfl, rfl, rfl, rfl, rfl, rfl, rfl, rfl⟩ := el
    obtain ⟨rfl, rfl, rfl, rfl, rfl, rfl⟩ := eb
    subst eV eU eT
    exact ⟨⟨V, U, T, l, b, Av, cv, Au, cu, At, ct⟩, rfl, hV, hU, hT, hV1, hl0⟩
set_option maxRecDepth 100000 in
theorem rd_tex (h : Rd Tryd.prog w 64 cs) : ∃ t : Tx, cs = t.cells := by
  obtain ⟨hl, hf⟩ := h.struct Tryd.underlying64
  rw [cells64] at hl
  match cs, hl with
  | [x, y, z], _ =>
    obtain ⟨a, ea, _⟩ := Rd.int u_int (hf 0 _ rfl)
    obtain ⟨b, eb, _⟩ := Rd.int u_int (hf 1 _ rfl)
    obtain ⟨A, n, c, ec, _⟩ := Rd.slice Tryd.underlying62 (by rw [cells46]; decide) (hf 2 _ rfl)
    simp [cells3, cells62] at ea eb ec
    subst ea eb ec
    exact ⟨⟨a, b, A, n, c⟩, rfl⟩
set_option maxRecDepth 100000 in
theorem arg_show {v : Value} (h : Arg Tryd.prog w 25 v) : ∃ s : Sh, v = .agg #[.slice s.Ai s.I.length s.ci, .slice s.Ax s.X.length s.cx] ∧ s.Rd w := by
  obtain ⟨cs, rfl, _, hr⟩ := h.struct Tryd.underlying25
  obtain ⟨hl, hf⟩ := hr.struct Tryd.underlying25
  rw [cells25] at hl
  match cs, hl with
  | [x, y], _ =>
    obtain ⟨Ai, ci, I, eI, hI1, hI, hq⟩ := rd_list 18 It.cells It.len (fun i => i.Rd w) Tryd.underlying22 cells52 (by decide) (fun cs _ h => rd_item h) (hf 0 _ rfl)
    obtain ⟨Ax, cx, X, eX, hX1, hX, _⟩ := rd_list 3 Tx.cells Tx.len (fun _ => True) Tryd.underlying23 cells64 (by decide) (fun cs _ h => by obtain ⟨t, e⟩ := rd_tex h; exact ⟨t, e, trivial⟩) (hf 1 _ rfl)
    simp [cells22, cells23] at eI eX
    subst eI eX
    exact ⟨⟨I, X, Ai, ci, Ax, cx⟩, rfl, hI, hq, hX⟩
set_option maxRecDepth 100000 in
theorem rd_mat (h : Rd Tryd.prog w 29 cs) : ∃ a b c : I3, cs = a.cells ++ b.cells ++ c.cells := by
  obtain ⟨hl, hf⟩ := h.array Tryd.underlying29
  rw [cells29] at hl
  match cs, hl with
  | [x0, x1, x2, x3, x4, x5, x6, x7, x8], _ =>
    obtain ⟨a, ea⟩ := rd_i3 (hf 0 (by decide))
    obtain ⟨b, eb⟩ := rd_i3 (hf 1 (by decide))
    obtain ⟨c, ec⟩ := rd_i3 (hf 2 (by decide))
    simp [cells28, I3.cells] at ea eb ec
    obtain ⟨rfl, rfl, rfl⟩ := ea
    obtain ⟨rfl, rfl, rfl⟩ := eb
    obtain ⟨rfl, rfl, rfl⟩ := ec
    exact ⟨a, b, c, rfl⟩
set_option maxRecDepth 100000 in
theorem arg_cam {v : Value} (h : Arg Tryd.prog w 31 v) : ∃ c : CD, v = .agg #[.int .i64 c.p.x, .int .i64 c.p.y, .int .i64 c.p.z, .int .i64 (c.m 0), .int .i64 (c.m 1), .int .i64 (c.m 2), .int .i64 (c.m 3), .int .i64 (c.m 4), .int .i64 (c.m 5), .int .i64 (c.m 6), .int .i64 (c.m 7), .int .i64 (c.m 8), .int .i64 c.F, .int .i64 c.N, .int .i64 c.W, .int .i64 c.H] := by
  obtain ⟨cs, rfl, _, hr⟩ := h.struct Tryd.underlying31
  obtain ⟨hl, hf⟩ := hr.struct Tryd.underlying31
  rw [cells31] at hl
  match cs, hl with
  | [x0, x1, x2, x3, x4, x5, x6, x7, x8, x9, x10, x11, x12, x13, x14, x15], _ =>
    obtain ⟨p, ep⟩ := rd_vec (hf 0 _ rfl)
    obtain ⟨a, b, c, em⟩ := rd_mat (hf 1 _ rfl)
    obtain ⟨F, eF, _⟩ := Rd.int u_int (hf 2 _ rfl)
    obtain ⟨N, eN, _⟩ := Rd.int u_int (hf 3 _ rfl)
    obtain ⟨W, eW, _⟩ := Rd.int u_int (hf 4 _ rfl)
    obtain ⟨H, eH, _⟩ := Rd.int u_int (hf 5 _ rfl)
    simp [cells3, cells27, cells29, V3.cells, I3.cells] at ep em eF eN eW eH
    obtain ⟨rfl, rfl, rfl⟩ := ep
    obtain ⟨rfl, rfl, rfl, rfl, rfl, rfl, rfl, rfl, rfl⟩ := em
    subst eF eN eW eH
    exact ⟨⟨p, fun q => match q with | 0 => a.a | 1 => a.b | 2 => a.c | 3 => b.a | 4 => b.b | 5 => b.c | 6 => c.a | 7 => c.b | _ => c.c, F, N, W, H⟩, rfl⟩
set_option maxRecDepth 100000 in
theorem arg_rect {v : Value} (h : Arg Tryd.prog w 33 v) : ∃ a b c d : Int, v = .agg #[.int .i64 a, .int .i64 b, .int .i64 c, .int .i64 d] := by
  obtain ⟨cs, rfl, _, hr⟩ := h.struct Tryd.underlying33
  obtain ⟨hl, hf⟩ := hr.struct Tryd.underlying33
  rw [cells33] at hl
  match cs, hl with
  | [x, y, z, t], _ =>
    obtain ⟨a, ea, _⟩ := Rd.int u_int (hf 0 _ rfl)
    obtain ⟨b, eb, _⟩ := Rd.int u_int (hf 1 _ rfl)
    obtain ⟨c, ec, _⟩ := Rd.int u_int (hf 2 _ rfl)
    obtain ⟨d, ed, _⟩ := Rd.int u_int (hf 3 _ rfl)
    simp [cells3] at ea eb ec ed
    subst ea eb ec ed
    exact ⟨a, b, c, d, rfl⟩
end
end Go.Proofs.YtemopgpcpjnmkaaDoor
