/- How an argument reads, part by part, over any program: integers, structs, arrays, slices. -/
import Derived.Test.YtemopgpcpjnmkaaDoorLib
import Derived.ProofKit
import Derived.OpenShut
import Derived.ShutString
import Derived.ChangeOld
import Derived.Below
import Derived.Deep.Slices
namespace Go.Proofs.YtemopgpcpjnmkaaDoor
open Go.ChangeShapes Go.WideShapes Go.RowKit
set_option linter.unusedVariables false

/-- An argument of type t: it fits, and reads. -/
def Arg (P : Program) (w : World) (t : TypeId) (v : Value) : Prop :=
  ∃ (H : Type) (enc : TypeId × Value → H) (base : Nat) (d : DataW H) (p : List MemPlace), Value.okWide P w .any base t v ∧ DataW.Trod enc P w 0 (fun _ => true) true t v d p
/-- Cells that read as a value of type t. -/
def Rd (P : Program) (w : World) (t : TypeId) (cs : List Value) : Prop :=
  ∃ (H : Type) (enc : TypeId × Value → H) (fuel : Nat) (x : DataW H × List MemPlace), DataW.trod enc P w 0 (fun _ => true) true fuel t cs = some x

section
variable {P : Program} {w : World} {t : TypeId} {v : Value} {cs : List Value}
theorem Arg.rd (h : Arg P w t v) : Rd P w t v.cells.toList := by
  obtain ⟨H, enc, base, d, p, _, fuel, hf⟩ := h
  exact ⟨H, enc, fuel, _, hf⟩
theorem Arg.int {k : IntKind} (ht : P.underlying t = some (.int k)) (h : Arg P w t v) : ∃ n, v = .int k n ∧ (Lit.int k n).wf = true := by
  obtain ⟨H, enc, base, d, p, hv, hr⟩ := h
  obtain ⟨x, rfl, _, _, wx⟩ := open_int ht hv hr
  exact ⟨x, rfl, wx⟩
theorem Arg.bool (ht : P.underlying t = some .bool) (h : Arg P w t v) : ∃ b, v = .bool b := by
  obtain ⟨H, enc, base, d, p, hv, hr⟩ := h
  exact okWide_bool ht hv
theorem Arg.struct {fs : Array Field} (ht : P.underlying t = some (.struct fs)) (h : Arg P w t v) : ∃ cs : List Value, v = .agg cs.toArray ∧ cs.length = P.cellsOf t ∧ Rd P w t cs := by
  have hr := h.rd
  obtain ⟨H, enc, base, d, p, hv, _⟩ := h
  obtain ⟨cs, rfl, hsz⟩ := okWide_struct ht hv
  exact ⟨cs.toList, by simp, by simpa using hsz, by simpa [Value.cells] using hr⟩
theorem okWide_array {n : Nat} {e : TypeId} {r : Reach} {base : Nat} (ht : P.underlying t = some (.array n e)) (h : Value.okWide P w r base t v) : ∃ cs, v = .agg cs ∧ cs.size = P.cellsOf t := by
  unfold Value.okWide at h
  rw [ht] at h
  obtain ⟨cs, h1, h2, _⟩ := h
  exact ⟨cs, h1, h2⟩
theorem Arg.array {n : Nat} {e : TypeId} (ht : P.underlying t = some (.array n e)) (h : Arg P w t v) : ∃ cs : List Value, v = .agg cs.toArray ∧ cs.length = P.cellsOf t ∧ Rd P w t cs := by
  have hr := h.rd
  obtain ⟨H, enc, base, d, p, hv, _⟩ := h
  obtain ⟨cs, rfl, hsz⟩ := okWide_array ht hv
  exact ⟨cs.toList, by simp, by simpa using hsz, by simpa [Value.cells] using hr⟩
theorem Arg.slice {e : TypeId} (ht : P.underlying t = some (.slice e)) (h : Arg P w t v) : ∃ a n c, v = .slice a n c ∧ Rd P w t [v] := by
  have hr := h.rd
  obtain ⟨H, enc, base, d, p, hv, _⟩ := h
  obtain ⟨a, n, c, rfl⟩ := okWide_slice ht hv
  exact ⟨a, n, c, rfl, by simpa [Value.cells] using hr⟩

theorem Rd.int {k : IntKind} (ht : P.underlying t = some (.int k)) (h : Rd P w t cs) : ∃ n, cs = [.int k n] ∧ (Lit.int k n).wf = true := by
  obtain ⟨H, enc, fuel, x, hx⟩ := h
  obtain ⟨n, h1, _, h3⟩ := DataW.trod_int ht hx
  exact ⟨n, h1, h3⟩
theorem Rd.bool (ht : P.underlying t = some .bool) (h : Rd P w t cs) : ∃ b, cs = [.bool b] := by
  obtain ⟨H, enc, fuel, x, hx⟩ := h
  obtain ⟨n, h1, _⟩ := DataW.trod_bool ht hx
  exact ⟨n, h1⟩
theorem Rd.struct {fs : Array Field} (ht : P.underlying t = some (.struct fs)) (h : Rd P w t cs) :
    cs.length = P.cellsOf t ∧ ∀ (i : Nat) (f : Field), fs[i]? = some f → Rd P w f.type ((cs.drop f.offset).take (P.cellsOf f.type)) := by
  obtain ⟨H, enc, fuel, x, hx⟩ := h
  obtain ⟨xs, n, _, _, hl, hxs, hf⟩ := DataW.trod_struct ht hx
  refine ⟨hl, fun i f hi => ?_⟩
  have h1 := hf i f hi
  have hlt : i < xs.length := by rw [hxs]; exact (Array.getElem?_eq_some_iff.1 hi).1
  rw [List.getElem?_eq_getElem hlt] at h1
  exact ⟨H, enc, n, _, h1⟩
theorem Rd.array {n : Nat} {e : TypeId} (ht : P.underlying t = some (.array n e)) (h : Rd P w t cs) :
    cs.length = P.cellsOf t ∧ ∀ i, i < n → Rd P w e ((cs.drop (i * P.cellsOf e)).take (P.cellsOf e)) := by
  obtain ⟨H, enc, fuel, x, hx⟩ := h
  obtain ⟨xs, m, _, _, hl, hxs, hf⟩ := DataW.trod_array ht hx
  refine ⟨hl, fun i hi => ?_⟩
  have h1 := hf i hi
  rw [List.getElem?_eq_getElem (by omega)] at h1
  exact ⟨H, enc, m, _, h1⟩
theorem Rd.slice {e : TypeId} (ht : P.underlying t = some (.slice e)) (hc : 0 < P.cellsOf e) (h : Rd P w t cs) :
    ∃ a n c, cs = [.slice a n c] ∧ n ≤ c ∧ c ≤ maxLen ∧ (0 < c → ∃ b off, a = some ⟨b, off, none⟩ ∧ b < w.heap.size ∧
      ∀ i, i < c → ∃ cs', cs'.length = P.cellsOf e ∧ (∀ j, j < P.cellsOf e → w.cell? ⟨b, off + i * P.cellsOf e + j, none⟩ = cs'[j]?) ∧ Rd P w e cs') := by
  obtain ⟨H, enc, fuel, x, hx⟩ := h
  rcases Go.Deep.open_slice ht hx with ⟨rfl, _⟩ | ⟨a, len, cap, m, n, D, Pl, rfl, hb, hl, hm, hmm, _, hi⟩
  · exact ⟨none, 0, 0, rfl, Nat.le_refl _, Nat.zero_le _, fun h => absurd h (by omega)⟩
  · refine ⟨some a, len, cap, rfl, hl, hm, fun h0 => ?_⟩
    simp only [if_true] at hmm
    subst hmm
    obtain ⟨cs0, hc0, _⟩ := hi 0 h0
    obtain ⟨_, hcl, hat⟩ := World.cells?_some hc0
    have h00 := hat 0 hc
    simp only [Nat.zero_mul] at h00
    have e0 : (a.add 0).add 0 = a := by simp [Addr.add]
    rw [e0, List.getElem?_eq_getElem (by omega)] at h00
    have hs := World.cell?_spot h00
    have hbl := World.block_lt_of_cell? w _ h00
    obtain ⟨b, off, s⟩ := a
    simp only at hs hbl
    subst hs
    refine ⟨b, off, rfl, hbl, fun i hi' => ?_⟩
    obtain ⟨cs', hc', hd⟩ := hi i hi'
    obtain ⟨_, hcl', hat'⟩ := World.cells?_some hc'
    refine ⟨cs', hcl', fun j hj => ?_, H, enc, n, _, hd⟩
    have := hat' j hj
    rw [Go.Deep.add_add] at this
    rw [← this]
    congr 1
    unfold Addr.add
    split <;> first | (simp; done) | (simp; omega)
end
end Go.Proofs.YtemopgpcpjnmkaaDoor
