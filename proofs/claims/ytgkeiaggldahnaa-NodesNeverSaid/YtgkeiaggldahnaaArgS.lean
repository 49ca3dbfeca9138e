/- How an argument reads, part by part, with the form's own reach: each slice that is read takes at most so many bytes. Over any program. -/
import Derived.Test.YtgkeiaggldahnaaRow
import Derived.SizedLaws
namespace Go.Proofs.Ytgkeiaggldahnaa
open Go.ChangeShapes Go.WideShapes Go.RowKit
set_option linter.unusedVariables false

/-- Cells that read as a value of type t, within the reach. -/
def RdS (P : Program) (w : World) (t : TypeId) (cs : List Value) : Prop :=
  ∃ (H : Type) (enc : TypeId × Value → H) (fuel : Nat) (x : DataW H × List MemPlace), DataW.trod enc P w 0 (fun _ => true) true fuel t cs = some x ∧ ∀ n ∈ x.1.weights P t, n ≤ reachBytes
section
variable {P : Program} {w : World} {t : TypeId} {v : Value} {cs : List Value}
theorem RdS.rd (h : RdS P w t cs) : Rd P w t cs := by
  obtain ⟨H, enc, fuel, x, hx, _⟩ := h
  exact ⟨H, enc, fuel, x, hx⟩
theorem weights_all {H : Type} {e : TypeId} {d : DataW H} : ∀ {l : List (DataW H)}, d ∈ l → ∀ n ∈ d.weights P e, n ∈ DataW.weightsAll P e l
  | y :: l, hd, n, hn => by
    unfold DataW.weightsAll
    rw [List.mem_append]
    rcases List.mem_cons.1 hd with rfl | hd
    · exact .inl hn
    · exact .inr (weights_all hd n hn)
theorem RdS.struct {fs : Array Field} (ht : P.underlying t = some (.struct fs)) (h : RdS P w t cs) :
    cs.length = P.cellsOf t ∧ ∀ (i : Nat) (f : Field), fs[i]? = some f → RdS P w f.type ((cs.drop f.offset).take (P.cellsOf f.type)) := by
  obtain ⟨H, enc, fuel, x, hx, hw⟩ := h
  obtain ⟨xs, n, _, rfl, hl, hxs, hf⟩ := DataW.trod_struct ht hx
  refine ⟨hl, fun i f hi => ?_⟩
  have h1 := hf i f hi
  have hlt : i < xs.length := by rw [hxs]; exact (Array.getElem?_eq_some_iff.1 hi).1
  rw [List.getElem?_eq_getElem hlt] at h1
  refine ⟨H, enc, n, _, h1, fun m hm => hw m ?_⟩
  unfold DataW.weights
  simp only [ht]
  have e1 : (fs.toList.map (·.type))[i]? = some f.type := by simp [hi]
  have e2 : (xs.map (·.1))[i]? = some (xs[i].1) := by simp [List.getElem?_eq_getElem hlt]
  exact DataW.weights_mem_each e1 e2 m hm
theorem RdS.slice {e : TypeId} (ht : P.underlying t = some (.slice e)) (hc : 0 < P.cellsOf e) (h : RdS P w t cs) :
    ∃ a n c, cs = [.slice a n c] ∧ n ≤ c ∧ c ≤ maxLen ∧ c * P.bytesOf e ≤ reachBytes ∧ (0 < c → ∃ b off, a = some ⟨b, off, none⟩ ∧ b < w.heap.size ∧
      ∀ i, i < c → ∃ cs', cs'.length = P.cellsOf e ∧ (∀ j, j < P.cellsOf e → w.cell? ⟨b, off + i * P.cellsOf e + j, none⟩ = cs'[j]?) ∧ RdS P w e cs') := by
  obtain ⟨H, enc, fuel, x, hx, hw⟩ := h
  rcases Go.Deep.open_slice ht hx with ⟨rfl, _⟩ | ⟨a, len, cap, m, n, D, Pl, rfl, hb, hl, hm, hmm, rfl, hi⟩
  · exact ⟨none, 0, 0, rfl, Nat.le_refl _, Nat.zero_le _, by simp, fun h => absurd h (by omega)⟩
  · simp only [if_true] at hmm
    subst hmm
    have hsz : m * P.bytesOf e ≤ reachBytes := by
      have := hw (m * P.bytesOf e) (by
        unfold DataW.weights
        simp only [ht, List.length_map, List.length_range, List.mem_cons]
        left
        congr 1
        omega)
      exact this
    refine ⟨some a, len, m, rfl, hl, hm, hsz, fun h0 => ?_⟩
    obtain ⟨cs0, hc0, _⟩ := hi 0 h0
    obtain ⟨_, hcl, hat⟩ := World.cells?_some hc0
    have h00 := hat 0 hc
    simp only [Nat.zero_mul] at h00
    have e0 : (a.add 0).add 0 = a := by simp [Addr.add]
    rw [e0, List.getElem?_eq_getElem (by omega)] at h00
    have hs := World.cell?_spot h00
    have hbl := World.block_lt_of_cell? w _ h00
    obtain ⟨b, off, s⟩ := a
    simp only at hs hbl
    subst hs
    refine ⟨b, off, rfl, hbl, fun i hi' => ?_⟩
    obtain ⟨cs', hc', hd⟩ := hi i hi'
    obtain ⟨_, hcl', hat'⟩ := World.cells?_some hc'
    refine ⟨cs', hcl', fun j hj => ?_, H, enc, n, _, hd, fun k hk => hw k ?_⟩
    · have := hat' j hj
      rw [Go.Deep.add_add] at this
      rw [← this]
      congr 1
      unfold Addr.add
      split <;> first | (simp; done) | (simp; omega)
    · unfold DataW.weights
      simp only [ht, List.mem_cons, List.mem_append]
      right
      by_cases hil : i < len
      · left
        exact weights_all (d := D i) (List.mem_map.2 ⟨i, List.mem_range.2 hil, rfl⟩) k hk
      · right
        exact weights_all (d := D i) (List.mem_map.2 ⟨i - len, List.mem_range.2 (by omega), by rw [show len + (i - len) = i by omega]⟩) k hk
end
/-- A slice whose elements read, within the reach. -/
theorem rd_rowsS {P : Program} {w : World} {t e : TypeId} {cs : List Value} (s : Nat) (Q : (Nat → Value) → Prop) (ht : P.underlying t = some (.slice e)) (hk : P.cellsOf e = s) (hs : 0 < s)
    (hq : ∀ cs, cs.length = s → RdS P w e cs → Q fun j => cs.getD j undef) (hq0 : ∃ f, Q f) (h : RdS P w t cs) :
    ∃ A n c F, cs = [.slice A n c] ∧ (n ≤ c ∧ c ≤ maxLen ∧ c * P.bytesOf e ≤ reachBytes) ∧ (∀ i, Q (F i)) ∧ Row w A n s F := by
  obtain ⟨A, n, c, e', hnc, hcm, hby, hat⟩ := h.slice ht (by omega)
  subst e'
  obtain ⟨f0, hf0⟩ := hq0
  rcases Nat.eq_zero_or_pos n with rfl | hn
  · exact ⟨A, 0, c, fun _ => f0, rfl, ⟨hnc, hcm, hby⟩, fun _ => hf0, Row.zero _ _ _ _⟩
  · obtain ⟨g, off, rfl, hg, hc⟩ := hat (by omega)
    have hx : ∀ i, ∃ f : Nat → Value, Q f ∧ (i < n → ∀ j, j < s → w.cell? ⟨g, off + i * s + j, none⟩ = some (f j)) := by
      intro i
      by_cases hi : i < n
      · obtain ⟨cs', hl, hcell, hrd⟩ := hc i (by omega)
        rw [hk] at hl hcell
        refine ⟨_, hq cs' hl hrd, fun _ j hj => ?_⟩
        rw [hcell j hj, List.getElem?_eq_getElem (by omega)]
        simp [List.getD, List.getElem?_eq_getElem (show j < cs'.length by omega)]
      · exact ⟨f0, hf0, fun h => absurd h hi⟩
    obtain ⟨F, hF⟩ := Classical.axiomOfChoice hx
    exact ⟨_, n, c, F, rfl, ⟨hnc, hcm, hby⟩, fun i => (hF i).1, fun _ => ⟨g, off, rfl, hg, fun i hi j hj => (hF i).2 hi j hj⟩⟩
end Go.Proofs.Ytgkeiaggldahnaa
