/- Lists that lie in slices: the call's own, and read ones. Over any program. -/
import Derived.Test.YtemopgpcpjnmkaaDoorRow
import Derived.Test.YtemopgpcpjnmkaaDoorStep
namespace Go.Proofs.YtemopgpcpjnmkaaDoor
open Go.RowKit
set_option linter.unusedVariables false
section
variable {α : Type} {P : Program} {w w' : World} {base : Nat} {e : TypeId} {s : Nat} {f : α → List Value} {L : List α} {v : Value} {A : Option Addr}
/-- A slice of the call's own holds these. -/
def OwnL (w : World) (base : Nat) (e : TypeId) (s : Nat) (f : α → List Value) (L : List α) (v : Value) : Prop := (∃ A c, v = .slice A L.length c) ∧ w.ownsRow base e s v L.length (L.flatMap f)
/-- A slice reads as these. -/
def RowL (w : World) (A : Option Addr) (s : Nat) (f : α → List Value) (L : List α) : Prop :=
  0 < L.length → ∃ g off, A = some ⟨g, off, none⟩ ∧ g < w.heap.size ∧ ∀ i a, L[i]? = some a → ∀ j u, (f a)[j]? = some u → w.cell? ⟨g, off + i * s + j, none⟩ = some u
theorem OwnL.below (h : OwnL w base e s f L v) (hb : Below w.heap.size w w') : OwnL w' base e s f L v := ⟨h.1, own_below h.2 hb⟩
theorem OwnL.alloc (h : OwnL w base e s f L v) (o : Obj) : OwnL (w.alloc o) base e s f L v := h.below ((Below.refl _ _).alloc (Nat.le_refl _) o)
theorem OwnL.drew (h : OwnL w base e s f L v) : OwnL w.drew base e s f L v := h
theorem OwnL.nil (w : World) (base e s : Nat) (f : α → List Value) : OwnL w base e s f [] (.slice none 0 0) := ⟨⟨none, 0, rfl⟩, own_nil w base e s⟩
theorem OwnL.lt (h : OwnL w base e s f L v) : ∀ k, v.ownBlock = some k → base ≤ k ∧ k < w.heap.size := h.2.lt
theorem OwnL.grown {row : Option Nat} (h : OwnL w base e s f L v) (hg : w.grownBy w' row) (hne : v.ownBlock = none ∨ v.ownBlock ≠ row) : OwnL w' base e s f L v := ⟨h.1, h.2.kept hg hne⟩
theorem OwnL.far (h : OwnL w base e s f L v) {p : Addr} (hp : v.ownBlock ≠ some p.block) (u : Value) : OwnL (w.setCell p u) base e s f L v :=
  h.grown (row := some p.block) ⟨rfl, rfl, rfl, by simp, fun k hk hne => Below.heap_setCell w p u k (fun e => hne (by rw [e]))⟩ (.inr hp)
theorem OwnL.ne {g : Nat} {t : TypeId} {cs : Array Value} (h : OwnL w base e s f L v) (hb : HasBlk w g t cs) (hne : e ≠ t) : v.ownBlock ≠ some g := hb.ne_own h.2 hne
theorem own_ne {base' e' s' n n' : Nat} {v' : Value} {xs ys : List Value} (h : w.ownsRow base e s v n xs) (h' : w.ownsRow base' e' s' v' n' ys) (hne : e ≠ e') : v.ownBlock = none ∨ v.ownBlock ≠ v'.ownBlock := by
  rcases h.2 with ⟨rfl, _⟩ | ⟨g, cap, cur, rfl, _, hg, _⟩
  · exact .inl rfl
  · right
    rcases h'.2 with ⟨rfl, _⟩ | ⟨g', cap', cur', rfl, _, hg', _⟩
    · simp [Value.ownBlock]
    · intro he
      have hk : g = g' := by simpa [Value.ownBlock] using he
      subst hk
      rw [hg] at hg'
      injection hg' with hg'
      injection hg' with _ ht
      exact hne ht
theorem OwnL.ne_own {β : Type} {base' e' s' : Nat} {f' : β → List Value} {M : List β} {v' : Value} (h : OwnL w base e s f L v) (h' : OwnL w base' e' s' f' M v') (hne : e ≠ e') : v.ownBlock = none ∨ v.ownBlock ≠ v'.ownBlock := own_ne h.2 h'.2 hne
theorem OwnL.bel {a : World} {B : Nat} (ho : OwnL w base e s f L v) (h : Below B a w) (hg : w.grownBy w' v.ownBlock) (hB : B ≤ base) (hs : B ≤ w.heap.size) : Below B a w' := below_grown h hg ho.2 hB hs
theorem flat_at (hf : ∀ a, (f a).length = s) : ∀ {L : List α} {i : Nat} {a : α} {j : Nat}, L[i]? = some a → j < s → (L.flatMap f)[i * s + j]? = (f a)[j]?
  | [], i, a, j, h, _ => by simp at h
  | b :: L, 0, a, j, h, hj => by
    obtain rfl : b = a := by simpa using h
    rw [List.flatMap_cons, Nat.zero_mul, Nat.zero_add, List.getElem?_append_left (by rw [hf]; exact hj)]
  | b :: L, i + 1, a, j, h, hj => by
    have h' : L[i]? = some a := by simpa using h
    rw [List.flatMap_cons, List.getElem?_append_right (by rw [hf, Nat.succ_mul]; omega), hf, show (i + 1) * s + j - s = i * s + j by rw [Nat.succ_mul]; omega]
    exact flat_at hf h' hj
theorem OwnL.row {n c : Nat} (h : OwnL w base e s f L (.slice A n c)) (hf : ∀ a, (f a).length = s) : n = L.length ∧ RowL w A s f L := by
  obtain ⟨⟨A', c', e⟩, h2⟩ := h
  injection e with e1 e2 e3
  subst e1 e2 e3
  refine ⟨rfl, fun hn => ?_⟩
  obtain ⟨A', c', e, _, _, hat⟩ := own_at h2
  injection e with e1 _ _
  subst e1
  obtain ⟨g, rfl, hb, hg, hc⟩ := hat hn
  refine ⟨g, 0, rfl, hg, fun i a hi j u hj => ?_⟩
  have hl := (List.getElem?_eq_some_iff.1 hi).1
  have hjs := (List.getElem?_eq_some_iff.1 hj).1
  rw [hf] at hjs
  have := Nat.mul_le_mul_right s (show i + 1 ≤ L.length from hl)
  rw [Nat.succ_mul] at this
  rw [Nat.zero_add, hc (i * s + j) (by omega), flat_at hf hi hjs, hj]
theorem RowL.below (h : RowL w A s f L) (hb : Below w.heap.size w w') : RowL w' A s f L := fun hn => by
  obtain ⟨g, off, e, hl, hc⟩ := h hn
  exact ⟨g, off, e, Nat.lt_of_lt_of_le hl hb.size, fun i a hi j u hj => (hb.cell (p := ⟨g, off + i * s + j, none⟩) hl).trans (hc i a hi j u hj)⟩
/-- What is known of a slice type's elements. -/
def Inf (P : Program) (t e : TypeId) (size bytes : Nat) : Prop := P.underlying t = some (.slice e) ∧ (P.info? e).map (fun i => (i.zero.map (fun z => z.cells.size), i.size, i.bytes)) = some (some size, size, bytes)
theorem Inf.parts {t : TypeId} {size bytes : Nat} (h : Inf P t e size bytes) : ∃ i z, P.info? e = some i ∧ i.zero = some z ∧ i.size = size ∧ i.bytes = bytes ∧ z.cells.size = size := by
  obtain ⟨_, h⟩ := h
  cases hi : P.info? e with
  | none => rw [hi] at h; cases h
  | some i =>
    rw [hi] at h
    simp only [Option.map_some, Option.some.injEq, Prod.mk.injEq] at h
    obtain ⟨h1, h2, h3⟩ := h
    cases hz : i.zero with
    | none => rw [hz] at h1; cases h1
    | some z =>
      rw [hz] at h1
      exact ⟨i, z, rfl, hz, h2, h3, by simpa using h1⟩
theorem wpList_appL {ops : Array Oper} {rest : List Oper} {o : Oper} {a : Act} {Q : Exit → Act → World → Prop} (hgd : o.guard = none) (sl x : Operand) (t : TypeId)
    (ho : o.op = .call { callee := .builtin .append, args := #[sl, x], argTypes := #[t, t] }) (base : Nat) {size bytes : Nat} (hI : Inf P t e size bytes) (hsz : 0 < size) (hby : bytes ≤ 1000)
    (f : α → List Value) (hf : ∀ a, (f a).length = size) (h1 : ∀ a, ∀ u ∈ f a, u.oneCell' = true) (L : List α) (v : Value) (hs : a.eval sl = v) (hown : OwnL w base e size f L v)
    (x0 : α) (g c : Nat) (hx : a.eval x = .slice (some ⟨g, 0, none⟩) 1 c) (cs : Array Value) (hb : HasBlk w g e cs) (hcs : cs.toList = f x0) (hlen : L.length ≤ 1000000) (hbase : base ≤ w.heap.size)
    (h : ∀ v' w', OwnL w' base e size f (L ++ [x0]) v' → w.grownBy w' v.ownBlock → (∀ k, k < w.heap.size → v.ownBlock ≠ some k → v'.ownBlock ≠ some k) → wpList P ops Q rest (a.put o.dst v') w') : wpList P ops Q (o :: rest) a w := by
  obtain ⟨i, z, hi, hz, hsize, hbytes, hzs⟩ := hI.parts
  have hmul : (L.length + 1) * bytes ≤ 1000001 * 1000 := Nat.mul_le_mul (by omega) hby
  refine wpList_append_lies w hgd sl x t ho base e i z size bytes hI.1 hi hz hsize hbytes hzs hsz v L.length (L.flatMap f) hs hown.2 ⟨g, 0, none⟩ 1 c (f x0) hx (by rw [hf, Nat.one_mul]) (fun j u hj => ?_) (h1 x0) (by omega) (by unfold maxLen; omega) (by omega) hbase w.heap.size rfl ?_
  · rw [Addr.add_lit, Nat.zero_add, hb.cell, ← hj, ← hcs]
    simp
  · intro g' cap w' h2 h3 h4 h5
    refine h _ w' ⟨⟨_, _, by rw [List.length_append]; rfl⟩, ?_⟩ h3 ?_
    · rw [List.length_append, List.flatMap_append]
      simpa using h2
    · intro k hk hne he
      rcases h4 with h4 | h4
      · exact hne (h4.trans (by simpa [Value.ownBlock] using he))
      · have : g' = k := by simpa [Value.ownBlock] using he
        omega
theorem step_appL {ops : Array Oper} {o : Oper} {a : Act} {K : Act → World → Prop} {Q : Exit → Act → World → Prop} {E : Prop} (hgd : o.guard = none) (sl x : Operand) (t : TypeId)
    (ho : o.op = .call { callee := .builtin .append, args := #[sl, x], argTypes := #[t, t] }) (base : Nat) {size bytes : Nat} (hI : Inf P t e size bytes) (hsz : 0 < size) (hby : bytes ≤ 1000)
    (f : α → List Value) (hf : ∀ a, (f a).length = size) (h1 : ∀ a, ∀ u ∈ f a, u.oneCell' = true) (L : List α) (v : Value) (hs : a.eval sl = v) (hown : OwnL w base e size f L v)
    (x0 : α) (g c : Nat) (hx : a.eval x = .slice (some ⟨g, 0, none⟩) 1 c) (cs : Array Value) (hb : HasBlk w g e cs) (hcs : cs.toList = f x0) (hlen : L.length ≤ 1000000) (hbase : base ≤ w.heap.size)
    (h : ∀ v' w', OwnL w' base e size f (L ++ [x0]) v' → w.grownBy w' v.ownBlock → (∀ k, k < w.heap.size → v.ownBlock ≠ some k → v'.ownBlock ≠ some k) → K (a.put o.dst v') w') :
    if Region.wanted o (yielded ops a.tmps) = true then Oper.wp P o a w K Q else E := by
  obtain ⟨i, z, hi, hz, hsize, hbytes, hzs⟩ := hI.parts
  have hmul : (L.length + 1) * bytes ≤ 1000001 * 1000 := Nat.mul_le_mul (by omega) hby
  refine step_append_lies w hgd sl x t ho base e i z size bytes hI.1 hi hz hsize hbytes hzs hsz v L.length (L.flatMap f) hs hown.2 ⟨g, 0, none⟩ 1 c (f x0) hx (by rw [hf, Nat.one_mul]) (fun j u hj => ?_) (h1 x0) (by omega) (by unfold maxLen; omega) (by omega) hbase w.heap.size rfl ?_
  · rw [Addr.add_lit, Nat.zero_add, hb.cell, ← hj, ← hcs]
    simp
  · intro g' cap w' h2 h3 h4 h5
    refine h _ w' ⟨⟨_, _, by rw [List.length_append]; rfl⟩, ?_⟩ h3 ?_
    · rw [List.length_append, List.flatMap_append]
      simpa using h2
    · intro k hk hne he
      rcases h4 with h4 | h4
      · exact hne (h4.trans (by simpa [Value.ownBlock] using he))
      · have : g' = k := by simpa [Value.ownBlock] using he
        omega
end
end Go.Proofs.YtemopgpcpjnmkaaDoor
