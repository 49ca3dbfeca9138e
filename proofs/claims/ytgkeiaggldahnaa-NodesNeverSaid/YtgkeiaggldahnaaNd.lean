/- nodes: graphs in memory. -/
import Derived.Test.YtgkeiaggldahnaaR4
import Derived.Test.YtgkeiaggldahnaaMapS
import Derived.Test.YtgkeiaggldahnaaGraph
namespace Go.Proofs.Ytgkeiaggldahnaa
open Go.RowKit
set_option linter.unusedVariables false
theorem okI_of {x : Int} (h1 : -9223372036854775808 ≤ x) (h2 : x ≤ 9223372036854775807) : okI x := by
  unfold okI Lit.wf
  rw [Bool.and_eq_true]
  exact ⟨decide_eq_true (by show (IntKind.i64.min : Int) ≤ x; have : (IntKind.i64.min : Int) = -9223372036854775808 := by decide
                            omega), decide_eq_true (by show x ≤ (IntKind.i64.max : Int); have : (IntKind.i64.max : Int) = 9223372036854775807 := by decide
                                                       omega)⟩
theorem gb_trans {w w1 w2 : World} {row : Option Nat} (h : w.grownBy w1 row) (h' : w1.grownBy w2 row) : w.grownBy w2 row :=
  ⟨h'.os.trans h.os, h'.tape.trans h.tape, h'.output.trans h.output, Nat.le_trans h.size h'.size, fun k hk hr => (h'.block k (Nat.lt_of_lt_of_le hk h.size) hr).trans (h.block k hk hr)⟩
theorem gb_below {w w' : World} (h : Below w.heap.size w w') (row : Option Nat) : w.grownBy w' row := ⟨h.os, h.tape, h.output, h.size, fun k hk _ => h.block k hk⟩
/-- All that is written lies in a block of the call's own. -/
theorem below_gb {B m : Nat} {w w1 w2 : World} (h : Below B w w1) (hB : B ≤ w1.heap.size) (g : w1.grownBy w2 (some m)) (hm : B ≤ m) : Below B w w2 :=
  ⟨g.os.trans h.os, g.tape.trans h.tape, g.output.trans h.output, Nat.le_trans h.size g.size, fun k hk => (g.block k (Nat.lt_of_lt_of_le hk hB) (fun e => by cases e; omega)).trans (h.block k hk)⟩
theorem gb_drew (w : World) (row : Option Nat) : w.grownBy w.drew row := ⟨rfl, rfl, rfl, Nat.le_refl _, fun _ _ _ => rfl⟩
/-- Block m is a map. -/
def IsM (w : World) (m : Nat) : Prop := ∃ es clock, w.heap[m]? = some (.map es clock)
theorem IsM.nocell {w : World} {m : Nat} (h : IsM w m) (o : Nat) : w.cell? ⟨m, o, none⟩ = none := by
  obtain ⟨es, clock, h⟩ := h
  unfold World.cell?
  simp [h]
theorem IsM.ne {w : World} {m g : Nat} {t : TypeId} {cs : Array Value} (h : IsM w m) (hb : HasBlk w g t cs) : g ≠ m := fun e => by
  subst e
  obtain ⟨es, clock, h⟩ := h
  unfold HasBlk at hb
  rw [hb] at h
  cases h
theorem HasBlk.gb {w w' : World} {m g : Nat} {t : TypeId} {cs : Array Value} (hb : HasBlk w g t cs) (hg : w.grownBy w' (some m)) (h : IsM w m) : HasBlk w' g t cs :=
  hb.grown hg (fun e => h.ne hb (by injection e with e; exact e.symm))
theorem Row.gb {w w' : World} {m n s : Nat} {A : Option Addr} {F : Nat → Nat → Value} (hs : 0 < s) (hr : Row w A n s F) (hg : w.grownBy w' (some m)) (h : IsM w m) : Row w' A n s F := fun hn => by
  obtain ⟨g, o, e, hlt, hc⟩ := hr hn
  have hne : g ≠ m := fun e1 => by
    subst e1
    have h1 := hc 0 hn 0 hs
    rw [h.nocell] at h1
    cases h1
  refine ⟨g, o, e, Nat.lt_of_lt_of_le hlt hg.size, fun i hi j hj => hg.cell (hc i hi j hj) (fun e1 => hne (by injection e1))⟩
/-- A graph's numbers: n slots (g, b); m lists of children, of L each, (S, Q) their handles. -/
structure GD where
  n : Nat
  g : Nat → Int
  b : Nat → Bool
  m : Nat
  L : Nat → Nat
  S : Nat → Nat → Int
  Q : Nat → Nat → Int
/-- Where a graph lies. -/
structure GP where
  A : Option Addr
  c : Nat
  K : Option Addr
  kc : Nat
  KA : Nat → Option Addr
  KC : Nat → Nat
/-- The cells of a handle. -/
def hv (S Q : Nat → Int) (k j : Nat) : Value := if j = 0 then .int .i64 (S k) else .int .i64 (Q k)
theorem hv_one (S Q : Nat → Int) (k j : Nat) : (hv S Q k j).oneCell' = true := by unfold hv; split <;> rfl
/-- The cell of a list of children. -/
def kv (p : GP) (d : GD) (i j : Nat) : Value := .slice (p.KA i) (d.L i) (p.KC i)
/-- A graph that reads as d. -/
structure GOk (w : World) (p : GP) (d : GD) : Prop where
  ar : Row w p.A d.n 2 (sv d.g d.b)
  ks : Row w p.K d.m 1 (kv p d)
  kd : ∀ i, i < d.m → Row w (p.KA i) (d.L i) 2 (hv (d.S i) (d.Q i))
theorem GOk.below {w w' : World} {p : GP} {d : GD} (h : GOk w p d) (hb : Below w.heap.size w w') : GOk w' p d := ⟨h.ar.below hb, h.ks.below hb, fun i hi => (h.kd i hi).below hb⟩
theorem GOk.drew {w : World} {p : GP} {d : GD} (h : GOk w p d) : GOk w.drew p d := ⟨h.ar, h.ks, h.kd⟩
theorem GOk.gb {w w' : World} {m : Nat} {p : GP} {d : GD} (h : GOk w p d) (hg : w.grownBy w' (some m)) (hm : IsM w m) : GOk w' p d :=
  ⟨h.ar.gb (by omega) hg hm, h.ks.gb (by omega) hg hm, fun i hi => (h.kd i hi).gb (by omega) hg hm⟩
/-- No more than statements go through. -/
structure GD.Sm (d : GD) : Prop where
  n : d.n ≤ 1000
  m : d.m ≤ 1000
  L : ∀ i, i < d.m → d.L i ≤ 1000
/-- All children are held; as many lists as slots. -/
structure GD.Kid (d : GD) : Prop where
  m : d.m = d.n
  may : MayA d.n d.g
  kid : ∀ i k, i < d.m → k < d.L i → HeldA d.n d.g d.b (d.S i k) (d.Q i k)
/-- The graph of its slots. -/
def GD.E (d : GD) : GE := ⟨d.n, d.L, fun i k => (d.S i k).toNat⟩
theorem GD.Kid.in {d : GD} (h : d.Kid) : d.E.In := fun i k hi hk => by
  obtain ⟨h1, h2, _, _⟩ := h.kid i k (by rw [h.m]; exact hi) hk
  show (d.S i k).toNat < d.n
  omega
theorem GD.Kid.at {d : GD} (h : d.Kid) {i k : Nat} (hi : i < d.n) (hk : k < d.L i) : d.S i k = ((d.E.K i k : Nat) : Int) ∧ d.Q i k = d.g (d.E.K i k) ∧ d.E.K i k < d.n := by
  obtain ⟨h1, h2, h3, _⟩ := h.kid i k (by rw [h.m]; exact hi) hk
  refine ⟨?_, h3.symm, ?_⟩
  · show d.S i k = (((d.S i k).toNat : Nat) : Int)
    omega
  · show (d.S i k).toNat < d.n
    omega
theorem GD.Kid.gen {d : GD} (h : d.Kid) {i : Nat} (hi : i < d.n) : 1 ≤ d.g i ∧ d.g i ≤ 1073741824 := by
  have := h.may.2 i hi
  unfold okS at this
  simpa using this
theorem GD.Kid.n128 {d : GD} (h : d.Kid) : d.n ≤ 128 := h.may.1
/-- The handle of a slot, as a key: its numbers fit. -/
theorem GD.Kid.ok {d : GD} (h : d.Kid) {i : Nat} (hi : i < d.n) : okI (i : Int) ∧ okI (d.g i) := by
  have h1 := h.n128
  have h2 := h.gen hi
  exact ⟨okI_of (by omega) (by omega), okI_of (by omega) (by omega)⟩
/-- The map m holds the slots s. -/
def SetG (d : GD) (w : World) (m : Nat) (s : Nat → Bool) : Prop := ∃ S, SetS w m (cnt s d.n) S ∧ ∀ i, i < d.n → S (i : Int) (d.g i) = s i
theorem SetG.isM {d : GD} {w : World} {m : Nat} {s : Nat → Bool} (h : SetG d w m s) : IsM w m := by
  obtain ⟨S, h, _⟩ := h
  exact h.isMap
theorem SetG.lt {d : GD} {w : World} {m : Nat} {s : Nat → Bool} (h : SetG d w m s) : m < w.heap.size := by
  obtain ⟨S, h, _⟩ := h
  exact h.lt
theorem SetG.below {d : GD} {w w' : World} {m : Nat} {s : Nat → Bool} (h : SetG d w m s) (hb : Below w.heap.size w w') : SetG d w' m s := by
  obtain ⟨S, h, h'⟩ := h
  exact ⟨S, h.kept (row := none) (gb_below hb _) (by simp), h'⟩
theorem SetG.drew {d : GD} {w : World} {m : Nat} {s : Nat → Bool} (h : SetG d w m s) : SetG d w.drew m s := by
  obtain ⟨S, h, h'⟩ := h
  exact ⟨S, h.kept (row := none) (gb_drew _ _) (by simp), h'⟩
theorem SetG.look {d : GD} {w : World} {m i : Nat} {s : Nat → Bool} (h : SetG d w m s) (hk : d.Kid) (hi : i < d.n) :
    (Instr.lookup 90 (.map (some m)) (hval i (d.g i)) false).run Try.prog w = .ok (.bool (s i)) w := by
  obtain ⟨S, h, h'⟩ := h
  rw [← h' i hi]
  exact h.look (hk.ok hi).1 (hk.ok hi).2
theorem SetG.mark {d : GD} {w : World} {m i : Nat} {s : Nat → Bool} (h : SetG d w m s) (hk : d.Kid) (hi : i < d.n) (hs : s i = false) :
    ∃ w', (Instr.mapUpdate 90 (.map (some m)) (hval i (d.g i)) (.bool true)).run Try.prog w = .ok () w' ∧ SetG d w' m (fun j => if j = i then true else s j) ∧ w.grownBy w' (some m) := by
  obtain ⟨S, h, h'⟩ := h
  have hc := cnt_le s d.n
  have hn := hk.n128
  obtain ⟨w', hrun, hS, hg⟩ := h.mark (by unfold maxLen; omega) (hk.ok hi).1 (hk.ok hi).2
  refine ⟨w', hrun, ⟨_, (by rw [cnt_upd hs d.n hi]; exact hS), fun j hj => ?_⟩, hg⟩
  show (if (j : Int) = (i : Int) ∧ d.g j = d.g i then true else S j (d.g j)) = if j = i then true else s j
  by_cases e : j = i
  · subst e
    rw [if_pos ⟨rfl, rfl⟩, if_pos rfl]
  · rw [if_neg (fun e' => e (by omega)), if_neg e, h' j hj]
theorem SetG.made (d : GD) (w : World) : SetG d (w.alloc (.map #[] 0)) w.heap.size (fun _ => false) := ⟨_, (by rw [cnt_none]; exact SetS.made w), fun _ _ => rfl⟩
theorem SetG.wipe {d : GD} {w : World} {m : Nat} {s : Nat → Bool} (h : SetG d w m s) :
    ∃ w', (∀ ty : TypeId, (Builtin.clear_ #[90] ty #[.map (some m)]).run Try.prog w = .ok (.tuple #[]) w') ∧ SetG d w' m (fun _ => false) ∧ w.grownBy w' (some m) := by
  obtain ⟨S, h, h'⟩ := h
  obtain ⟨w', hrun, hS, hg⟩ := h.wipe
  exact ⟨w', hrun, ⟨_, (by rw [cnt_none]; exact hS), fun _ _ => rfl⟩, hg⟩
end Go.Proofs.Ytgkeiaggldahnaa
