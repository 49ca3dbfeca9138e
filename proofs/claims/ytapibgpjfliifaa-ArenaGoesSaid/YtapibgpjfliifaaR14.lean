/- arena: what Make, Kill and All answer, as values; a spoilt block. -/
import Derived.Test.YtapibgpjfliifaaR13
namespace Go.Proofs.Ytapibgpjfliifaa
open Go.RowKit
set_option linter.unusedVariables false

def MakeV (n : Nat) (g : Nat → Int) (b : Nat → Bool) (n8 : Nat) (g8 : Nat → Int) (b8 : Nat → Bool) (s8 q8 code : Int) : Prop :=
  (¬ MayA n g ∧ n8 = 0 ∧ s8 = 0 ∧ q8 = 0 ∧ code = 8) ∨
  (MayA n g ∧ (∀ i, i < n → freeS (g i) (b i) = false) ∧ n = 128 ∧ n8 = 0 ∧ s8 = 0 ∧ q8 = 0 ∧ code = 9) ∨
  (MayA n g ∧ ∃ k : Nat, Made n g b k n8 g8 b8 ∧ s8 = k ∧ q8 = g8 k ∧ code = 0)
theorem MakeR.val {n : Nat} {g : Nat → Int} {b : Nat → Bool} {B : Nat} {e : Ending} {w' : World} (h : MakeR n g b B e w') :
    ∃ X n8 c8 g8 b8 s8 q8 code, e = .returned (.tuple #[.agg #[.slice X n8 c8], .agg #[.int .i64 s8, .int .i64 q8], .int .i64 code]) ∧ w'.ownsRow B 33 2 (.slice X n8 c8) n8 (cellsR 2 (sv g8 b8) n8) ∧ MakeV n g b n8 g8 b8 s8 q8 code := by
  rcases h with ⟨h, rfl⟩ | ⟨h1, h2, h3, rfl⟩ | ⟨h1, k, n', g', b', A, c, hm, rfl, ho⟩
  · exact ⟨none, 0, 0, g, b, 0, 0, 8, rfl, own_nil _ _ _ _, .inl ⟨h, rfl, rfl, rfl, rfl⟩⟩
  · exact ⟨none, 0, 0, g, b, 0, 0, 9, rfl, own_nil _ _ _ _, .inr (.inl ⟨h1, h2, h3, rfl, rfl, rfl, rfl⟩)⟩
  · exact ⟨A, n', c, g', b', k, g' k, 0, rfl, ho, .inr (.inr ⟨h1, k, hm, rfl, rfl, rfl⟩)⟩
theorem Made.same {n : Nat} {g : Nat → Int} {b : Nat → Bool} {k n8 : Nat} {g8 : Nat → Int} {b8 : Nat → Bool} {k' n9 : Nat} {g9 : Nat → Int} {b9 : Nat → Bool} (h : Made n g b k n8 g8 b8) (h' : Made n g b k' n9 g9 b9) :
    k = k' ∧ n8 = n9 ∧ g8 = g9 ∧ b8 = b9 := by
  rcases h with ⟨hk, hf, hno, rfl, rfl, rfl⟩ | ⟨rfl, hl, hno, rfl, rfl, rfl⟩ <;> rcases h' with ⟨hk', hf', hno', rfl, rfl, rfl⟩ | ⟨rfl, hl', hno', rfl, rfl, rfl⟩
  · have : k = k' := by
      rcases Nat.lt_trichotomy k k' with h | h | h
      · rw [hno' k h] at hf; cases hf
      · exact h
      · rw [hno k' h] at hf'; cases hf'
    subst this
    exact ⟨rfl, rfl, rfl, rfl⟩
  · rw [hno' k hk] at hf; cases hf
  · rw [hno k' hk'] at hf'; cases hf'
  · exact ⟨rfl, rfl, rfl, rfl⟩
theorem Made.some {n : Nat} {g : Nat → Int} {b : Nat → Bool} {k n8 : Nat} {g8 : Nat → Int} {b8 : Nat → Bool} (h : Made n g b k n8 g8 b8) : ¬ ((∀ i, i < n → freeS (g i) (b i) = false) ∧ n = 128) := by
  rintro ⟨h1, h2⟩
  rcases h with ⟨hk, hf, _⟩ | ⟨_, hl, _⟩
  · rw [h1 k hk] at hf; cases hf
  · omega
theorem MakeV.same {n : Nat} {g : Nat → Int} {b : Nat → Bool} {n8 : Nat} {g8 : Nat → Int} {b8 : Nat → Bool} {s8 q8 code : Int} {n9 : Nat} {g9 : Nat → Int} {b9 : Nat → Bool} {s9 q9 code9 : Int}
    (h : MakeV n g b n8 g8 b8 s8 q8 code) (h' : MakeV n g b n9 g9 b9 s9 q9 code9) : SameA n8 n9 g8 g9 b8 b9 ∧ s8 = s9 ∧ q8 = q9 ∧ code = code9 := by
  rcases h with ⟨hm, rfl, rfl, rfl, rfl⟩ | ⟨hm, h1, h2, rfl, rfl, rfl, rfl⟩ | ⟨hm, k, hk, rfl, rfl, rfl⟩ <;> rcases h' with ⟨hm', rfl, rfl, rfl, rfl⟩ | ⟨hm', h1', h2', rfl, rfl, rfl, rfl⟩ | ⟨hm', k', hk', rfl, rfl, rfl⟩
  · exact ⟨⟨rfl, fun k hk => absurd hk (by omega)⟩, rfl, rfl, rfl⟩
  · exact absurd hm' hm
  · exact absurd hm' hm
  · exact absurd hm hm'
  · exact ⟨⟨rfl, fun k hk => absurd hk (by omega)⟩, rfl, rfl, rfl⟩
  · exact absurd ⟨h1, h2⟩ hk'.some
  · exact absurd hm hm'
  · exact absurd ⟨h1', h2'⟩ hk.some
  · obtain ⟨rfl, rfl, rfl, rfl⟩ := hk.same hk'
    exact ⟨⟨rfl, fun _ _ => ⟨rfl, rfl⟩⟩, rfl, rfl, rfl⟩
theorem MakeV.le {n : Nat} {g : Nat → Int} {b : Nat → Bool} {n8 : Nat} {g8 : Nat → Int} {b8 : Nat → Bool} {s8 q8 code : Int} (h : MakeV n g b n8 g8 b8 s8 q8 code) : n8 ≤ n + 1 := by
  rcases h with ⟨_, rfl, _⟩ | ⟨_, _, _, rfl, _⟩ | ⟨_, k, hk, _⟩
  · omega
  · omega
  · rcases hk with ⟨_, _, _, rfl, _⟩ | ⟨_, _, _, rfl, _⟩ <;> omega
def KillV (n : Nat) (g : Nat → Int) (b : Nat → Bool) (s q : Int) (n8 : Nat) (g8 : Nat → Int) (b8 : Nat → Bool) (code : Int) : Prop :=
  (¬ MayA n g ∧ n8 = 0 ∧ code = 8) ∨ (MayA n g ∧ ¬ HeldA n g b s q ∧ n8 = 0 ∧ code = 50) ∨ (MayA n g ∧ HeldA n g b s q ∧ n8 = n ∧ g8 = g ∧ b8 = upd b s.toNat false ∧ code = 0)
theorem KillR.val {n : Nat} {g : Nat → Int} {b : Nat → Bool} {s q : Int} {B : Nat} {e : Ending} {w' : World} (h : KillR n g b s q B e w') (hn : (n : Int) ≤ 1000000) :
    ∃ X n8 c8 g8 b8 code, e = .returned (.tuple #[.agg #[.slice X n8 c8], .int .i64 code]) ∧ w'.ownsRow B 33 2 (.slice X n8 c8) n8 (cellsR 2 (sv g8 b8) n8) ∧ KillV n g b s q n8 g8 b8 code := by
  rcases h with ⟨h, rfl⟩ | ⟨h1, h2, rfl⟩ | ⟨h1, h2, v, rfl, X, rfl, hX, hb⟩
  · exact ⟨none, 0, 0, g, b, 8, rfl, own_nil _ _ _ _, .inl ⟨h, rfl, rfl⟩⟩
  · exact ⟨none, 0, 0, g, b, 50, rfl, own_nil _ _ _ _, .inr (.inl ⟨h1, h2, rfl, rfl⟩)⟩
  · exact ⟨_, n, n, g, upd b s.toNat false, 0, rfl, own_of_blk hb (cellsR_len 2 _ n) hX (by unfold maxLen; omega), .inr (.inr ⟨h1, h2, rfl, rfl, rfl, rfl⟩)⟩
theorem KillG.val {n : Nat} {g : Nat → Int} {b : Nat → Bool} {s q : Int} {B : Nat} {e : Ending} {w' : World} (h : KillG n g b s q B e w') :
    ∃ X n8 c8 g8 b8 code, e = .returned (.tuple #[.agg #[.slice X n8 c8], .int .i64 code]) ∧ w'.ownsRow B 33 2 (.slice X n8 c8) n8 (cellsR 2 (sv g8 b8) n8) ∧ KillV n g b s q n8 g8 b8 code := by
  rcases h with ⟨h, rfl⟩ | ⟨h1, h2, rfl⟩ | ⟨h1, h2, v, rfl, X, c, rfl, ho⟩
  · exact ⟨none, 0, 0, g, b, 8, rfl, own_nil _ _ _ _, .inl ⟨h, rfl, rfl⟩⟩
  · exact ⟨none, 0, 0, g, b, 50, rfl, own_nil _ _ _ _, .inr (.inl ⟨h1, h2, rfl, rfl⟩)⟩
  · exact ⟨X, n, c, g, upd b s.toNat false, 0, rfl, ho, .inr (.inr ⟨h1, h2, rfl, rfl, rfl, rfl⟩)⟩
theorem KillV.same {n : Nat} {g : Nat → Int} {b : Nat → Bool} {s q : Int} {n8 : Nat} {g8 : Nat → Int} {b8 : Nat → Bool} {code : Int} {n9 : Nat} {g9 : Nat → Int} {b9 : Nat → Bool} {code9 : Int}
    (h : KillV n g b s q n8 g8 b8 code) (h' : KillV n g b s q n9 g9 b9 code9) : SameA n8 n9 g8 g9 b8 b9 ∧ code = code9 := by
  rcases h with ⟨hm, rfl, rfl⟩ | ⟨hm, h1, rfl, rfl⟩ | ⟨hm, h1, rfl, rfl, rfl, rfl⟩ <;> rcases h' with ⟨hm', rfl, rfl⟩ | ⟨hm', h1', rfl, rfl⟩ | ⟨hm', h1', rfl, rfl, rfl, rfl⟩
  · exact ⟨⟨rfl, fun k hk => absurd hk (by omega)⟩, rfl⟩
  · exact absurd hm' hm
  · exact absurd hm' hm
  · exact absurd hm hm'
  · exact ⟨⟨rfl, fun k hk => absurd hk (by omega)⟩, rfl⟩
  · exact absurd h1' h1
  · exact absurd hm hm'
  · exact absurd h1 h1'
  · exact ⟨⟨rfl, fun _ _ => ⟨rfl, rfl⟩⟩, rfl⟩
theorem KillV.le {n : Nat} {g : Nat → Int} {b : Nat → Bool} {s q : Int} {n8 : Nat} {g8 : Nat → Int} {b8 : Nat → Bool} {code : Int} (h : KillV n g b s q n8 g8 b8 code) : n8 ≤ n := by
  rcases h with ⟨_, rfl, _⟩ | ⟨_, _, rfl, _⟩ | ⟨_, _, rfl, _⟩ <;> omega
def AllV (n : Nat) (g : Nat → Int) (b : Nat → Bool) (l : List Nat) (code : Int) : Prop := (¬ MayA n g ∧ l = [] ∧ code = 8) ∨ (MayA n g ∧ l = liveL b n ∧ code = 0)
theorem AllR.val {n : Nat} {g : Nat → Int} {b : Nat → Bool} {B : Nat} {e : Ending} {w' : World} (h : AllR n g b B e w') :
    ∃ X c l code, e = .returned (.tuple #[.slice X l.length c, .int .i64 code]) ∧ w'.ownsRow B 26 2 (.slice X l.length c) l.length (hdc g l) ∧ AllV n g b l code := by
  rcases h with ⟨h, rfl⟩ | ⟨h, X, c, rfl, ho⟩
  · exact ⟨none, 0, [], 8, rfl, own_nil _ _ _ _, .inl ⟨h, rfl, rfl⟩⟩
  · exact ⟨X, c, liveL b n, 0, rfl, ho, .inr ⟨h, rfl, rfl⟩⟩
theorem AllV.same {n : Nat} {g : Nat → Int} {b : Nat → Bool} {l : List Nat} {code : Int} {l' : List Nat} {code' : Int} (h : AllV n g b l code) (h' : AllV n g b l' code') : l = l' ∧ code = code' := by
  rcases h with ⟨hm, rfl, rfl⟩ | ⟨hm, rfl, rfl⟩ <;> rcases h' with ⟨hm', rfl, rfl⟩ | ⟨hm', rfl, rfl⟩
  · exact ⟨rfl, rfl⟩
  · exact absurd hm' hm
  · exact absurd hm hm'
  · exact ⟨rfl, rfl⟩
theorem AllV.le {n : Nat} {g : Nat → Int} {b : Nat → Bool} {l : List Nat} {code : Int} (h : AllV n g b l code) : l.length ≤ n := by
  rcases h with ⟨_, rfl, _⟩ | ⟨_, rfl, _⟩
  · simp
  · exact liveL_len b n
/-- A row of the call's own stays where another one's cells are written. -/
theorem own_grown {w w' : World} {B e s n : Nat} {v : Value} {xs : List Value} {row : Option Nat} (h : w.ownsRow B e s v n xs) (hg : w.grownBy w' row) (hne : v.ownBlock = none ∨ v.ownBlock ≠ row) : w'.ownsRow B e s v n xs := by
  refine ⟨h.1, ?_⟩
  rcases h.2 with h | ⟨g, cap, cur, rfl, hB, hblk, h3⟩
  · exact .inl h
  · refine .inr ⟨g, cap, cur, rfl, hB, HasBlk.grown hblk hg ?_, h3⟩
    rcases hne with h | h
    · simp [Value.ownBlock] at h
    · intro e; apply h; rw [e]; rfl
theorem row_grown {w w' : World} {A : Option Addr} {n s : Nat} {F : Nat → Nat → Value} {row : Option Nat} {B : Nat} (h : Row w A n s F) (hg : w.grownBy w' row) (hB : ∀ x, row = some x → w.heap.size ≤ x) : Row w' A n s F := by
  refine h.below ?_
  exact ⟨hg.os, hg.tape, hg.output, hg.size, fun k hk => hg.block k hk (fun e => by have := hB k e.symm; omega)⟩
end Go.Proofs.Ytapibgpjfliifaa
