/- pyramid: the least of the pixels below, by pixel number; plain law, no program. -/
import Derived.Test.YtibeoeooajelgaaPyr2
import Derived.Test.YtibeoeooajelgaaY12
namespace Go.Proofs.Ytibeoeooajelgaa
set_option linter.unusedVariables false
/-- The place, in level k, of pixel q. -/
def pixN (X k Wk q : Nat) : Nat := q / X / 2 ^ k * Wk + q % X / 2 ^ k
def LeastV (D : Nat → Int) (X k Wk n t : Nat) (g : Int) : Prop := LstB (fun a b => a < n ∧ pixN X k Wk a = t ∧ b = 0) (fun a _ => D a - 70000) 0 g
theorem LeastV.start {D : Nat → Int} {X k Wk t : Nat} : LeastV D X k Wk 0 t 0 := LstB.none fun a b h => by omega
theorem LeastV.step {D : Nat → Int} {X k Wk n : Nat} {g : Nat → Int} (h : ∀ t, LeastV D X k Wk n t (g t)) (t : Nat) : LeastV D X k Wk (n + 1) t (upd g (pixN X k Wk n) (min (g (pixN X k Wk n)) (D n - 70000)) t) := by
  by_cases e : t = pixN X k Wk n
  · subst e
    rw [upd_at]
    refine LstB.add (x := n) (y := 0) (h _) fun p q => ⟨fun ⟨h1, h2, h3⟩ => ?_, fun h1 => ?_⟩
    · rcases Nat.lt_or_ge p n with h4 | h4
      · exact .inl ⟨h4, h2, h3⟩
      · exact .inr ⟨by omega, h3⟩
    · rcases h1 with ⟨h1, h2, h3⟩ | ⟨rfl, h3⟩
      · exact ⟨by omega, h2, h3⟩
      · exact ⟨by omega, rfl, h3⟩
  · rw [upd_ne _ _ e]
    refine LstB.congr (h t) fun p q => ⟨fun ⟨h1, h2, h3⟩ => ⟨by omega, h2, h3⟩, fun ⟨h1, h2, h3⟩ => ⟨?_, h2, h3⟩⟩
    rcases Nat.lt_or_ge p n with h4 | h4
    · exact h4
    · exfalso
      apply e
      rw [← h2, show p = n by omega]
theorem pix_ab {X Y q : Nat} (hq : q < X * Y) : q % X < X ∧ q / X < Y := by
  have hX : 0 < X := by
    rcases Nat.eq_zero_or_pos X with rfl | h
    · rw [Nat.zero_mul] at hq; omega
    · exact h
  exact ⟨Nat.mod_lt _ hX, Nat.div_lt_of_lt_mul hq⟩
theorem pix_in {l : LD} {k q : Nat} (hq : q < l.W * l.H) : q % l.W / 2 ^ k < (l.lev k).W ∧ q / l.W / 2 ^ k < (l.lev k).H := by
  obtain ⟨h1, h2⟩ := pix_ab hq
  exact ⟨(LD.lev_W l k _).2 (Nat.lt_of_le_of_lt (Nat.div_mul_le_self _ _) h1), (LD.lev_H l k _).2 (Nat.lt_of_le_of_lt (Nat.div_mul_le_self _ _) h2)⟩
theorem pix_lt {l : LD} {k q : Nat} (hq : q < l.W * l.H) : pixN l.W k (l.lev k).W q < (l.lev k).W * (l.lev k).H := by
  obtain ⟨h1, h2⟩ := pix_in (k := k) hq
  exact LD.row_lt (l := l.lev k) h1 h2
theorem LeastV.fin {D : Nat → Int} {X Y k t : Nat} {g : Int} (hle : LD.Le ⟨X, Y, fun x y => D (y * X + x)⟩) (ht : t < (LD.lev ⟨X, Y, fun x y => D (y * X + x)⟩ k).W * (LD.lev ⟨X, Y, fun x y => D (y * X + x)⟩ k).H)
    (h : LeastV D X k (LD.lev ⟨X, Y, fun x y => D (y * X + x)⟩ k).W (X * Y) t g) : g + 70000 = (LD.lev ⟨X, Y, fun x y => D (y * X + x)⟩ k).row t := by
  generalize hl : (⟨X, Y, fun x y => D (y * X + x)⟩ : LD) = l at *
  have lW : l.W = X := by rw [← hl]
  have lH : l.H = Y := by rw [← hl]
  have lf : ∀ a b, l.f a b = D (b * X + a) := fun a b => by rw [← hl]
  have hab := pix_ab ht
  obtain ⟨m1, a, b, ⟨ha, hb, qa, qb⟩, he⟩ := LD.lev_lst hle k (t % (l.lev k).W) (t / (l.lev k).W) hab.1 hab.2
  show g + 70000 = (l.lev k).f (t % (l.lev k).W) (t / (l.lev k).W)
  generalize (l.lev k).f (t % (l.lev k).W) (t / (l.lev k).W) = m at *
  obtain ⟨g0, g1, g2⟩ := h
  rw [lW] at ha
  rw [lH] at hb
  have hXp : 0 < X := by omega
  have hq : b * X + a < X * Y := LD.row_lt (l := ⟨X, Y, fun _ _ => 0⟩) ha hb
  have d1 : (b * X + a) / X = b := by rw [Nat.mul_comm, Nat.mul_add_div hXp, Nat.div_eq_of_lt ha]; omega
  have d2 : (b * X + a) % X = a := by rw [Nat.mul_comm, Nat.mul_add_mod, Nat.mod_eq_of_lt ha]
  have hpx : pixN X k (l.lev k).W (b * X + a) = t := by
    unfold pixN
    rw [d1, d2, qa, qb, Nat.mul_comm, Nat.div_add_mod]
  have up := g1 (b * X + a) 0 ⟨hq, hpx, rfl⟩
  rw [lf] at he
  have hD := hle a b (by rw [lW]; exact ha) (by rw [lH]; exact hb)
  rw [lf] at hD
  rcases g2 with rfl | ⟨a0, b0, ⟨h1, h2, -⟩, h3⟩
  · exfalso
    dsimp only at up
    omega
  · have hlt : a0 < l.W * l.H := by rw [lW, lH]; exact h1
    obtain ⟨i1, i2⟩ := pix_in (l := l) (k := k) hlt
    rw [lW] at i1 i2
    have hWp : 0 < (l.lev k).W := by omega
    have r1 : t % (l.lev k).W = a0 % X / 2 ^ k := by
      rw [← h2]
      unfold pixN
      rw [Nat.mul_comm, Nat.mul_add_mod, Nat.mod_eq_of_lt i1]
    have r2 : t / (l.lev k).W = a0 / X / 2 ^ k := by
      rw [← h2]
      unfold pixN
      rw [Nat.mul_comm, Nat.mul_add_div hWp, Nat.div_eq_of_lt i1]
      omega
    obtain ⟨j1, j2⟩ := pix_ab h1
    have lo := m1 (a0 % X) (a0 / X) ⟨by rw [lW]; exact j1, by rw [lH]; exact j2, r1.symm, r2.symm⟩
    rw [lf, Nat.mul_comm, Nat.div_add_mod] at lo
    dsimp only at h3 up
    omega
theorem row_bd {D : Nat → Int} {X Y k t : Nat} (hD : ∀ q, q < X * Y → -2048 ≤ D q ∧ D q ≤ 66560) (ht : t < (LD.lev ⟨X, Y, fun x y => D (y * X + x)⟩ k).W * (LD.lev ⟨X, Y, fun x y => D (y * X + x)⟩ k).H) : -2048 ≤ (LD.lev ⟨X, Y, fun x y => D (y * X + x)⟩ k).row t ∧ (LD.lev ⟨X, Y, fun x y => D (y * X + x)⟩ k).row t ≤ 66560 := by
  have hle : LD.Le ⟨X, Y, fun x y => D (y * X + x)⟩ := fun x y hx hy => (hD _ (LD.row_lt (l := ⟨X, Y, fun x y => D (y * X + x)⟩) hx hy)).2
  have hab := pix_ab ht
  obtain ⟨m1, a, b, ⟨ha, hb, qa, qb⟩, he⟩ := LD.lev_lst hle k _ _ hab.1 hab.2
  unfold LD.row
  rw [← he]
  exact hD _ (LD.row_lt (l := ⟨X, Y, fun x y => D (y * X + x)⟩) ha hb)
/-- The least of the rectangle's pixels, by pixel number. -/
def WantV (D : Nat → Int) (X : Nat) (r : RC) (n : Nat) (m : Int) : Prop := LstB (fun a b => a < n ∧ (r.X0 ≤ (a % X : Nat) ∧ ((a % X : Nat) : Int) ≤ r.X1 ∧ r.Y0 ≤ (a / X : Nat) ∧ ((a / X : Nat) : Int) ≤ r.Y1) ∧ b = 0) (fun a _ => D a) 1048576 m
theorem WantV.start {D : Nat → Int} {X : Nat} {r : RC} : WantV D X r 0 1048576 := LstB.none fun a b h => by omega
theorem WantV.inn {D : Nat → Int} {X n : Nat} {r : RC} {m : Int} (h : WantV D X r n m) (hr : r.X0 ≤ (n % X : Nat) ∧ ((n % X : Nat) : Int) ≤ r.X1 ∧ r.Y0 ≤ (n / X : Nat) ∧ ((n / X : Nat) : Int) ≤ r.Y1) : WantV D X r (n + 1) (min m (D n)) :=
  LstB.add (x := n) (y := 0) h fun p q => ⟨fun ⟨h1, h2, h3⟩ => by
    rcases Nat.lt_or_ge p n with h4 | h4
    · exact .inl ⟨h4, h2, h3⟩
    · exact .inr ⟨by omega, h3⟩, fun h1 => by
    rcases h1 with ⟨h1, h2, h3⟩ | ⟨rfl, h3⟩
    · exact ⟨by omega, h2, h3⟩
    · exact ⟨by omega, hr, h3⟩⟩
theorem WantV.out {D : Nat → Int} {X n : Nat} {r : RC} {m : Int} (h : WantV D X r n m) (hr : ¬ (r.X0 ≤ (n % X : Nat) ∧ ((n % X : Nat) : Int) ≤ r.X1 ∧ r.Y0 ≤ (n / X : Nat) ∧ ((n / X : Nat) : Int) ≤ r.Y1)) : WantV D X r (n + 1) m :=
  LstB.congr h fun p q => ⟨fun ⟨h1, h2, h3⟩ => ⟨by omega, h2, h3⟩, fun ⟨h1, h2, h3⟩ => ⟨by
    rcases Nat.lt_or_ge p n with h4 | h4
    · exact h4
    · exfalso
      apply hr
      rw [show n = p by omega]
      exact h2, h2, h3⟩⟩
theorem WantV.fin {D : Nat → Int} {X Y : Nat} {r : RC} {m n : Int} (hle : LD.Le ⟨X, Y, fun x y => D (y * X + x)⟩) (hb : ¬ r.Bad X Y) (hn : LstB (LD.inR ⟨X, Y, fun x y => D (y * X + x)⟩ r) (fun x y => D (y * X + x)) 66560 n) (h : WantV D X r (X * Y) m) : n = m := by
  unfold RC.Bad at hb
  obtain ⟨n0, n1, n2⟩ := hn
  obtain ⟨m0, m1, m2⟩ := h
  have key : ∀ a b : Nat, a < X → b < Y → (b * X + a < X * Y ∧ (b * X + a) / X = b ∧ (b * X + a) % X = a) := fun a b ha hb' => by
    have hXp : 0 < X := by omega
    exact ⟨LD.row_lt (l := ⟨X, Y, fun _ _ => 0⟩) ha hb', by rw [Nat.mul_comm, Nat.mul_add_div hXp, Nat.div_eq_of_lt ha]; omega, by rw [Nat.mul_comm, Nat.mul_add_mod, Nat.mod_eq_of_lt ha]⟩
  have inm : ∀ a b : Nat, LD.inR ⟨X, Y, fun x y => D (y * X + x)⟩ r a b → m ≤ D (b * X + a) := fun a b hab => by
    obtain ⟨h1, h2, h3, h4, h5, h6⟩ := hab
    obtain ⟨k1, k2, k3⟩ := key a b h1 h2
    exact m1 (b * X + a) 0 ⟨k1, by rw [k2, k3]; exact ⟨h3, h4, h5, h6⟩, rfl⟩
  have h1 : m ≤ n := by
    rcases n2 with rfl | ⟨a, b, hab, rfl⟩
    · obtain ⟨a, ha⟩ := Int.eq_ofNat_of_zero_le (show 0 ≤ r.X0 by omega)
      obtain ⟨b, hb2⟩ := Int.eq_ofNat_of_zero_le (show 0 ≤ r.Y0 by omega)
      have hin : LD.inR ⟨X, Y, fun x y => D (y * X + x)⟩ r a b := ⟨by show a < X; omega, by show b < Y; omega, by omega, by omega, by omega, by omega⟩
      have q1 := inm a b hin
      have q2 := hle a b hin.1 hin.2.1
      dsimp only at q2
      omega
    · exact inm a b hab
  have h2 : n ≤ m := by
    rcases m2 with rfl | ⟨a, b, ⟨q1, ⟨q2, q3, q4, q5⟩, -⟩, rfl⟩
    · omega
    · obtain ⟨j1, j2⟩ := pix_ab q1
      have := n1 (a % X) (a / X) ⟨j1, j2, q2, q3, q4, q5⟩
      dsimp only at this
      rw [Nat.mul_comm, Nat.div_add_mod] at this
      exact this
  omega
end Go.Proofs.Ytibeoeooajelgaa
