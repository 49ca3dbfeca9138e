/- The shadow of a box: what lies in a box, and is seen, lies in the box's shadow. Plain law, no program. -/
namespace Go.Proofs.YtemopgpcpjnmkaaDoor
set_option linter.unusedVariables false
/-- A point. -/
structure V3 where
  x : Int
  y : Int
  z : Int
/-- A box. -/
structure B3 where
  lo : V3
  hi : V3
def B3.has (b : B3) (v : V3) : Prop := (b.lo.x ≤ v.x ∧ v.x ≤ b.hi.x) ∧ (b.lo.y ≤ v.y ∧ v.y ≤ b.hi.y) ∧ (b.lo.z ≤ v.z ∧ v.z ≤ b.hi.z)
/-- The numbers of a span, multiplied: the least, the greatest. -/
def tlo (k lo hi : Int) : Int := if k < 0 then k * hi else k * lo
def thi (k lo hi : Int) : Int := if k < 0 then k * lo else k * hi
theorem tlo_le {k lo hi v : Int} (h1 : lo ≤ v) (h2 : v ≤ hi) : tlo k lo hi ≤ k * v := by
  unfold tlo
  split
  · exact Int.mul_le_mul_of_nonpos_left (by omega) h2
  · exact Int.mul_le_mul_of_nonneg_left h1 (by omega)
theorem le_thi {k lo hi v : Int} (h1 : lo ≤ v) (h2 : v ≤ hi) : k * v ≤ thi k lo hi := by
  unfold thi
  split
  · exact Int.mul_le_mul_of_nonpos_left (by omega) h1
  · exact Int.mul_le_mul_of_nonneg_left h2 (by omega)
/-- Three numbers. -/
structure R3 where
  a : Int
  b : Int
  c : Int
def R3.turn (m : R3) (v : V3) : Int := (m.a * v.x + m.b * v.y + m.c * v.z) / 256
def R3.lo (m : R3) (b : B3) : Int := (tlo m.a b.lo.x b.hi.x + tlo m.b b.lo.y b.hi.y + tlo m.c b.lo.z b.hi.z) / 256
def R3.hi (m : R3) (b : B3) : Int := (thi m.a b.lo.x b.hi.x + thi m.b b.lo.y b.hi.y + thi m.c b.lo.z b.hi.z) / 256
theorem R3.turn_in {m : R3} {b : B3} {v : V3} (h : b.has v) : m.lo b ≤ m.turn v ∧ m.turn v ≤ m.hi b := by
  obtain ⟨⟨a1, a2⟩, ⟨b1, b2⟩, c1, c2⟩ := h
  have p1 := tlo_le (k := m.a) a1 a2
  have p2 := tlo_le (k := m.b) b1 b2
  have p3 := tlo_le (k := m.c) c1 c2
  have q1 := le_thi (k := m.a) a1 a2
  have q2 := le_thi (k := m.b) b1 b2
  have q3 := le_thi (k := m.c) c1 c2
  exact ⟨Int.ediv_le_ediv (by decide) (by omega), Int.ediv_le_ediv (by decide) (by omega)⟩
/-- A matrix' rows. -/
structure M3 where
  r : R3
  s : R3
  t : R3
def M3.turn (m : M3) (v : V3) : V3 := ⟨m.r.turn v, m.s.turn v, m.t.turn v⟩
def M3.box (m : M3) (b : B3) : B3 := ⟨⟨m.r.lo b, m.s.lo b, m.t.lo b⟩, ⟨m.r.hi b, m.s.hi b, m.t.hi b⟩⟩
theorem M3.turn_in {m : M3} {b : B3} {v : V3} (h : b.has v) : (m.box b).has (m.turn v) := ⟨R3.turn_in h, R3.turn_in h, R3.turn_in h⟩
def V3.less (v p : V3) : V3 := ⟨v.x - p.x, v.y - p.y, v.z - p.z⟩
def B3.less (b : B3) (p : V3) : B3 := ⟨b.lo.less p, b.hi.less p⟩
theorem B3.less_has {b : B3} {v p : V3} (h : b.has v) : (b.less p).has (v.less p) := by
  obtain ⟨⟨a1, a2⟩, ⟨b1, b2⟩, c1, c2⟩ := h
  exact ⟨⟨Int.sub_le_sub_right a1 _, Int.sub_le_sub_right a2 _⟩, ⟨Int.sub_le_sub_right b1 _, Int.sub_le_sub_right b2 _⟩, Int.sub_le_sub_right c1 _, Int.sub_le_sub_right c2 _⟩
/-- Where a side meets the near plane: between its ends. -/
def cutn (a b n az bz : Int) : Int := a + (b - a) * (n - az) / (bz - az)
theorem cutn_in {a b n az bz lo hi : Int} (h1 : az < n) (h2 : n ≤ bz) (ha : lo ≤ a ∧ a ≤ hi) (hb : lo ≤ b ∧ b ≤ hi) : lo ≤ cutn a b n az bz ∧ cutn a b n az bz ≤ hi := by
  unfold cutn
  have hq : 0 < bz - az := by omega
  have hp : 0 ≤ n - az := by omega
  have hpq : n - az ≤ bz - az := by omega
  generalize bz - az = q at *
  generalize n - az = p at *
  generalize hd : b - a = d at *
  rcases Int.le_total 0 d with h | h
  · have k1 : 0 ≤ d * p / q := Int.ediv_nonneg (Int.mul_nonneg h hp) (by omega)
    have k2 : d * p / q ≤ d := Int.ediv_le_of_le_mul hq (Int.mul_le_mul_of_nonneg_left hpq h)
    omega
  · have k1 : d ≤ d * p / q := (Int.le_ediv_iff_mul_le hq).2 (Int.mul_le_mul_of_nonpos_left h hpq)
    have k2 : d * p / q ≤ 0 := Int.ediv_le_of_le_mul hq (by rw [Int.zero_mul]; exact Int.mul_nonpos_of_nonpos_of_nonneg h hp)
    omega
/-- The least place that any depth gives, the greatest. -/
def plo (g n near far : Int) : Int := g * n / (if 0 ≤ n then far else near)
def phi (g n near far : Int) : Int := g * n / (if 0 ≤ n then near else far)
theorem plo_le {g n m near far z : Int} (hg : 0 ≤ g) (hn : n ≤ m) (h0 : 0 < near) (h1 : near ≤ z) (h2 : z ≤ far) : plo g n near far ≤ g * m / z := by
  unfold plo
  have hz : 0 < z := by omega
  have hgm : g * n ≤ g * m := Int.mul_le_mul_of_nonneg_left hn hg
  rw [Int.le_ediv_iff_mul_le hz]
  split
  · rename_i hp
    have hf : 0 < far := by omega
    have k := Int.ediv_mul_le (g * n) (b := far) (by omega)
    have k0 : 0 ≤ g * n / far := Int.ediv_nonneg (Int.mul_nonneg hg hp) (by omega)
    have := Int.mul_le_mul_of_nonneg_left h2 k0
    omega
  · rename_i hp
    have k := Int.ediv_mul_le (g * n) (b := near) (by omega)
    have k0 : g * n / near ≤ 0 := Int.ediv_le_of_le_mul h0 (by rw [Int.zero_mul]; exact Int.mul_nonpos_of_nonneg_of_nonpos hg (by omega))
    have := Int.mul_le_mul_of_nonpos_left k0 h1
    omega
theorem le_phi {g n m near far z : Int} (hg : 0 ≤ g) (hn : m ≤ n) (h0 : 0 < near) (h1 : near ≤ z) (h2 : z ≤ far) : g * m / z ≤ phi g n near far := by
  unfold phi
  have hz : 0 < z := by omega
  have hf : 0 < far := by omega
  have hgm : g * m ≤ g * n := Int.mul_le_mul_of_nonneg_left hn hg
  have k := Int.ediv_mul_le (g * m) (b := z) (by omega)
  split
  · rename_i hp
    rw [Int.le_ediv_iff_mul_le h0]
    rcases Int.le_total 0 (g * m / z) with q | q
    · have := Int.mul_le_mul_of_nonneg_left h1 q
      omega
    · have := Int.mul_nonpos_of_nonpos_of_nonneg q (show 0 ≤ near by omega)
      have := Int.mul_nonneg hg hp
      omega
  · rename_i hp
    rw [Int.le_ediv_iff_mul_le hf]
    have hneg : g * n ≤ 0 := Int.mul_nonpos_of_nonneg_of_nonpos hg (by omega)
    have q : g * m / z ≤ 0 := Int.ediv_le_of_le_mul hz (by rw [Int.zero_mul]; omega)
    have := Int.mul_le_mul_of_nonpos_left q h2
    omega
/-- A corner on the screen. -/
structure Sp where
  x : Int
  y : Int
  d : Int
/-- What a camera has: how strongly things grow, the viewport. -/
structure Cm where
  F : Int
  W : Int
  H : Int
/-- A point is seen as a spot. -/
def Seen (c : Cm) (p : V3) (s : Sp) : Prop := s.x = 8 * c.F * p.x / p.z + 4 * c.W ∧ s.y = 4 * c.H - 8 * c.F * p.y / p.z ∧ s.d = 16777216 / p.z
/-- A box, from the near plane on. -/
def B3.front (b : B3) (near : Int) : B3 := ⟨⟨b.lo.x, b.lo.y, max b.lo.z near⟩, b.hi⟩
/-- The bounds of a shadow, in parts of a pixel. -/
def shX0 (c : Cm) (b : B3) : Int := plo (8 * c.F) b.lo.x b.lo.z b.hi.z + 4 * c.W
def shX1 (c : Cm) (b : B3) : Int := phi (8 * c.F) b.hi.x b.lo.z b.hi.z + 4 * c.W
def shY0 (c : Cm) (b : B3) : Int := 4 * c.H - phi (8 * c.F) b.hi.y b.lo.z b.hi.z
def shY1 (c : Cm) (b : B3) : Int := 4 * c.H - plo (8 * c.F) b.lo.y b.lo.z b.hi.z
theorem seen_in {c : Cm} {b : B3} {p : V3} {s : Sp} (hF : 0 ≤ c.F) (hz : 0 < b.lo.z) (hp : b.has p) (hs : Seen c p s) : (shX0 c b ≤ s.x ∧ s.x ≤ shX1 c b) ∧ (shY0 c b ≤ s.y ∧ s.y ≤ shY1 c b) ∧ s.d ≤ 16777216 / b.lo.z := by
  obtain ⟨⟨a1, a2⟩, ⟨b1, b2⟩, c1, c2⟩ := hp
  obtain ⟨e1, e2, e3⟩ := hs
  have hg : 0 ≤ 8 * c.F := by omega
  have k1 := plo_le hg a1 hz c1 c2
  have k2 := le_phi hg a2 hz c1 c2
  have k3 := plo_le hg b1 hz c1 c2
  have k4 := le_phi hg b2 hz c1 c2
  unfold shX0 shX1 shY0 shY1
  refine ⟨by omega, by omega, ?_⟩
  rw [e3]
  have hpz : 0 < p.z := by omega
  rw [Int.le_ediv_iff_mul_le hz]
  have q0 : 0 ≤ 16777216 / p.z := Int.ediv_nonneg (by decide) (by omega)
  have q1 := Int.ediv_mul_le 16777216 (b := p.z) (by omega)
  have q2 := Int.mul_le_mul_of_nonneg_left c1 q0
  omega
/-- The weights of a place in a triangle. -/
def wgt (a b : Sp) (px py : Int) : Int := (b.x - a.x) * (py - a.y) - (px - a.x) * (b.y - a.y)
theorem wgt_x (s0 s1 s2 : Sp) (px py : Int) : wgt s1 s2 px py * (s0.x - px) + wgt s2 s0 px py * (s1.x - px) + wgt s0 s1 px py * (s2.x - px) = 0 := by
  unfold wgt
  simp only [Int.sub_mul, Int.mul_sub]
  simp only [Int.mul_comm, Int.mul_left_comm]
  omega
theorem wgt_y (s0 s1 s2 : Sp) (px py : Int) : wgt s1 s2 px py * (s0.y - py) + wgt s2 s0 px py * (s1.y - py) + wgt s0 s1 px py * (s2.y - py) = 0 := by
  unfold wgt
  simp only [Int.sub_mul, Int.mul_sub]
  simp only [Int.mul_comm, Int.mul_left_comm]
  omega
/-- Weighed numbers have the weights' middle between them. -/
theorem mid_ge {u v w a b c p L : Int} (hu : 0 ≤ u) (hv : 0 ≤ v) (hw : 0 ≤ w) (hs : 0 < u + v + w) (ha : L ≤ a) (hb : L ≤ b) (hc : L ≤ c) (h : u * (a - p) + v * (b - p) + w * (c - p) = 0) : L ≤ p := by
  have k1 := Int.mul_le_mul_of_nonneg_left (show L - p ≤ a - p by omega) hu
  have k2 := Int.mul_le_mul_of_nonneg_left (show L - p ≤ b - p by omega) hv
  have k3 := Int.mul_le_mul_of_nonneg_left (show L - p ≤ c - p by omega) hw
  have k4 : (u + v + w) * (L - p) ≤ 0 := by rw [Int.add_mul, Int.add_mul]; omega
  rcases Int.lt_or_le p L with q | q
  · have := Int.mul_pos hs (show 0 < L - p by omega)
    omega
  · exact q
theorem mid_le {u v w a b c p L : Int} (hu : 0 ≤ u) (hv : 0 ≤ v) (hw : 0 ≤ w) (hs : 0 < u + v + w) (ha : a ≤ L) (hb : b ≤ L) (hc : c ≤ L) (h : u * (a - p) + v * (b - p) + w * (c - p) = 0) : p ≤ L := by
  have := mid_ge (a := -a) (b := -b) (c := -c) (p := -p) (L := -L) hu hv hw hs (by omega) (by omega) (by omega) (by
    have e : ∀ x : Int, -x - -p = -(x - p) := fun x => by omega
    rw [e, e, e, Int.mul_neg, Int.mul_neg, Int.mul_neg]
    omega)
  omega
theorem mean_le {u v w a b c L : Int} (hu : 0 ≤ u) (hv : 0 ≤ v) (hw : 0 ≤ w) (hs : 0 < u + v + w) (ha : a ≤ L) (hb : b ≤ L) (hc : c ≤ L) : (u * a + v * b + w * c) / (u + v + w) ≤ L := by
  refine Int.ediv_le_of_le_mul hs ?_
  have k1 := Int.mul_le_mul_of_nonneg_left ha hu
  have k2 := Int.mul_le_mul_of_nonneg_left hb hv
  have k3 := Int.mul_le_mul_of_nonneg_left hc hw
  rw [Int.mul_add, Int.mul_add, Int.mul_comm L u, Int.mul_comm L v, Int.mul_comm L w]
  omega
/-- The pixels of a shadow. -/
def first (lo : Int) : Int := -((-(lo - 4)) / 8)
def last (hi : Int) : Int := (hi - 4) / 8
theorem first_le {lo x : Int} (h : lo ≤ 8 * x + 4) : first lo ≤ x := by unfold first; omega
theorem le_last {hi x : Int} (h : 8 * x + 4 ≤ hi) : x ≤ last hi := by unfold last; omega
/-- The law: a pixel that a triangle covers, whose corners are seen in a box, is a pixel of the box's shadow, and its depth is at most the shadow's. -/
theorem shadow_has {c : Cm} {b : B3} {p0 p1 p2 : V3} {s0 s1 s2 : Sp} {x y : Int} (hF : 0 ≤ c.F) (hz : 0 < b.lo.z) (h0 : b.has p0) (h1 : b.has p1) (h2 : b.has p2) (k0 : Seen c p0 s0) (k1 : Seen c p1 s1) (k2 : Seen c p2 s2)
    (w0 : 0 ≤ wgt s1 s2 (8 * x + 4) (8 * y + 4)) (w1 : 0 ≤ wgt s2 s0 (8 * x + 4) (8 * y + 4)) (w2 : 0 ≤ wgt s0 s1 (8 * x + 4) (8 * y + 4)) (hs : 0 < wgt s1 s2 (8 * x + 4) (8 * y + 4) + wgt s2 s0 (8 * x + 4) (8 * y + 4) + wgt s0 s1 (8 * x + 4) (8 * y + 4)) :
    (first (shX0 c b) ≤ x ∧ x ≤ last (shX1 c b)) ∧ (first (shY0 c b) ≤ y ∧ y ≤ last (shY1 c b)) ∧
    (wgt s1 s2 (8 * x + 4) (8 * y + 4) * s0.d + wgt s2 s0 (8 * x + 4) (8 * y + 4) * s1.d + wgt s0 s1 (8 * x + 4) (8 * y + 4) * s2.d) / (wgt s1 s2 (8 * x + 4) (8 * y + 4) + wgt s2 s0 (8 * x + 4) (8 * y + 4) + wgt s0 s1 (8 * x + 4) (8 * y + 4)) ≤ 16777216 / b.lo.z := by
  have i0 := seen_in hF hz h0 k0
  have i1 := seen_in hF hz h1 k1
  have i2 := seen_in hF hz h2 k2
  have ex := wgt_x s0 s1 s2 (8 * x + 4) (8 * y + 4)
  have ey := wgt_y s0 s1 s2 (8 * x + 4) (8 * y + 4)
  exact ⟨⟨first_le (mid_ge w0 w1 w2 hs i0.1.1 i1.1.1 i2.1.1 ex), le_last (mid_le w0 w1 w2 hs i0.1.2 i1.1.2 i2.1.2 ex)⟩,
    ⟨first_le (mid_ge w0 w1 w2 hs i0.2.1.1 i1.2.1.1 i2.2.1.1 ey), le_last (mid_le w0 w1 w2 hs i0.2.1.2 i1.2.1.2 i2.2.1.2 ey)⟩,
    mean_le w0 w1 w2 hs i0.2.2 i1.2.2 i2.2.2⟩
end Go.Proofs.YtemopgpcpjnmkaaDoor
