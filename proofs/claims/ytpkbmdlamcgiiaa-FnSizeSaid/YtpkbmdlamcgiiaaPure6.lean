/- Plain laws of real elements and their signs. -/
import Derived.Test.YtpkbmdlamcgiiaaPure5
import Derived.Test.YtpkbmdlamcgiiaaRS
namespace Go.Proofs.Ytpkbmdlamcgiiaa
/-- u + v times the root of 2, as an element. -/
def zre (u v : Int) : ZO := ⟨u, v, 0, -v⟩
theorem zup_re (u v : Int) : zup (zre u v) = zre (2 * v) u := by apply zo_ext <;> simp only [zup, zre] <;> omega
theorem re_of_up {y : ZO} {u v : Int} (h : zup y = zre u v) : ∃ p q, y = zre p q ∧ u = 2 * q ∧ v = p := by
  cases y
  simp only [zup, zre, ZO.mk.injEq] at h
  exact ⟨_, _, zo_ext rfl rfl (by simp only [zre]; omega) (by simp only [zre]; omega), by omega, by omega⟩
theorem sq_pos {v : Int} (h : v ≠ 0) : 0 < v * v := by
  rcases Int.lt_or_gt_of_ne h with h | h
  · exact Int.mul_pos_of_neg_of_neg h h
  · exact Int.mul_pos h h
theorem rsN_up (u v : Int) : rsN (2 * v) u = rsN u v := by
  have e : 2 * v * (2 * v) = 2 * (2 * v * v) := by grind
  have e1 : 2 * u * u = 2 * (u * u) := by grind
  have h1 := rs_cases u v
  have h2 := rs_cases (2 * v) u
  rw [e, e1] at h2
  generalize u * u = U at *
  generalize 2 * v * v = V at *
  omega
theorem rsN_re (j : Nat) : ∀ {y : ZO} {u v : Int}, zupn j y = zre u v → ∃ p q, y = zre p q ∧ rsN p q = rsN u v := by
  induction j with
  | zero => intro y u v h; exact ⟨u, v, h, rfl⟩
  | succ j ih =>
    intro y u v h
    obtain ⟨p, q, h1, rfl, rfl⟩ := re_of_up h
    obtain ⟨p', q', h2, h3⟩ := ih h1
    exact ⟨p', q', h2, by rw [h3, rsN_up]⟩
theorem re_up (j : Nat) : ∀ (u v : Int), ∃ p q, zupn j (zre u v) = zre p q ∧ rsN p q = rsN u v := by
  induction j with
  | zero => intro u v; exact ⟨u, v, rfl, rfl⟩
  | succ j ih =>
    intro u v
    obtain ⟨p, q, h1, h2⟩ := ih u v
    exact ⟨2 * q, p, by simp only [zupn]; rw [h1, zup_re], by rw [rsN_up, h2]⟩
theorem isReal_mk {d : DW} {u v : Int} (h : okd d = true) (hn : d.n = zre u v) : isReal d = true ∧ realSign d = rsN u v := by
  have hr : isReal d = true := by
    unfold isReal
    rw [h, hn]
    simp [zre]
  refine ⟨hr, ?_⟩
  unfold realSign
  rw [if_pos hr, hn]
  rfl
theorem isReal_inv {d : DW} (h : isReal d = true) : okd d = true ∧ d.n = zre d.n.a d.n.b ∧ realSign d = rsN d.n.a d.n.b := by
  have h' := h
  unfold isReal at h'
  simp only [Bool.and_eq_true, beq_iff_eq] at h'
  obtain ⟨h1, h2, h3⟩ := h'
  refine ⟨h1, zo_ext rfl rfl h2 h3, ?_⟩
  unfold realSign
  rw [if_pos h]
/-- The squared norm: real, not negative, zero only for zero. -/
theorem norm_re (x : ZO) : ∃ u v, zmul x (zconj x) = zre u v ∧ 0 ≤ rsN u v ∧ (rsN u v = 0 ↔ x = ⟨0, 0, 0, 0⟩) := by
  obtain ⟨a, b, c, d⟩ := x
  refine ⟨a * a + b * b + c * c + d * d, a * b + b * c + c * d - a * d, ?_, ?_⟩
  · apply zo_ext <;> simp only [zmul, zconj, zre] <;> grind
  · obtain ⟨u, hu⟩ : ∃ u, u = a * a + b * b + c * c + d * d := ⟨_, rfl⟩
    obtain ⟨v, hv⟩ : ∃ v, v = a * b + b * c + c * d - a * d := ⟨_, rfl⟩
    rw [← hu, ← hv]
    have key : u * u - 2 * v * v = (a * a - c * c + 2 * b * d) * (a * a - c * c + 2 * b * d) + (2 * a * c - b * b + d * d) * (2 * a * c - b * b + d * d) := by
      rw [hu, hv]; grind
    have s1 : ∀ z : Int, 0 ≤ z * z := fun z => by
      by_cases h : z = 0
      · rw [h]; omega
      · exact Int.le_of_lt (sq_pos h)
    have k1 := s1 (a * a - c * c + 2 * b * d)
    have k2 := s1 (2 * a * c - b * b + d * d)
    have pa := s1 a
    have pb := s1 b
    have pc := s1 c
    have pd := s1 d
    have u0 : 0 ≤ u := by omega
    have hz : u = 0 ↔ (a = 0 ∧ b = 0 ∧ c = 0 ∧ d = 0) := by
      constructor
      · intro h
        have za : a * a = 0 := by omega
        have zb : b * b = 0 := by omega
        have zc : c * c = 0 := by omega
        have zd : d * d = 0 := by omega
        simp only [Int.mul_eq_zero, or_self] at za zb zc zd
        exact ⟨za, zb, zc, zd⟩
      · rintro ⟨rfl, rfl, rfl, rfl⟩; simpa using hu
    have hv0 : u = 0 → v = 0 := by
      intro h
      obtain ⟨rfl, rfl, rfl, rfl⟩ := hz.1 h
      simpa using hv
    have hne : u * u = 2 * v * v → u = 0 := irr
    have hge : 2 * v * v ≤ u * u := by omega
    have eqz : (⟨a, b, c, d⟩ : ZO) = ⟨0, 0, 0, 0⟩ ↔ u = 0 := by rw [hz]; simp
    rw [eqz]
    unfold rsN
    generalize u * u = U at *
    generalize 2 * v * v = V at *
    clear key hu hv hz k1 k2
    constructor
    · split <;> (try split) <;> (try split) <;> (try split) <;> (try split) <;> omega
    · split <;> (try split) <;> (try split) <;> (try split) <;> (try split) <;> omega
theorem size_law {x s : DW} (h : mulD x (dconj x) = some s) : isReal s = true ∧ 0 ≤ realSign s ∧ (realSign s = 0 ↔ x = ⟨⟨0, 0, 0, 0⟩, 0⟩) := by
  obtain ⟨h1, _, h3, _, h5, _⟩ := mulD_inv h
  obtain ⟨q1, q2, q3, q4, q5⟩ := newD_val h5
  obtain ⟨u, v, e1, e2, e3⟩ := norm_re x.n
  have e0 : (dconj x).n = zconj x.n := rfl
  have hz := q5 120 (by have := (okd_parts h1).2.1; have : (dconj x).k = x.k := rfl; omega)
  rw [e0, e1] at hz
  obtain ⟨p', q', w1, w2⟩ := re_up (120 - (x.k + (dconj x).k).toNat) u v
  rw [w1] at hz
  obtain ⟨p, q, hn, hs⟩ := rsN_re (120 - s.k.toNat) (y := s.n) hz
  obtain ⟨r1, r2⟩ := isReal_mk h3 hn
  refine ⟨r1, ?_, ?_⟩
  · rw [r2, hs, w2]; exact e2
  · rw [r2, hs, w2, e3]
    constructor
    · intro hx
      obtain ⟨o1, o2, o3⟩ := okd_parts h1
      cases x
      simp only at hx o3 ⊢
      subst hx
      have : divZ ⟨0, 0, 0, 0⟩ = some ⟨0, 0, 0, 0⟩ := rfl
      rw [this] at o3
      simp at o3
      rw [o3]
    · intro hx; rw [hx]
theorem rsN_neg (u v : Int) : rsN (-u) (-v) = -rsN u v := by
  unfold rsN
  have e : -u * -u = u * u := by grind
  have e1 : 2 * -v * -v = 2 * v * v := by grind
  have hne : u * u = 2 * v * v → u = 0 := irr
  rw [e, e1]
  generalize u * u = U at *
  generalize 2 * v * v = V at *
  split <;> split <;> (try split) <;> (try split) <;> (try split) <;> (try split) <;> (try split) <;> (try split) <;> omega
theorem sign_neg {x : DW} (h : isReal x = true) : isReal (dneg x) = true ∧ realSign (dneg x) = -realSign x := by
  obtain ⟨h1, h2, h3⟩ := isReal_inv h
  have hn : (dneg x).n = zre (-x.n.a) (-x.n.b) := by
    show zneg x.n = _
    rw [h2]
    apply zo_ext <;> simp [zneg, zre]
  obtain ⟨r1, r2⟩ := isReal_mk (by rw [okd_neg]; exact h1) hn
  exact ⟨r1, by rw [r2, h3, rsN_neg]⟩
theorem rsN_range (u v : Int) : rsN u v = -1 ∨ rsN u v = 0 ∨ rsN u v = 1 := by
  unfold rsN
  split <;> (try split) <;> (try split) <;> (try split) <;> (try split) <;> omega
theorem lt_of_sq {p q : Int} (hq : 0 ≤ q) (h : p * p < q * q) : p < q := by
  rcases (by omega : p < q ∨ q ≤ p) with h1 | h1
  · exact h1
  · have := Int.mul_le_mul h1 h1 hq (Int.le_trans hq h1)
    omega
theorem same_type {x y p q : Int} (hx : 0 < x) (hp : 0 < p) (hq : 0 < q) (h1 : 2 * (x * x) < p * p) (h2 : 2 * (y * y) < q * q) : 2 * ((x + y) * (x + y)) < (p + q) * (p + q) := by
  have h3 : 2 * (x * y) < p * q := by
    apply lt_of_sq (Int.mul_nonneg (by omega) (by omega))
    have e1 : 2 * (x * y) * (2 * (x * y)) = 2 * (x * x) * (2 * (y * y)) := by grind
    have e2 : p * q * (p * q) = p * p * (q * q) := by grind
    rw [e1, e2]
    have a1 : 2 * (x * x) * (2 * (y * y)) ≤ 2 * (x * x) * (q * q) := Int.mul_le_mul_of_nonneg_left (by omega) (by have := Int.mul_pos hx hx; omega)
    have a2 : 2 * (x * x) * (q * q) < p * p * (q * q) := Int.mul_lt_mul_of_pos_right h1 (Int.mul_pos hq hq)
    omega
  have e : 2 * ((x + y) * (x + y)) = 2 * (x * x) + 2 * (y * y) + 2 * (2 * (x * y)) := by grind
  have e' : (p + q) * (p + q) = p * p + q * q + 2 * (p * q) := by grind
  omega
theorem same_type' {x y p q : Int} (hx : 0 < x) (hy : 0 < y) (hp : 0 < p) (h1 : p * p < 2 * (x * x)) (h2 : q * q < 2 * (y * y)) : (p + q) * (p + q) < 2 * ((x + y) * (x + y)) := by
  have h3 : p * q < 2 * (x * y) := by
    apply lt_of_sq (by have := Int.mul_pos hx hy; omega)
    have e1 : 2 * (x * y) * (2 * (x * y)) = 2 * (x * x) * (2 * (y * y)) := by grind
    have e2 : p * q * (p * q) = p * p * (q * q) := by grind
    rw [e1, e2]
    have a1 : p * p * (q * q) ≤ p * p * (2 * (y * y)) := Int.mul_le_mul_of_nonneg_left (by omega) (Int.le_of_lt (Int.mul_pos hp hp))
    have a2 : p * p * (2 * (y * y)) < 2 * (x * x) * (2 * (y * y)) := Int.mul_lt_mul_of_pos_right h1 (by have := Int.mul_pos hy hy; omega)
    omega
  have e : 2 * ((x + y) * (x + y)) = 2 * (x * x) + 2 * (y * y) + 2 * (2 * (x * y)) := by grind
  have e' : (p + q) * (p + q) = p * p + q * q + 2 * (p * q) := by grind
  omega
def P1 (u v : Int) : Prop := 0 ≤ u ∧ 0 ≤ v ∧ 0 < u + v
def P2 (u v : Int) : Prop := 0 < u ∧ v < 0 ∧ 2 * (v * v) < u * u
def P3 (u v : Int) : Prop := u < 0 ∧ 0 < v ∧ u * u < 2 * (v * v)
theorem sq_le {x y : Int} (h0 : 0 ≤ x) (h : x ≤ y) : x * x ≤ y * y := Int.mul_le_mul h h h0 (Int.le_trans h0 h)
theorem no123 {a b c d e f : Int} (h1 : P1 a b) (h2 : P2 c d) (h3 : P3 e f) (hu : a + c + e = 0) (hv : b + d + f = 0) : False := by
  obtain ⟨a0, b0, _⟩ := h1
  obtain ⟨c0, d0, k2⟩ := h2
  obtain ⟨e0, f0, k3⟩ := h3
  have q1 : c * c ≤ -e * -e := sq_le (by omega) (by omega)
  have q2 : f * f ≤ -d * -d := sq_le (by omega) (by omega)
  have w1 : -e * -e = e * e := by grind
  have w2 : -d * -d = d * d := by grind
  omega
theorem no223 {a b c d e f : Int} (h1 : P2 a b) (h2 : P2 c d) (h3 : P3 e f) (hu : a + c + e = 0) (hv : b + d + f = 0) : False := by
  obtain ⟨a0, b0, k1⟩ := h1
  obtain ⟨c0, d0, k2⟩ := h2
  obtain ⟨e0, f0, k3⟩ := h3
  have w1 : -b * -b = b * b := by grind
  have w2 : -d * -d = d * d := by grind
  have q := same_type (x := -b) (y := -d) (p := a) (q := c) (by omega) a0 c0 (by omega) (by omega)
  have e1 : -b + -d = f := by omega
  have e2 : a + c = -e := by omega
  rw [e1, e2] at q
  have w3 : -e * -e = e * e := by grind
  omega
theorem no233 {a b c d e f : Int} (h1 : P2 a b) (h2 : P3 c d) (h3 : P3 e f) (hu : a + c + e = 0) (hv : b + d + f = 0) : False := by
  obtain ⟨a0, b0, k1⟩ := h1
  obtain ⟨c0, d0, k2⟩ := h2
  obtain ⟨e0, f0, k3⟩ := h3
  have w1 : -c * -c = c * c := by grind
  have w2 : -e * -e = e * e := by grind
  have q := same_type' (x := d) (y := f) (p := -c) (q := -e) d0 f0 (by omega) (by omega) (by omega)
  have e1 : d + f = -b := by omega
  have e2 : -c + -e = a := by omega
  rw [e1, e2] at q
  have w3 : -b * -b = b * b := by grind
  omega
theorem pos_kinds {u v : Int} (h : rsN u v = 1) : P1 u v ∨ P2 u v ∨ P3 u v := by
  have e : 2 * v * v = 2 * (v * v) := by grind
  have h1 := rs_cases u v
  rw [e] at h1
  unfold P1 P2 P3
  omega
theorem three_pos {a b c d e f : Int} (h1 : rsN a b = 1) (h2 : rsN c d = 1) (h3 : rsN e f = 1) (hu : a + c + e = 0) (hv : b + d + f = 0) : False := by
  rcases pos_kinds h1 with k1 | k1 | k1 <;> rcases pos_kinds h2 with k2 | k2 | k2 <;> rcases pos_kinds h3 with k3 | k3 | k3 <;>
  first
  | exact no123 k1 k2 k3 hu hv
  | exact no123 k1 k3 k2 (by omega) (by omega)
  | exact no123 k2 k1 k3 (by omega) (by omega)
  | exact no123 k2 k3 k1 (by omega) (by omega)
  | exact no123 k3 k1 k2 (by omega) (by omega)
  | exact no123 k3 k2 k1 (by omega) (by omega)
  | exact no223 k1 k2 k3 hu hv
  | exact no223 k1 k3 k2 (by omega) (by omega)
  | exact no223 k2 k3 k1 (by omega) (by omega)
  | exact no233 k1 k2 k3 hu hv
  | exact no233 k2 k1 k3 (by omega) (by omega)
  | exact no233 k3 k1 k2 (by omega) (by omega)
  | (simp only [P1, P2, P3] at k1 k2 k3; omega)
theorem rsN_add {u v p q : Int} (h1 : rsN u v = 1) (h2 : rsN p q = 1) : rsN (u + p) (v + q) = 1 := by
  rcases rsN_range (u + p) (v + q) with h | h | h
  · exfalso
    have hn := rsN_neg (u + p) (v + q)
    rw [h] at hn
    exact three_pos h1 h2 hn (by omega) (by omega)
  · exfalso
    have h0 : u + p = 0 ∧ v + q = 0 := by have := rs_cases (u + p) (v + q); omega
    have ep : p = -u := by omega
    have eq' : q = -v := by omega
    rw [ep, eq', rsN_neg] at h2
    omega
  · exact h
/-- The sum of positive elements is positive. -/
theorem sign_add {x y s : DW} (h : addD x y = some s) (hx : realSign x = 1) (hy : realSign y = 1) : realSign s = 1 := by
  have rx : isReal x = true := by
    cases hr : isReal x
    · unfold realSign at hx; rw [hr] at hx; simp at hx
    · rfl
  have ry : isReal y = true := by
    cases hr : isReal y
    · unfold realSign at hy; rw [hr] at hy; simp at hy
    · rfl
  obtain ⟨_, x2, x3⟩ := isReal_inv rx
  obtain ⟨_, y2, y3⟩ := isReal_inv ry
  obtain ⟨_, _, s1, s2⟩ := addD_inv h
  obtain ⟨p, q, a1, a2⟩ := re_up (60 - x.k.toNat) x.n.a x.n.b
  obtain ⟨p', q', b1, b2⟩ := re_up (60 - y.k.toNat) y.n.a y.n.b
  have vx : val 60 x = zre p q := by unfold val; rw [x2]; exact a1
  have vy : val 60 y = zre p' q' := by unfold val; rw [y2]; exact b1
  have vs := s2 60 (by omega)
  have e : zadd (zre p q) (zre p' q') = zre (p + p') (q + q') := by apply zo_ext <;> simp only [zadd, zre] <;> omega
  rw [vx, vy, e] at vs
  obtain ⟨u, v, hn, hs⟩ := rsN_re (60 - s.k.toNat) (y := s.n) vs
  obtain ⟨_, r2⟩ := isReal_mk s1 hn
  rw [r2, hs]
  exact rsN_add (by rw [a2, ← x3, hx]) (by rw [b2, ← y3, hy])
theorem rs_range (d : DW) : realSign d = -1 ∨ realSign d = 0 ∨ realSign d = 1 := by
  unfold realSign
  split
  · exact rsN_range _ _
  · exact .inr (.inl rfl)
end Go.Proofs.Ytpkbmdlamcgiiaa
