/- Plain definitions: the ring elements and what the program's functions compute, with no program in sight. -/
namespace Go.Proofs.Ytaokfppadfoniaa
structure ZO where
  a : Int
  b : Int
  c : Int
  d : Int
structure DW where
  n : ZO
  k : Int

def near (n : Int) : Bool := decide (-1073741824 ≤ n) && decide (n ≤ 1073741824)
def okz (x : ZO) : Bool := near x.a && near x.b && near x.c && near x.d
def divZ (x : ZO) : Option ZO :=
  if okz x = true ∧ (x.b - x.d) % 2 = 0 ∧ (x.a + x.c) % 2 = 0 then some ⟨(x.b - x.d) / 2, (x.a + x.c) / 2, (x.b + x.d) / 2, (x.c - x.a) / 2⟩ else none
def rng (k : Int) : Bool := decide (0 ≤ k) && decide (k ≤ 60)
def okd (x : DW) : Bool := okz x.n && rng x.k && (x.k == 0 || (divZ x.n).isNone)
def isReal (x : DW) : Bool := okd x && (x.n.c == 0 && x.n.d == -x.n.b)

theorem near_b {n : Int} (h : near n = true) : -1073741824 ≤ n ∧ n ≤ 1073741824 := by simpa [near] using h
theorem near_iff {n : Int} : near n = true ↔ -1073741824 ≤ n ∧ n ≤ 1073741824 := by simp [near]
theorem okz_b {a b c d : Int} (h : okz ⟨a, b, c, d⟩ = true) : (-1073741824 ≤ a ∧ a ≤ 1073741824) ∧ (-1073741824 ≤ b ∧ b ≤ 1073741824) ∧ (-1073741824 ≤ c ∧ c ≤ 1073741824) ∧ (-1073741824 ≤ d ∧ d ≤ 1073741824) := by
  simp [okz] at h; exact ⟨near_b h.1.1.1, near_b h.1.1.2, near_b h.1.2, near_b h.2⟩
theorem okz_iff {a b c d : Int} : okz ⟨a, b, c, d⟩ = true ↔ (-1073741824 ≤ a ∧ a ≤ 1073741824) ∧ (-1073741824 ≤ b ∧ b ≤ 1073741824) ∧ (-1073741824 ≤ c ∧ c ≤ 1073741824) ∧ (-1073741824 ≤ d ∧ d ≤ 1073741824) := by
  simp [okz, near_iff, and_assoc]

theorem divZ_some {a b c d p q r s : Int} (h : divZ ⟨a, b, c, d⟩ = some ⟨p, q, r, s⟩) :
    okz ⟨a, b, c, d⟩ = true ∧ b - d = 2 * p ∧ a + c = 2 * q ∧ b + d = 2 * r ∧ c - a = 2 * s := by
  unfold divZ at h
  by_cases hc : okz ⟨a, b, c, d⟩ = true ∧ (b - d) % 2 = 0 ∧ (a + c) % 2 = 0
  · rw [if_pos hc] at h
    simp at h
    obtain ⟨h1, h2, h3, h4⟩ := h
    exact ⟨hc.1, by omega, by omega, by omega, by omega⟩
  · rw [if_neg hc] at h; cases h
theorem divZ_mk {a b c d p q r s : Int} (h0 : okz ⟨a, b, c, d⟩ = true) (h1 : b - d = 2 * p) (h2 : a + c = 2 * q) (h3 : b + d = 2 * r) (h4 : c - a = 2 * s) :
    divZ ⟨a, b, c, d⟩ = some ⟨p, q, r, s⟩ := by
  unfold divZ
  rw [if_pos ⟨h0, by show (b - d) % 2 = 0; omega, by show (a + c) % 2 = 0; omega⟩]
  simp
  exact ⟨by omega, by omega, by omega, by omega⟩
theorem divZ_none {a b c d : Int} (h : divZ ⟨a, b, c, d⟩ = none) : okz ⟨a, b, c, d⟩ = false ∨ (okz ⟨a, b, c, d⟩ = true ∧ (b - d) % 2 = 1) ∨ (okz ⟨a, b, c, d⟩ = true ∧ (b - d) % 2 = 0 ∧ (a + c) % 2 = 1) := by
  unfold divZ at h
  by_cases hc : okz ⟨a, b, c, d⟩ = true ∧ (b - d) % 2 = 0 ∧ (a + c) % 2 = 0
  · rw [if_pos hc] at h; cases h
  · by_cases h0 : okz ⟨a, b, c, d⟩ = true
    · by_cases h1 : (b - d) % 2 = 0
      · exact .inr (.inr ⟨h0, h1, by have : ¬ (a + c) % 2 = 0 := fun e => hc ⟨h0, h1, e⟩; omega⟩)
      · exact .inr (.inl ⟨h0, by omega⟩)
    · exact .inl (by simpa using h0)
/-- divZ answers with a valid element. -/
theorem divZ_okz {a b c d p q r s : Int} (h : divZ ⟨a, b, c, d⟩ = some ⟨p, q, r, s⟩) : okz ⟨p, q, r, s⟩ = true := by
  obtain ⟨h0, h1, h2, h3, h4⟩ := divZ_some h
  rw [okz_iff] at h0 ⊢
  omega
theorem tmod2_zero {n m : Int} (h : n = 2 * m) : n.tmod 2 = 0 ∧ n.tdiv 2 = m := by
  subst h
  exact ⟨by simp, by simp⟩
theorem tmod2_odd {n : Int} (h : n % 2 = 1) : (n.tmod 2 != 0) = true := by
  rw [bne_iff_ne]
  intro e
  have := Int.dvd_of_tmod_eq_zero e
  omega
theorem tmod2_even {n : Int} (h : n % 2 = 0) : n.tmod 2 = 0 := Int.tmod_eq_zero_of_dvd (by omega)
end Go.Proofs.Ytaokfppadfoniaa
