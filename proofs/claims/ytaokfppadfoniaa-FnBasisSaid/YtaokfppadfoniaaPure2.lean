/- Plain definitions: sums, products and lowest terms. -/
import Derived.Test.YtaokfppadfoniaaPure
namespace Go.Proofs.Ytaokfppadfoniaa
def zadd (x y : ZO) : ZO := ⟨x.a + y.a, x.b + y.b, x.c + y.c, x.d + y.d⟩
def zmul (x y : ZO) : ZO := ⟨x.a * y.a - x.b * y.d - x.c * y.c - x.d * y.b, x.a * y.b + x.b * y.a - x.c * y.d - x.d * y.c, x.a * y.c + x.b * y.b + x.c * y.a - x.d * y.d, x.a * y.d + x.b * y.c + x.c * y.b + x.d * y.a⟩
def addZ (x y : ZO) : Option ZO := if okz x = true ∧ okz y = true ∧ okz (zadd x y) = true then some (zadd x y) else none
def mulZ (x y : ZO) : Option ZO := if okz x = true ∧ okz y = true ∧ okz (zmul x y) = true then some (zmul x y) else none
theorem addZ_some {a b c d p q r s x y z t : Int} (h : addZ ⟨a, b, c, d⟩ ⟨p, q, r, s⟩ = some ⟨x, y, z, t⟩) :
    okz ⟨a, b, c, d⟩ = true ∧ okz ⟨p, q, r, s⟩ = true ∧ okz ⟨x, y, z, t⟩ = true ∧ a + p = x ∧ b + q = y ∧ c + r = z ∧ d + s = t := by
  unfold addZ at h
  split at h
  · rename_i hc
    obtain ⟨h1, h2, h3⟩ := hc
    simp only [zadd, Option.some.injEq, ZO.mk.injEq] at h h3
    obtain ⟨e1, e2, e3, e4⟩ := h
    rw [e1, e2, e3, e4] at h3
    exact ⟨h1, h2, h3, e1, e2, e3, e4⟩
  · cases h
theorem addZ_none {a b c d p q r s : Int} (h : addZ ⟨a, b, c, d⟩ ⟨p, q, r, s⟩ = none) :
    okz ⟨a, b, c, d⟩ = false ∨ (okz ⟨a, b, c, d⟩ = true ∧ okz ⟨p, q, r, s⟩ = false) ∨ (okz ⟨a, b, c, d⟩ = true ∧ okz ⟨p, q, r, s⟩ = true ∧ okz ⟨a + p, b + q, c + r, d + s⟩ = false) := by
  unfold addZ at h
  split at h
  · cases h
  · rename_i hc
    simp only [zadd] at hc
    cases h1 : okz ⟨a, b, c, d⟩ <;> cases h2 : okz ⟨p, q, r, s⟩ <;> simp_all
theorem mulZ_some {a b c d p q r s x y z t : Int} (h : mulZ ⟨a, b, c, d⟩ ⟨p, q, r, s⟩ = some ⟨x, y, z, t⟩) :
    okz ⟨a, b, c, d⟩ = true ∧ okz ⟨p, q, r, s⟩ = true ∧ okz ⟨x, y, z, t⟩ = true ∧ a * p - b * s - c * r - d * q = x ∧ a * q + b * p - c * s - d * r = y ∧ a * r + b * q + c * p - d * s = z ∧ a * s + b * r + c * q + d * p = t := by
  unfold mulZ at h
  split at h
  · rename_i hc
    obtain ⟨h1, h2, h3⟩ := hc
    simp only [zmul, Option.some.injEq, ZO.mk.injEq] at h h3
    obtain ⟨e1, e2, e3, e4⟩ := h
    rw [e1, e2, e3, e4] at h3
    exact ⟨h1, h2, h3, e1, e2, e3, e4⟩
  · cases h
theorem mulZ_none {a b c d p q r s : Int} (h : mulZ ⟨a, b, c, d⟩ ⟨p, q, r, s⟩ = none) :
    okz ⟨a, b, c, d⟩ = false ∨ (okz ⟨a, b, c, d⟩ = true ∧ okz ⟨p, q, r, s⟩ = false) ∨ (okz ⟨a, b, c, d⟩ = true ∧ okz ⟨p, q, r, s⟩ = true ∧ okz ⟨a * p - b * s - c * r - d * q, a * q + b * p - c * s - d * r, a * r + b * q + c * p - d * s, a * s + b * r + c * q + d * p⟩ = false) := by
  unfold mulZ at h
  split at h
  · cases h
  · rename_i hc
    simp only [zmul] at hc
    cases h1 : okz ⟨a, b, c, d⟩ <;> cases h2 : okz ⟨p, q, r, s⟩ <;> simp_all
theorem mul_bd {a p : Int} (ha : -1073741824 ≤ a ∧ a ≤ 1073741824) (hp : -1073741824 ≤ p ∧ p ≤ 1073741824) : -1152921504606846976 ≤ a * p ∧ a * p ≤ 1152921504606846976 := by
  have hn : (a * p).natAbs ≤ 1073741824 * 1073741824 := by
    rw [Int.natAbs_mul]
    exact Nat.mul_le_mul (by omega) (by omega)
  omega

/-- What the loop of NewDOmega comes to: division by the root while it goes and the exponent is above 0. -/
def reduce (x : ZO) : Nat → ZO × Nat
  | 0 => (x, 0)
  | k + 1 => match divZ x with
    | some y => reduce y k
    | none => (x, k + 1)
def newD (x : ZO) (k : Int) : Option DW :=
  if okz x = true ∧ 0 ≤ k ∧ k ≤ 120 then (if (reduce x k.toNat).2 ≤ 60 then some ⟨(reduce x k.toNat).1, (reduce x k.toNat).2⟩ else none) else none
theorem reduce_some {x y : ZO} {k : Nat} (h : divZ x = some y) : reduce x (k + 1) = reduce y k := by
  simp [reduce, h]
theorem reduce_none {x : ZO} {k : Nat} (h : divZ x = none) : reduce x k = (x, k) := by
  cases k <;> simp [reduce, h]
theorem reduce_le (k : Nat) : ∀ x, (reduce x k).2 ≤ k := by
  induction k with
  | zero => intro x; simp [reduce]
  | succ k ih =>
    intro x
    unfold reduce
    split
    · exact Nat.le_succ_of_le (ih _)
    · exact Nat.le_refl _
end Go.Proofs.Ytaokfppadfoniaa
