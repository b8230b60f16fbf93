/- Plain laws of the ring elements, with no program in sight. -/
import Derived.Test.YtaokfppadfoniaaPure2
namespace Go.Proofs.Ytaokfppadfoniaa
def zneg (x : ZO) : ZO := ⟨-x.a, -x.b, -x.c, -x.d⟩
def zconj (x : ZO) : ZO := ⟨x.a, -x.d, -x.c, -x.b⟩
def zsq (x : ZO) : ZO := ⟨x.a, -x.b, x.c, -x.d⟩
theorem zo_ext {x y : ZO} (h1 : x.a = y.a) (h2 : x.b = y.b) (h3 : x.c = y.c) (h4 : x.d = y.d) : x = y := by cases x; cases y; simp_all
theorem zadd_comm (x y : ZO) : zadd x y = zadd y x := by simp [zadd, Int.add_comm]
theorem zmul_comm (x y : ZO) : zmul x y = zmul y x := by apply zo_ext <;> simp only [zmul] <;> grind
theorem okz_neg (x : ZO) : okz (zneg x) = okz x := by
  rw [Bool.eq_iff_iff]; unfold zneg; cases x; simp only [okz_iff]; omega
theorem okz_conj (x : ZO) : okz (zconj x) = okz x := by
  rw [Bool.eq_iff_iff]; unfold zconj; cases x; simp only [okz_iff]; omega
theorem okz_sq (x : ZO) : okz (zsq x) = okz x := by
  rw [Bool.eq_iff_iff]; unfold zsq; cases x; simp only [okz_iff]; omega
theorem zmul_conj (x y : ZO) : zmul (zconj x) (zconj y) = zconj (zmul x y) := by apply zo_ext <;> simp only [zmul, zconj] <;> grind
theorem zmul_sq (x y : ZO) : zmul (zsq x) (zsq y) = zsq (zmul x y) := by apply zo_ext <;> simp only [zmul, zsq] <;> grind
theorem zmul_add (x y z : ZO) : zmul (zadd x y) z = zadd (zmul x z) (zmul y z) := by apply zo_ext <;> simp only [zmul, zadd] <;> grind
theorem zadd_neg (x y : ZO) : zadd (zadd x y) (zneg y) = x := by apply zo_ext <;> simp only [zadd, zneg] <;> omega
theorem addZ_cm (x y : ZO) : addZ x y = addZ y x := by
  unfold addZ
  rw [zadd_comm x y]
  by_cases h1 : okz x = true <;> by_cases h2 : okz y = true <;> simp [h1, h2]
theorem mulZ_cm (x y : ZO) : mulZ x y = mulZ y x := by
  unfold mulZ
  rw [zmul_comm x y]
  by_cases h1 : okz x = true <;> by_cases h2 : okz y = true <;> simp [h1, h2]
theorem addZ_inv {x y s : ZO} (h : addZ x y = some s) : okz x = true ∧ okz y = true ∧ okz s = true ∧ s = zadd x y := by
  unfold addZ at h
  split at h
  · rename_i hc
    injection h with h
    subst h
    exact ⟨hc.1, hc.2.1, hc.2.2, rfl⟩
  · cases h
theorem mulZ_inv {x y s : ZO} (h : mulZ x y = some s) : okz x = true ∧ okz y = true ∧ okz s = true ∧ s = zmul x y := by
  unfold mulZ at h
  split at h
  · rename_i hc
    injection h with h
    subst h
    exact ⟨hc.1, hc.2.1, hc.2.2, rfl⟩
  · cases h
theorem addZ_mk {x y : ZO} (h1 : okz x = true) (h2 : okz y = true) (h3 : okz (zadd x y) = true) : addZ x y = some (zadd x y) := by
  unfold addZ; rw [if_pos ⟨h1, h2, h3⟩]
theorem mulZ_mk {x y : ZO} (h1 : okz x = true) (h2 : okz y = true) (h3 : okz (zmul x y) = true) : mulZ x y = some (zmul x y) := by
  unfold mulZ; rw [if_pos ⟨h1, h2, h3⟩]
/-- The law of sums: what was added can be taken away. -/
theorem addZ_back {x y s : ZO} (h : addZ x y = some s) : addZ s (zneg y) = some x := by
  obtain ⟨h1, h2, h3, rfl⟩ := addZ_inv h
  have e := zadd_neg x y
  rw [addZ_mk h3 (by rw [okz_neg]; exact h2) (by rw [e]; exact h1), e]
theorem mulZ_conj {x y s : ZO} (h : mulZ x y = some s) : mulZ (zconj x) (zconj y) = some (zconj s) := by
  obtain ⟨h1, h2, h3, rfl⟩ := mulZ_inv h
  rw [mulZ_mk (by rw [okz_conj]; exact h1) (by rw [okz_conj]; exact h2) (by rw [zmul_conj, okz_conj]; exact h3), zmul_conj]
theorem mulZ_sq {x y s : ZO} (h : mulZ x y = some s) : mulZ (zsq x) (zsq y) = some (zsq s) := by
  obtain ⟨h1, h2, h3, rfl⟩ := mulZ_inv h
  rw [mulZ_mk (by rw [okz_sq]; exact h1) (by rw [okz_sq]; exact h2) (by rw [zmul_sq, okz_sq]; exact h3), zmul_sq]
theorem zw_spreads {x y z s p q r t : ZO} (h1 : addZ x y = some s) (h2 : mulZ x z = some p) (h3 : mulZ y z = some q) (h4 : mulZ s z = some r) (h5 : addZ p q = some t) : r = t := by
  obtain ⟨_, _, _, rfl⟩ := addZ_inv h1
  obtain ⟨_, _, _, rfl⟩ := mulZ_inv h2
  obtain ⟨_, _, _, rfl⟩ := mulZ_inv h3
  obtain ⟨_, _, _, rfl⟩ := mulZ_inv h4
  obtain ⟨_, _, _, rfl⟩ := addZ_inv h5
  exact zmul_add x y z
/-- Multiplication by the root of 2. -/
def zup (x : ZO) : ZO := ⟨x.b - x.d, x.a + x.c, x.b + x.d, x.c - x.a⟩
theorem zmul_root (x : ZO) : zmul x ⟨0, 1, 0, -1⟩ = zup x := by apply zo_ext <;> simp only [zmul, zup] <;> omega
theorem zup_inj {x y : ZO} (h : zup x = zup y) : x = y := by
  cases x; cases y
  simp only [zup, ZO.mk.injEq] at h ⊢
  omega
theorem divZ_up {x y : ZO} (h : divZ x = some y) : okz x = true ∧ okz y = true ∧ zup y = x := by
  cases x; cases y
  obtain ⟨h0, h1, h2, h3, h4⟩ := divZ_some h
  refine ⟨h0, divZ_okz h, ?_⟩
  simp only [zup, ZO.mk.injEq]
  omega
theorem divZ_of_up {y : ZO} (h : okz (zup y) = true) : divZ (zup y) = some y := by
  cases y
  exact divZ_mk h (by simp only; omega) (by simp only; omega) (by simp only; omega) (by simp only; omega)
theorem okz_root : okz ⟨0, 1, 0, -1⟩ = true := by decide
theorem divZ_mul {x y : ZO} (h : divZ x = some y) : mulZ y ⟨0, 1, 0, -1⟩ = some x := by
  obtain ⟨h1, h2, h3⟩ := divZ_up h
  have e : zmul y ⟨0, 1, 0, -1⟩ = x := by rw [zmul_root, h3]
  rw [mulZ_mk h2 okz_root (by rw [e]; exact h1), e]
theorem mulZ_div {x p : ZO} (h : mulZ x ⟨0, 1, 0, -1⟩ = some p) : divZ p = some x := by
  obtain ⟨h1, h2, h3, rfl⟩ := mulZ_inv h
  rw [zmul_root] at h3 ⊢
  exact divZ_of_up h3
end Go.Proofs.Ytaokfppadfoniaa
