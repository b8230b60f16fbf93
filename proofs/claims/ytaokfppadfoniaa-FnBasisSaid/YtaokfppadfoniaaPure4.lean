/- Plain laws of D[omega]: lowest terms are unique. (Sums and products are those of the contracts' pure functions.) -/
import Derived.Test.YtaokfppadfoniaaPure3
namespace Go.Proofs.Ytaokfppadfoniaa
def zupn : Nat → ZO → ZO
  | 0, x => x
  | n + 1, x => zup (zupn n x)
theorem zupn_inj : ∀ (n : Nat) {x y : ZO}, zupn n x = zupn n y → x = y
  | 0, _, _, h => h
  | n + 1, _, _, h => zupn_inj n (zup_inj h)
theorem zupn_add (m n : Nat) (x : ZO) : zupn (m + n) x = zupn m (zupn n x) := by
  induction m with
  | zero => simp [zupn]
  | succ m ih => rw [Nat.succ_add]; simp only [zupn, ih]
theorem zupn_succ' (n : Nat) (x : ZO) : zupn (n + 1) x = zupn n (zup x) := by rw [zupn_add n 1]; rfl
theorem zup_add (x y : ZO) : zup (zadd x y) = zadd (zup x) (zup y) := by apply zo_ext <;> simp only [zup, zadd] <;> omega
theorem zupn_zadd (n : Nat) (x y : ZO) : zupn n (zadd x y) = zadd (zupn n x) (zupn n y) := by
  induction n with
  | zero => rfl
  | succ n ih => simp only [zupn, ih, zup_add]
theorem zup_mul (x y : ZO) : zmul (zup x) y = zup (zmul x y) := by apply zo_ext <;> simp only [zup, zmul] <;> grind
theorem zupn_mul (n : Nat) (x y : ZO) : zmul (zupn n x) y = zupn n (zmul x y) := by
  induction n with
  | zero => rfl
  | succ n ih => simp only [zupn, ← ih, zup_mul]
theorem zupn_mul' (n : Nat) (x y : ZO) : zmul x (zupn n y) = zupn n (zmul x y) := by rw [zmul_comm, zupn_mul, zmul_comm]
theorem zup_neg (x : ZO) : zup (zneg x) = zneg (zup x) := by apply zo_ext <;> simp only [zup, zneg] <;> omega
theorem zupn_neg (n : Nat) (x : ZO) : zupn n (zneg x) = zneg (zupn n x) := by
  induction n with
  | zero => rfl
  | succ n ih => simp only [zupn, ih, zup_neg]
theorem zup_conj (x : ZO) : zup (zconj x) = zconj (zup x) := by apply zo_ext <;> simp only [zup, zconj] <;> omega
theorem divZ_conj (x : ZO) : divZ (zconj x) = (divZ x).map zconj := by
  rcases h : divZ x with _ | y
  · rcases h2 : divZ (zconj x) with _ | z
    · rfl
    · exfalso
      obtain ⟨q1, q2, q3⟩ := divZ_up h2
      have e : zup (zconj z) = x := by
        rw [zup_conj, q3]; cases x; simp [zconj]
      have := divZ_of_up (y := zconj z) (by rw [e, ← okz_conj]; exact q1)
      rw [e, h] at this
      cases this
  · obtain ⟨q1, q2, q3⟩ := divZ_up h
    have e : zup (zconj y) = zconj x := by rw [zup_conj, q3]
    have := divZ_of_up (y := zconj y) (by rw [e, okz_conj]; exact q1)
    rw [e] at this
    rw [this]
    rfl
theorem divZ_neg (x : ZO) : divZ (zneg x) = (divZ x).map zneg := by
  rcases h : divZ x with _ | y
  · rcases h2 : divZ (zneg x) with _ | z
    · rfl
    · exfalso
      obtain ⟨q1, q2, q3⟩ := divZ_up h2
      have e : zup (zneg z) = x := by
        rw [zup_neg, q3]; cases x; simp [zneg]
      have := divZ_of_up (y := zneg z) (by rw [e, ← okz_neg]; exact q1)
      rw [e, h] at this
      cases this
  · obtain ⟨q1, q2, q3⟩ := divZ_up h
    have e : zup (zneg y) = zneg x := by rw [zup_neg, q3]
    have := divZ_of_up (y := zneg y) (by rw [e, okz_neg]; exact q1)
    rw [e] at this
    rw [this]
    rfl
theorem reduce_up (k : Nat) : ∀ x, okz x = true → zupn (k - (reduce x k).2) (reduce x k).1 = x ∧ okz (reduce x k).1 = true ∧ ((reduce x k).2 = 0 ∨ divZ (reduce x k).1 = none) := by
  induction k with
  | zero => intro x h; exact ⟨rfl, h, .inl rfl⟩
  | succ k ih =>
    intro x h
    rcases hd : divZ x with _ | y
    · rw [reduce_none hd]
      exact ⟨by simp [zupn], h, .inr hd⟩
    · obtain ⟨_, q2, q3⟩ := divZ_up hd
      rw [reduce_some hd]
      obtain ⟨p1, p2, p3⟩ := ih y q2
      refine ⟨?_, p2, p3⟩
      have hle := reduce_le k y
      have e : k + 1 - (reduce y k).2 = (k - (reduce y k).2) + 1 := by omega
      rw [e]
      simp only [zupn]
      rw [p1, q3]
theorem okd_parts {d : DW} (h : okd d = true) : okz d.n = true ∧ (0 ≤ d.k ∧ d.k ≤ 60) ∧ (d.k = 0 ∨ divZ d.n = none) := by
  simp only [okd, rng, Bool.and_eq_true, Bool.or_eq_true, beq_iff_eq, decide_eq_true_eq, Option.isNone_iff_eq_none] at h
  exact ⟨h.1.1, h.1.2, h.2⟩
theorem okd_mk {d : DW} (h1 : okz d.n = true) (h2 : 0 ≤ d.k ∧ d.k ≤ 60) (h3 : d.k = 0 ∨ divZ d.n = none) : okd d = true := by
  simp only [okd, rng, Bool.and_eq_true, Bool.or_eq_true, beq_iff_eq, decide_eq_true_eq, Option.isNone_iff_eq_none]
  exact ⟨⟨h1, h2⟩, h3⟩
/-- The element at the level L: d times the root of 2 to the L. -/
def val (L : Nat) (d : DW) : ZO := zupn (L - d.k.toNat) d.n
theorem val_inj {L : Nat} {d e : DW} (hL : 60 ≤ L) (hd : okd d = true) (he : okd e = true) (h : val L d = val L e) : d = e := by
  have main : ∀ (d e : DW), okd d = true → okd e = true → val L d = val L e → d.k ≤ e.k → d = e := by
    intro d e hd he h hk
    obtain ⟨d1, d2, d3⟩ := okd_parts hd
    obtain ⟨e1, e2, e3⟩ := okd_parts he
    obtain ⟨j, hj⟩ : ∃ j : Nat, e.k = d.k + j := ⟨(e.k - d.k).toNat, by omega⟩
    have q : zupn j d.n = e.n := by
      unfold val at h
      have : L - d.k.toNat = (L - e.k.toNat) + j := by omega
      rw [this, zupn_add] at h
      exact zupn_inj _ h
    cases j with
    | zero =>
      simp only [zupn] at q
      cases d; cases e
      simp only at q hj ⊢
      simp [q, hj]
    | succ j =>
      exfalso
      simp only [zupn] at q
      have := divZ_of_up (y := zupn j d.n) (by rw [q]; exact e1)
      rw [q] at this
      rcases e3 with e3 | e3
      · omega
      · rw [e3] at this; cases this
  rcases Int.le_total d.k e.k with hk | hk
  · exact main d e hd he h hk
  · exact (main e d he hd h.symm hk).symm
theorem newD_val {x : ZO} {k : Int} {d : DW} (h : newD x k = some d) : okd d = true ∧ okz x = true ∧ (0 ≤ k ∧ k ≤ 120) ∧ d.k ≤ k ∧ ∀ L : Nat, k ≤ L → val L d = zupn (L - k.toNat) x := by
  unfold newD at h
  split at h
  · rename_i hc
    split at h
    · rename_i hm
      injection h with h
      subst h
      obtain ⟨p1, p2, p3⟩ := reduce_up k.toNat x hc.1
      have hle := reduce_le k.toNat x
      refine ⟨okd_mk p2 (by simp only; omega) ?_, hc.1, hc.2, by simp only; omega, fun L hL => ?_⟩
      · rcases p3 with p3 | p3
        · exact .inl (by simp only; omega)
        · exact .inr p3
      · unfold val
        simp only [Int.toNat_natCast]
        have e : L - (reduce x k.toNat).2 = (L - k.toNat) + (k.toNat - (reduce x k.toNat).2) := by omega
        rw [e, zupn_add, p1]
    · cases h
  · cases h
/-- What is in lowest terms stays as it is. -/
theorem newD_self {d : DW} (h : okd d = true) : newD d.n d.k = some d := by
  obtain ⟨d1, d2, d3⟩ := okd_parts h
  have e : reduce d.n d.k.toNat = (d.n, d.k.toNat) := by
    rcases d3 with d3 | d3
    · rw [d3]; rfl
    · exact reduce_none d3
  unfold newD
  rw [if_pos ⟨d1, by omega, by omega⟩, e, if_pos (by simp only; omega)]
  cases d
  simp only at d2 ⊢
  congr 1
  simp only [DW.mk.injEq, true_and]
  omega
end Go.Proofs.Ytaokfppadfoniaa
