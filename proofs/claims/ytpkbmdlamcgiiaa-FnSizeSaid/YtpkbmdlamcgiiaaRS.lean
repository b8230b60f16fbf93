/- Contracts: the sign of a real element. -/
import Derived.Test.YtpkbmdlamcgiiaaD
import Derived.Test.YtpkbmdlamcgiiaaPure2
namespace Go.Proofs.Ytpkbmdlamcgiiaa
open Go.RowKit

def rsN (u v : Int) : Int :=
  if u = 0 ∧ v = 0 then 0 else if 0 ≤ u ∧ 0 ≤ v then 1 else if u ≤ 0 ∧ v ≤ 0 then -1 else
  if 0 < u then (if 2 * v * v < u * u then 1 else -1) else (if 2 * v * v < u * u then -1 else 1)
def realSign (x : DW) : Int := if isReal x = true then rsN x.n.a x.n.b else 0
theorem irr_nat (n : Nat) : ∀ a b : Nat, a ≤ n → a * a = 2 * (b * b) → a = 0 := by
  induction n with
  | zero => intro a b h _; omega
  | succ n ih =>
    intro a b ha h
    by_cases h0 : a = 0
    · exact h0
    · have hev : a % 2 = 0 := by
        rcases Nat.mod_two_eq_zero_or_one a with e | e
        · exact e
        · have : (a * a) % 2 = 1 := by rw [Nat.mul_mod, e]
          omega
      obtain ⟨c, rfl⟩ : ∃ c, a = 2 * c := ⟨a / 2, by omega⟩
      have hb : b * b = 2 * (c * c) := by
        have : 2 * c * (2 * c) = 4 * (c * c) := by rw [Nat.mul_mul_mul_comm]
        omega
      have hlt : b < 2 * c := by
        rcases Nat.lt_or_ge b (2 * c) with hl | hl
        · exact hl
        · have h1 : 2 * c * (2 * c) ≤ b * b := Nat.mul_le_mul hl hl
          have h2 : 0 < 2 * c * (2 * c) := Nat.mul_pos (by omega) (by omega)
          omega
      have hb0 := ih b c (by omega) hb
      subst hb0
      have : c * c = 0 := by omega
      have : c = 0 := by rcases Nat.mul_eq_zero.1 this with h | h <;> exact h
      omega
theorem irr {u v : Int} (h : u * u = 2 * v * v) : u = 0 := by
  have h1 := irr_nat u.natAbs u.natAbs v.natAbs (Nat.le_refl _) (by
    have e : (u * u).natAbs = (2 * v * v).natAbs := by rw [h]
    rw [Int.natAbs_mul, Int.natAbs_mul, Int.natAbs_mul, Nat.mul_assoc] at e
    exact e)
  omega
/-- The seven ways a sign is found. -/
theorem rs_cases (u v : Int) : (u = 0 ∧ v = 0 ∧ rsN u v = 0) ∨ (0 ≤ u ∧ 0 ≤ v ∧ 0 < u + v ∧ rsN u v = 1) ∨ (u ≤ 0 ∧ v ≤ 0 ∧ u + v < 0 ∧ rsN u v = -1) ∨
    (0 < u ∧ v < 0 ∧ 2 * v * v < u * u ∧ rsN u v = 1) ∨ (0 < u ∧ v < 0 ∧ u * u < 2 * v * v ∧ rsN u v = -1) ∨ (u < 0 ∧ 0 < v ∧ 2 * v * v < u * u ∧ rsN u v = -1) ∨ (u < 0 ∧ 0 < v ∧ u * u < 2 * v * v ∧ rsN u v = 1) := by
  unfold rsN
  by_cases h1 : u = 0 ∧ v = 0
  · exact .inl ⟨h1.1, h1.2, by rw [if_pos h1]⟩
  · rw [if_neg h1]
    by_cases h2 : 0 ≤ u ∧ 0 ≤ v
    · exact .inr (.inl ⟨h2.1, h2.2, by omega, by rw [if_pos h2]⟩)
    · rw [if_neg h2]
      by_cases h3 : u ≤ 0 ∧ v ≤ 0
      · exact .inr (.inr (.inl ⟨h3.1, h3.2, by omega, by rw [if_pos h3]⟩))
      · rw [if_neg h3]
        have hne : u * u ≠ 2 * v * v := fun e => by have := irr e; omega
        by_cases h4 : 0 < u
        · rw [if_pos h4]
          by_cases h5 : 2 * v * v < u * u
          · exact .inr (.inr (.inr (.inl ⟨h4, by omega, h5, by rw [if_pos h5]⟩)))
          · exact .inr (.inr (.inr (.inr (.inl ⟨h4, by omega, by omega, by rw [if_neg h5]⟩))))
        · rw [if_neg h4]
          by_cases h5 : 2 * v * v < u * u
          · exact .inr (.inr (.inr (.inr (.inr (.inl ⟨by omega, by omega, h5, by rw [if_pos h5]⟩)))))
          · exact .inr (.inr (.inr (.inr (.inr (.inr ⟨by omega, by omega, by omega, by rw [if_neg h5]⟩)))))
theorem rs9 {a b n : Int} (h : (a = 0 ∧ b = 0 ∧ n = 0) ∨ (0 ≤ a ∧ 0 ≤ b ∧ 0 < a + b ∧ n = 1) ∨ (a ≤ 0 ∧ b ≤ 0 ∧ a + b < 0 ∧ n = -1) ∨ (0 < a ∧ b < 0 ∧ 2 * b * b < a * a ∧ n = 1) ∨ (0 < a ∧ b < 0 ∧ a * a < 2 * b * b ∧ n = -1) ∨ (a < 0 ∧ 0 < b ∧ 2 * b * b < a * a ∧ n = -1) ∨ (a < 0 ∧ 0 < b ∧ a * a < 2 * b * b ∧ n = 1)) :
    (a = 0 ∧ b = 0 ∧ n = 0) ∨ (0 < a ∧ 0 ≤ b ∧ n = 1) ∨ (a = 0 ∧ 0 < b ∧ n = 1) ∨ (a < 0 ∧ b ≤ 0 ∧ n = -1) ∨ (a = 0 ∧ b < 0 ∧ n = -1) ∨ (0 < a ∧ b < 0 ∧ 2 * b * b < a * a ∧ n = 1) ∨ (0 < a ∧ b < 0 ∧ a * a < 2 * b * b ∧ n = -1) ∨ (a < 0 ∧ 0 < b ∧ 2 * b * b < a * a ∧ n = -1) ∨ (a < 0 ∧ 0 < b ∧ a * a < 2 * b * b ∧ n = 1) := by
  rcases h with h | ⟨e1, e2, e3, e4⟩ | ⟨e1, e2, e3, e4⟩ | h | h | h | h
  · exact .inl h
  · by_cases h0 : 0 < a
    · exact .inr (.inl ⟨h0, e2, e4⟩)
    · exact .inr (.inr (.inl ⟨by omega, by omega, e4⟩))
  · by_cases h0 : a < 0
    · exact .inr (.inr (.inr (.inl ⟨h0, e2, e4⟩)))
    · exact .inr (.inr (.inr (.inr (.inl ⟨by omega, by omega, e4⟩))))
  · exact .inr (.inr (.inr (.inr (.inr (.inl h)))))
  · exact .inr (.inr (.inr (.inr (.inr (.inr (.inl h))))))
  · exact .inr (.inr (.inr (.inr (.inr (.inr (.inr (.inl h)))))))
  · exact .inr (.inr (.inr (.inr (.inr (.inr (.inr (.inr h)))))))
theorem sq_bd {a : Int} (ha : -1073741824 ≤ a ∧ a ≤ 1073741824) : (0 ≤ a * a ∧ a * a ≤ 1152921504606846976) ∧ (0 ≤ 2 * a * a ∧ 2 * a * a ≤ 2305843009213693952) := by
  have h1 := mul_bd ha ha
  have h2 : 0 ≤ a * a := by
    rcases Int.le_total 0 a with h | h
    · exact Int.mul_nonneg h h
    · exact Int.mul_nonneg_of_nonpos_of_nonpos h h
  have h3 : 2 * a * a = 2 * (a * a) := Int.mul_assoc 2 a a
  omega
theorem isReal_okz {a b c d k : Int} (h : isReal ⟨⟨a, b, c, d⟩, k⟩ = true) : okz ⟨a, b, c, d⟩ = true := by
  simp [isReal, okd] at h; exact h.1.1.1
theorem s_sg_pos {n : Int} (w : World) (h : 0 < n) : Calls Try.prog 76 #[.int .i64 n] w fun e w' => e = .returned (.int .i64 1) ∧ w = w' := by
  go_enter Try.func76, Try.ntmps76
  go_wp2
  go_ret
  exact ⟨rfl, rfl⟩
theorem s_sg_neg {n : Int} (w : World) (h : n < 0) : Calls Try.prog 76 #[.int .i64 n] w fun e w' => e = .returned (.int .i64 (-1)) ∧ w = w' := by
  go_enter Try.func76, Try.ntmps76
  go_wp2
  go_ret
  exact ⟨rfl, rfl⟩
theorem s_sg_zero (w : World) : Calls Try.prog 76 #[.int .i64 0] w fun e w' => e = .returned (.int .i64 0) ∧ w = w' := by
  go_enter Try.func76, Try.ntmps76
  go_wp2
  go_ret
  exact ⟨rfl, rfl⟩
set_option maxHeartbeats 400000 in
theorem i_RS {a b c d k n : Int} (w : World) (h : realSign ⟨⟨a, b, c, d⟩, k⟩ = n) : Calls Try.prog 47 #[.agg #[.int .i64 a, .int .i64 b, .int .i64 c, .int .i64 d, .int .i64 k]] w (Ret (.int .i64 n) w) := by
  unfold realSign at h
  cases h0 : isReal ⟨⟨a, b, c, d⟩, k⟩
  · rw [if_neg (by simp [h0])] at h
    subst h
    go_enter Try.func47, Try.ntmps47
    go_wp2_with fail
    refine (i_real_f _ h0).mono ?_
    rintro e w1 ⟨rfl, hb1⟩
    obtain ⟨hc1, hf1⟩ := bcell hb1
    have hz1 := hb1.size
    (try simp at hz1)
    have l1w0 : w.heap.size < w1.heap.size := by omega
    have m1w0 : w.heap.size ≤ w1.heap.size := by omega
    have x1w0 : ¬ w.heap.size = w1.heap.size := by omega
    have y1w0 : ¬ w1.heap.size = w.heap.size := by omega
    go_wp2
    go_ret
    refine ret_mk ?_
    repeat (first | (with_reducible exact Below.refl _ _) | (with_reducible assumption) | (with_reducible refine bl_alloc ?_ _) | (with_reducible refine bl_drew ?_) | (with_reducible refine bl_set ?_ (by simp <;> omega) _) | (with_reducible refine bl_call ?_ (by assumption)))
  · rw [if_pos h0] at h
    obtain ⟨A, B, _, _⟩ := okz_b (isReal_okz h0)
    obtain ⟨⟨s1, s2⟩, s3, s4⟩ := sq_bd A
    obtain ⟨⟨t1, t2⟩, t3, t4⟩ := sq_bd B
    obtain ⟨a0, a1⟩ := A
    obtain ⟨b0, b1⟩ := B
    have hcs := rs_cases a b
    dsimp only at h
    rw [h] at hcs
    clear h
    have hcs2 := rs9 hcs
    clear hcs
    rcases hcs2 with ⟨rfl, rfl, rfl⟩ | ⟨e1, e2, rfl⟩ | ⟨rfl, e2, rfl⟩ | ⟨e1, e2, rfl⟩ | ⟨rfl, e2, rfl⟩ | ⟨e1, e2, e3, rfl⟩ | ⟨e1, e2, e3, rfl⟩ | ⟨e1, e2, e3, rfl⟩ | ⟨e1, e2, e3, rfl⟩
    all_goals
      (try have hd1 : decide (2 * b * b < a * a) = true := by simp; omega)
      (try have hd2 : decide (2 * b * b < a * a) = false := by simp; omega)
      (try have hd3 : decide (0 < a) = true := by simp; omega)
      (try have hd4 : decide (0 < a) = false := by simp; omega)
      go_enter Try.func47, Try.ntmps47
      go_wp2_with fail
      refine (i_real_t _ h0).mono ?_
      rintro e w1 ⟨rfl, hb1⟩
      obtain ⟨hc1, hf1⟩ := bcell hb1
      have hz1 := hb1.size
      (try simp at hz1)
      have l1w0 : w.heap.size < w1.heap.size := by omega
      have m1w0 : w.heap.size ≤ w1.heap.size := by omega
      have x1w0 : ¬ w.heap.size = w1.heap.size := by omega
      have y1w0 : ¬ w1.heap.size = w.heap.size := by omega
      go_wp2
      go_ret
      refine ret_mk ?_
      repeat (first | (with_reducible exact Below.refl _ _) | (with_reducible assumption) | (with_reducible refine bl_alloc ?_ _) | (with_reducible refine bl_drew ?_) | (with_reducible refine bl_set ?_ (by simp <;> omega) _) | (with_reducible refine bl_call ?_ (by assumption)))
set_option maxHeartbeats 400000 in
theorem s_RS {a b c d k n : Int} (w : World) (h : realSign ⟨⟨a, b, c, d⟩, k⟩ = n) : Calls Try.prog 52 #[.agg #[.int .i64 a, .int .i64 b, .int .i64 c, .int .i64 d, .int .i64 k]] w (Ret (.int .i64 n) w) := by
  unfold realSign at h
  cases h0 : isReal ⟨⟨a, b, c, d⟩, k⟩
  · rw [if_neg (by simp [h0])] at h
    subst h
    go_enter Try.func52, Try.ntmps52
    go_wp2_with fail
    refine (s_real_f _ h0).mono ?_
    rintro e w1 ⟨rfl, hb1⟩
    obtain ⟨hc1, hf1⟩ := bcell hb1
    have hz1 := hb1.size
    (try simp at hz1)
    have l1w0 : w.heap.size < w1.heap.size := by omega
    have m1w0 : w.heap.size ≤ w1.heap.size := by omega
    have x1w0 : ¬ w.heap.size = w1.heap.size := by omega
    have y1w0 : ¬ w1.heap.size = w.heap.size := by omega
    go_wp2
    go_ret
    refine ret_mk ?_
    repeat (first | (with_reducible exact Below.refl _ _) | (with_reducible assumption) | (with_reducible refine bl_alloc ?_ _) | (with_reducible refine bl_drew ?_) | (with_reducible refine bl_set ?_ (by simp <;> omega) _) | (with_reducible refine bl_call ?_ (by assumption)))
  · rw [if_pos h0] at h
    obtain ⟨A, B, _, _⟩ := okz_b (isReal_okz h0)
    obtain ⟨⟨s1, s2⟩, s3, s4⟩ := sq_bd A
    obtain ⟨⟨t1, t2⟩, t3, t4⟩ := sq_bd B
    obtain ⟨a0, a1⟩ := A
    obtain ⟨b0, b1⟩ := B
    have hcs := rs_cases a b
    dsimp only at h
    rw [h] at hcs
    clear h
    have hcs2 := rs9 hcs
    clear hcs
    rcases hcs2 with ⟨rfl, rfl, rfl⟩ | ⟨e1, e2, rfl⟩ | ⟨rfl, e2, rfl⟩ | ⟨e1, e2, rfl⟩ | ⟨rfl, e2, rfl⟩ | ⟨e1, e2, e3, rfl⟩ | ⟨e1, e2, e3, rfl⟩ | ⟨e1, e2, e3, rfl⟩ | ⟨e1, e2, e3, rfl⟩
    all_goals
      (try have hd1 : decide (2 * b * b < a * a) = true := by simp; omega)
      (try have hd2 : decide (2 * b * b < a * a) = false := by simp; omega)
      (try have hd3 : decide (0 < a) = true := by simp; omega)
      (try have hd4 : decide (0 < a) = false := by simp; omega)
      go_enter Try.func52, Try.ntmps52
      go_wp2_with fail
      refine (s_real_t _ h0).mono ?_
      rintro e w1 ⟨rfl, hb1⟩
      obtain ⟨hc1, hf1⟩ := bcell hb1
      have hz1 := hb1.size
      (try simp at hz1)
      have l1w0 : w.heap.size < w1.heap.size := by omega
      have m1w0 : w.heap.size ≤ w1.heap.size := by omega
      have x1w0 : ¬ w.heap.size = w1.heap.size := by omega
      have y1w0 : ¬ w1.heap.size = w.heap.size := by omega
      go_wp2_with (first | (go_at_call 76; with_reducible refine (s_sg_zero _).mono ?_; rintro e w' ⟨rfl, rfl⟩) | (go_at_call 76; refine (s_sg_pos _ (by omega)).mono ?_; rintro e w' ⟨rfl, rfl⟩) | (go_at_call 76; refine (s_sg_neg _ (by omega)).mono ?_; rintro e w' ⟨rfl, rfl⟩))
      go_ret
      refine ret_mk ?_
      repeat (first | (with_reducible exact Below.refl _ _) | (with_reducible assumption) | (with_reducible refine bl_alloc ?_ _) | (with_reducible refine bl_drew ?_) | (with_reducible refine bl_set ?_ (by simp <;> omega) _) | (with_reducible refine bl_call ?_ (by assumption)))
end Go.Proofs.Ytpkbmdlamcgiiaa
