/- Plain laws of decimal numerals: how a text reads as a number. No program in this text. -/
import Derived.Lib.AtoiTie
import Derived.Lib.ItoaNum
namespace Go.Proofs.YtbjmfapoioebjaaDoor
open Go.Lib

theorem decFrom_append : ∀ (l1 l2 : List UInt8) (acc : Nat), decFrom acc (l1 ++ l2) = (decFrom acc l1).bind fun m => decFrom m l2
  | [], l2, acc => rfl
  | c :: r, l2, acc => by
    simp only [List.cons_append, decFrom]
    cases digitVal c with
    | none => rfl
    | some d => exact decFrom_append r l2 _
theorem digit_nat {d : Nat} (h : d < 10) : (UInt8.ofNat (48 + d)).toNat = 48 + d := by
  rw [UInt8.toNat_ofNat']; omega
theorem digitVal_of (d : Nat) (h : d < 10) : digitVal (UInt8.ofNat (48 + d)) = some d := by
  unfold digitVal
  rw [digit_nat h, if_pos (by omega)]
  congr 1
  omega
theorem decFrom_dec (u : Nat) : decFrom 0 (decDigits u) = some u := by
  induction u using Nat.strongRecOn with
  | _ u ih =>
    rw [decDigits]
    split
    · rename_i h
      simp only [decFrom, digitVal_of u h]
      congr 1
      omega
    · rename_i h
      rw [decFrom_append, ih (u / 10) (by omega)]
      simp only [Option.bind, decFrom, digitVal_of (u % 10) (by omega)]
      congr 1
      omega
theorem parse_append : ∀ (l1 l2 : List UInt8) (acc v : Nat), parseUint10 acc l1 = .ok v → parseUint10 acc (l1 ++ l2) = parseUint10 v l2
  | [], l2, acc, v, h => by
    simp only [parseUint10] at h
    injection h with h
    subst h
    rfl
  | c :: r, l2, acc, v, h => by
    simp only [List.cons_append, parseUint10] at h ⊢
    by_cases h1 : 48 ≤ c.toNat ∧ c.toNat ≤ 57
    · rw [if_pos h1] at h ⊢
      by_cases h2 : 1844674407370955162 ≤ acc
      · rw [if_pos h2] at h; cases h
      · rw [if_neg h2] at h ⊢
        by_cases h3 : 18446744073709551616 ≤ acc * 10 + (c.toNat - 48)
        · rw [if_pos h3] at h; cases h
        · rw [if_neg h3] at h ⊢
          exact parse_append r l2 _ v h
    · rw [if_neg h1] at h; cases h
theorem parse_dec (u : Nat) (hu : u < 18446744073709551616) : parseUint10 0 (decDigits u) = .ok u := by
  induction u using Nat.strongRecOn with
  | _ u ih =>
    rw [decDigits]
    split
    · rename_i h
      simp only [parseUint10, digit_nat h]
      rw [if_pos (by omega), if_neg (by omega), if_neg (by omega)]
      congr 1
      omega
    · rename_i h
      rw [parse_append _ _ _ _ (ih (u / 10) (by omega) (by omega))]
      simp only [parseUint10, digit_nat (show u % 10 < 10 by omega)]
      rw [if_pos (by omega), if_neg (by omega), if_neg (by omega)]
      congr 1
      omega
theorem dec_ne (u : Nat) : decDigits u ≠ [] := fun h => by
  have h1 := decDigits_length u
  have h2 := nDigits_pos u
  rw [h] at h1
  simp at h1
  omega
theorem dec_all (u : Nat) : ∀ c ∈ decDigits u, 48 ≤ c.toNat ∧ c.toNat ≤ 57 := by
  induction u using Nat.strongRecOn with
  | _ u ih =>
    rw [decDigits]
    split
    · rename_i h
      intro c hc
      rw [List.mem_singleton] at hc
      subst hc
      rw [digit_nat h]
      omega
    · rename_i h
      intro c hc
      rcases List.mem_append.1 hc with hc | hc
      · exact ih (u / 10) (by omega) c hc
      · rw [List.mem_singleton] at hc
        subst hc
        rw [digit_nat (show u % 10 < 10 by omega)]
        omega
theorem dec_head (u : Nat) : ∃ c r, decDigits u = c :: r ∧ 48 ≤ c.toNat ∧ c.toNat ≤ 57 := by
  match h : decDigits u with
  | [] => exact absurd h (dec_ne u)
  | c :: r => exact ⟨c, r, rfl, dec_all u c (by rw [h]; simp)⟩
theorem mag_dec (u : Nat) (hu : u < 18446744073709551616) : parseMag (decDigits u) = .ok u := by
  unfold parseMag
  rw [if_neg (dec_ne u)]
  exact parse_dec u hu
theorem atoi_itoa (n : Int) (h0 : -9223372036854775808 ≤ n) (h1 : n ≤ 9223372036854775807) : atoiAll (itoa n) = .ok n := by
  unfold itoa
  split
  · rename_i h
    rw [atoiAll_minus, mag_dec _ (by omega)]
    simp only [signed]
    rw [if_neg (by omega)]
    congr 1
    omega
  · rename_i h
    obtain ⟨c, r, e, c0, c1⟩ := dec_head n.toNat
    have := mag_dec n.toNat (by omega)
    rw [e] at this ⊢
    rw [atoiAll_plain c r (by omega) (by omega), this]
    simp only [signless]
    rw [if_neg (by omega)]
    congr 1
    omega
/-- The number of a range that a text is the numeral of. -/
def pnum (lo hi : Int) (l : List UInt8) : Option Int := match atoiAll l with
  | .ok n => if lo ≤ n ∧ n ≤ hi ∧ itoa n = l then some n else none
  | _ => none
theorem pnum_iff {lo hi n : Int} (l : List UInt8) (h0 : -9223372036854775808 ≤ lo) (h1 : hi ≤ 9223372036854775807) : pnum lo hi l = some n ↔ lo ≤ n ∧ n ≤ hi ∧ itoa n = l := by
  unfold pnum
  constructor
  · intro h
    split at h
    · rename_i m hm
      split at h
      · rename_i hc
        injection h with h
        subst h
        exact hc
      · cases h
    · cases h
  · rintro ⟨a, b, rfl⟩
    rw [atoi_itoa n (by omega) (by omega)]
    exact if_pos ⟨a, b, rfl⟩
theorem opt_ext {a b : Option Int} (h : ∀ n, a = some n ↔ b = some n) : a = b := by
  cases a with
  | none => cases b with
    | none => rfl
    | some y => exact (h y).2 rfl
  | some x => exact ((h x).1 rfl).symm
def negB (l : List UInt8) : Bool := l.head? == some 45
def bodyL (l : List UInt8) : List UInt8 := if negB l = true then l.tail else l
def sgnI (l : List UInt8) (m : Nat) : Int := if negB l = true then -(m : Int) else m
/-- What the reference's reader gives. -/
def rdI (most : Nat) (l : List UInt8) : Option Int :=
  if 1 ≤ (bodyL l).length ∧ (bodyL l).length ≤ most then
    match decFrom 0 (bodyL l) with
    | some m => if itoa (sgnI l m) = l then some (sgnI l m) else none
    | none => none
  else none
theorem itoa_body (n : Int) : bodyL (itoa n) = decDigits n.natAbs ∧ sgnI (itoa n) n.natAbs = n := by
  unfold itoa
  split
  · rename_i h
    have e : negB (45 :: decDigits n.natAbs) = true := rfl
    unfold bodyL sgnI
    rw [e]
    exact ⟨rfl, by simp; omega⟩
  · rename_i h
    obtain ⟨c, r, e, c0, c1⟩ := dec_head n.toNat
    have en : n.natAbs = n.toNat := by omega
    rw [en, e]
    have hn : negB (c :: r) = false := by
      unfold negB
      simp
      intro hc
      subst hc
      revert c0
      decide
    unfold bodyL sgnI
    rw [hn]
    exact ⟨rfl, by simp; omega⟩
theorem nDigits_le {u k : Nat} (h : u < 10 ^ k) (hk : 1 ≤ k) : nDigits u ≤ k := by
  induction k generalizing u with
  | zero => omega
  | succ k ih =>
    by_cases h10 : u < 10
    · rw [nDigits_small h10]; omega
    · rw [nDigits_big h10]
      cases k with
      | zero => simp at h; omega
      | succ k =>
        have := ih (u := u / 10) (by rw [Nat.pow_succ] at h; omega) (by omega)
        omega
theorem rdI_iff {most : Nat} (hm : 1 ≤ most) (l : List UInt8) (n : Int) : rdI most l = some n ↔ n.natAbs < 10 ^ most ∧ itoa n = l := by
  unfold rdI
  constructor
  · intro h
    split at h
    · rename_i hl
      split at h
      · rename_i m hd
        split at h
        · rename_i hi
          injection h with h
          subst h
          refine ⟨?_, hi⟩
          have h1 := decFrom_lt _ 0 m hd
          have h2 : 10 ^ (bodyL l).length ≤ 10 ^ most := Nat.pow_le_pow_right (by decide) hl.2
          have h3 : (sgnI l m).natAbs = m := by unfold sgnI; split <;> omega
          rw [h3]
          omega
        · cases h
      · cases h
    · cases h
  · rintro ⟨a, rfl⟩
    obtain ⟨e1, e2⟩ := itoa_body n
    rw [e1, decDigits_length, if_pos ⟨nDigits_pos _, nDigits_le a hm⟩, decFrom_dec]
    show (if itoa (sgnI (itoa n) n.natAbs) = itoa n then some (sgnI (itoa n) n.natAbs) else none) = some n
    rw [e2, if_pos rfl]
theorem rdI_12 (l : List UInt8) : rdI 12 l = pnum (-999999999999) 999999999999 l := opt_ext fun n => by
  rw [rdI_iff (by decide), pnum_iff l (by decide) (by decide)]
  constructor
  · rintro ⟨a, b⟩; exact ⟨by omega, by omega, b⟩
  · rintro ⟨a, b, c⟩; exact ⟨by omega, c⟩
theorem rdI_6 (l : List UInt8) : (rdI 6 l).bind (fun n => if n < 0 then none else some n) = pnum 0 999999 l := opt_ext fun n => by
  rw [pnum_iff l (by decide) (by decide)]
  constructor
  · intro h
    cases hr : rdI 6 l with
    | none => rw [hr] at h; cases h
    | some m =>
      rw [hr] at h
      simp only [Option.bind] at h
      split at h
      · cases h
      · injection h with h
        subst h
        obtain ⟨a, b⟩ := (rdI_iff (by decide) l m).1 hr
        exact ⟨by omega, by omega, b⟩
  · rintro ⟨a, b, c⟩
    rw [(rdI_iff (most := 6) (by decide) l n).2 ⟨by omega, c⟩]
    simp only [Option.bind]
    rw [if_neg (by omega)]
/-- The digits of a number, none for 0. -/
def ddg (u : Nat) : List UInt8 := if u = 0 then [] else decDigits u
theorem ddg_step {u : Nat} (h : u ≠ 0) : ddg u = ddg (u / 10) ++ [UInt8.ofNat (48 + u % 10)] := by
  unfold ddg
  rw [if_neg h]
  by_cases h10 : u < 10
  · rw [if_pos (by omega), decDigits, dif_pos h10, Nat.mod_eq_of_lt h10]; rfl
  · rw [if_neg (by omega), decDigits, dif_neg h10]
end Go.Proofs.YtbjmfapoioebjaaDoor
