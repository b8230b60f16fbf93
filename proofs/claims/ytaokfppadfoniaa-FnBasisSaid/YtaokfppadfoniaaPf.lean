/- Plain laws of the powers of omega, and their contracts with the values under names. -/
import Derived.Test.YtaokfppadfoniaaPe
import Derived.Test.YtaokfppadfoniaaPure5
namespace Go.Proofs.Ytaokfppadfoniaa
open Go.RowKit
theorem phaseZ_mod (i : Int) : phaseZ (i % 8) = phaseZ i := by
  unfold phaseZ
  rw [Int.emod_emod_of_dvd i (Int.dvd_refl 8)]
theorem phase_cases (i : Int) : ∃ m : Nat, m < 8 ∧ i % 8 = (m : Int) ∧ phaseZ i = phaseN m := by
  obtain ⟨m, hm⟩ := Int.eq_ofNat_of_zero_le (Int.emod_nonneg i (by decide : (8 : Int) ≠ 0))
  have hlt := Int.emod_lt_of_pos i (by decide : (0 : Int) < 8)
  refine ⟨m, by omega, hm, ?_⟩
  unfold phaseZ
  rw [hm, Int.toNat_natCast]
theorem pexp_phase (m : Nat) (h : m < 8) : pexp (phaseN m).a (phaseN m).b (phaseN m).c (phaseN m).d 0 = some m := by
  match m, h with
  | 0, _ => rfl
  | 1, _ => rfl
  | 2, _ => rfl
  | 3, _ => rfl
  | 4, _ => rfl
  | 5, _ => rfl
  | 6, _ => rfl
  | 7, _ => rfl
theorem zmul_phase (m n : Nat) (hm : m < 8) (hn : n < 8) : zmul (phaseN m) (phaseN n) = phaseN ((m + n) % 8) := by
  match m, hm with
  | 0, _ => match n, hn with | 0, _ => rfl | 1, _ => rfl | 2, _ => rfl | 3, _ => rfl | 4, _ => rfl | 5, _ => rfl | 6, _ => rfl | 7, _ => rfl
  | 1, _ => match n, hn with | 0, _ => rfl | 1, _ => rfl | 2, _ => rfl | 3, _ => rfl | 4, _ => rfl | 5, _ => rfl | 6, _ => rfl | 7, _ => rfl
  | 2, _ => match n, hn with | 0, _ => rfl | 1, _ => rfl | 2, _ => rfl | 3, _ => rfl | 4, _ => rfl | 5, _ => rfl | 6, _ => rfl | 7, _ => rfl
  | 3, _ => match n, hn with | 0, _ => rfl | 1, _ => rfl | 2, _ => rfl | 3, _ => rfl | 4, _ => rfl | 5, _ => rfl | 6, _ => rfl | 7, _ => rfl
  | 4, _ => match n, hn with | 0, _ => rfl | 1, _ => rfl | 2, _ => rfl | 3, _ => rfl | 4, _ => rfl | 5, _ => rfl | 6, _ => rfl | 7, _ => rfl
  | 5, _ => match n, hn with | 0, _ => rfl | 1, _ => rfl | 2, _ => rfl | 3, _ => rfl | 4, _ => rfl | 5, _ => rfl | 6, _ => rfl | 7, _ => rfl
  | 6, _ => match n, hn with | 0, _ => rfl | 1, _ => rfl | 2, _ => rfl | 3, _ => rfl | 4, _ => rfl | 5, _ => rfl | 6, _ => rfl | 7, _ => rfl
  | 7, _ => match n, hn with | 0, _ => rfl | 1, _ => rfl | 2, _ => rfl | 3, _ => rfl | 4, _ => rfl | 5, _ => rfl | 6, _ => rfl | 7, _ => rfl
theorem okz_phase (m : Nat) : okz (phaseN m) = true := by
  unfold phaseN
  split <;> rfl
theorem okd_phase (i : Int) : okd ⟨phaseZ i, 0⟩ = true := okd_mk (okz_phase _) (by simp) (.inl rfl)
theorem mulD_phase (i j : Int) : mulD ⟨phaseZ i, 0⟩ ⟨phaseZ j, 0⟩ = some ⟨phaseZ (i + j), 0⟩ := by
  obtain ⟨m, hm, em, pm⟩ := phase_cases i
  obtain ⟨n, hn, en, pn⟩ := phase_cases j
  have e : phaseZ (i + j) = phaseN ((m + n) % 8) := by
    obtain ⟨q, hq, eq', pq⟩ := phase_cases (i + j)
    rw [pq]
    congr 1
    omega
  have hz : zmul (phaseZ i) (phaseZ j) = phaseZ (i + j) := by rw [pm, pn, e, zmul_phase m n hm hn]
  unfold mulD
  rw [if_pos ⟨okd_phase i, okd_phase j⟩]
  simp only
  rw [mulZ_mk (x := phaseZ i) (y := phaseZ j) (okz_phase _) (okz_phase _) (by rw [hz]; exact okz_phase _), hz]
  exact newD_self (d := ⟨phaseZ (i + j), 0⟩) (okd_phase _)
theorem i_Phase_v (i : Int) (w : World) : Calls Try.prog 23 #[.int .i64 i] w (Ret (.agg #[.int .i64 (phaseZ i).a, .int .i64 (phaseZ i).b, .int .i64 (phaseZ i).c, .int .i64 (phaseZ i).d, .int .i64 0]) w) := i_Phase w rfl
/-- The exponent of a power of omega. -/
theorem exp_phase (i : Int) : ∃ k : Int, (0 ≤ k ∧ k < 8 ∧ (i - k) % 8 = 0) ∧ phaseZ k = phaseZ i ∧ ∀ W, Calls Try.prog 24 #[.agg #[.int .i64 (phaseZ i).a, .int .i64 (phaseZ i).b, .int .i64 (phaseZ i).c, .int .i64 (phaseZ i).d, .int .i64 0]] W (Ret (.tuple #[.int .i64 k, .bool true]) W) := by
  obtain ⟨m, hm, em, pm⟩ := phase_cases i
  refine ⟨m, ⟨by omega, by omega, by omega⟩, ?_, fun W => ?_⟩
  · rw [pm, phaseN_Z m hm]
  · rw [pm]
    have := i_Exp (phaseN m).a (phaseN m).b (phaseN m).c (phaseN m).d 0 W
    rw [pexp_phase m hm] at this
    exact this
theorem exp_any (a b c d k : Int) : ∃ (n : Int) (ok : Bool), (∀ W, Calls Try.prog 24 #[.agg #[.int .i64 a, .int .i64 b, .int .i64 c, .int .i64 d, .int .i64 k]] W (Ret (.tuple #[.int .i64 n, .bool ok]) W)) ∧ ∀ W, Calls Try.prog 27 #[.agg #[.int .i64 a, .int .i64 b, .int .i64 c, .int .i64 d, .int .i64 k]] W (Ret (.tuple #[.int .i64 n, .bool ok]) W) :=
  ⟨_, _, fun W => i_Exp a b c d k W, fun W => s_Exp a b c d k W⟩
end Go.Proofs.Ytaokfppadfoniaa
