/- Contracts: the powers of omega. -/
import Derived.Test.YtaokfppadfoniaaD
namespace Go.Proofs.Ytaokfppadfoniaa
open Go.RowKit

def phaseN (m : Nat) : ZO := match m with
  | 0 => ⟨1, 0, 0, 0⟩
  | 1 => ⟨0, 1, 0, 0⟩
  | 2 => ⟨0, 0, 1, 0⟩
  | 3 => ⟨0, 0, 0, 1⟩
  | 4 => ⟨-1, 0, 0, 0⟩
  | 5 => ⟨0, -1, 0, 0⟩
  | 6 => ⟨0, 0, -1, 0⟩
  | _ => ⟨0, 0, 0, -1⟩
def phaseZ (i : Int) : ZO := phaseN (i % 8).toNat
theorem tmod8 (i : Int) : (i.tmod 8 = 0 ∨ i.tmod 8 = 1 ∨ i.tmod 8 = 2 ∨ i.tmod 8 = 3 ∨ i.tmod 8 = 4 ∨ i.tmod 8 = 5 ∨ i.tmod 8 = 6 ∨ i.tmod 8 = 7) ∨ (i.tmod 8 = -1 ∨ i.tmod 8 = -2 ∨ i.tmod 8 = -3 ∨ i.tmod 8 = -4 ∨ i.tmod 8 = -5 ∨ i.tmod 8 = -6 ∨ i.tmod 8 = -7) := by
  have h1 := Int.tmod_eq_emod (a := i) (b := 8)
  by_cases h : 0 ≤ i ∨ (8 : Int) ∣ i
  · rw [if_pos h] at h1; omega
  · rw [if_neg h] at h1
    have : ((8 : Int).natAbs : Int) = 8 := by decide
    omega
theorem phase_of {i m : Int} {j : Nat} (h : i.tmod 8 = m) (hj : (m + 8) % 8 = j) : phaseZ i = phaseN j := by
  have h1 := Int.mul_tdiv_add_tmod i 8
  rw [h] at h1
  unfold phaseZ
  have : i % 8 = (j : Int) := by omega
  rw [this]
  simp
theorem phaseN_Z (m : Nat) (h : m < 8) : phaseZ (m : Int) = phaseN m := by
  unfold phaseZ
  have : (m : Int) % 8 = (m : Int) := by omega
  rw [this]
  simp
set_option maxHeartbeats 4000000 in
theorem i_Phase {i a b c d : Int} (w : World) (h : phaseZ i = ⟨a, b, c, d⟩) : Calls Try.prog 23 #[.int .i64 i] w (Ret (.agg #[.int .i64 a, .int .i64 b, .int .i64 c, .int .i64 d, .int .i64 0]) w) := by
  rcases tmod8 i with (hm | hm | hm | hm | hm | hm | hm | hm) | (hm | hm | hm | hm | hm | hm | hm)
  all_goals
    first | rw [phase_of (j := 0) hm (by decide)] at h | rw [phase_of (j := 1) hm (by decide)] at h | rw [phase_of (j := 2) hm (by decide)] at h | rw [phase_of (j := 3) hm (by decide)] at h | rw [phase_of (j := 4) hm (by decide)] at h | rw [phase_of (j := 5) hm (by decide)] at h | rw [phase_of (j := 6) hm (by decide)] at h | rw [phase_of (j := 7) hm (by decide)] at h
    simp only [phaseN, ZO.mk.injEq] at h
    obtain ⟨rfl, rfl, rfl, rfl⟩ := h
    go_enter Try.func23, Try.ntmps23
    go_wp2
    refine bodyPost_ret (v := .agg #[.int .i64 _, .int .i64 _, .int .i64 _, .int .i64 _, .int .i64 0]) (by simp [results, Try.results23, go_sem]) rfl (ret_mk ?_)
    repeat (first | (with_reducible exact Below.refl _ _) | (with_reducible assumption) | (with_reducible refine bl_alloc ?_ _) | (with_reducible refine bl_drew ?_) | (with_reducible refine bl_set ?_ (by simp <;> omega) _) | (with_reducible refine bl_call ?_ (by assumption)))
set_option maxHeartbeats 4000000 in
theorem s_Phase {i a b c d : Int} (w : World) (h : phaseZ i = ⟨a, b, c, d⟩) : Calls Try.prog 78 #[.int .i64 i] w (Ret (.agg #[.int .i64 a, .int .i64 b, .int .i64 c, .int .i64 d, .int .i64 0]) w) := by
  rcases tmod8 i with (hm | hm | hm | hm | hm | hm | hm | hm) | (hm | hm | hm | hm | hm | hm | hm)
  all_goals
    first | rw [phase_of (j := 0) hm (by decide)] at h | rw [phase_of (j := 1) hm (by decide)] at h | rw [phase_of (j := 2) hm (by decide)] at h | rw [phase_of (j := 3) hm (by decide)] at h | rw [phase_of (j := 4) hm (by decide)] at h | rw [phase_of (j := 5) hm (by decide)] at h | rw [phase_of (j := 6) hm (by decide)] at h | rw [phase_of (j := 7) hm (by decide)] at h
    simp only [phaseN, ZO.mk.injEq] at h
    obtain ⟨rfl, rfl, rfl, rfl⟩ := h
    go_enter Try.func78, Try.ntmps78
    go_wp2
    refine bodyPost_ret (v := .agg #[.int .i64 _, .int .i64 _, .int .i64 _, .int .i64 _, .int .i64 0]) (by simp [results, Try.results78, go_sem]) rfl (ret_mk ?_)
    repeat (first | (with_reducible exact Below.refl _ _) | (with_reducible assumption) | (with_reducible refine bl_alloc ?_ _) | (with_reducible refine bl_drew ?_) | (with_reducible refine bl_set ?_ (by simp <;> omega) _) | (with_reducible refine bl_call ?_ (by assumption)))
end Go.Proofs.Ytaokfppadfoniaa
