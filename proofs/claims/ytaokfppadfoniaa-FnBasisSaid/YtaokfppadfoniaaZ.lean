/- Contracts of the small functions on Z[omega] elements: of the program (i_) and of the reference (s_). -/
import Derived.Test.YtaokfppadfoniaaBase
import Derived.Test.YtaokfppadfoniaaPure
namespace Go.Proofs.Ytaokfppadfoniaa
open Go.RowKit

theorem i_in_any (n lo hi : Int) (w : World) : Calls Try.prog 71 #[.int .i64 n, .int .i64 lo, .int .i64 hi] w fun e w' => e = .returned (.bool (decide (lo ≤ n) && decide (n ≤ hi))) ∧ w = w' := by
  by_cases h : lo ≤ n
  · go_enter Try.func71, Try.ntmps71
    go_wp2
    go_ret
    exact ⟨by simp [h], rfl⟩
  · go_enter Try.func71, Try.ntmps71
    go_wp2
    go_ret
    have h' : ¬ lo ≤ n := by omega
    exact ⟨by simp [h'], rfl⟩
theorem i_in_near (n : Int) (w : World) : Calls Try.prog 71 #[.int .i64 n, .int .i64 (-1073741824), .int .i64 1073741824] w fun e w' => e = .returned (.bool (near n)) ∧ w = w' := i_in_any _ _ _ _
theorem i_in_rng (n : Int) (w : World) : Calls Try.prog 71 #[.int .i64 n, .int .i64 0, .int .i64 60] w fun e w' => e = .returned (.bool (rng n)) ∧ w = w' := i_in_any _ _ _ _
theorem s_in_any (n lo hi : Int) (w : World) : Calls Try.prog 74 #[.int .i64 n, .int .i64 lo, .int .i64 hi] w fun e w' => e = .returned (.bool (decide (lo ≤ n) && decide (n ≤ hi))) ∧ w = w' := by
  by_cases h : lo ≤ n
  · go_enter Try.func74, Try.ntmps74
    go_wp2
    go_ret
    exact ⟨by simp [h], rfl⟩
  · go_enter Try.func74, Try.ntmps74
    go_wp2
    go_ret
    have h' : ¬ lo ≤ n := by omega
    exact ⟨by simp [h'], rfl⟩
theorem s_in_near (n : Int) (w : World) : Calls Try.prog 74 #[.int .i64 n, .int .i64 (-1073741824), .int .i64 1073741824] w fun e w' => e = .returned (.bool (near n)) ∧ w = w' := s_in_any _ _ _ _
theorem s_in_rng (n : Int) (w : World) : Calls Try.prog 74 #[.int .i64 n, .int .i64 0, .int .i64 60] w fun e w' => e = .returned (.bool (rng n)) ∧ w = w' := s_in_any _ _ _ _

theorem s_near (n : Int) (w : World) : Calls Try.prog 101 #[.int .i64 n] w fun e w' => e = .returned (.bool (near n)) ∧ w = w' := by
  go_enter Try.func101, Try.ntmps101
  go_wp2_with (go_at_call 74; refine (s_in_near _ _).mono ?_; rintro e w' ⟨rfl, rfl⟩)
  go_ret
  exact ⟨rfl, rfl⟩

set_option maxHeartbeats 400000 in
theorem i_valid (a b c d : Int) (w : World) : Calls Try.prog 70 #[.agg #[.int .i64 a, .int .i64 b, .int .i64 c, .int .i64 d]] w (Ret (.bool (okz ⟨a, b, c, d⟩)) w) := by
  unfold okz
  dsimp only
  cases ha : near a
  all_goals cases hb : near b
  all_goals cases hc : near c
  all_goals
    go_enter Try.func70, Try.ntmps70
    go_wp2_with (first | (go_at_call 71; refine (i_in_near _ _).mono ?_; rintro e w' ⟨rfl, rfl⟩))
    go_ret
    refine ret_eq (by simp) ?_
    repeat (first | (with_reducible exact Below.refl _ _) | (with_reducible assumption) | (with_reducible refine bl_alloc ?_ _) | (with_reducible refine bl_drew ?_) | (with_reducible refine bl_set ?_ (by simp <;> omega) _) | (with_reducible refine bl_call ?_ (by assumption)))
theorem i_valid_t {a b c d : Int} (w : World) (h : okz ⟨a, b, c, d⟩ = true) : Calls Try.prog 70 #[.agg #[.int .i64 a, .int .i64 b, .int .i64 c, .int .i64 d]] w (Ret (.bool true) w) := by
  have := i_valid a b c d w
  rwa [h] at this
theorem i_valid_f {a b c d : Int} (w : World) (h : okz ⟨a, b, c, d⟩ = false) : Calls Try.prog 70 #[.agg #[.int .i64 a, .int .i64 b, .int .i64 c, .int .i64 d]] w (Ret (.bool false) w) := by
  have := i_valid a b c d w
  rwa [h] at this
set_option maxHeartbeats 400000 in
theorem s_valid (a b c d : Int) (w : World) : Calls Try.prog 73 #[.agg #[.int .i64 a, .int .i64 b, .int .i64 c, .int .i64 d]] w (Ret (.bool (okz ⟨a, b, c, d⟩)) w) := by
  unfold okz
  dsimp only
  cases ha : near a
  all_goals cases hb : near b
  all_goals cases hc : near c
  all_goals
    go_enter Try.func73, Try.ntmps73
    go_wp2_with (first | (go_at_call 101; refine (s_near _ _).mono ?_; rintro e w' ⟨rfl, rfl⟩))
    go_ret
    refine ret_eq (by simp) ?_
    repeat (first | (with_reducible exact Below.refl _ _) | (with_reducible assumption) | (with_reducible refine bl_alloc ?_ _) | (with_reducible refine bl_drew ?_) | (with_reducible refine bl_set ?_ (by simp <;> omega) _) | (with_reducible refine bl_call ?_ (by assumption)))
theorem s_valid_t {a b c d : Int} (w : World) (h : okz ⟨a, b, c, d⟩ = true) : Calls Try.prog 73 #[.agg #[.int .i64 a, .int .i64 b, .int .i64 c, .int .i64 d]] w (Ret (.bool true) w) := by
  have := s_valid a b c d w
  rwa [h] at this
theorem s_valid_f {a b c d : Int} (w : World) (h : okz ⟨a, b, c, d⟩ = false) : Calls Try.prog 73 #[.agg #[.int .i64 a, .int .i64 b, .int .i64 c, .int .i64 d]] w (Ret (.bool false) w) := by
  have := s_valid a b c d w
  rwa [h] at this

set_option maxHeartbeats 400000 in
theorem toZ (a b c d : Int) (w : World) : Calls Try.prog 85 #[.agg #[.int .i64 a, .int .i64 b, .int .i64 c, .int .i64 d]] w (Ret (.agg #[.int .i64 a, .int .i64 b, .int .i64 c, .int .i64 d]) w) := by
  go_enter Try.func85, Try.ntmps85
  go_wp2
  refine bodyPost_ret (v := .agg #[.int .i64 a, .int .i64 b, .int .i64 c, .int .i64 d]) (by simp [results, Try.results85, go_sem]) rfl (ret_mk ?_)
  repeat (first | (with_reducible exact Below.refl _ _) | (with_reducible assumption) | (with_reducible refine bl_alloc ?_ _) | (with_reducible refine bl_drew ?_) | (with_reducible refine bl_set ?_ (by simp <;> omega) _) | (with_reducible refine bl_call ?_ (by assumption)))
set_option maxHeartbeats 400000 in
theorem toD (a b c d k : Int) (w : World) : Calls Try.prog 40 #[.agg #[.int .i64 a, .int .i64 b, .int .i64 c, .int .i64 d, .int .i64 k]] w (Ret (.agg #[.int .i64 a, .int .i64 b, .int .i64 c, .int .i64 d, .int .i64 k]) w) := by
  go_enter Try.func40, Try.ntmps40
  go_wp2_with (go_at_call 85; refine (toZ _ _ _ _ _).mono ?_; rintro e w1 ⟨rfl, hb1⟩; obtain ⟨hc1, hf1⟩ := bcell hb1; have hz1 := hb1.size; (try simp at hz1))
  refine bodyPost_ret (v := .agg #[.int .i64 a, .int .i64 b, .int .i64 c, .int .i64 d, .int .i64 k]) (by simp [results, Try.results40, go_sem, *]) rfl (ret_mk ?_)
  repeat (first | (with_reducible exact Below.refl _ _) | (with_reducible assumption) | (with_reducible refine bl_alloc ?_ _) | (with_reducible refine bl_drew ?_) | (with_reducible refine bl_set ?_ (by simp <;> omega) _) | (with_reducible refine bl_call ?_ (by assumption)))
set_option maxHeartbeats 400000 in
theorem eqZ (a b c d : Int) (w : World) : Calls Try.prog 89 #[.agg #[.int .i64 a, .int .i64 b, .int .i64 c, .int .i64 d], .agg #[.int .i64 a, .int .i64 b, .int .i64 c, .int .i64 d]] w (Ret (.bool true) w) := by
  go_enter Try.func89, Try.ntmps89
  go_wp2
  go_ret
  refine ret_mk ?_
  repeat (first | (with_reducible exact Below.refl _ _) | (with_reducible assumption) | (with_reducible refine bl_alloc ?_ _) | (with_reducible refine bl_drew ?_) | (with_reducible refine bl_set ?_ (by simp <;> omega) _) | (with_reducible refine bl_call ?_ (by assumption)))
set_option maxHeartbeats 400000 in
theorem eqD (a b c d k : Int) (w : World) : Calls Try.prog 48 #[.agg #[.int .i64 a, .int .i64 b, .int .i64 c, .int .i64 d, .int .i64 k], .agg #[.int .i64 a, .int .i64 b, .int .i64 c, .int .i64 d, .int .i64 k]] w (Ret (.bool true) w) := by
  go_enter Try.func48, Try.ntmps48
  go_wp2_with (go_at_call 89; refine (eqZ _ _ _ _ _).mono ?_; rintro e w1 ⟨rfl, hb1⟩; obtain ⟨hc1, hf1⟩ := bcell hb1; have hz1 := hb1.size; (try simp at hz1))
  go_ret
  refine ret_mk ?_
  repeat (first | (with_reducible exact Below.refl _ _) | (with_reducible assumption) | (with_reducible refine bl_alloc ?_ _) | (with_reducible refine bl_drew ?_) | (with_reducible refine bl_set ?_ (by simp <;> omega) _) | (with_reducible refine bl_call ?_ (by assumption)))
end Go.Proofs.Ytaokfppadfoniaa
