/- Contracts of the small functions on Z[omega] elements: of the program (i_) and of the reference (s_). -/
import Derived.Test.YtbjmfapoioebjaaDoorBase
import Derived.Test.YtbjmfapoioebjaaDoorPure
namespace Go.Proofs.YtbjmfapoioebjaaDoor
open Go.RowKit

theorem i_in_any (n lo hi : Int) (w : World) : Calls Tryd.prog 61 #[.int .i64 n, .int .i64 lo, .int .i64 hi] w fun e w' => e = .returned (.bool (decide (lo ≤ n) && decide (n ≤ hi))) ∧ w = w' := by
  by_cases h : lo ≤ n
  · go_enter Tryd.func61, Tryd.ntmps61
    go_wp2
    go_ret
    exact ⟨by simp [h], rfl⟩
  · go_enter Tryd.func61, Tryd.ntmps61
    go_wp2
    go_ret
    have h' : ¬ lo ≤ n := by omega
    exact ⟨by simp [h'], rfl⟩
theorem i_in_near (n : Int) (w : World) : Calls Tryd.prog 61 #[.int .i64 n, .int .i64 (-1073741824), .int .i64 1073741824] w fun e w' => e = .returned (.bool (near n)) ∧ w = w' := i_in_any _ _ _ _
theorem i_in_rng (n : Int) (w : World) : Calls Tryd.prog 61 #[.int .i64 n, .int .i64 0, .int .i64 60] w fun e w' => e = .returned (.bool (rng n)) ∧ w = w' := i_in_any _ _ _ _
theorem s_in_any (n lo hi : Int) (w : World) : Calls Tryd.prog 56 #[.int .i64 n, .int .i64 lo, .int .i64 hi] w fun e w' => e = .returned (.bool (decide (lo ≤ n) && decide (n ≤ hi))) ∧ w = w' := by
  by_cases h : lo ≤ n
  · go_enter Tryd.func56, Tryd.ntmps56
    go_wp2
    go_ret
    exact ⟨by simp [h], rfl⟩
  · go_enter Tryd.func56, Tryd.ntmps56
    go_wp2
    go_ret
    have h' : ¬ lo ≤ n := by omega
    exact ⟨by simp [h'], rfl⟩
theorem s_in_near (n : Int) (w : World) : Calls Tryd.prog 56 #[.int .i64 n, .int .i64 (-1073741824), .int .i64 1073741824] w fun e w' => e = .returned (.bool (near n)) ∧ w = w' := s_in_any _ _ _ _
theorem s_in_rng (n : Int) (w : World) : Calls Tryd.prog 56 #[.int .i64 n, .int .i64 0, .int .i64 60] w fun e w' => e = .returned (.bool (rng n)) ∧ w = w' := s_in_any _ _ _ _

theorem s_near (n : Int) (w : World) : Calls Tryd.prog 70 #[.int .i64 n] w fun e w' => e = .returned (.bool (near n)) ∧ w = w' := by
  go_enter Tryd.func70, Tryd.ntmps70
  go_wp2_with (go_at_call 56; refine (s_in_near _ _).mono ?_; rintro e w' ⟨rfl, rfl⟩)
  go_ret
  exact ⟨rfl, rfl⟩

set_option maxHeartbeats 400000 in
theorem i_valid (a b c d : Int) (w : World) : Calls Tryd.prog 60 #[.agg #[.int .i64 a, .int .i64 b, .int .i64 c, .int .i64 d]] w (Ret (.bool (okz ⟨a, b, c, d⟩)) w) := by
  unfold okz
  dsimp only
  cases ha : near a
  all_goals cases hb : near b
  all_goals cases hc : near c
  all_goals
    go_enter Tryd.func60, Tryd.ntmps60
    go_wp2_with (first | (go_at_call 61; refine (i_in_near _ _).mono ?_; rintro e w' ⟨rfl, rfl⟩))
    go_ret
    refine ret_eq (by simp) ?_
    repeat (first | (with_reducible exact Below.refl _ _) | (with_reducible assumption) | (with_reducible refine bl_alloc ?_ _) | (with_reducible refine bl_drew ?_) | (with_reducible refine bl_set ?_ (by simp <;> omega) _) | (with_reducible refine bl_call ?_ (by assumption)))
theorem i_valid_t {a b c d : Int} (w : World) (h : okz ⟨a, b, c, d⟩ = true) : Calls Tryd.prog 60 #[.agg #[.int .i64 a, .int .i64 b, .int .i64 c, .int .i64 d]] w (Ret (.bool true) w) := by
  have := i_valid a b c d w
  rwa [h] at this
theorem i_valid_f {a b c d : Int} (w : World) (h : okz ⟨a, b, c, d⟩ = false) : Calls Tryd.prog 60 #[.agg #[.int .i64 a, .int .i64 b, .int .i64 c, .int .i64 d]] w (Ret (.bool false) w) := by
  have := i_valid a b c d w
  rwa [h] at this
set_option maxHeartbeats 400000 in
theorem s_valid (a b c d : Int) (w : World) : Calls Tryd.prog 55 #[.agg #[.int .i64 a, .int .i64 b, .int .i64 c, .int .i64 d]] w (Ret (.bool (okz ⟨a, b, c, d⟩)) w) := by
  unfold okz
  dsimp only
  cases ha : near a
  all_goals cases hb : near b
  all_goals cases hc : near c
  all_goals
    go_enter Tryd.func55, Tryd.ntmps55
    go_wp2_with (first | (go_at_call 70; refine (s_near _ _).mono ?_; rintro e w' ⟨rfl, rfl⟩))
    go_ret
    refine ret_eq (by simp) ?_
    repeat (first | (with_reducible exact Below.refl _ _) | (with_reducible assumption) | (with_reducible refine bl_alloc ?_ _) | (with_reducible refine bl_drew ?_) | (with_reducible refine bl_set ?_ (by simp <;> omega) _) | (with_reducible refine bl_call ?_ (by assumption)))
theorem s_valid_t {a b c d : Int} (w : World) (h : okz ⟨a, b, c, d⟩ = true) : Calls Tryd.prog 55 #[.agg #[.int .i64 a, .int .i64 b, .int .i64 c, .int .i64 d]] w (Ret (.bool true) w) := by
  have := s_valid a b c d w
  rwa [h] at this
theorem s_valid_f {a b c d : Int} (w : World) (h : okz ⟨a, b, c, d⟩ = false) : Calls Tryd.prog 55 #[.agg #[.int .i64 a, .int .i64 b, .int .i64 c, .int .i64 d]] w (Ret (.bool false) w) := by
  have := s_valid a b c d w
  rwa [h] at this

set_option maxHeartbeats 400000 in
theorem toZ (a b c d : Int) (w : World) : Calls Tryd.prog 41 #[.agg #[.int .i64 a, .int .i64 b, .int .i64 c, .int .i64 d]] w (Ret (.agg #[.int .i64 a, .int .i64 b, .int .i64 c, .int .i64 d]) w) := by
  go_enter Tryd.func41, Tryd.ntmps41
  go_wp2
  refine bodyPost_ret (v := .agg #[.int .i64 a, .int .i64 b, .int .i64 c, .int .i64 d]) (by simp [results, Tryd.results41, go_sem]) rfl (ret_mk ?_)
  repeat (first | (with_reducible exact Below.refl _ _) | (with_reducible assumption) | (with_reducible refine bl_alloc ?_ _) | (with_reducible refine bl_drew ?_) | (with_reducible refine bl_set ?_ (by simp <;> omega) _) | (with_reducible refine bl_call ?_ (by assumption)))
set_option maxHeartbeats 400000 in
theorem toD (a b c d k : Int) (w : World) : Calls Tryd.prog 20 #[.agg #[.int .i64 a, .int .i64 b, .int .i64 c, .int .i64 d, .int .i64 k]] w (Ret (.agg #[.int .i64 a, .int .i64 b, .int .i64 c, .int .i64 d, .int .i64 k]) w) := by
  go_enter Tryd.func20, Tryd.ntmps20
  go_wp2_with (go_at_call 41; refine (toZ _ _ _ _ _).mono ?_; rintro e w1 ⟨rfl, hb1⟩; obtain ⟨hc1, hf1⟩ := bcell hb1; have hz1 := hb1.size; (try simp at hz1))
  refine bodyPost_ret (v := .agg #[.int .i64 a, .int .i64 b, .int .i64 c, .int .i64 d, .int .i64 k]) (by simp [results, Tryd.results20, go_sem, *]) rfl (ret_mk ?_)
  repeat (first | (with_reducible exact Below.refl _ _) | (with_reducible assumption) | (with_reducible refine bl_alloc ?_ _) | (with_reducible refine bl_drew ?_) | (with_reducible refine bl_set ?_ (by simp <;> omega) _) | (with_reducible refine bl_call ?_ (by assumption)))
set_option maxHeartbeats 400000 in
theorem eqZ (a b c d : Int) (w : World) : Calls Tryd.prog 51 #[.agg #[.int .i64 a, .int .i64 b, .int .i64 c, .int .i64 d], .agg #[.int .i64 a, .int .i64 b, .int .i64 c, .int .i64 d]] w (Ret (.bool true) w) := by
  go_enter Tryd.func51, Tryd.ntmps51
  go_wp2
  go_ret
  refine ret_mk ?_
  repeat (first | (with_reducible exact Below.refl _ _) | (with_reducible assumption) | (with_reducible refine bl_alloc ?_ _) | (with_reducible refine bl_drew ?_) | (with_reducible refine bl_set ?_ (by simp <;> omega) _) | (with_reducible refine bl_call ?_ (by assumption)))
set_option maxHeartbeats 400000 in
theorem eqD (a b c d k : Int) (w : World) : Calls Tryd.prog 33 #[.agg #[.int .i64 a, .int .i64 b, .int .i64 c, .int .i64 d, .int .i64 k], .agg #[.int .i64 a, .int .i64 b, .int .i64 c, .int .i64 d, .int .i64 k]] w (Ret (.bool true) w) := by
  go_enter Tryd.func33, Tryd.ntmps33
  go_wp2_with (go_at_call 51; refine (eqZ _ _ _ _ _).mono ?_; rintro e w1 ⟨rfl, hb1⟩; obtain ⟨hc1, hf1⟩ := bcell hb1; have hz1 := hb1.size; (try simp at hz1))
  go_ret
  refine ret_mk ?_
  repeat (first | (with_reducible exact Below.refl _ _) | (with_reducible assumption) | (with_reducible refine bl_alloc ?_ _) | (with_reducible refine bl_drew ?_) | (with_reducible refine bl_set ?_ (by simp <;> omega) _) | (with_reducible refine bl_call ?_ (by assumption)))
end Go.Proofs.YtbjmfapoioebjaaDoor
