/- Contracts: negation, the two conjugations, division by the square root of 2. -/
import Derived.Test.YtaokfppadfoniaaZ
namespace Go.Proofs.Ytaokfppadfoniaa
open Go.RowKit


set_option maxHeartbeats 400000 in
theorem i_ConjZ_t {a b c d : Int} (w : World) (h : okz ⟨a, b, c, d⟩ = true) : Calls Try.prog 94 #[.agg #[.int .i64 a, .int .i64 b, .int .i64 c, .int .i64 d]] w (Ret (.agg #[.int .i64 a, .int .i64 (-d), .int .i64 (-c), .int .i64 (-b)]) w) := by
  obtain ⟨⟨a0, a1⟩, ⟨b0, b1⟩, ⟨c0, c1⟩, ⟨d0, d1⟩⟩ := okz_b h
  go_enter Try.func94, Try.ntmps94
  go_wp2_with (go_at_call 70; refine (i_valid_t _ h).mono ?_; rintro e w1 ⟨rfl, hb1⟩; obtain ⟨hc1, hf1⟩ := bcell hb1; have hz1 := hb1.size; (try simp at hz1))
  refine bodyPost_ret (v := .agg #[.int .i64 a, .int .i64 (-d), .int .i64 (-c), .int .i64 (-b)]) (by simp [results, Try.results94, go_sem, *]) rfl (ret_mk ?_)
  repeat (first | (with_reducible exact Below.refl _ _) | (with_reducible assumption) | (with_reducible refine bl_alloc ?_ _) | (with_reducible refine bl_drew ?_) | (with_reducible refine bl_set ?_ (by simp <;> omega) _) | (with_reducible refine bl_call ?_ (by assumption)))
set_option maxHeartbeats 400000 in
theorem i_ConjZ_f {a b c d : Int} (w : World) (h : okz ⟨a, b, c, d⟩ = false) : Calls Try.prog 94 #[.agg #[.int .i64 a, .int .i64 b, .int .i64 c, .int .i64 d]] w (Ret (.agg #[.int .i64 0, .int .i64 0, .int .i64 0, .int .i64 0]) w) := by
  go_enter Try.func94, Try.ntmps94
  go_wp2_with (go_at_call 70; refine (i_valid_f _ h).mono ?_; rintro e w1 ⟨rfl, hb1⟩; obtain ⟨hc1, hf1⟩ := bcell hb1; have hz1 := hb1.size; (try simp at hz1))
  refine bodyPost_ret (v := .agg #[.int .i64 0, .int .i64 0, .int .i64 0, .int .i64 0]) (by simp [results, Try.results94, go_sem, *]) rfl (ret_mk ?_)
  repeat (first | (with_reducible exact Below.refl _ _) | (with_reducible assumption) | (with_reducible refine bl_alloc ?_ _) | (with_reducible refine bl_drew ?_) | (with_reducible refine bl_set ?_ (by simp <;> omega) _) | (with_reducible refine bl_call ?_ (by assumption)))

set_option maxHeartbeats 1000000 in
theorem i_Div_some {a b c d p q r s : Int} (w : World) (h : divZ ⟨a, b, c, d⟩ = some ⟨p, q, r, s⟩) : Calls Try.prog 72 #[.agg #[.int .i64 a, .int .i64 b, .int .i64 c, .int .i64 d]] w (Ret (.tuple #[.agg #[.int .i64 p, .int .i64 q, .int .i64 r, .int .i64 s], .bool true]) w) := by
  obtain ⟨h0, h1, h2, h3, h4⟩ := divZ_some h
  obtain ⟨⟨a0, a1⟩, ⟨b0, b1⟩, ⟨c0, c1⟩, ⟨d0, d1⟩⟩ := okz_b h0
  obtain ⟨⟨p0, p1⟩, ⟨q0, q1⟩, ⟨r0, r1⟩, ⟨s0, s1⟩⟩ := okz_b (divZ_okz h)
  obtain ⟨m1, e1⟩ := tmod2_zero h1
  obtain ⟨m2, e2⟩ := tmod2_zero h2
  obtain ⟨m3, e3⟩ := tmod2_zero h3
  obtain ⟨m4, e4⟩ := tmod2_zero h4
  clear h h1 h2 h3 h4
  go_enter Try.func72, Try.ntmps72
  go_wp2_with fail
  refine (i_valid_t _ h0).mono ?_
  rintro e w1 ⟨rfl, hb1⟩
  obtain ⟨hc1, hf1⟩ := bcell hb1
  have hz1 := hb1.size
  (try simp at hz1)
  have l1w0 : w.heap.size < w1.heap.size := by omega
  have m1w0 : w.heap.size ≤ w1.heap.size := by omega
  have x1w0 : ¬ w.heap.size = w1.heap.size := by omega
  have y1w0 : ¬ w1.heap.size = w.heap.size := by omega
  have l1w1 : w.heap.size + 1 < w1.heap.size := by omega
  have m1w1 : w.heap.size + 1 ≤ w1.heap.size := by omega
  have x1w1 : ¬ w.heap.size + 1 = w1.heap.size := by omega
  have y1w1 : ¬ w1.heap.size = w.heap.size + 1 := by omega
  go_wp2
  refine bodyPost_ret (v := .tuple #[.agg #[.int .i64 p, .int .i64 q, .int .i64 r, .int .i64 s], .bool true]) (by simp [results, Try.results72, go_sem, *]) rfl (ret_mk ?_)
  repeat (first | (with_reducible exact Below.refl _ _) | (with_reducible assumption) | (with_reducible refine bl_alloc ?_ _) | (with_reducible refine bl_drew ?_) | (with_reducible refine bl_set ?_ (by simp <;> omega) _) | (with_reducible refine bl_call ?_ (by assumption)))
set_option maxHeartbeats 1000000 in
theorem i_Div_none {a b c d : Int} (w : World) (h : divZ ⟨a, b, c, d⟩ = none) : Calls Try.prog 72 #[.agg #[.int .i64 a, .int .i64 b, .int .i64 c, .int .i64 d]] w (Ret (.tuple #[.agg #[.int .i64 0, .int .i64 0, .int .i64 0, .int .i64 0], .bool false]) w) := by
  rcases divZ_none h with h0 | ⟨h0, h1⟩ | ⟨h0, h1, h2⟩
  · clear h
    go_enter Try.func72, Try.ntmps72
    go_wp2_with fail
    refine (i_valid_f _ h0).mono ?_
    rintro e w1 ⟨rfl, hb1⟩
    obtain ⟨hc1, hf1⟩ := bcell hb1
    have hz1 := hb1.size
    (try simp at hz1)
    have l1w0 : w.heap.size < w1.heap.size := by omega
    have m1w0 : w.heap.size ≤ w1.heap.size := by omega
    have x1w0 : ¬ w.heap.size = w1.heap.size := by omega
    have y1w0 : ¬ w1.heap.size = w.heap.size := by omega
    have l1w1 : w.heap.size + 1 < w1.heap.size := by omega
    have m1w1 : w.heap.size + 1 ≤ w1.heap.size := by omega
    have x1w1 : ¬ w.heap.size + 1 = w1.heap.size := by omega
    have y1w1 : ¬ w1.heap.size = w.heap.size + 1 := by omega
    go_wp2
    refine bodyPost_ret (v := .tuple #[.agg #[.int .i64 0, .int .i64 0, .int .i64 0, .int .i64 0], .bool false]) (by simp [results, Try.results72, go_sem, *]) rfl (ret_mk ?_)
    repeat (first | (with_reducible exact Below.refl _ _) | (with_reducible assumption) | (with_reducible refine bl_alloc ?_ _) | (with_reducible refine bl_drew ?_) | (with_reducible refine bl_set ?_ (by simp <;> omega) _) | (with_reducible refine bl_call ?_ (by assumption)))
  · obtain ⟨⟨a0, a1⟩, ⟨b0, b1⟩, ⟨c0, c1⟩, ⟨d0, d1⟩⟩ := okz_b h0
    have m1 := tmod2_odd h1
    clear h h1
    go_enter Try.func72, Try.ntmps72
    go_wp2_with fail
    refine (i_valid_t _ h0).mono ?_
    rintro e w1 ⟨rfl, hb1⟩
    obtain ⟨hc1, hf1⟩ := bcell hb1
    have hz1 := hb1.size
    (try simp at hz1)
    have l1w0 : w.heap.size < w1.heap.size := by omega
    have m1w0 : w.heap.size ≤ w1.heap.size := by omega
    have x1w0 : ¬ w.heap.size = w1.heap.size := by omega
    have y1w0 : ¬ w1.heap.size = w.heap.size := by omega
    have l1w1 : w.heap.size + 1 < w1.heap.size := by omega
    have m1w1 : w.heap.size + 1 ≤ w1.heap.size := by omega
    have x1w1 : ¬ w.heap.size + 1 = w1.heap.size := by omega
    have y1w1 : ¬ w1.heap.size = w.heap.size + 1 := by omega
    go_wp2
    refine bodyPost_ret (v := .tuple #[.agg #[.int .i64 0, .int .i64 0, .int .i64 0, .int .i64 0], .bool false]) (by simp [results, Try.results72, go_sem, *]) rfl (ret_mk ?_)
    repeat (first | (with_reducible exact Below.refl _ _) | (with_reducible assumption) | (with_reducible refine bl_alloc ?_ _) | (with_reducible refine bl_drew ?_) | (with_reducible refine bl_set ?_ (by simp <;> omega) _) | (with_reducible refine bl_call ?_ (by assumption)))
  · obtain ⟨⟨a0, a1⟩, ⟨b0, b1⟩, ⟨c0, c1⟩, ⟨d0, d1⟩⟩ := okz_b h0
    have m1 := tmod2_even h1
    have m2 := tmod2_odd h2
    clear h h1 h2
    go_enter Try.func72, Try.ntmps72
    go_wp2_with fail
    refine (i_valid_t _ h0).mono ?_
    rintro e w1 ⟨rfl, hb1⟩
    obtain ⟨hc1, hf1⟩ := bcell hb1
    have hz1 := hb1.size
    (try simp at hz1)
    have l1w0 : w.heap.size < w1.heap.size := by omega
    have m1w0 : w.heap.size ≤ w1.heap.size := by omega
    have x1w0 : ¬ w.heap.size = w1.heap.size := by omega
    have y1w0 : ¬ w1.heap.size = w.heap.size := by omega
    have l1w1 : w.heap.size + 1 < w1.heap.size := by omega
    have m1w1 : w.heap.size + 1 ≤ w1.heap.size := by omega
    have x1w1 : ¬ w.heap.size + 1 = w1.heap.size := by omega
    have y1w1 : ¬ w1.heap.size = w.heap.size + 1 := by omega
    go_wp2
    refine bodyPost_ret (v := .tuple #[.agg #[.int .i64 0, .int .i64 0, .int .i64 0, .int .i64 0], .bool false]) (by simp [results, Try.results72, go_sem, *]) rfl (ret_mk ?_)
    repeat (first | (with_reducible exact Below.refl _ _) | (with_reducible assumption) | (with_reducible refine bl_alloc ?_ _) | (with_reducible refine bl_drew ?_) | (with_reducible refine bl_set ?_ (by simp <;> omega) _) | (with_reducible refine bl_call ?_ (by assumption)))

set_option maxHeartbeats 400000 in
theorem s_ConjZ_t {a b c d : Int} (w : World) (h : okz ⟨a, b, c, d⟩ = true) : Calls Try.prog 108 #[.agg #[.int .i64 a, .int .i64 b, .int .i64 c, .int .i64 d]] w (Ret (.agg #[.int .i64 a, .int .i64 (-d), .int .i64 (-c), .int .i64 (-b)]) w) := by
  obtain ⟨⟨a0, a1⟩, ⟨b0, b1⟩, ⟨c0, c1⟩, ⟨d0, d1⟩⟩ := okz_b h
  go_enter Try.func108, Try.ntmps108
  go_wp2_with (go_at_call 73; refine (s_valid_t _ h).mono ?_; rintro e w1 ⟨rfl, hb1⟩; obtain ⟨hc1, hf1⟩ := bcell hb1; have hz1 := hb1.size; (try simp at hz1))
  refine bodyPost_ret (v := .agg #[.int .i64 a, .int .i64 (-d), .int .i64 (-c), .int .i64 (-b)]) (by simp [results, Try.results108, go_sem, *]) rfl (ret_mk ?_)
  repeat (first | (with_reducible exact Below.refl _ _) | (with_reducible assumption) | (with_reducible refine bl_alloc ?_ _) | (with_reducible refine bl_drew ?_) | (with_reducible refine bl_set ?_ (by simp <;> omega) _) | (with_reducible refine bl_call ?_ (by assumption)))
set_option maxHeartbeats 400000 in
theorem s_ConjZ_f {a b c d : Int} (w : World) (h : okz ⟨a, b, c, d⟩ = false) : Calls Try.prog 108 #[.agg #[.int .i64 a, .int .i64 b, .int .i64 c, .int .i64 d]] w (Ret (.agg #[.int .i64 0, .int .i64 0, .int .i64 0, .int .i64 0]) w) := by
  go_enter Try.func108, Try.ntmps108
  go_wp2_with (go_at_call 73; refine (s_valid_f _ h).mono ?_; rintro e w1 ⟨rfl, hb1⟩; obtain ⟨hc1, hf1⟩ := bcell hb1; have hz1 := hb1.size; (try simp at hz1))
  refine bodyPost_ret (v := .agg #[.int .i64 0, .int .i64 0, .int .i64 0, .int .i64 0]) (by simp [results, Try.results108, go_sem, *]) rfl (ret_mk ?_)
  repeat (first | (with_reducible exact Below.refl _ _) | (with_reducible assumption) | (with_reducible refine bl_alloc ?_ _) | (with_reducible refine bl_drew ?_) | (with_reducible refine bl_set ?_ (by simp <;> omega) _) | (with_reducible refine bl_call ?_ (by assumption)))

set_option maxHeartbeats 1000000 in
theorem s_Div_some {a b c d p q r s : Int} (w : World) (h : divZ ⟨a, b, c, d⟩ = some ⟨p, q, r, s⟩) : Calls Try.prog 75 #[.agg #[.int .i64 a, .int .i64 b, .int .i64 c, .int .i64 d]] w (Ret (.tuple #[.agg #[.int .i64 p, .int .i64 q, .int .i64 r, .int .i64 s], .bool true]) w) := by
  obtain ⟨h0, h1, h2, h3, h4⟩ := divZ_some h
  obtain ⟨⟨a0, a1⟩, ⟨b0, b1⟩, ⟨c0, c1⟩, ⟨d0, d1⟩⟩ := okz_b h0
  obtain ⟨⟨p0, p1⟩, ⟨q0, q1⟩, ⟨r0, r1⟩, ⟨s0, s1⟩⟩ := okz_b (divZ_okz h)
  obtain ⟨m1, e1⟩ := tmod2_zero h1
  obtain ⟨m2, e2⟩ := tmod2_zero h2
  obtain ⟨m3, e3⟩ := tmod2_zero h3
  obtain ⟨m4, e4⟩ := tmod2_zero h4
  clear h h1 h2 h3 h4
  go_enter Try.func75, Try.ntmps75
  go_wp2_with fail
  refine (s_valid_t _ h0).mono ?_
  rintro e w1 ⟨rfl, hb1⟩
  obtain ⟨hc1, hf1⟩ := bcell hb1
  have hz1 := hb1.size
  (try simp at hz1)
  have l1w0 : w.heap.size < w1.heap.size := by omega
  have m1w0 : w.heap.size ≤ w1.heap.size := by omega
  have x1w0 : ¬ w.heap.size = w1.heap.size := by omega
  have y1w0 : ¬ w1.heap.size = w.heap.size := by omega
  have l1w1 : w.heap.size + 1 < w1.heap.size := by omega
  have m1w1 : w.heap.size + 1 ≤ w1.heap.size := by omega
  have x1w1 : ¬ w.heap.size + 1 = w1.heap.size := by omega
  have y1w1 : ¬ w1.heap.size = w.heap.size + 1 := by omega
  go_wp2
  refine bodyPost_ret (v := .tuple #[.agg #[.int .i64 p, .int .i64 q, .int .i64 r, .int .i64 s], .bool true]) (by simp [results, Try.results75, go_sem, *]) rfl (ret_mk ?_)
  repeat (first | (with_reducible exact Below.refl _ _) | (with_reducible assumption) | (with_reducible refine bl_alloc ?_ _) | (with_reducible refine bl_drew ?_) | (with_reducible refine bl_set ?_ (by simp <;> omega) _) | (with_reducible refine bl_call ?_ (by assumption)))
set_option maxHeartbeats 1000000 in
theorem s_Div_none {a b c d : Int} (w : World) (h : divZ ⟨a, b, c, d⟩ = none) : Calls Try.prog 75 #[.agg #[.int .i64 a, .int .i64 b, .int .i64 c, .int .i64 d]] w (Ret (.tuple #[.agg #[.int .i64 0, .int .i64 0, .int .i64 0, .int .i64 0], .bool false]) w) := by
  rcases divZ_none h with h0 | ⟨h0, h1⟩ | ⟨h0, h1, h2⟩
  · clear h
    go_enter Try.func75, Try.ntmps75
    go_wp2_with fail
    refine (s_valid_f _ h0).mono ?_
    rintro e w1 ⟨rfl, hb1⟩
    obtain ⟨hc1, hf1⟩ := bcell hb1
    have hz1 := hb1.size
    (try simp at hz1)
    have l1w0 : w.heap.size < w1.heap.size := by omega
    have m1w0 : w.heap.size ≤ w1.heap.size := by omega
    have x1w0 : ¬ w.heap.size = w1.heap.size := by omega
    have y1w0 : ¬ w1.heap.size = w.heap.size := by omega
    have l1w1 : w.heap.size + 1 < w1.heap.size := by omega
    have m1w1 : w.heap.size + 1 ≤ w1.heap.size := by omega
    have x1w1 : ¬ w.heap.size + 1 = w1.heap.size := by omega
    have y1w1 : ¬ w1.heap.size = w.heap.size + 1 := by omega
    go_wp2
    refine bodyPost_ret (v := .tuple #[.agg #[.int .i64 0, .int .i64 0, .int .i64 0, .int .i64 0], .bool false]) (by simp [results, Try.results75, go_sem, *]) rfl (ret_mk ?_)
    repeat (first | (with_reducible exact Below.refl _ _) | (with_reducible assumption) | (with_reducible refine bl_alloc ?_ _) | (with_reducible refine bl_drew ?_) | (with_reducible refine bl_set ?_ (by simp <;> omega) _) | (with_reducible refine bl_call ?_ (by assumption)))
  · obtain ⟨⟨a0, a1⟩, ⟨b0, b1⟩, ⟨c0, c1⟩, ⟨d0, d1⟩⟩ := okz_b h0
    have m1 := tmod2_odd h1
    clear h h1
    go_enter Try.func75, Try.ntmps75
    go_wp2_with fail
    refine (s_valid_t _ h0).mono ?_
    rintro e w1 ⟨rfl, hb1⟩
    obtain ⟨hc1, hf1⟩ := bcell hb1
    have hz1 := hb1.size
    (try simp at hz1)
    have l1w0 : w.heap.size < w1.heap.size := by omega
    have m1w0 : w.heap.size ≤ w1.heap.size := by omega
    have x1w0 : ¬ w.heap.size = w1.heap.size := by omega
    have y1w0 : ¬ w1.heap.size = w.heap.size := by omega
    have l1w1 : w.heap.size + 1 < w1.heap.size := by omega
    have m1w1 : w.heap.size + 1 ≤ w1.heap.size := by omega
    have x1w1 : ¬ w.heap.size + 1 = w1.heap.size := by omega
    have y1w1 : ¬ w1.heap.size = w.heap.size + 1 := by omega
    go_wp2
    refine bodyPost_ret (v := .tuple #[.agg #[.int .i64 0, .int .i64 0, .int .i64 0, .int .i64 0], .bool false]) (by simp [results, Try.results75, go_sem, *]) rfl (ret_mk ?_)
    repeat (first | (with_reducible exact Below.refl _ _) | (with_reducible assumption) | (with_reducible refine bl_alloc ?_ _) | (with_reducible refine bl_drew ?_) | (with_reducible refine bl_set ?_ (by simp <;> omega) _) | (with_reducible refine bl_call ?_ (by assumption)))
  · obtain ⟨⟨a0, a1⟩, ⟨b0, b1⟩, ⟨c0, c1⟩, ⟨d0, d1⟩⟩ := okz_b h0
    have m1 := tmod2_even h1
    have m2 := tmod2_odd h2
    clear h h1 h2
    go_enter Try.func75, Try.ntmps75
    go_wp2_with fail
    refine (s_valid_t _ h0).mono ?_
    rintro e w1 ⟨rfl, hb1⟩
    obtain ⟨hc1, hf1⟩ := bcell hb1
    have hz1 := hb1.size
    (try simp at hz1)
    have l1w0 : w.heap.size < w1.heap.size := by omega
    have m1w0 : w.heap.size ≤ w1.heap.size := by omega
    have x1w0 : ¬ w.heap.size = w1.heap.size := by omega
    have y1w0 : ¬ w1.heap.size = w.heap.size := by omega
    have l1w1 : w.heap.size + 1 < w1.heap.size := by omega
    have m1w1 : w.heap.size + 1 ≤ w1.heap.size := by omega
    have x1w1 : ¬ w.heap.size + 1 = w1.heap.size := by omega
    have y1w1 : ¬ w1.heap.size = w.heap.size + 1 := by omega
    go_wp2
    refine bodyPost_ret (v := .tuple #[.agg #[.int .i64 0, .int .i64 0, .int .i64 0, .int .i64 0], .bool false]) (by simp [results, Try.results75, go_sem, *]) rfl (ret_mk ?_)
    repeat (first | (with_reducible exact Below.refl _ _) | (with_reducible assumption) | (with_reducible refine bl_alloc ?_ _) | (with_reducible refine bl_drew ?_) | (with_reducible refine bl_set ?_ (by simp <;> omega) _) | (with_reducible refine bl_call ?_ (by assumption)))
end Go.Proofs.Ytaokfppadfoniaa
