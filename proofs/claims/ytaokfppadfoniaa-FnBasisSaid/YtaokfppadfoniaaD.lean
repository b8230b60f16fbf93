/- Contracts: validity and reality of D[omega] elements, the constants. -/
import Derived.Test.YtaokfppadfoniaaZ2
namespace Go.Proofs.Ytaokfppadfoniaa
open Go.RowKit

theorem divZ_some_okz {a b c d p q r s : Int} (h : divZ ⟨a, b, c, d⟩ = some ⟨p, q, r, s⟩) : okz ⟨a, b, c, d⟩ = true := (divZ_some h).1
theorem i_One (w : World) : Calls Try.prog 33 #[] w (Ret (.agg #[.int .i64 1, .int .i64 0, .int .i64 0, .int .i64 0, .int .i64 0]) w) := by
  go_enter Try.func33, Try.ntmps33
  go_wp2
  refine bodyPost_ret (v := .agg #[.int .i64 1, .int .i64 0, .int .i64 0, .int .i64 0, .int .i64 0]) (by simp [results, Try.results33, go_sem]) rfl (ret_mk ?_)
  repeat (first | (with_reducible exact Below.refl _ _) | (with_reducible assumption) | (with_reducible refine bl_alloc ?_ _) | (with_reducible refine bl_drew ?_) | (with_reducible refine bl_set ?_ (by simp <;> omega) _) | (with_reducible refine bl_call ?_ (by assumption)))
set_option maxHeartbeats 2000000 in
theorem i_okd (a b c d k : Int) (w : World) : Calls Try.prog 19 #[.agg #[.int .i64 a, .int .i64 b, .int .i64 c, .int .i64 d, .int .i64 k]] w (Ret (.bool (okd ⟨⟨a, b, c, d⟩, k⟩)) w) := by
  rcases hd : divZ ⟨a, b, c, d⟩ with _ | ⟨p, q, r, s⟩
  · cases h0 : okz ⟨a, b, c, d⟩
    · have ho : okd ⟨⟨a, b, c, d⟩, k⟩ = false := by simp [okd, h0]
      rw [ho]
      clear ho
      have HD := Lib.hid hd
      clear hd
      go_enter Try.func19, Try.ntmps19
      go_wp2_with fail
      refine (i_Div_none _ HD.out).mono ?_
      rintro e w1 ⟨rfl, hb1⟩
      obtain ⟨hc1, hf1⟩ := bcell hb1
      have hz1 := hb1.size
      (try simp at hz1)
      have l1w0 : w.heap.size < w1.heap.size := by omega
      have m1w0 : w.heap.size ≤ w1.heap.size := by omega
      have x1w0 : ¬ w.heap.size = w1.heap.size := by omega
      have y1w0 : ¬ w1.heap.size = w.heap.size := by omega
      go_wp2_with fail
      refine (i_valid_f _ h0).mono ?_
      rintro e w2 ⟨rfl, hb2⟩
      obtain ⟨hc2, hf2⟩ := bcell hb2
      have hz2 := hb2.size
      (try simp at hz2)
      have l2w0 : w.heap.size < w2.heap.size := by omega
      have m2w0 : w.heap.size ≤ w2.heap.size := by omega
      have x2w0 : ¬ w.heap.size = w2.heap.size := by omega
      have y2w0 : ¬ w2.heap.size = w.heap.size := by omega
      have l2w10 : w1.heap.size < w2.heap.size := by omega
      have m2w10 : w1.heap.size ≤ w2.heap.size := by omega
      have x2w10 : ¬ w1.heap.size = w2.heap.size := by omega
      have y2w10 : ¬ w2.heap.size = w1.heap.size := by omega
      go_wp2
      go_ret
      refine ret_mk ?_
      repeat (first | (with_reducible exact Below.refl _ _) | (with_reducible assumption) | (with_reducible refine bl_alloc ?_ _) | (with_reducible refine bl_drew ?_) | (with_reducible refine bl_set ?_ (by simp <;> omega) _) | (with_reducible refine bl_call ?_ (by assumption)))
    · cases hk : rng k
      · have ho : okd ⟨⟨a, b, c, d⟩, k⟩ = false := by simp [okd, hk]
        rw [ho]
        clear ho
        have HD := Lib.hid hd
        clear hd
        go_enter Try.func19, Try.ntmps19
        go_wp2_with fail
        refine (i_Div_none _ HD.out).mono ?_
        rintro e w1 ⟨rfl, hb1⟩
        obtain ⟨hc1, hf1⟩ := bcell hb1
        have hz1 := hb1.size
        (try simp at hz1)
        have l1w0 : w.heap.size < w1.heap.size := by omega
        have m1w0 : w.heap.size ≤ w1.heap.size := by omega
        have x1w0 : ¬ w.heap.size = w1.heap.size := by omega
        have y1w0 : ¬ w1.heap.size = w.heap.size := by omega
        go_wp2_with fail
        refine (i_valid_t _ h0).mono ?_
        rintro e w2 ⟨rfl, hb2⟩
        obtain ⟨hc2, hf2⟩ := bcell hb2
        have hz2 := hb2.size
        (try simp at hz2)
        have l2w0 : w.heap.size < w2.heap.size := by omega
        have m2w0 : w.heap.size ≤ w2.heap.size := by omega
        have x2w0 : ¬ w.heap.size = w2.heap.size := by omega
        have y2w0 : ¬ w2.heap.size = w.heap.size := by omega
        have l2w10 : w1.heap.size < w2.heap.size := by omega
        have m2w10 : w1.heap.size ≤ w2.heap.size := by omega
        have x2w10 : ¬ w1.heap.size = w2.heap.size := by omega
        have y2w10 : ¬ w2.heap.size = w1.heap.size := by omega
        go_wp2_with (go_at_call 71; refine (i_in_rng _ _).mono ?_; rintro e w' ⟨rfl, rfl⟩)
        go_ret
        refine ret_mk ?_
        repeat (first | (with_reducible exact Below.refl _ _) | (with_reducible assumption) | (with_reducible refine bl_alloc ?_ _) | (with_reducible refine bl_drew ?_) | (with_reducible refine bl_set ?_ (by simp <;> omega) _) | (with_reducible refine bl_call ?_ (by assumption)))
      · have ho : okd ⟨⟨a, b, c, d⟩, k⟩ = true := by simp [okd, h0, hk, hd]
        rw [ho]
        clear ho
        have HD := Lib.hid hd
        clear hd
        have hb : (k == 0) = true ∨ (k == 0) = false := by cases (k == 0) <;> simp
        rcases hb with hb | hb
        all_goals
          go_enter Try.func19, Try.ntmps19
          go_wp2_with fail
          refine (i_Div_none _ HD.out).mono ?_
          rintro e w1 ⟨rfl, hb1⟩
          obtain ⟨hc1, hf1⟩ := bcell hb1
          have hz1 := hb1.size
          (try simp at hz1)
          have l1w0 : w.heap.size < w1.heap.size := by omega
          have m1w0 : w.heap.size ≤ w1.heap.size := by omega
          have x1w0 : ¬ w.heap.size = w1.heap.size := by omega
          have y1w0 : ¬ w1.heap.size = w.heap.size := by omega
          go_wp2_with fail
          refine (i_valid_t _ h0).mono ?_
          rintro e w2 ⟨rfl, hb2⟩
          obtain ⟨hc2, hf2⟩ := bcell hb2
          have hz2 := hb2.size
          (try simp at hz2)
          have l2w0 : w.heap.size < w2.heap.size := by omega
          have m2w0 : w.heap.size ≤ w2.heap.size := by omega
          have x2w0 : ¬ w.heap.size = w2.heap.size := by omega
          have y2w0 : ¬ w2.heap.size = w.heap.size := by omega
          have l2w10 : w1.heap.size < w2.heap.size := by omega
          have m2w10 : w1.heap.size ≤ w2.heap.size := by omega
          have x2w10 : ¬ w1.heap.size = w2.heap.size := by omega
          have y2w10 : ¬ w2.heap.size = w1.heap.size := by omega
          go_wp2_with (go_at_call 71; refine (i_in_rng _ _).mono ?_; rintro e w' ⟨rfl, rfl⟩)
          go_ret
          refine ret_mk ?_
          repeat (first | (with_reducible exact Below.refl _ _) | (with_reducible assumption) | (with_reducible refine bl_alloc ?_ _) | (with_reducible refine bl_drew ?_) | (with_reducible refine bl_set ?_ (by simp <;> omega) _) | (with_reducible refine bl_call ?_ (by assumption)))
  · have h0 := divZ_some_okz hd
    cases hk : rng k
    · have ho : okd ⟨⟨a, b, c, d⟩, k⟩ = false := by simp [okd, hk]
      rw [ho]
      clear ho
      have HD := Lib.hid hd
      clear hd
      go_enter Try.func19, Try.ntmps19
      go_wp2_with fail
      refine (i_Div_some _ HD.out).mono ?_
      rintro e w1 ⟨rfl, hb1⟩
      obtain ⟨hc1, hf1⟩ := bcell hb1
      have hz1 := hb1.size
      (try simp at hz1)
      have l1w0 : w.heap.size < w1.heap.size := by omega
      have m1w0 : w.heap.size ≤ w1.heap.size := by omega
      have x1w0 : ¬ w.heap.size = w1.heap.size := by omega
      have y1w0 : ¬ w1.heap.size = w.heap.size := by omega
      go_wp2_with fail
      refine (i_valid_t _ h0).mono ?_
      rintro e w2 ⟨rfl, hb2⟩
      obtain ⟨hc2, hf2⟩ := bcell hb2
      have hz2 := hb2.size
      (try simp at hz2)
      have l2w0 : w.heap.size < w2.heap.size := by omega
      have m2w0 : w.heap.size ≤ w2.heap.size := by omega
      have x2w0 : ¬ w.heap.size = w2.heap.size := by omega
      have y2w0 : ¬ w2.heap.size = w.heap.size := by omega
      have l2w10 : w1.heap.size < w2.heap.size := by omega
      have m2w10 : w1.heap.size ≤ w2.heap.size := by omega
      have x2w10 : ¬ w1.heap.size = w2.heap.size := by omega
      have y2w10 : ¬ w2.heap.size = w1.heap.size := by omega
      go_wp2_with (go_at_call 71; refine (i_in_rng _ _).mono ?_; rintro e w' ⟨rfl, rfl⟩)
      go_ret
      refine ret_mk ?_
      repeat (first | (with_reducible exact Below.refl _ _) | (with_reducible assumption) | (with_reducible refine bl_alloc ?_ _) | (with_reducible refine bl_drew ?_) | (with_reducible refine bl_set ?_ (by simp <;> omega) _) | (with_reducible refine bl_call ?_ (by assumption)))
    · have ho : okd ⟨⟨a, b, c, d⟩, k⟩ = (k == 0) := by simp [okd, h0, hk, hd]
      rw [ho]
      clear ho
      have HD := Lib.hid hd
      clear hd
      have hb : (k == 0) = true ∨ (k == 0) = false := by cases (k == 0) <;> simp
      rcases hb with hb | hb
      all_goals
        rw [hb]
        go_enter Try.func19, Try.ntmps19
        go_wp2_with fail
        refine (i_Div_some _ HD.out).mono ?_
        rintro e w1 ⟨rfl, hb1⟩
        obtain ⟨hc1, hf1⟩ := bcell hb1
        have hz1 := hb1.size
        (try simp at hz1)
        have l1w0 : w.heap.size < w1.heap.size := by omega
        have m1w0 : w.heap.size ≤ w1.heap.size := by omega
        have x1w0 : ¬ w.heap.size = w1.heap.size := by omega
        have y1w0 : ¬ w1.heap.size = w.heap.size := by omega
        go_wp2_with fail
        refine (i_valid_t _ h0).mono ?_
        rintro e w2 ⟨rfl, hb2⟩
        obtain ⟨hc2, hf2⟩ := bcell hb2
        have hz2 := hb2.size
        (try simp at hz2)
        have l2w0 : w.heap.size < w2.heap.size := by omega
        have m2w0 : w.heap.size ≤ w2.heap.size := by omega
        have x2w0 : ¬ w.heap.size = w2.heap.size := by omega
        have y2w0 : ¬ w2.heap.size = w.heap.size := by omega
        have l2w10 : w1.heap.size < w2.heap.size := by omega
        have m2w10 : w1.heap.size ≤ w2.heap.size := by omega
        have x2w10 : ¬ w1.heap.size = w2.heap.size := by omega
        have y2w10 : ¬ w2.heap.size = w1.heap.size := by omega
        go_wp2_with (go_at_call 71; refine (i_in_rng _ _).mono ?_; rintro e w' ⟨rfl, rfl⟩)
        go_ret
        refine ret_mk ?_
        repeat (first | (with_reducible exact Below.refl _ _) | (with_reducible assumption) | (with_reducible refine bl_alloc ?_ _) | (with_reducible refine bl_drew ?_) | (with_reducible refine bl_set ?_ (by simp <;> omega) _) | (with_reducible refine bl_call ?_ (by assumption)))
theorem i_okd_t {a b c d k : Int} (w : World) (h : okd ⟨⟨a, b, c, d⟩, k⟩ = true) : Calls Try.prog 19 #[.agg #[.int .i64 a, .int .i64 b, .int .i64 c, .int .i64 d, .int .i64 k]] w (Ret (.bool true) w) := by
  have := i_okd a b c d k w
  rwa [h] at this
theorem i_okd_f {a b c d k : Int} (w : World) (h : okd ⟨⟨a, b, c, d⟩, k⟩ = false) : Calls Try.prog 19 #[.agg #[.int .i64 a, .int .i64 b, .int .i64 c, .int .i64 d, .int .i64 k]] w (Ret (.bool false) w) := by
  have := i_okd a b c d k w
  rwa [h] at this
theorem s_One (w : World) : Calls Try.prog 80 #[] w (Ret (.agg #[.int .i64 1, .int .i64 0, .int .i64 0, .int .i64 0, .int .i64 0]) w) := by
  go_enter Try.func80, Try.ntmps80
  go_wp2
  refine bodyPost_ret (v := .agg #[.int .i64 1, .int .i64 0, .int .i64 0, .int .i64 0, .int .i64 0]) (by simp [results, Try.results80, go_sem]) rfl (ret_mk ?_)
  repeat (first | (with_reducible exact Below.refl _ _) | (with_reducible assumption) | (with_reducible refine bl_alloc ?_ _) | (with_reducible refine bl_drew ?_) | (with_reducible refine bl_set ?_ (by simp <;> omega) _) | (with_reducible refine bl_call ?_ (by assumption)))
set_option maxHeartbeats 2000000 in
theorem s_okd (a b c d k : Int) (w : World) : Calls Try.prog 20 #[.agg #[.int .i64 a, .int .i64 b, .int .i64 c, .int .i64 d, .int .i64 k]] w (Ret (.bool (okd ⟨⟨a, b, c, d⟩, k⟩)) w) := by
  rcases hd : divZ ⟨a, b, c, d⟩ with _ | ⟨p, q, r, s⟩
  · cases h0 : okz ⟨a, b, c, d⟩
    · have ho : okd ⟨⟨a, b, c, d⟩, k⟩ = false := by simp [okd, h0]
      rw [ho]
      clear ho
      have HD := Lib.hid hd
      clear hd
      go_enter Try.func20, Try.ntmps20
      go_wp2_with fail
      refine (s_Div_none _ HD.out).mono ?_
      rintro e w1 ⟨rfl, hb1⟩
      obtain ⟨hc1, hf1⟩ := bcell hb1
      have hz1 := hb1.size
      (try simp at hz1)
      have l1w0 : w.heap.size < w1.heap.size := by omega
      have m1w0 : w.heap.size ≤ w1.heap.size := by omega
      have x1w0 : ¬ w.heap.size = w1.heap.size := by omega
      have y1w0 : ¬ w1.heap.size = w.heap.size := by omega
      go_wp2_with fail
      refine (s_valid_f _ h0).mono ?_
      rintro e w2 ⟨rfl, hb2⟩
      obtain ⟨hc2, hf2⟩ := bcell hb2
      have hz2 := hb2.size
      (try simp at hz2)
      have l2w0 : w.heap.size < w2.heap.size := by omega
      have m2w0 : w.heap.size ≤ w2.heap.size := by omega
      have x2w0 : ¬ w.heap.size = w2.heap.size := by omega
      have y2w0 : ¬ w2.heap.size = w.heap.size := by omega
      have l2w10 : w1.heap.size < w2.heap.size := by omega
      have m2w10 : w1.heap.size ≤ w2.heap.size := by omega
      have x2w10 : ¬ w1.heap.size = w2.heap.size := by omega
      have y2w10 : ¬ w2.heap.size = w1.heap.size := by omega
      go_wp2
      go_ret
      refine ret_mk ?_
      repeat (first | (with_reducible exact Below.refl _ _) | (with_reducible assumption) | (with_reducible refine bl_alloc ?_ _) | (with_reducible refine bl_drew ?_) | (with_reducible refine bl_set ?_ (by simp <;> omega) _) | (with_reducible refine bl_call ?_ (by assumption)))
    · cases hk : rng k
      · have ho : okd ⟨⟨a, b, c, d⟩, k⟩ = false := by simp [okd, hk]
        rw [ho]
        clear ho
        have HD := Lib.hid hd
        clear hd
        go_enter Try.func20, Try.ntmps20
        go_wp2_with fail
        refine (s_Div_none _ HD.out).mono ?_
        rintro e w1 ⟨rfl, hb1⟩
        obtain ⟨hc1, hf1⟩ := bcell hb1
        have hz1 := hb1.size
        (try simp at hz1)
        have l1w0 : w.heap.size < w1.heap.size := by omega
        have m1w0 : w.heap.size ≤ w1.heap.size := by omega
        have x1w0 : ¬ w.heap.size = w1.heap.size := by omega
        have y1w0 : ¬ w1.heap.size = w.heap.size := by omega
        go_wp2_with fail
        refine (s_valid_t _ h0).mono ?_
        rintro e w2 ⟨rfl, hb2⟩
        obtain ⟨hc2, hf2⟩ := bcell hb2
        have hz2 := hb2.size
        (try simp at hz2)
        have l2w0 : w.heap.size < w2.heap.size := by omega
        have m2w0 : w.heap.size ≤ w2.heap.size := by omega
        have x2w0 : ¬ w.heap.size = w2.heap.size := by omega
        have y2w0 : ¬ w2.heap.size = w.heap.size := by omega
        have l2w10 : w1.heap.size < w2.heap.size := by omega
        have m2w10 : w1.heap.size ≤ w2.heap.size := by omega
        have x2w10 : ¬ w1.heap.size = w2.heap.size := by omega
        have y2w10 : ¬ w2.heap.size = w1.heap.size := by omega
        go_wp2_with (go_at_call 74; refine (s_in_rng _ _).mono ?_; rintro e w' ⟨rfl, rfl⟩)
        go_ret
        refine ret_mk ?_
        repeat (first | (with_reducible exact Below.refl _ _) | (with_reducible assumption) | (with_reducible refine bl_alloc ?_ _) | (with_reducible refine bl_drew ?_) | (with_reducible refine bl_set ?_ (by simp <;> omega) _) | (with_reducible refine bl_call ?_ (by assumption)))
      · have ho : okd ⟨⟨a, b, c, d⟩, k⟩ = true := by simp [okd, h0, hk, hd]
        rw [ho]
        clear ho
        have HD := Lib.hid hd
        clear hd
        have hb : (k == 0) = true ∨ (k == 0) = false := by cases (k == 0) <;> simp
        rcases hb with hb | hb
        all_goals
          go_enter Try.func20, Try.ntmps20
          go_wp2_with fail
          refine (s_Div_none _ HD.out).mono ?_
          rintro e w1 ⟨rfl, hb1⟩
          obtain ⟨hc1, hf1⟩ := bcell hb1
          have hz1 := hb1.size
          (try simp at hz1)
          have l1w0 : w.heap.size < w1.heap.size := by omega
          have m1w0 : w.heap.size ≤ w1.heap.size := by omega
          have x1w0 : ¬ w.heap.size = w1.heap.size := by omega
          have y1w0 : ¬ w1.heap.size = w.heap.size := by omega
          go_wp2_with fail
          refine (s_valid_t _ h0).mono ?_
          rintro e w2 ⟨rfl, hb2⟩
          obtain ⟨hc2, hf2⟩ := bcell hb2
          have hz2 := hb2.size
          (try simp at hz2)
          have l2w0 : w.heap.size < w2.heap.size := by omega
          have m2w0 : w.heap.size ≤ w2.heap.size := by omega
          have x2w0 : ¬ w.heap.size = w2.heap.size := by omega
          have y2w0 : ¬ w2.heap.size = w.heap.size := by omega
          have l2w10 : w1.heap.size < w2.heap.size := by omega
          have m2w10 : w1.heap.size ≤ w2.heap.size := by omega
          have x2w10 : ¬ w1.heap.size = w2.heap.size := by omega
          have y2w10 : ¬ w2.heap.size = w1.heap.size := by omega
          go_wp2_with (go_at_call 74; refine (s_in_rng _ _).mono ?_; rintro e w' ⟨rfl, rfl⟩)
          go_ret
          refine ret_mk ?_
          repeat (first | (with_reducible exact Below.refl _ _) | (with_reducible assumption) | (with_reducible refine bl_alloc ?_ _) | (with_reducible refine bl_drew ?_) | (with_reducible refine bl_set ?_ (by simp <;> omega) _) | (with_reducible refine bl_call ?_ (by assumption)))
  · have h0 := divZ_some_okz hd
    cases hk : rng k
    · have ho : okd ⟨⟨a, b, c, d⟩, k⟩ = false := by simp [okd, hk]
      rw [ho]
      clear ho
      have HD := Lib.hid hd
      clear hd
      go_enter Try.func20, Try.ntmps20
      go_wp2_with fail
      refine (s_Div_some _ HD.out).mono ?_
      rintro e w1 ⟨rfl, hb1⟩
      obtain ⟨hc1, hf1⟩ := bcell hb1
      have hz1 := hb1.size
      (try simp at hz1)
      have l1w0 : w.heap.size < w1.heap.size := by omega
      have m1w0 : w.heap.size ≤ w1.heap.size := by omega
      have x1w0 : ¬ w.heap.size = w1.heap.size := by omega
      have y1w0 : ¬ w1.heap.size = w.heap.size := by omega
      go_wp2_with fail
      refine (s_valid_t _ h0).mono ?_
      rintro e w2 ⟨rfl, hb2⟩
      obtain ⟨hc2, hf2⟩ := bcell hb2
      have hz2 := hb2.size
      (try simp at hz2)
      have l2w0 : w.heap.size < w2.heap.size := by omega
      have m2w0 : w.heap.size ≤ w2.heap.size := by omega
      have x2w0 : ¬ w.heap.size = w2.heap.size := by omega
      have y2w0 : ¬ w2.heap.size = w.heap.size := by omega
      have l2w10 : w1.heap.size < w2.heap.size := by omega
      have m2w10 : w1.heap.size ≤ w2.heap.size := by omega
      have x2w10 : ¬ w1.heap.size = w2.heap.size := by omega
      have y2w10 : ¬ w2.heap.size = w1.heap.size := by omega
      go_wp2_with (go_at_call 74; refine (s_in_rng _ _).mono ?_; rintro e w' ⟨rfl, rfl⟩)
      go_ret
      refine ret_mk ?_
      repeat (first | (with_reducible exact Below.refl _ _) | (with_reducible assumption) | (with_reducible refine bl_alloc ?_ _) | (with_reducible refine bl_drew ?_) | (with_reducible refine bl_set ?_ (by simp <;> omega) _) | (with_reducible refine bl_call ?_ (by assumption)))
    · have ho : okd ⟨⟨a, b, c, d⟩, k⟩ = (k == 0) := by simp [okd, h0, hk, hd]
      rw [ho]
      clear ho
      have HD := Lib.hid hd
      clear hd
      have hb : (k == 0) = true ∨ (k == 0) = false := by cases (k == 0) <;> simp
      rcases hb with hb | hb
      all_goals
        rw [hb]
        go_enter Try.func20, Try.ntmps20
        go_wp2_with fail
        refine (s_Div_some _ HD.out).mono ?_
        rintro e w1 ⟨rfl, hb1⟩
        obtain ⟨hc1, hf1⟩ := bcell hb1
        have hz1 := hb1.size
        (try simp at hz1)
        have l1w0 : w.heap.size < w1.heap.size := by omega
        have m1w0 : w.heap.size ≤ w1.heap.size := by omega
        have x1w0 : ¬ w.heap.size = w1.heap.size := by omega
        have y1w0 : ¬ w1.heap.size = w.heap.size := by omega
        go_wp2_with fail
        refine (s_valid_t _ h0).mono ?_
        rintro e w2 ⟨rfl, hb2⟩
        obtain ⟨hc2, hf2⟩ := bcell hb2
        have hz2 := hb2.size
        (try simp at hz2)
        have l2w0 : w.heap.size < w2.heap.size := by omega
        have m2w0 : w.heap.size ≤ w2.heap.size := by omega
        have x2w0 : ¬ w.heap.size = w2.heap.size := by omega
        have y2w0 : ¬ w2.heap.size = w.heap.size := by omega
        have l2w10 : w1.heap.size < w2.heap.size := by omega
        have m2w10 : w1.heap.size ≤ w2.heap.size := by omega
        have x2w10 : ¬ w1.heap.size = w2.heap.size := by omega
        have y2w10 : ¬ w2.heap.size = w1.heap.size := by omega
        go_wp2_with (go_at_call 74; refine (s_in_rng _ _).mono ?_; rintro e w' ⟨rfl, rfl⟩)
        go_ret
        refine ret_mk ?_
        repeat (first | (with_reducible exact Below.refl _ _) | (with_reducible assumption) | (with_reducible refine bl_alloc ?_ _) | (with_reducible refine bl_drew ?_) | (with_reducible refine bl_set ?_ (by simp <;> omega) _) | (with_reducible refine bl_call ?_ (by assumption)))
theorem s_okd_t {a b c d k : Int} (w : World) (h : okd ⟨⟨a, b, c, d⟩, k⟩ = true) : Calls Try.prog 20 #[.agg #[.int .i64 a, .int .i64 b, .int .i64 c, .int .i64 d, .int .i64 k]] w (Ret (.bool true) w) := by
  have := s_okd a b c d k w
  rwa [h] at this
theorem s_okd_f {a b c d k : Int} (w : World) (h : okd ⟨⟨a, b, c, d⟩, k⟩ = false) : Calls Try.prog 20 #[.agg #[.int .i64 a, .int .i64 b, .int .i64 c, .int .i64 d, .int .i64 k]] w (Ret (.bool false) w) := by
  have := s_okd a b c d k w
  rwa [h] at this
end Go.Proofs.Ytaokfppadfoniaa
