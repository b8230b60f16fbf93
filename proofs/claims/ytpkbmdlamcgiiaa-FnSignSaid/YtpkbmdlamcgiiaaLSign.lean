/-
  Proved: for every input the Go function FnSign returns true (the program's function returns what the reference's returns), and its arguments read as before.
  Conditions: none beyond the given statement.
-/
import Derived.Test.YtpkbmdlamcgiiaaCloseB
import Derived.Deep.RegionHeld3
import Derived.Test.YtpkbmdlamcgiiaaPure6
import Derived.Test.YtpkbmdlamcgiiaaRS
import Derived.Test.YtpkbmdlamcgiiaaD2
import Derived.Test.YtpkbmdlamcgiiaaDr4
import Derived.Test.YtpkbmdlamcgiiaaEq
import Derived.Test.YtpkbmdlamcgiiaaOwn
namespace Go.Proofs.Ytpkbmdlamcgiiaa.fnSign
open Go.Proofs.Ytpkbmdlamcgiiaa
open Go.ChangeShapes Go.WideShapes Go.ChangeAt Go.RowKit
set_option linter.unusedVariables false
attribute [local go_sem ↓ high] eqlD neqD eqlZ neqZ

set_option maxHeartbeats 2000000 in
theorem walk (A0 : Option Addr) (n0 cp0 : Nat) (w : World) (hR0 : RB w w.heap.size A0 n0) (hn0 : n0 ≤ 9223372036854775807) (hc0 : n0 ≤ cp0) :
    Calls Try.prog 12 #[.slice A0 n0 cp0] w (Ret (.bool true) w) := by
  by_cases hbig : n0 ≤ 1048576
  rotate_left
  · go_enter Try.func12, Try.ntmps12
    go_wp2_with fail
    refine (l_big_t _ _ _ _ (by omega)).mono ?_
    rintro e w' ⟨rfl, rfl⟩
    go_wp2
    go_ret
    exact ret_mk (Below.refl _ _)
  have HR := Lib.hid hR0
  clear hR0
  go_enter Try.func12, Try.ntmps12
  go_wp2_with fail
  refine (l_big_f _ _ _ _ hbig).mono ?_
  rintro e w' ⟨rfl, rfl⟩
  go_wp2_with fail
  refine (d_DrawRS A0 n0 cp0 _ HR.out hn0).mono ?_
  rintro e w1 ⟨a, b, c, d, k, rfl, hb⟩
  have T1 : Own w w1 [] := (Own.start w).call hb
  clear hb
  go_wp2_with fail
  have T1' := T1.push 29 #[.int .i64 a, .int .i64 b, .int .i64 c, .int .i64 d, .int .i64 k]
  refine (l_tail A0 n0 cp0 _ ((HR.out.keep T1'.below).more T1'.below.size) hn0 hc0).mono ?_
  rintro e w' ⟨At, nt, ct, rfl, hR1, hn1, rfl⟩
  have HR1 := Lib.hid hR1
  clear hR1 T1'
  go_wp2_with fail
  refine (d_DrawRS At nt ct _ HR1.out hn1).mono ?_
  rintro e w2 ⟨p, q, r, s, l, rfl, hb⟩
  have T2 : Own w w2 [(w1.heap.size, 29, #[.int .i64 a, .int .i64 b, .int .i64 c, .int .i64 d, .int .i64 k])] := by simpa using ((T1.push 29 #[.int .i64 a, .int .i64 b, .int .i64 c, .int .i64 d, .int .i64 k])).call hb
  clear hb T1
  obtain ⟨c2_0_0, c2_0_1, c2_0_2, c2_0_3, c2_0_4, -, -, -, -, -⟩ := T2.head.five
  have l2_0 := T2.head.lt
  have nx2_0 := Nat.ne_of_lt l2_0
  have ny2_0 := Nat.ne_of_gt l2_0
  have le2_0 := Nat.le_of_lt l2_0
  obtain ⟨u, hu⟩ : ∃ u, realSign ⟨⟨a, b, c, d⟩, k⟩ = u := ⟨_, rfl⟩
  obtain ⟨v, hv⟩ : ∃ v, realSign ⟨⟨p, q, r, s⟩, l⟩ = v := ⟨_, rfl⟩
  have hur : u = -1 ∨ u = 0 ∨ u = 1 := by rw [← hu]; exact rs_range _
  have hvr : v = -1 ∨ v = 0 ∨ v = 1 := by rw [← hv]; exact rs_range _
  have HU := Lib.hid hu
  have HV := Lib.hid hv
  clear hu hv
  go_wp2_with fail
  refine (i_RS _ HU.out).mono ?_
  rintro e w3 ⟨rfl, hb⟩
  have T3 : Own w w3 [(w2.heap.size, 29, #[.int .i64 p, .int .i64 q, .int .i64 r, .int .i64 s, .int .i64 l]), (w1.heap.size, 29, #[.int .i64 a, .int .i64 b, .int .i64 c, .int .i64 d, .int .i64 k])] := by simpa using ((T2.push 29 #[.int .i64 p, .int .i64 q, .int .i64 r, .int .i64 s, .int .i64 l])).call hb
  clear hb T2
  clear c2_0_0 c2_0_1 c2_0_2 c2_0_3 c2_0_4
  obtain ⟨c3_0_0, c3_0_1, c3_0_2, c3_0_3, c3_0_4, -, -, -, -, -⟩ := T3.head.five
  have l3_0 := T3.head.lt
  have nx3_0 := Nat.ne_of_lt l3_0
  have ny3_0 := Nat.ne_of_gt l3_0
  have le3_0 := Nat.le_of_lt l3_0
  obtain ⟨c3_1_0, c3_1_1, c3_1_2, c3_1_3, c3_1_4, -, -, -, -, -⟩ := T3.tail.head.five
  have l3_1 := T3.tail.head.lt
  have nx3_1 := Nat.ne_of_lt l3_1
  have ny3_1 := Nat.ne_of_gt l3_1
  have le3_1 := Nat.le_of_lt l3_1
  go_wp2_with fail
  refine (i_RS _ HV.out).mono ?_
  rintro e w4 ⟨rfl, hb⟩
  have T4 : Own w w4 [(w2.heap.size, 29, #[.int .i64 p, .int .i64 q, .int .i64 r, .int .i64 s, .int .i64 l]), (w1.heap.size, 29, #[.int .i64 a, .int .i64 b, .int .i64 c, .int .i64 d, .int .i64 k])] := by simpa using (T3).call hb
  clear hb T3
  clear c3_0_0 c3_0_1 c3_0_2 c3_0_3 c3_0_4 c3_1_0 c3_1_1 c3_1_2 c3_1_3 c3_1_4
  obtain ⟨c4_0_0, c4_0_1, c4_0_2, c4_0_3, c4_0_4, -, -, -, -, -⟩ := T4.head.five
  have l4_0 := T4.head.lt
  have nx4_0 := Nat.ne_of_lt l4_0
  have ny4_0 := Nat.ne_of_gt l4_0
  have le4_0 := Nat.le_of_lt l4_0
  obtain ⟨c4_1_0, c4_1_1, c4_1_2, c4_1_3, c4_1_4, -, -, -, -, -⟩ := T4.tail.head.five
  have l4_1 := T4.tail.head.lt
  have nx4_1 := Nat.ne_of_lt l4_1
  have ny4_1 := Nat.ne_of_gt l4_1
  have le4_1 := Nat.le_of_lt l4_1
  go_wp2_with fail
  refine (s_RS _ HU.out).mono ?_
  rintro e w5 ⟨rfl, hb⟩
  have T5 : Own w w5 [(w2.heap.size, 29, #[.int .i64 p, .int .i64 q, .int .i64 r, .int .i64 s, .int .i64 l]), (w1.heap.size, 29, #[.int .i64 a, .int .i64 b, .int .i64 c, .int .i64 d, .int .i64 k])] := by simpa using (T4).call hb
  clear hb T4
  clear c4_0_0 c4_0_1 c4_0_2 c4_0_3 c4_0_4 c4_1_0 c4_1_1 c4_1_2 c4_1_3 c4_1_4
  obtain ⟨c5_0_0, c5_0_1, c5_0_2, c5_0_3, c5_0_4, -, -, -, -, -⟩ := T5.head.five
  have l5_0 := T5.head.lt
  have nx5_0 := Nat.ne_of_lt l5_0
  have ny5_0 := Nat.ne_of_gt l5_0
  have le5_0 := Nat.le_of_lt l5_0
  obtain ⟨c5_1_0, c5_1_1, c5_1_2, c5_1_3, c5_1_4, -, -, -, -, -⟩ := T5.tail.head.five
  have l5_1 := T5.tail.head.lt
  have nx5_1 := Nat.ne_of_lt l5_1
  have ny5_1 := Nat.ne_of_gt l5_1
  have le5_1 := Nat.le_of_lt l5_1
  cases hre : isReal ⟨⟨a, b, c, d⟩, k⟩
  · go_wp2_with fail
    refine (i_real_f _ hre).mono ?_
    rintro e w6 ⟨rfl, hb⟩
    have T6 : Own w w6 [(w2.heap.size, 29, #[.int .i64 p, .int .i64 q, .int .i64 r, .int .i64 s, .int .i64 l]), (w1.heap.size, 29, #[.int .i64 a, .int .i64 b, .int .i64 c, .int .i64 d, .int .i64 k])] := by simpa using (T5).call hb
    clear hb T5
    clear c5_0_0 c5_0_1 c5_0_2 c5_0_3 c5_0_4 c5_1_0 c5_1_1 c5_1_2 c5_1_3 c5_1_4
    obtain ⟨c6_0_0, c6_0_1, c6_0_2, c6_0_3, c6_0_4, -, -, -, -, -⟩ := T6.head.five
    have l6_0 := T6.head.lt
    have nx6_0 := Nat.ne_of_lt l6_0
    have ny6_0 := Nat.ne_of_gt l6_0
    have le6_0 := Nat.le_of_lt l6_0
    obtain ⟨c6_1_0, c6_1_1, c6_1_2, c6_1_3, c6_1_4, -, -, -, -, -⟩ := T6.tail.head.five
    have l6_1 := T6.tail.head.lt
    have nx6_1 := Nat.ne_of_lt l6_1
    have ny6_1 := Nat.ne_of_gt l6_1
    have le6_1 := Nat.le_of_lt l6_1
    obtain ⟨x, y, z, t, m, ok, hI4, hS4, hT4, hF4⟩ := addD_u a b c d k p q r s l
    have HI4 := Lib.hid hI4
    have HS4 := Lib.hid hS4
    have HT4 := Lib.hid hT4
    have HF4 := Lib.hid hF4
    clear hI4 hS4 hT4 hF4
    go_wp2_with fail
    refine (HI4.out _).mono ?_
    rintro e w7 ⟨rfl, hb⟩
    have T7 : Own w w7 [(w2.heap.size, 29, #[.int .i64 p, .int .i64 q, .int .i64 r, .int .i64 s, .int .i64 l]), (w1.heap.size, 29, #[.int .i64 a, .int .i64 b, .int .i64 c, .int .i64 d, .int .i64 k])] := by simpa using (T6).call hb
    clear hb T6
    clear c6_0_0 c6_0_1 c6_0_2 c6_0_3 c6_0_4 c6_1_0 c6_1_1 c6_1_2 c6_1_3 c6_1_4
    obtain ⟨c7_0_0, c7_0_1, c7_0_2, c7_0_3, c7_0_4, -, -, -, -, -⟩ := T7.head.five
    have l7_0 := T7.head.lt
    have nx7_0 := Nat.ne_of_lt l7_0
    have ny7_0 := Nat.ne_of_gt l7_0
    have le7_0 := Nat.le_of_lt l7_0
    obtain ⟨c7_1_0, c7_1_1, c7_1_2, c7_1_3, c7_1_4, -, -, -, -, -⟩ := T7.tail.head.five
    have l7_1 := T7.tail.head.lt
    have nx7_1 := Nat.ne_of_lt l7_1
    have ny7_1 := Nat.ne_of_gt l7_1
    have le7_1 := Nat.le_of_lt l7_1
    cases ok
    · have hw := T7.below
      go_wp2
      go_ret
      refine ret_mk ?_
      repeat (first | (with_reducible exact Below.refl _ _) | (with_reducible assumption) | (with_reducible refine bl_alloc ?_ _) | (with_reducible refine bl_drew ?_) | (with_reducible refine bl_set ?_ (by simp <;> omega) _) | (with_reducible refine bl_call ?_ (by assumption)))
    by_cases h1 : u < 1
    · have hd1 : decide (u < 1) = true := by simp; omega
      have hw := T7.below
      go_wp2
      go_ret
      refine ret_mk ?_
      repeat (first | (with_reducible exact Below.refl _ _) | (with_reducible assumption) | (with_reducible refine bl_alloc ?_ _) | (with_reducible refine bl_drew ?_) | (with_reducible refine bl_set ?_ (by simp <;> omega) _) | (with_reducible refine bl_call ?_ (by assumption)))
    have hd1 : decide (u < 1) = false := by simp; omega
    by_cases h2 : v < 1
    · have hd2 : decide (v < 1) = true := by simp; omega
      have hw := T7.below
      go_wp2
      go_ret
      refine ret_mk ?_
      repeat (first | (with_reducible exact Below.refl _ _) | (with_reducible assumption) | (with_reducible refine bl_alloc ?_ _) | (with_reducible refine bl_drew ?_) | (with_reducible refine bl_set ?_ (by simp <;> omega) _) | (with_reducible refine bl_call ?_ (by assumption)))
    have hd2 : decide (v < 1) = false := by simp; omega
    have HS1 := Lib.hid (sign_add (HT4.out rfl) (HU.out.trans (by omega)) (HV.out.trans (by omega)))
    go_wp2_with fail
    refine (i_RS _ HS1.out).mono ?_
    rintro e w8 ⟨rfl, hb⟩
    have T8 : Own w w8 [(w7.heap.size, 29, #[.int .i64 x, .int .i64 y, .int .i64 z, .int .i64 t, .int .i64 m]), (w2.heap.size, 29, #[.int .i64 p, .int .i64 q, .int .i64 r, .int .i64 s, .int .i64 l]), (w1.heap.size, 29, #[.int .i64 a, .int .i64 b, .int .i64 c, .int .i64 d, .int .i64 k])] := by simpa using ((T7.push 29 #[.int .i64 x, .int .i64 y, .int .i64 z, .int .i64 t, .int .i64 m])).call hb
    clear hb T7
    clear c7_0_0 c7_0_1 c7_0_2 c7_0_3 c7_0_4 c7_1_0 c7_1_1 c7_1_2 c7_1_3 c7_1_4
    obtain ⟨c8_0_0, c8_0_1, c8_0_2, c8_0_3, c8_0_4, -, -, -, -, -⟩ := T8.head.five
    have l8_0 := T8.head.lt
    have nx8_0 := Nat.ne_of_lt l8_0
    have ny8_0 := Nat.ne_of_gt l8_0
    have le8_0 := Nat.le_of_lt l8_0
    obtain ⟨c8_1_0, c8_1_1, c8_1_2, c8_1_3, c8_1_4, -, -, -, -, -⟩ := T8.tail.head.five
    have l8_1 := T8.tail.head.lt
    have nx8_1 := Nat.ne_of_lt l8_1
    have ny8_1 := Nat.ne_of_gt l8_1
    have le8_1 := Nat.le_of_lt l8_1
    obtain ⟨c8_2_0, c8_2_1, c8_2_2, c8_2_3, c8_2_4, -, -, -, -, -⟩ := T8.tail.tail.head.five
    have l8_2 := T8.tail.tail.head.lt
    have nx8_2 := Nat.ne_of_lt l8_2
    have ny8_2 := Nat.ne_of_gt l8_2
    have le8_2 := Nat.le_of_lt l8_2
    have hw := T8.below
    go_wp2
    go_ret
    refine ret_mk ?_
    repeat (first | (with_reducible exact Below.refl _ _) | (with_reducible assumption) | (with_reducible refine bl_alloc ?_ _) | (with_reducible refine bl_drew ?_) | (with_reducible refine bl_set ?_ (by simp <;> omega) _) | (with_reducible refine bl_call ?_ (by assumption)))
  have hok := (isReal_inv hre).1
  have HNG : Hid (realSign ⟨⟨-a, -b, -c, -d⟩, k⟩ = -u) := Lib.hid (by have := (sign_neg hre).2; rw [HU.out] at this; exact this)
  go_wp2_with fail
  refine (i_real_t _ hre).mono ?_
  rintro e w6 ⟨rfl, hb⟩
  have T6 : Own w w6 [(w2.heap.size, 29, #[.int .i64 p, .int .i64 q, .int .i64 r, .int .i64 s, .int .i64 l]), (w1.heap.size, 29, #[.int .i64 a, .int .i64 b, .int .i64 c, .int .i64 d, .int .i64 k])] := by simpa using (T5).call hb
  clear hb T5
  clear c5_0_0 c5_0_1 c5_0_2 c5_0_3 c5_0_4 c5_1_0 c5_1_1 c5_1_2 c5_1_3 c5_1_4
  obtain ⟨c6_0_0, c6_0_1, c6_0_2, c6_0_3, c6_0_4, -, -, -, -, -⟩ := T6.head.five
  have l6_0 := T6.head.lt
  have nx6_0 := Nat.ne_of_lt l6_0
  have ny6_0 := Nat.ne_of_gt l6_0
  have le6_0 := Nat.le_of_lt l6_0
  obtain ⟨c6_1_0, c6_1_1, c6_1_2, c6_1_3, c6_1_4, -, -, -, -, -⟩ := T6.tail.head.five
  have l6_1 := T6.tail.head.lt
  have nx6_1 := Nat.ne_of_lt l6_1
  have ny6_1 := Nat.ne_of_gt l6_1
  have le6_1 := Nat.le_of_lt l6_1
  go_wp2_with fail
  refine (i_NegD_t _ hok).mono ?_
  rintro e w7 ⟨rfl, hb⟩
  have T7 : Own w w7 [(w2.heap.size, 29, #[.int .i64 p, .int .i64 q, .int .i64 r, .int .i64 s, .int .i64 l]), (w1.heap.size, 29, #[.int .i64 a, .int .i64 b, .int .i64 c, .int .i64 d, .int .i64 k])] := by simpa using (T6).call hb
  clear hb T6
  clear c6_0_0 c6_0_1 c6_0_2 c6_0_3 c6_0_4 c6_1_0 c6_1_1 c6_1_2 c6_1_3 c6_1_4
  obtain ⟨c7_0_0, c7_0_1, c7_0_2, c7_0_3, c7_0_4, -, -, -, -, -⟩ := T7.head.five
  have l7_0 := T7.head.lt
  have nx7_0 := Nat.ne_of_lt l7_0
  have ny7_0 := Nat.ne_of_gt l7_0
  have le7_0 := Nat.le_of_lt l7_0
  obtain ⟨c7_1_0, c7_1_1, c7_1_2, c7_1_3, c7_1_4, -, -, -, -, -⟩ := T7.tail.head.five
  have l7_1 := T7.tail.head.lt
  have nx7_1 := Nat.ne_of_lt l7_1
  have ny7_1 := Nat.ne_of_gt l7_1
  have le7_1 := Nat.le_of_lt l7_1
  go_wp2_with fail
  refine (i_RS _ HNG.out).mono ?_
  rintro e w8 ⟨rfl, hb⟩
  have T8 : Own w w8 [(w2.heap.size, 29, #[.int .i64 p, .int .i64 q, .int .i64 r, .int .i64 s, .int .i64 l]), (w1.heap.size, 29, #[.int .i64 a, .int .i64 b, .int .i64 c, .int .i64 d, .int .i64 k])] := by simpa using (T7).call hb
  clear hb T7
  clear c7_0_0 c7_0_1 c7_0_2 c7_0_3 c7_0_4 c7_1_0 c7_1_1 c7_1_2 c7_1_3 c7_1_4
  obtain ⟨c8_0_0, c8_0_1, c8_0_2, c8_0_3, c8_0_4, -, -, -, -, -⟩ := T8.head.five
  have l8_0 := T8.head.lt
  have nx8_0 := Nat.ne_of_lt l8_0
  have ny8_0 := Nat.ne_of_gt l8_0
  have le8_0 := Nat.le_of_lt l8_0
  obtain ⟨c8_1_0, c8_1_1, c8_1_2, c8_1_3, c8_1_4, -, -, -, -, -⟩ := T8.tail.head.five
  have l8_1 := T8.tail.head.lt
  have nx8_1 := Nat.ne_of_lt l8_1
  have ny8_1 := Nat.ne_of_gt l8_1
  have le8_1 := Nat.le_of_lt l8_1
  obtain ⟨x, y, z, t, m, ok, hI4, hS4, hT4, hF4⟩ := addD_u a b c d k p q r s l
  have HI4 := Lib.hid hI4
  have HS4 := Lib.hid hS4
  have HT4 := Lib.hid hT4
  have HF4 := Lib.hid hF4
  clear hI4 hS4 hT4 hF4
  go_wp2_with fail
  refine (HI4.out _).mono ?_
  rintro e w9 ⟨rfl, hb⟩
  have T9 : Own w w9 [(w2.heap.size, 29, #[.int .i64 p, .int .i64 q, .int .i64 r, .int .i64 s, .int .i64 l]), (w1.heap.size, 29, #[.int .i64 a, .int .i64 b, .int .i64 c, .int .i64 d, .int .i64 k])] := by simpa using (T8).call hb
  clear hb T8
  clear c8_0_0 c8_0_1 c8_0_2 c8_0_3 c8_0_4 c8_1_0 c8_1_1 c8_1_2 c8_1_3 c8_1_4
  obtain ⟨c9_0_0, c9_0_1, c9_0_2, c9_0_3, c9_0_4, -, -, -, -, -⟩ := T9.head.five
  have l9_0 := T9.head.lt
  have nx9_0 := Nat.ne_of_lt l9_0
  have ny9_0 := Nat.ne_of_gt l9_0
  have le9_0 := Nat.le_of_lt l9_0
  obtain ⟨c9_1_0, c9_1_1, c9_1_2, c9_1_3, c9_1_4, -, -, -, -, -⟩ := T9.tail.head.five
  have l9_1 := T9.tail.head.lt
  have nx9_1 := Nat.ne_of_lt l9_1
  have ny9_1 := Nat.ne_of_gt l9_1
  have le9_1 := Nat.le_of_lt l9_1
  cases ok
  · have hw := T9.below
    go_wp2
    go_ret
    refine ret_mk ?_
    repeat (first | (with_reducible exact Below.refl _ _) | (with_reducible assumption) | (with_reducible refine bl_alloc ?_ _) | (with_reducible refine bl_drew ?_) | (with_reducible refine bl_set ?_ (by simp <;> omega) _) | (with_reducible refine bl_call ?_ (by assumption)))
  by_cases h1 : u < 1
  · have hd1 : decide (u < 1) = true := by simp; omega
    have hw := T9.below
    go_wp2
    go_ret
    refine ret_mk ?_
    repeat (first | (with_reducible exact Below.refl _ _) | (with_reducible assumption) | (with_reducible refine bl_alloc ?_ _) | (with_reducible refine bl_drew ?_) | (with_reducible refine bl_set ?_ (by simp <;> omega) _) | (with_reducible refine bl_call ?_ (by assumption)))
  have hd1 : decide (u < 1) = false := by simp; omega
  by_cases h2 : v < 1
  · have hd2 : decide (v < 1) = true := by simp; omega
    have hw := T9.below
    go_wp2
    go_ret
    refine ret_mk ?_
    repeat (first | (with_reducible exact Below.refl _ _) | (with_reducible assumption) | (with_reducible refine bl_alloc ?_ _) | (with_reducible refine bl_drew ?_) | (with_reducible refine bl_set ?_ (by simp <;> omega) _) | (with_reducible refine bl_call ?_ (by assumption)))
  have hd2 : decide (v < 1) = false := by simp; omega
  have HS1 := Lib.hid (sign_add (HT4.out rfl) (HU.out.trans (by omega)) (HV.out.trans (by omega)))
  go_wp2_with fail
  refine (i_RS _ HS1.out).mono ?_
  rintro e w10 ⟨rfl, hb⟩
  have T10 : Own w w10 [(w9.heap.size, 29, #[.int .i64 x, .int .i64 y, .int .i64 z, .int .i64 t, .int .i64 m]), (w2.heap.size, 29, #[.int .i64 p, .int .i64 q, .int .i64 r, .int .i64 s, .int .i64 l]), (w1.heap.size, 29, #[.int .i64 a, .int .i64 b, .int .i64 c, .int .i64 d, .int .i64 k])] := by simpa using ((T9.push 29 #[.int .i64 x, .int .i64 y, .int .i64 z, .int .i64 t, .int .i64 m])).call hb
  clear hb T9
  clear c9_0_0 c9_0_1 c9_0_2 c9_0_3 c9_0_4 c9_1_0 c9_1_1 c9_1_2 c9_1_3 c9_1_4
  obtain ⟨c10_0_0, c10_0_1, c10_0_2, c10_0_3, c10_0_4, -, -, -, -, -⟩ := T10.head.five
  have l10_0 := T10.head.lt
  have nx10_0 := Nat.ne_of_lt l10_0
  have ny10_0 := Nat.ne_of_gt l10_0
  have le10_0 := Nat.le_of_lt l10_0
  obtain ⟨c10_1_0, c10_1_1, c10_1_2, c10_1_3, c10_1_4, -, -, -, -, -⟩ := T10.tail.head.five
  have l10_1 := T10.tail.head.lt
  have nx10_1 := Nat.ne_of_lt l10_1
  have ny10_1 := Nat.ne_of_gt l10_1
  have le10_1 := Nat.le_of_lt l10_1
  obtain ⟨c10_2_0, c10_2_1, c10_2_2, c10_2_3, c10_2_4, -, -, -, -, -⟩ := T10.tail.tail.head.five
  have l10_2 := T10.tail.tail.head.lt
  have nx10_2 := Nat.ne_of_lt l10_2
  have ny10_2 := Nat.ne_of_gt l10_2
  have le10_2 := Nat.le_of_lt l10_2
  have hw := T10.below
  go_wp2
  go_ret
  refine ret_mk ?_
  repeat (first | (with_reducible exact Below.refl _ _) | (with_reducible assumption) | (with_reducible refine bl_alloc ?_ _) | (with_reducible refine bl_drew ?_) | (with_reducible refine bl_set ?_ (by simp <;> omega) _) | (with_reducible refine bl_call ?_ (by assumption)))

set_option maxRecDepth 100000 in
theorem lifted (os : Os) (started : os.Started) (H : Type) (enc : TypeId × Value → H) :
    ReturnsInHanded {} Try.checked os 12 .any (Rows.fnSignSpec.pre6 enc Try.prog Try.f12 Rows.fnSignRow.domain false) (Rows.fnSignSpec.post enc Try.prog Try.f12 false true false false) := by
  refine returnsInHanded_of_change (C := Try.checked) own started (by kernel_rfl) Try.func12
    (ChangeSpec.witness6 (enc := enc) (C := Try.checked) false ⟨#[], #[.slice none 0 0], []⟩ 8 (by kernel_rfl) (by kernel_rfl) (by kernel_rfl) (by kernel_rfl)) ?_
  intro W base args ds gs before hval0 hW hcnd _
  have hval : ∀ (j : Nat) t v, Try.f12.params[j]? = some t → args[j]? = some v → Value.okWide Try.prog W .any base t v := hval0
  have hW' := hW
  obtain ⟨p, q, hA0, hV, rfl, hfz, hnd⟩ := hW
  have hA : DataW.TrodAll enc Try.prog W 0 (fun _ => true) true Try.f12.params.toList args.toList ds p := hA0
  rw [Try.params12] at hA hval
  obtain ⟨v0, vs0, d0, ds0, p0, q0, hargs, rfl, rfl, h0, r0⟩ := trodAll_cons hA
  obtain ⟨rfl, rfl, rfl⟩ := trodAll_nil r0
  obtain rfl : args = #[v0] := by cases args; simp_all
  obtain ⟨rfl, rfl⟩ := trodVars_none hV
  have kk0 := h0
  have lt0 : ∀ x ∈ p0, x.block < W.heap.size := by obtain ⟨m, hm⟩ := kk0; exact DataW.trod_lt m _ _ _ hm
  obtain ⟨A0, n0, cp0, rfl, hR0, hn0, hc0⟩ := open_B (hval 0 22 v0 rfl rfl) h0
  clear hA0 hval0
  refine (walk A0 n0 cp0 W hR0 hn0 hc0).mono fun e W' ⟨he, bel⟩ => ?_
  subst he
  exact ⟨_, rfl, _, _, _, [], _, [], hW', trodAll_mk1 (shut_bool Try.underlying4 _), (trodAll_cons_mk (Below.trod laidOut (by kernel_rfl) (of_decide_eq_true (by kernel_rfl)) kk0 bel lt0) trodAll_mk0), rfl, bel.frame _, fun h => by cases h⟩

theorem over : Rows.fnSignRow.holds Try.pinned (OpenSpec.ofChange Rows.fnSignSpec) :=
  OpenClaim.holds_of_wide 12 Try.f12 rfl rfl rfl rfl rfl rfl rfl ⟨rfl, rfl, rfl, rfl, rfl⟩ rfl rfl rfl rfl rfl (by kernel_rfl) Try.func12 (by kernel_rfl)
    (of_decide_eq_true (by kernel_rfl)) (by unfold Func.isWrapper; first | (rw [if_pos (by decide +kernel)]; kernel_rfl) | (rw [if_neg (by decide +kernel)]; exact ⟨rfl, rfl⟩))
    (fun os started H enc _ => lifted os started H enc)

theorem proved : Rows.FnSignSaid := over
end Go.Proofs.Ytpkbmdlamcgiiaa.fnSign
