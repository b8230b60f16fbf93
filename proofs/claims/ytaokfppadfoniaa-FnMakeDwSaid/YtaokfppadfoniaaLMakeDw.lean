/-
  Proved: for every input the Go function FnMakeDw returns true (the program's function returns what the reference's returns), and its arguments read as before.
  Conditions: none beyond the given statement.
-/
import Derived.Test.YtaokfppadfoniaaCloseB
import Derived.Deep.RegionHeld3
import Derived.Test.YtaokfppadfoniaaPure5
import Derived.Test.YtaokfppadfoniaaDr5
import Derived.Test.YtaokfppadfoniaaEq
import Derived.Test.YtaokfppadfoniaaOwn
namespace Go.Proofs.Ytaokfppadfoniaa.fnMakeDw
open Go.Proofs.Ytaokfppadfoniaa
open Go.ChangeShapes Go.WideShapes Go.ChangeAt Go.RowKit
set_option linter.unusedVariables false
attribute [local go_sem ↓ high] eqlD neqD eqlZ neqZ
set_option maxRecDepth 20000

set_option maxHeartbeats 2000000 in
theorem walk (A0 : Option Addr) (n0 cp0 : Nat) (w : World) (hR0 : RB w w.heap.size A0 n0) (hn0 : n0 ≤ 9223372036854775807) (hc0 : n0 ≤ cp0) :
    Calls Try.prog 3 #[.slice A0 n0 cp0] w (Ret (.bool true) w) := by
  by_cases hbig : n0 ≤ 1048576
  rotate_left
  · go_enter Try.func3, Try.ntmps3
    go_wp2_with fail
    refine (l_big_t _ _ _ _ (by omega)).mono ?_
    rintro e w' ⟨rfl, rfl⟩
    go_wp2
    go_ret
    exact ret_mk (Below.refl _ _)
  have HR := Lib.hid hR0
  clear hR0
  go_enter Try.func3, Try.ntmps3
  go_wp2_with fail
  refine (l_big_f _ _ _ _ hbig).mono ?_
  rintro e w' ⟨rfl, rfl⟩
  go_wp2_with fail
  refine (d_DrawNew A0 n0 cp0 _ HR.out hn0).mono ?_
  rintro e w1 ⟨a, b, c, d, k, rfl, hb⟩
  have T1 : Own w w1 [] := (Own.start w).call hb
  clear hb
  obtain ⟨x, y, z, t, m, ok, hI1, hS1, hT1, hF1⟩ := newD_u a b c d k
  have HI1 := Lib.hid hI1
  have HS1 := Lib.hid hS1
  have HT1 := Lib.hid hT1
  have HF1 := Lib.hid hF1
  clear hI1 hS1 hT1 hF1
  go_wp2_with fail
  refine (HI1.out _).mono ?_
  rintro e w2 ⟨rfl, hb⟩
  have T2 : Own w w2 [(w1.heap.size, 25, #[.int .i64 a, .int .i64 b, .int .i64 c, .int .i64 d])] := by simpa using ((T1.push 25 #[.int .i64 a, .int .i64 b, .int .i64 c, .int .i64 d])).call hb
  clear hb T1
  obtain ⟨c2_0_0, c2_0_1, c2_0_2, c2_0_3, -, -, -, -⟩ := T2.head.four
  have l2_0 := T2.head.lt
  have nx2_0 := Nat.ne_of_lt l2_0
  have ny2_0 := Nat.ne_of_gt l2_0
  have le2_0 := Nat.le_of_lt l2_0
  go_wp2_with fail
  refine (HS1.out _).mono ?_
  rintro e w3 ⟨rfl, hb⟩
  have T3 : Own w w3 [(w2.heap.size, 29, #[.int .i64 x, .int .i64 y, .int .i64 z, .int .i64 t, .int .i64 m]), (w1.heap.size, 25, #[.int .i64 a, .int .i64 b, .int .i64 c, .int .i64 d])] := by simpa using ((T2.push 29 #[.int .i64 x, .int .i64 y, .int .i64 z, .int .i64 t, .int .i64 m])).call hb
  clear hb T2
  clear c2_0_0 c2_0_1 c2_0_2 c2_0_3 nx2_0 ny2_0 le2_0 l2_0
  obtain ⟨c3_0_0, c3_0_1, c3_0_2, c3_0_3, c3_0_4, -, -, -, -, -⟩ := T3.head.five
  have l3_0 := T3.head.lt
  have nx3_0 := Nat.ne_of_lt l3_0
  have ny3_0 := Nat.ne_of_gt l3_0
  have le3_0 := Nat.le_of_lt l3_0
  obtain ⟨c3_1_0, c3_1_1, c3_1_2, c3_1_3, -, -, -, -⟩ := T3.tail.head.four
  have l3_1 := T3.tail.head.lt
  have nx3_1 := Nat.ne_of_lt l3_1
  have ny3_1 := Nat.ne_of_gt l3_1
  have le3_1 := Nat.le_of_lt l3_1
  cases ok
  · obtain ⟨-, rfl, rfl, rfl, rfl, rfl⟩ := HF1.out rfl
    have e0 := eqDb_self 0 0 0 0 0
    have hw := T3.below
    go_wp2
    go_ret
    refine ret_mk ?_
    repeat (first | (with_reducible exact Below.refl _ _) | (with_reducible assumption) | (with_reducible refine bl_alloc ?_ _) | (with_reducible refine bl_drew ?_) | (with_reducible refine bl_set ?_ (by simp <;> omega) _) | (with_reducible refine bl_call ?_ (by assumption)))
  have N1 := Lib.hid (HT1.out rfl)
  obtain ⟨hok, -, hk, -, -⟩ := newD_val N1.out
  have e0 := eqDb_self x y z t m
  obtain ⟨x2, y2, z2, t2, ok2, hI2, hS2, hT2, hF2⟩ := mulZ_u a b c d 0 1 0 (-1)
  have HI2 := Lib.hid hI2
  have HS2 := Lib.hid hS2
  have HT2 := Lib.hid hT2
  have HF2 := Lib.hid hF2
  clear hI2 hS2 hT2 hF2
  go_wp2_with fail
  refine (HI2.out _).mono ?_
  rintro e w4 ⟨rfl, hb⟩
  have T4 : Own w w4 [(w3.heap.size, 29, #[.int .i64 x, .int .i64 y, .int .i64 z, .int .i64 t, .int .i64 m]), (w2.heap.size, 29, #[.int .i64 x, .int .i64 y, .int .i64 z, .int .i64 t, .int .i64 m]), (w1.heap.size, 25, #[.int .i64 a, .int .i64 b, .int .i64 c, .int .i64 d])] := by simpa using ((T3.push 29 #[.int .i64 x, .int .i64 y, .int .i64 z, .int .i64 t, .int .i64 m])).call hb
  clear hb T3
  clear c3_0_0 c3_0_1 c3_0_2 c3_0_3 c3_0_4 c3_1_0 c3_1_1 c3_1_2 c3_1_3 nx3_0 ny3_0 le3_0 l3_0 nx3_1 ny3_1 le3_1 l3_1
  obtain ⟨c4_0_0, c4_0_1, c4_0_2, c4_0_3, c4_0_4, -, -, -, -, -⟩ := T4.head.five
  have l4_0 := T4.head.lt
  have nx4_0 := Nat.ne_of_lt l4_0
  have ny4_0 := Nat.ne_of_gt l4_0
  have le4_0 := Nat.le_of_lt l4_0
  obtain ⟨c4_1_0, c4_1_1, c4_1_2, c4_1_3, c4_1_4, -, -, -, -, -⟩ := T4.tail.head.five
  have l4_1 := T4.tail.head.lt
  have nx4_1 := Nat.ne_of_lt l4_1
  have ny4_1 := Nat.ne_of_gt l4_1
  have le4_1 := Nat.le_of_lt l4_1
  obtain ⟨c4_2_0, c4_2_1, c4_2_2, c4_2_3, -, -, -, -⟩ := T4.tail.tail.head.four
  have l4_2 := T4.tail.tail.head.lt
  have nx4_2 := Nat.ne_of_lt l4_2
  have ny4_2 := Nat.ne_of_gt l4_2
  have le4_2 := Nat.le_of_lt l4_2
  go_wp2_with fail
  refine (i_okd_t _ hok).mono ?_
  rintro e w5 ⟨rfl, hb⟩
  have T5 : Own w w5 [(w4.heap.size, 25, #[.int .i64 x2, .int .i64 y2, .int .i64 z2, .int .i64 t2]), (w3.heap.size, 29, #[.int .i64 x, .int .i64 y, .int .i64 z, .int .i64 t, .int .i64 m]), (w2.heap.size, 29, #[.int .i64 x, .int .i64 y, .int .i64 z, .int .i64 t, .int .i64 m]), (w1.heap.size, 25, #[.int .i64 a, .int .i64 b, .int .i64 c, .int .i64 d])] := by simpa using ((T4.push 25 #[.int .i64 x2, .int .i64 y2, .int .i64 z2, .int .i64 t2])).call hb
  clear hb T4
  clear c4_0_0 c4_0_1 c4_0_2 c4_0_3 c4_0_4 c4_1_0 c4_1_1 c4_1_2 c4_1_3 c4_1_4 c4_2_0 c4_2_1 c4_2_2 c4_2_3 nx4_0 ny4_0 le4_0 l4_0 nx4_1 ny4_1 le4_1 l4_1 nx4_2 ny4_2 le4_2 l4_2
  obtain ⟨c5_0_0, c5_0_1, c5_0_2, c5_0_3, -, -, -, -⟩ := T5.head.four
  have l5_0 := T5.head.lt
  have nx5_0 := Nat.ne_of_lt l5_0
  have ny5_0 := Nat.ne_of_gt l5_0
  have le5_0 := Nat.le_of_lt l5_0
  obtain ⟨c5_1_0, c5_1_1, c5_1_2, c5_1_3, c5_1_4, -, -, -, -, -⟩ := T5.tail.head.five
  have l5_1 := T5.tail.head.lt
  have nx5_1 := Nat.ne_of_lt l5_1
  have ny5_1 := Nat.ne_of_gt l5_1
  have le5_1 := Nat.le_of_lt l5_1
  obtain ⟨c5_2_0, c5_2_1, c5_2_2, c5_2_3, c5_2_4, -, -, -, -, -⟩ := T5.tail.tail.head.five
  have l5_2 := T5.tail.tail.head.lt
  have nx5_2 := Nat.ne_of_lt l5_2
  have ny5_2 := Nat.ne_of_gt l5_2
  have le5_2 := Nat.le_of_lt l5_2
  obtain ⟨c5_3_0, c5_3_1, c5_3_2, c5_3_3, -, -, -, -⟩ := T5.tail.tail.tail.head.four
  have l5_3 := T5.tail.tail.tail.head.lt
  have nx5_3 := Nat.ne_of_lt l5_3
  have ny5_3 := Nat.ne_of_gt l5_3
  have le5_3 := Nat.le_of_lt l5_3
  go_wp2_with fail
  refine (s_okd_t _ hok).mono ?_
  rintro e w6 ⟨rfl, hb⟩
  have T6 : Own w w6 [(w4.heap.size, 25, #[.int .i64 x2, .int .i64 y2, .int .i64 z2, .int .i64 t2]), (w3.heap.size, 29, #[.int .i64 x, .int .i64 y, .int .i64 z, .int .i64 t, .int .i64 m]), (w2.heap.size, 29, #[.int .i64 x, .int .i64 y, .int .i64 z, .int .i64 t, .int .i64 m]), (w1.heap.size, 25, #[.int .i64 a, .int .i64 b, .int .i64 c, .int .i64 d])] := by simpa using (T5).call hb
  clear hb T5
  clear c5_0_0 c5_0_1 c5_0_2 c5_0_3 c5_1_0 c5_1_1 c5_1_2 c5_1_3 c5_1_4 c5_2_0 c5_2_1 c5_2_2 c5_2_3 c5_2_4 c5_3_0 c5_3_1 c5_3_2 c5_3_3 nx5_0 ny5_0 le5_0 l5_0 nx5_1 ny5_1 le5_1 l5_1 nx5_2 ny5_2 le5_2 l5_2 nx5_3 ny5_3 le5_3 l5_3
  obtain ⟨c6_0_0, c6_0_1, c6_0_2, c6_0_3, -, -, -, -⟩ := T6.head.four
  have l6_0 := T6.head.lt
  have nx6_0 := Nat.ne_of_lt l6_0
  have ny6_0 := Nat.ne_of_gt l6_0
  have le6_0 := Nat.le_of_lt l6_0
  obtain ⟨c6_1_0, c6_1_1, c6_1_2, c6_1_3, c6_1_4, -, -, -, -, -⟩ := T6.tail.head.five
  have l6_1 := T6.tail.head.lt
  have nx6_1 := Nat.ne_of_lt l6_1
  have ny6_1 := Nat.ne_of_gt l6_1
  have le6_1 := Nat.le_of_lt l6_1
  obtain ⟨c6_2_0, c6_2_1, c6_2_2, c6_2_3, c6_2_4, -, -, -, -, -⟩ := T6.tail.tail.head.five
  have l6_2 := T6.tail.tail.head.lt
  have nx6_2 := Nat.ne_of_lt l6_2
  have ny6_2 := Nat.ne_of_gt l6_2
  have le6_2 := Nat.le_of_lt l6_2
  obtain ⟨c6_3_0, c6_3_1, c6_3_2, c6_3_3, -, -, -, -⟩ := T6.tail.tail.tail.head.four
  have l6_3 := T6.tail.tail.tail.head.lt
  have nx6_3 := Nat.ne_of_lt l6_3
  have ny6_3 := Nat.ne_of_gt l6_3
  have le6_3 := Nat.le_of_lt l6_3
  cases ok2
  · go_wp2_with fail
    refine (i_okd_t _ hok).mono ?_
    rintro e w7 ⟨rfl, hb⟩
    have T7 : Own w w7 [(w4.heap.size, 25, #[.int .i64 x2, .int .i64 y2, .int .i64 z2, .int .i64 t2]), (w3.heap.size, 29, #[.int .i64 x, .int .i64 y, .int .i64 z, .int .i64 t, .int .i64 m]), (w2.heap.size, 29, #[.int .i64 x, .int .i64 y, .int .i64 z, .int .i64 t, .int .i64 m]), (w1.heap.size, 25, #[.int .i64 a, .int .i64 b, .int .i64 c, .int .i64 d])] := by simpa using (T6).call hb
    clear hb T6
    clear c6_0_0 c6_0_1 c6_0_2 c6_0_3 c6_1_0 c6_1_1 c6_1_2 c6_1_3 c6_1_4 c6_2_0 c6_2_1 c6_2_2 c6_2_3 c6_2_4 c6_3_0 c6_3_1 c6_3_2 c6_3_3 nx6_0 ny6_0 le6_0 l6_0 nx6_1 ny6_1 le6_1 l6_1 nx6_2 ny6_2 le6_2 l6_2 nx6_3 ny6_3 le6_3 l6_3
    obtain ⟨c7_0_0, c7_0_1, c7_0_2, c7_0_3, -, -, -, -⟩ := T7.head.four
    have l7_0 := T7.head.lt
    have nx7_0 := Nat.ne_of_lt l7_0
    have ny7_0 := Nat.ne_of_gt l7_0
    have le7_0 := Nat.le_of_lt l7_0
    obtain ⟨c7_1_0, c7_1_1, c7_1_2, c7_1_3, c7_1_4, -, -, -, -, -⟩ := T7.tail.head.five
    have l7_1 := T7.tail.head.lt
    have nx7_1 := Nat.ne_of_lt l7_1
    have ny7_1 := Nat.ne_of_gt l7_1
    have le7_1 := Nat.le_of_lt l7_1
    obtain ⟨c7_2_0, c7_2_1, c7_2_2, c7_2_3, c7_2_4, -, -, -, -, -⟩ := T7.tail.tail.head.five
    have l7_2 := T7.tail.tail.head.lt
    have nx7_2 := Nat.ne_of_lt l7_2
    have ny7_2 := Nat.ne_of_gt l7_2
    have le7_2 := Nat.le_of_lt l7_2
    obtain ⟨c7_3_0, c7_3_1, c7_3_2, c7_3_3, -, -, -, -⟩ := T7.tail.tail.tail.head.four
    have l7_3 := T7.tail.tail.tail.head.lt
    have nx7_3 := Nat.ne_of_lt l7_3
    have ny7_3 := Nat.ne_of_gt l7_3
    have le7_3 := Nat.le_of_lt l7_3
    have hw := T7.below
    go_wp2
    go_ret
    refine ret_mk ?_
    repeat (first | (with_reducible exact Below.refl _ _) | (with_reducible assumption) | (with_reducible refine bl_alloc ?_ _) | (with_reducible refine bl_drew ?_) | (with_reducible refine bl_set ?_ (by simp <;> omega) _) | (with_reducible refine bl_call ?_ (by assumption)))
  have N2 := Lib.hid (HT2.out rfl)
  by_cases hk2 : 120 ≤ k
  · have hd : decide ((120 : Int) ≤ k) = true := by simp; omega
    go_wp2_with fail
    refine (i_okd_t _ hok).mono ?_
    rintro e w7 ⟨rfl, hb⟩
    have T7 : Own w w7 [(w4.heap.size, 25, #[.int .i64 x2, .int .i64 y2, .int .i64 z2, .int .i64 t2]), (w3.heap.size, 29, #[.int .i64 x, .int .i64 y, .int .i64 z, .int .i64 t, .int .i64 m]), (w2.heap.size, 29, #[.int .i64 x, .int .i64 y, .int .i64 z, .int .i64 t, .int .i64 m]), (w1.heap.size, 25, #[.int .i64 a, .int .i64 b, .int .i64 c, .int .i64 d])] := by simpa using (T6).call hb
    clear hb T6
    clear c6_0_0 c6_0_1 c6_0_2 c6_0_3 c6_1_0 c6_1_1 c6_1_2 c6_1_3 c6_1_4 c6_2_0 c6_2_1 c6_2_2 c6_2_3 c6_2_4 c6_3_0 c6_3_1 c6_3_2 c6_3_3 nx6_0 ny6_0 le6_0 l6_0 nx6_1 ny6_1 le6_1 l6_1 nx6_2 ny6_2 le6_2 l6_2 nx6_3 ny6_3 le6_3 l6_3
    obtain ⟨c7_0_0, c7_0_1, c7_0_2, c7_0_3, -, -, -, -⟩ := T7.head.four
    have l7_0 := T7.head.lt
    have nx7_0 := Nat.ne_of_lt l7_0
    have ny7_0 := Nat.ne_of_gt l7_0
    have le7_0 := Nat.le_of_lt l7_0
    obtain ⟨c7_1_0, c7_1_1, c7_1_2, c7_1_3, c7_1_4, -, -, -, -, -⟩ := T7.tail.head.five
    have l7_1 := T7.tail.head.lt
    have nx7_1 := Nat.ne_of_lt l7_1
    have ny7_1 := Nat.ne_of_gt l7_1
    have le7_1 := Nat.le_of_lt l7_1
    obtain ⟨c7_2_0, c7_2_1, c7_2_2, c7_2_3, c7_2_4, -, -, -, -, -⟩ := T7.tail.tail.head.five
    have l7_2 := T7.tail.tail.head.lt
    have nx7_2 := Nat.ne_of_lt l7_2
    have ny7_2 := Nat.ne_of_gt l7_2
    have le7_2 := Nat.le_of_lt l7_2
    obtain ⟨c7_3_0, c7_3_1, c7_3_2, c7_3_3, -, -, -, -⟩ := T7.tail.tail.tail.head.four
    have l7_3 := T7.tail.tail.tail.head.lt
    have nx7_3 := Nat.ne_of_lt l7_3
    have ny7_3 := Nat.ne_of_gt l7_3
    have le7_3 := Nat.le_of_lt l7_3
    have hw := T7.below
    go_wp2
    go_ret
    refine ret_mk ?_
    repeat (first | (with_reducible exact Below.refl _ _) | (with_reducible assumption) | (with_reducible refine bl_alloc ?_ _) | (with_reducible refine bl_drew ?_) | (with_reducible refine bl_set ?_ (by simp <;> omega) _) | (with_reducible refine bl_call ?_ (by assumption)))
  have hd : decide ((120 : Int) ≤ k) = false := by simp; omega
  have HN := Lib.hid (newD_up N1.out N2.out (by omega))
  go_wp2_with fail
  refine (i_New_some _ HN.out).mono ?_
  rintro e w7 ⟨rfl, hb⟩
  have T7 : Own w w7 [(w4.heap.size, 25, #[.int .i64 x2, .int .i64 y2, .int .i64 z2, .int .i64 t2]), (w3.heap.size, 29, #[.int .i64 x, .int .i64 y, .int .i64 z, .int .i64 t, .int .i64 m]), (w2.heap.size, 29, #[.int .i64 x, .int .i64 y, .int .i64 z, .int .i64 t, .int .i64 m]), (w1.heap.size, 25, #[.int .i64 a, .int .i64 b, .int .i64 c, .int .i64 d])] := by simpa using (T6).call hb
  clear hb T6
  clear c6_0_0 c6_0_1 c6_0_2 c6_0_3 c6_1_0 c6_1_1 c6_1_2 c6_1_3 c6_1_4 c6_2_0 c6_2_1 c6_2_2 c6_2_3 c6_2_4 c6_3_0 c6_3_1 c6_3_2 c6_3_3 nx6_0 ny6_0 le6_0 l6_0 nx6_1 ny6_1 le6_1 l6_1 nx6_2 ny6_2 le6_2 l6_2 nx6_3 ny6_3 le6_3 l6_3
  obtain ⟨c7_0_0, c7_0_1, c7_0_2, c7_0_3, -, -, -, -⟩ := T7.head.four
  have l7_0 := T7.head.lt
  have nx7_0 := Nat.ne_of_lt l7_0
  have ny7_0 := Nat.ne_of_gt l7_0
  have le7_0 := Nat.le_of_lt l7_0
  obtain ⟨c7_1_0, c7_1_1, c7_1_2, c7_1_3, c7_1_4, -, -, -, -, -⟩ := T7.tail.head.five
  have l7_1 := T7.tail.head.lt
  have nx7_1 := Nat.ne_of_lt l7_1
  have ny7_1 := Nat.ne_of_gt l7_1
  have le7_1 := Nat.le_of_lt l7_1
  obtain ⟨c7_2_0, c7_2_1, c7_2_2, c7_2_3, c7_2_4, -, -, -, -, -⟩ := T7.tail.tail.head.five
  have l7_2 := T7.tail.tail.head.lt
  have nx7_2 := Nat.ne_of_lt l7_2
  have ny7_2 := Nat.ne_of_gt l7_2
  have le7_2 := Nat.le_of_lt l7_2
  obtain ⟨c7_3_0, c7_3_1, c7_3_2, c7_3_3, -, -, -, -⟩ := T7.tail.tail.tail.head.four
  have l7_3 := T7.tail.tail.tail.head.lt
  have nx7_3 := Nat.ne_of_lt l7_3
  have ny7_3 := Nat.ne_of_gt l7_3
  have le7_3 := Nat.le_of_lt l7_3
  have hw := T7.below
  go_wp2
  go_ret
  refine ret_mk ?_
  repeat (first | (with_reducible exact Below.refl _ _) | (with_reducible assumption) | (with_reducible refine bl_alloc ?_ _) | (with_reducible refine bl_drew ?_) | (with_reducible refine bl_set ?_ (by simp <;> omega) _) | (with_reducible refine bl_call ?_ (by assumption)))

set_option maxRecDepth 100000 in
theorem lifted (os : Os) (started : os.Started) (H : Type) (enc : TypeId × Value → H) :
    ReturnsInHanded {} Try.checked os 3 .any (Rows.fnMakeDwSpec.pre6 enc Try.prog Try.f3 Rows.fnMakeDwRow.domain false) (Rows.fnMakeDwSpec.post enc Try.prog Try.f3 false true false false) := by
  refine returnsInHanded_of_change (C := Try.checked) own started (by kernel_rfl) Try.func3
    (ChangeSpec.witness6 (enc := enc) (C := Try.checked) false ⟨#[], #[.slice none 0 0], []⟩ 8 (by kernel_rfl) (by kernel_rfl) (by kernel_rfl) (by kernel_rfl)) ?_
  intro W base args ds gs before hval0 hW hcnd _
  have hval : ∀ (j : Nat) t v, Try.f3.params[j]? = some t → args[j]? = some v → Value.okWide Try.prog W .any base t v := hval0
  have hW' := hW
  obtain ⟨p, q, hA0, hV, rfl, hfz, hnd⟩ := hW
  have hA : DataW.TrodAll enc Try.prog W 0 (fun _ => true) true Try.f3.params.toList args.toList ds p := hA0
  rw [Try.params3] at hA hval
  obtain ⟨v0, vs0, d0, ds0, p0, q0, hargs, rfl, rfl, h0, r0⟩ := trodAll_cons hA
  obtain ⟨rfl, rfl, rfl⟩ := trodAll_nil r0
  obtain rfl : args = #[v0] := by cases args; simp_all
  obtain ⟨rfl, rfl⟩ := trodVars_none hV
  have kk0 := h0
  have lt0 : ∀ x ∈ p0, x.block < W.heap.size := by obtain ⟨m, hm⟩ := kk0; exact DataW.trod_lt m _ _ _ hm
  obtain ⟨A0, n0, cp0, rfl, hR0, hn0, hc0⟩ := open_B (hval 0 22 v0 rfl rfl) h0
  clear hA0 hval0
  refine (walk A0 n0 cp0 W hR0 hn0 hc0).mono fun e W' ⟨he, bel⟩ => ?_
  subst he
  exact ⟨_, rfl, _, _, _, [], _, [], hW', trodAll_mk1 (shut_bool Try.underlying4 _), (trodAll_cons_mk (Below.trod laidOut (by kernel_rfl) (of_decide_eq_true (by kernel_rfl)) kk0 bel lt0) trodAll_mk0), rfl, bel.frame _, fun h => by cases h⟩

theorem over : Rows.fnMakeDwRow.holds Try.pinned (OpenSpec.ofChange Rows.fnMakeDwSpec) :=
  OpenClaim.holds_of_wide 3 Try.f3 rfl rfl rfl rfl rfl rfl rfl ⟨rfl, rfl, rfl, rfl, rfl⟩ rfl rfl rfl rfl rfl (by kernel_rfl) Try.func3 (by kernel_rfl)
    (of_decide_eq_true (by kernel_rfl)) (by unfold Func.isWrapper; first | (rw [if_pos (by decide +kernel)]; kernel_rfl) | (rw [if_neg (by decide +kernel)]; exact ⟨rfl, rfl⟩))
    (fun os started H enc _ => lifted os started H enc)

theorem proved : Rows.FnMakeDwSaid := over
end Go.Proofs.Ytaokfppadfoniaa.fnMakeDw
