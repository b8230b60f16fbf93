/-
  Proved: for every input the Go function FnDwSpreads returns true (the program's function returns what the reference's returns), and its arguments read as before.
  Conditions: none beyond the given statement.
-/
import Derived.Test.YtpkbmdlamcgiiaaCloseB
import Derived.Deep.RegionHeld3
import Derived.Test.YtpkbmdlamcgiiaaPure5
import Derived.Test.YtpkbmdlamcgiiaaDr3
import Derived.Test.YtpkbmdlamcgiiaaEq
import Derived.Test.YtpkbmdlamcgiiaaOwn
namespace Go.Proofs.Ytpkbmdlamcgiiaa.fnDwSpreads
open Go.Proofs.Ytpkbmdlamcgiiaa
open Go.ChangeShapes Go.WideShapes Go.ChangeAt Go.RowKit
set_option linter.unusedVariables false
attribute [local go_sem ↓ high] eqlD neqD eqlZ neqZ

set_option maxHeartbeats 2000000 in
theorem walk (A0 : Option Addr) (n0 cp0 : Nat) (w : World) (hR0 : RB w w.heap.size A0 n0) (hn0 : n0 ≤ 9223372036854775807) (hc0 : n0 ≤ cp0) :
    Calls Try.prog 9 #[.slice A0 n0 cp0] w (Ret (.bool true) w) := by
  by_cases hbig : n0 ≤ 1048576
  rotate_left
  · go_enter Try.func9, Try.ntmps9
    go_wp2_with fail
    refine (l_big_t _ _ _ _ (by omega)).mono ?_
    rintro e w' ⟨rfl, rfl⟩
    go_wp2
    go_ret
    exact ret_mk (Below.refl _ _)
  have HR := Lib.hid hR0
  clear hR0
  go_enter Try.func9, Try.ntmps9
  go_wp2_with fail
  refine (l_big_f _ _ _ _ hbig).mono ?_
  rintro e w' ⟨rfl, rfl⟩
  go_wp2_with fail
  refine (d_DrawAddD A0 n0 cp0 _ HR.out hn0).mono ?_
  rintro e w1 ⟨a1, b1, c1, d1, k1, a2, b2, c2, d2, k2, rfl, hb⟩
  have T1 : Own w w1 [] := (Own.start w).call hb
  clear hb
  go_wp2_with fail
  have T1' : Own w ((w1.alloc (.cells #[.int .i64 a1, .int .i64 b1, .int .i64 c1, .int .i64 d1, .int .i64 k1] 29)).alloc (.cells #[.int .i64 a2, .int .i64 b2, .int .i64 c2, .int .i64 d2, .int .i64 k2] 29)) [(w1.heap.size + 1, 29, #[.int .i64 a2, .int .i64 b2, .int .i64 c2, .int .i64 d2, .int .i64 k2]), (w1.heap.size, 29, #[.int .i64 a1, .int .i64 b1, .int .i64 c1, .int .i64 d1, .int .i64 k1])] := by simpa using (T1.push 29 #[.int .i64 a1, .int .i64 b1, .int .i64 c1, .int .i64 d1, .int .i64 k1]).push 29 #[.int .i64 a2, .int .i64 b2, .int .i64 c2, .int .i64 d2, .int .i64 k2]
  refine (l_tail A0 n0 cp0 _ ((HR.out.keep T1'.below).more T1'.below.size) hn0 hc0).mono ?_
  rintro e w' ⟨At, nt, ct, rfl, hR1, hn1, rfl⟩
  have HR1 := Lib.hid hR1
  clear hR1 T1'
  go_wp2_with fail
  refine (d_DrawAddD At nt ct _ HR1.out hn1).mono ?_
  rintro e w2 ⟨a3, b3, c3, d3, k3, a4, b4, c4, d4, k4, rfl, hb⟩
  have T2 : Own w w2 [(w1.heap.size + 1, 29, #[.int .i64 a2, .int .i64 b2, .int .i64 c2, .int .i64 d2, .int .i64 k2]), (w1.heap.size, 29, #[.int .i64 a1, .int .i64 b1, .int .i64 c1, .int .i64 d1, .int .i64 k1])] := by simpa using (((T1.push 29 #[.int .i64 a1, .int .i64 b1, .int .i64 c1, .int .i64 d1, .int .i64 k1]).push 29 #[.int .i64 a2, .int .i64 b2, .int .i64 c2, .int .i64 d2, .int .i64 k2])).call hb
  clear hb T1
  obtain ⟨c2_0_0, c2_0_1, c2_0_2, c2_0_3, c2_0_4, -, -, -, -, -⟩ := T2.head.five
  have l2_0 := T2.head.lt
  have nx2_0 := Nat.ne_of_lt l2_0
  have ny2_0 := Nat.ne_of_gt l2_0
  have le2_0 := Nat.le_of_lt l2_0
  obtain ⟨c2_1_0, c2_1_1, c2_1_2, c2_1_3, c2_1_4, -, -, -, -, -⟩ := T2.tail.head.five
  have l2_1 := T2.tail.head.lt
  have nx2_1 := Nat.ne_of_lt l2_1
  have ny2_1 := Nat.ne_of_gt l2_1
  have le2_1 := Nat.le_of_lt l2_1
  obtain ⟨x5, y5, z5, t5, m5, ok0, hI0, hS0, hT0, hF0⟩ := addD_u a1 b1 c1 d1 k1 a2 b2 c2 d2 k2
  have HI0 := Lib.hid hI0
  have HS0 := Lib.hid hS0
  have HT0 := Lib.hid hT0
  have HF0 := Lib.hid hF0
  clear hI0 hS0 hT0 hF0
  go_wp2_with fail
  refine (HI0.out _).mono ?_
  rintro e w3 ⟨rfl, hb⟩
  have T3 : Own w w3 [(w2.heap.size + 1, 29, #[.int .i64 a4, .int .i64 b4, .int .i64 c4, .int .i64 d4, .int .i64 k4]), (w2.heap.size, 29, #[.int .i64 a3, .int .i64 b3, .int .i64 c3, .int .i64 d3, .int .i64 k3]), (w1.heap.size + 1, 29, #[.int .i64 a2, .int .i64 b2, .int .i64 c2, .int .i64 d2, .int .i64 k2]), (w1.heap.size, 29, #[.int .i64 a1, .int .i64 b1, .int .i64 c1, .int .i64 d1, .int .i64 k1])] := by simpa using (((T2.push 29 #[.int .i64 a3, .int .i64 b3, .int .i64 c3, .int .i64 d3, .int .i64 k3]).push 29 #[.int .i64 a4, .int .i64 b4, .int .i64 c4, .int .i64 d4, .int .i64 k4])).call hb
  clear hb T2
  clear c2_0_0 c2_0_1 c2_0_2 c2_0_3 c2_0_4 c2_1_0 c2_1_1 c2_1_2 c2_1_3 c2_1_4
  obtain ⟨c3_0_0, c3_0_1, c3_0_2, c3_0_3, c3_0_4, -, -, -, -, -⟩ := T3.head.five
  have l3_0 := T3.head.lt
  have nx3_0 := Nat.ne_of_lt l3_0
  have ny3_0 := Nat.ne_of_gt l3_0
  have le3_0 := Nat.le_of_lt l3_0
  obtain ⟨c3_1_0, c3_1_1, c3_1_2, c3_1_3, c3_1_4, -, -, -, -, -⟩ := T3.tail.head.five
  have l3_1 := T3.tail.head.lt
  have nx3_1 := Nat.ne_of_lt l3_1
  have ny3_1 := Nat.ne_of_gt l3_1
  have le3_1 := Nat.le_of_lt l3_1
  obtain ⟨c3_2_0, c3_2_1, c3_2_2, c3_2_3, c3_2_4, -, -, -, -, -⟩ := T3.tail.tail.head.five
  have l3_2 := T3.tail.tail.head.lt
  have nx3_2 := Nat.ne_of_lt l3_2
  have ny3_2 := Nat.ne_of_gt l3_2
  have le3_2 := Nat.le_of_lt l3_2
  obtain ⟨c3_3_0, c3_3_1, c3_3_2, c3_3_3, c3_3_4, -, -, -, -, -⟩ := T3.tail.tail.tail.head.five
  have l3_3 := T3.tail.tail.tail.head.lt
  have nx3_3 := Nat.ne_of_lt l3_3
  have ny3_3 := Nat.ne_of_gt l3_3
  have le3_3 := Nat.le_of_lt l3_3
  obtain ⟨x6, y6, z6, t6, m6, ok1, hI1, hS1, hT1, hF1⟩ := mulD_u a1 b1 c1 d1 k1 a3 b3 c3 d3 k3
  have HI1 := Lib.hid hI1
  have HS1 := Lib.hid hS1
  have HT1 := Lib.hid hT1
  have HF1 := Lib.hid hF1
  clear hI1 hS1 hT1 hF1
  go_wp2_with fail
  refine (HI1.out _).mono ?_
  rintro e w4 ⟨rfl, hb⟩
  have T4 : Own w w4 [(w3.heap.size, 29, #[.int .i64 x5, .int .i64 y5, .int .i64 z5, .int .i64 t5, .int .i64 m5]), (w2.heap.size + 1, 29, #[.int .i64 a4, .int .i64 b4, .int .i64 c4, .int .i64 d4, .int .i64 k4]), (w2.heap.size, 29, #[.int .i64 a3, .int .i64 b3, .int .i64 c3, .int .i64 d3, .int .i64 k3]), (w1.heap.size + 1, 29, #[.int .i64 a2, .int .i64 b2, .int .i64 c2, .int .i64 d2, .int .i64 k2]), (w1.heap.size, 29, #[.int .i64 a1, .int .i64 b1, .int .i64 c1, .int .i64 d1, .int .i64 k1])] := by simpa using ((T3.push 29 #[.int .i64 x5, .int .i64 y5, .int .i64 z5, .int .i64 t5, .int .i64 m5])).call hb
  clear hb T3
  clear c3_0_0 c3_0_1 c3_0_2 c3_0_3 c3_0_4 c3_1_0 c3_1_1 c3_1_2 c3_1_3 c3_1_4 c3_2_0 c3_2_1 c3_2_2 c3_2_3 c3_2_4 c3_3_0 c3_3_1 c3_3_2 c3_3_3 c3_3_4
  obtain ⟨c4_0_0, c4_0_1, c4_0_2, c4_0_3, c4_0_4, -, -, -, -, -⟩ := T4.head.five
  have l4_0 := T4.head.lt
  have nx4_0 := Nat.ne_of_lt l4_0
  have ny4_0 := Nat.ne_of_gt l4_0
  have le4_0 := Nat.le_of_lt l4_0
  obtain ⟨c4_1_0, c4_1_1, c4_1_2, c4_1_3, c4_1_4, -, -, -, -, -⟩ := T4.tail.head.five
  have l4_1 := T4.tail.head.lt
  have nx4_1 := Nat.ne_of_lt l4_1
  have ny4_1 := Nat.ne_of_gt l4_1
  have le4_1 := Nat.le_of_lt l4_1
  obtain ⟨c4_2_0, c4_2_1, c4_2_2, c4_2_3, c4_2_4, -, -, -, -, -⟩ := T4.tail.tail.head.five
  have l4_2 := T4.tail.tail.head.lt
  have nx4_2 := Nat.ne_of_lt l4_2
  have ny4_2 := Nat.ne_of_gt l4_2
  have le4_2 := Nat.le_of_lt l4_2
  obtain ⟨c4_3_0, c4_3_1, c4_3_2, c4_3_3, c4_3_4, -, -, -, -, -⟩ := T4.tail.tail.tail.head.five
  have l4_3 := T4.tail.tail.tail.head.lt
  have nx4_3 := Nat.ne_of_lt l4_3
  have ny4_3 := Nat.ne_of_gt l4_3
  have le4_3 := Nat.le_of_lt l4_3
  obtain ⟨c4_4_0, c4_4_1, c4_4_2, c4_4_3, c4_4_4, -, -, -, -, -⟩ := T4.tail.tail.tail.tail.head.five
  have l4_4 := T4.tail.tail.tail.tail.head.lt
  have nx4_4 := Nat.ne_of_lt l4_4
  have ny4_4 := Nat.ne_of_gt l4_4
  have le4_4 := Nat.le_of_lt l4_4
  obtain ⟨x7, y7, z7, t7, m7, ok2, hI2, hS2, hT2, hF2⟩ := mulD_u a2 b2 c2 d2 k2 a3 b3 c3 d3 k3
  have HI2 := Lib.hid hI2
  have HS2 := Lib.hid hS2
  have HT2 := Lib.hid hT2
  have HF2 := Lib.hid hF2
  clear hI2 hS2 hT2 hF2
  go_wp2_with fail
  refine (HI2.out _).mono ?_
  rintro e w5 ⟨rfl, hb⟩
  have T5 : Own w w5 [(w4.heap.size, 29, #[.int .i64 x6, .int .i64 y6, .int .i64 z6, .int .i64 t6, .int .i64 m6]), (w3.heap.size, 29, #[.int .i64 x5, .int .i64 y5, .int .i64 z5, .int .i64 t5, .int .i64 m5]), (w2.heap.size + 1, 29, #[.int .i64 a4, .int .i64 b4, .int .i64 c4, .int .i64 d4, .int .i64 k4]), (w2.heap.size, 29, #[.int .i64 a3, .int .i64 b3, .int .i64 c3, .int .i64 d3, .int .i64 k3]), (w1.heap.size + 1, 29, #[.int .i64 a2, .int .i64 b2, .int .i64 c2, .int .i64 d2, .int .i64 k2]), (w1.heap.size, 29, #[.int .i64 a1, .int .i64 b1, .int .i64 c1, .int .i64 d1, .int .i64 k1])] := by simpa using ((T4.push 29 #[.int .i64 x6, .int .i64 y6, .int .i64 z6, .int .i64 t6, .int .i64 m6])).call hb
  clear hb T4
  clear c4_0_0 c4_0_1 c4_0_2 c4_0_3 c4_0_4 c4_1_0 c4_1_1 c4_1_2 c4_1_3 c4_1_4 c4_2_0 c4_2_1 c4_2_2 c4_2_3 c4_2_4 c4_3_0 c4_3_1 c4_3_2 c4_3_3 c4_3_4 c4_4_0 c4_4_1 c4_4_2 c4_4_3 c4_4_4
  obtain ⟨c5_0_0, c5_0_1, c5_0_2, c5_0_3, c5_0_4, -, -, -, -, -⟩ := T5.head.five
  have l5_0 := T5.head.lt
  have nx5_0 := Nat.ne_of_lt l5_0
  have ny5_0 := Nat.ne_of_gt l5_0
  have le5_0 := Nat.le_of_lt l5_0
  obtain ⟨c5_1_0, c5_1_1, c5_1_2, c5_1_3, c5_1_4, -, -, -, -, -⟩ := T5.tail.head.five
  have l5_1 := T5.tail.head.lt
  have nx5_1 := Nat.ne_of_lt l5_1
  have ny5_1 := Nat.ne_of_gt l5_1
  have le5_1 := Nat.le_of_lt l5_1
  obtain ⟨c5_2_0, c5_2_1, c5_2_2, c5_2_3, c5_2_4, -, -, -, -, -⟩ := T5.tail.tail.head.five
  have l5_2 := T5.tail.tail.head.lt
  have nx5_2 := Nat.ne_of_lt l5_2
  have ny5_2 := Nat.ne_of_gt l5_2
  have le5_2 := Nat.le_of_lt l5_2
  obtain ⟨c5_3_0, c5_3_1, c5_3_2, c5_3_3, c5_3_4, -, -, -, -, -⟩ := T5.tail.tail.tail.head.five
  have l5_3 := T5.tail.tail.tail.head.lt
  have nx5_3 := Nat.ne_of_lt l5_3
  have ny5_3 := Nat.ne_of_gt l5_3
  have le5_3 := Nat.le_of_lt l5_3
  obtain ⟨c5_4_0, c5_4_1, c5_4_2, c5_4_3, c5_4_4, -, -, -, -, -⟩ := T5.tail.tail.tail.tail.head.five
  have l5_4 := T5.tail.tail.tail.tail.head.lt
  have nx5_4 := Nat.ne_of_lt l5_4
  have ny5_4 := Nat.ne_of_gt l5_4
  have le5_4 := Nat.le_of_lt l5_4
  obtain ⟨c5_5_0, c5_5_1, c5_5_2, c5_5_3, c5_5_4, -, -, -, -, -⟩ := T5.tail.tail.tail.tail.tail.head.five
  have l5_5 := T5.tail.tail.tail.tail.tail.head.lt
  have nx5_5 := Nat.ne_of_lt l5_5
  have ny5_5 := Nat.ne_of_gt l5_5
  have le5_5 := Nat.le_of_lt l5_5
  obtain ⟨x8, y8, z8, t8, m8, ok3, hI3, hS3, hT3, hF3⟩ := mulD_u x5 y5 z5 t5 m5 a3 b3 c3 d3 k3
  have HI3 := Lib.hid hI3
  have HS3 := Lib.hid hS3
  have HT3 := Lib.hid hT3
  have HF3 := Lib.hid hF3
  clear hI3 hS3 hT3 hF3
  go_wp2_with fail
  refine (HI3.out _).mono ?_
  rintro e w6 ⟨rfl, hb⟩
  have T6 : Own w w6 [(w5.heap.size, 29, #[.int .i64 x7, .int .i64 y7, .int .i64 z7, .int .i64 t7, .int .i64 m7]), (w4.heap.size, 29, #[.int .i64 x6, .int .i64 y6, .int .i64 z6, .int .i64 t6, .int .i64 m6]), (w3.heap.size, 29, #[.int .i64 x5, .int .i64 y5, .int .i64 z5, .int .i64 t5, .int .i64 m5]), (w2.heap.size + 1, 29, #[.int .i64 a4, .int .i64 b4, .int .i64 c4, .int .i64 d4, .int .i64 k4]), (w2.heap.size, 29, #[.int .i64 a3, .int .i64 b3, .int .i64 c3, .int .i64 d3, .int .i64 k3]), (w1.heap.size + 1, 29, #[.int .i64 a2, .int .i64 b2, .int .i64 c2, .int .i64 d2, .int .i64 k2]), (w1.heap.size, 29, #[.int .i64 a1, .int .i64 b1, .int .i64 c1, .int .i64 d1, .int .i64 k1])] := by simpa using ((T5.push 29 #[.int .i64 x7, .int .i64 y7, .int .i64 z7, .int .i64 t7, .int .i64 m7])).call hb
  clear hb T5
  clear c5_0_0 c5_0_1 c5_0_2 c5_0_3 c5_0_4 c5_1_0 c5_1_1 c5_1_2 c5_1_3 c5_1_4 c5_2_0 c5_2_1 c5_2_2 c5_2_3 c5_2_4 c5_3_0 c5_3_1 c5_3_2 c5_3_3 c5_3_4 c5_4_0 c5_4_1 c5_4_2 c5_4_3 c5_4_4 c5_5_0 c5_5_1 c5_5_2 c5_5_3 c5_5_4
  obtain ⟨c6_0_0, c6_0_1, c6_0_2, c6_0_3, c6_0_4, -, -, -, -, -⟩ := T6.head.five
  have l6_0 := T6.head.lt
  have nx6_0 := Nat.ne_of_lt l6_0
  have ny6_0 := Nat.ne_of_gt l6_0
  have le6_0 := Nat.le_of_lt l6_0
  obtain ⟨c6_1_0, c6_1_1, c6_1_2, c6_1_3, c6_1_4, -, -, -, -, -⟩ := T6.tail.head.five
  have l6_1 := T6.tail.head.lt
  have nx6_1 := Nat.ne_of_lt l6_1
  have ny6_1 := Nat.ne_of_gt l6_1
  have le6_1 := Nat.le_of_lt l6_1
  obtain ⟨c6_2_0, c6_2_1, c6_2_2, c6_2_3, c6_2_4, -, -, -, -, -⟩ := T6.tail.tail.head.five
  have l6_2 := T6.tail.tail.head.lt
  have nx6_2 := Nat.ne_of_lt l6_2
  have ny6_2 := Nat.ne_of_gt l6_2
  have le6_2 := Nat.le_of_lt l6_2
  obtain ⟨c6_3_0, c6_3_1, c6_3_2, c6_3_3, c6_3_4, -, -, -, -, -⟩ := T6.tail.tail.tail.head.five
  have l6_3 := T6.tail.tail.tail.head.lt
  have nx6_3 := Nat.ne_of_lt l6_3
  have ny6_3 := Nat.ne_of_gt l6_3
  have le6_3 := Nat.le_of_lt l6_3
  obtain ⟨c6_4_0, c6_4_1, c6_4_2, c6_4_3, c6_4_4, -, -, -, -, -⟩ := T6.tail.tail.tail.tail.head.five
  have l6_4 := T6.tail.tail.tail.tail.head.lt
  have nx6_4 := Nat.ne_of_lt l6_4
  have ny6_4 := Nat.ne_of_gt l6_4
  have le6_4 := Nat.le_of_lt l6_4
  obtain ⟨c6_5_0, c6_5_1, c6_5_2, c6_5_3, c6_5_4, -, -, -, -, -⟩ := T6.tail.tail.tail.tail.tail.head.five
  have l6_5 := T6.tail.tail.tail.tail.tail.head.lt
  have nx6_5 := Nat.ne_of_lt l6_5
  have ny6_5 := Nat.ne_of_gt l6_5
  have le6_5 := Nat.le_of_lt l6_5
  obtain ⟨c6_6_0, c6_6_1, c6_6_2, c6_6_3, c6_6_4, -, -, -, -, -⟩ := T6.tail.tail.tail.tail.tail.tail.head.five
  have l6_6 := T6.tail.tail.tail.tail.tail.tail.head.lt
  have nx6_6 := Nat.ne_of_lt l6_6
  have ny6_6 := Nat.ne_of_gt l6_6
  have le6_6 := Nat.le_of_lt l6_6
  obtain ⟨x9, y9, z9, t9, m9, ok4, hI4, hS4, hT4, hF4⟩ := addD_u x6 y6 z6 t6 m6 x7 y7 z7 t7 m7
  have HI4 := Lib.hid hI4
  have HS4 := Lib.hid hS4
  have HT4 := Lib.hid hT4
  have HF4 := Lib.hid hF4
  clear hI4 hS4 hT4 hF4
  go_wp2_with fail
  refine (HI4.out _).mono ?_
  rintro e w7 ⟨rfl, hb⟩
  have T7 : Own w w7 [(w6.heap.size, 29, #[.int .i64 x8, .int .i64 y8, .int .i64 z8, .int .i64 t8, .int .i64 m8]), (w5.heap.size, 29, #[.int .i64 x7, .int .i64 y7, .int .i64 z7, .int .i64 t7, .int .i64 m7]), (w4.heap.size, 29, #[.int .i64 x6, .int .i64 y6, .int .i64 z6, .int .i64 t6, .int .i64 m6]), (w3.heap.size, 29, #[.int .i64 x5, .int .i64 y5, .int .i64 z5, .int .i64 t5, .int .i64 m5]), (w2.heap.size + 1, 29, #[.int .i64 a4, .int .i64 b4, .int .i64 c4, .int .i64 d4, .int .i64 k4]), (w2.heap.size, 29, #[.int .i64 a3, .int .i64 b3, .int .i64 c3, .int .i64 d3, .int .i64 k3]), (w1.heap.size + 1, 29, #[.int .i64 a2, .int .i64 b2, .int .i64 c2, .int .i64 d2, .int .i64 k2]), (w1.heap.size, 29, #[.int .i64 a1, .int .i64 b1, .int .i64 c1, .int .i64 d1, .int .i64 k1])] := by simpa using ((T6.push 29 #[.int .i64 x8, .int .i64 y8, .int .i64 z8, .int .i64 t8, .int .i64 m8])).call hb
  clear hb T6
  clear c6_0_0 c6_0_1 c6_0_2 c6_0_3 c6_0_4 c6_1_0 c6_1_1 c6_1_2 c6_1_3 c6_1_4 c6_2_0 c6_2_1 c6_2_2 c6_2_3 c6_2_4 c6_3_0 c6_3_1 c6_3_2 c6_3_3 c6_3_4 c6_4_0 c6_4_1 c6_4_2 c6_4_3 c6_4_4 c6_5_0 c6_5_1 c6_5_2 c6_5_3 c6_5_4 c6_6_0 c6_6_1 c6_6_2 c6_6_3 c6_6_4
  obtain ⟨c7_0_0, c7_0_1, c7_0_2, c7_0_3, c7_0_4, -, -, -, -, -⟩ := T7.head.five
  have l7_0 := T7.head.lt
  have nx7_0 := Nat.ne_of_lt l7_0
  have ny7_0 := Nat.ne_of_gt l7_0
  have le7_0 := Nat.le_of_lt l7_0
  obtain ⟨c7_1_0, c7_1_1, c7_1_2, c7_1_3, c7_1_4, -, -, -, -, -⟩ := T7.tail.head.five
  have l7_1 := T7.tail.head.lt
  have nx7_1 := Nat.ne_of_lt l7_1
  have ny7_1 := Nat.ne_of_gt l7_1
  have le7_1 := Nat.le_of_lt l7_1
  obtain ⟨c7_2_0, c7_2_1, c7_2_2, c7_2_3, c7_2_4, -, -, -, -, -⟩ := T7.tail.tail.head.five
  have l7_2 := T7.tail.tail.head.lt
  have nx7_2 := Nat.ne_of_lt l7_2
  have ny7_2 := Nat.ne_of_gt l7_2
  have le7_2 := Nat.le_of_lt l7_2
  obtain ⟨c7_3_0, c7_3_1, c7_3_2, c7_3_3, c7_3_4, -, -, -, -, -⟩ := T7.tail.tail.tail.head.five
  have l7_3 := T7.tail.tail.tail.head.lt
  have nx7_3 := Nat.ne_of_lt l7_3
  have ny7_3 := Nat.ne_of_gt l7_3
  have le7_3 := Nat.le_of_lt l7_3
  obtain ⟨c7_4_0, c7_4_1, c7_4_2, c7_4_3, c7_4_4, -, -, -, -, -⟩ := T7.tail.tail.tail.tail.head.five
  have l7_4 := T7.tail.tail.tail.tail.head.lt
  have nx7_4 := Nat.ne_of_lt l7_4
  have ny7_4 := Nat.ne_of_gt l7_4
  have le7_4 := Nat.le_of_lt l7_4
  obtain ⟨c7_5_0, c7_5_1, c7_5_2, c7_5_3, c7_5_4, -, -, -, -, -⟩ := T7.tail.tail.tail.tail.tail.head.five
  have l7_5 := T7.tail.tail.tail.tail.tail.head.lt
  have nx7_5 := Nat.ne_of_lt l7_5
  have ny7_5 := Nat.ne_of_gt l7_5
  have le7_5 := Nat.le_of_lt l7_5
  obtain ⟨c7_6_0, c7_6_1, c7_6_2, c7_6_3, c7_6_4, -, -, -, -, -⟩ := T7.tail.tail.tail.tail.tail.tail.head.five
  have l7_6 := T7.tail.tail.tail.tail.tail.tail.head.lt
  have nx7_6 := Nat.ne_of_lt l7_6
  have ny7_6 := Nat.ne_of_gt l7_6
  have le7_6 := Nat.le_of_lt l7_6
  obtain ⟨c7_7_0, c7_7_1, c7_7_2, c7_7_3, c7_7_4, -, -, -, -, -⟩ := T7.tail.tail.tail.tail.tail.tail.tail.head.five
  have l7_7 := T7.tail.tail.tail.tail.tail.tail.tail.head.lt
  have nx7_7 := Nat.ne_of_lt l7_7
  have ny7_7 := Nat.ne_of_gt l7_7
  have le7_7 := Nat.le_of_lt l7_7
  cases ok0
  · go_wp2_with fail
    refine (HS1.out _).mono ?_
    rintro e w8 ⟨rfl, hb⟩
    have T8 : Own w w8 [(w7.heap.size, 29, #[.int .i64 x9, .int .i64 y9, .int .i64 z9, .int .i64 t9, .int .i64 m9]), (w6.heap.size, 29, #[.int .i64 x8, .int .i64 y8, .int .i64 z8, .int .i64 t8, .int .i64 m8]), (w5.heap.size, 29, #[.int .i64 x7, .int .i64 y7, .int .i64 z7, .int .i64 t7, .int .i64 m7]), (w4.heap.size, 29, #[.int .i64 x6, .int .i64 y6, .int .i64 z6, .int .i64 t6, .int .i64 m6]), (w3.heap.size, 29, #[.int .i64 x5, .int .i64 y5, .int .i64 z5, .int .i64 t5, .int .i64 m5]), (w2.heap.size + 1, 29, #[.int .i64 a4, .int .i64 b4, .int .i64 c4, .int .i64 d4, .int .i64 k4]), (w2.heap.size, 29, #[.int .i64 a3, .int .i64 b3, .int .i64 c3, .int .i64 d3, .int .i64 k3]), (w1.heap.size + 1, 29, #[.int .i64 a2, .int .i64 b2, .int .i64 c2, .int .i64 d2, .int .i64 k2]), (w1.heap.size, 29, #[.int .i64 a1, .int .i64 b1, .int .i64 c1, .int .i64 d1, .int .i64 k1])] := by simpa using ((T7.push 29 #[.int .i64 x9, .int .i64 y9, .int .i64 z9, .int .i64 t9, .int .i64 m9])).call hb
    clear hb T7
    clear c7_0_0 c7_0_1 c7_0_2 c7_0_3 c7_0_4 c7_1_0 c7_1_1 c7_1_2 c7_1_3 c7_1_4 c7_2_0 c7_2_1 c7_2_2 c7_2_3 c7_2_4 c7_3_0 c7_3_1 c7_3_2 c7_3_3 c7_3_4 c7_4_0 c7_4_1 c7_4_2 c7_4_3 c7_4_4 c7_5_0 c7_5_1 c7_5_2 c7_5_3 c7_5_4 c7_6_0 c7_6_1 c7_6_2 c7_6_3 c7_6_4 c7_7_0 c7_7_1 c7_7_2 c7_7_3 c7_7_4
    obtain ⟨c8_0_0, c8_0_1, c8_0_2, c8_0_3, c8_0_4, -, -, -, -, -⟩ := T8.head.five
    have l8_0 := T8.head.lt
    have nx8_0 := Nat.ne_of_lt l8_0
    have ny8_0 := Nat.ne_of_gt l8_0
    have le8_0 := Nat.le_of_lt l8_0
    obtain ⟨c8_1_0, c8_1_1, c8_1_2, c8_1_3, c8_1_4, -, -, -, -, -⟩ := T8.tail.head.five
    have l8_1 := T8.tail.head.lt
    have nx8_1 := Nat.ne_of_lt l8_1
    have ny8_1 := Nat.ne_of_gt l8_1
    have le8_1 := Nat.le_of_lt l8_1
    obtain ⟨c8_2_0, c8_2_1, c8_2_2, c8_2_3, c8_2_4, -, -, -, -, -⟩ := T8.tail.tail.head.five
    have l8_2 := T8.tail.tail.head.lt
    have nx8_2 := Nat.ne_of_lt l8_2
    have ny8_2 := Nat.ne_of_gt l8_2
    have le8_2 := Nat.le_of_lt l8_2
    obtain ⟨c8_3_0, c8_3_1, c8_3_2, c8_3_3, c8_3_4, -, -, -, -, -⟩ := T8.tail.tail.tail.head.five
    have l8_3 := T8.tail.tail.tail.head.lt
    have nx8_3 := Nat.ne_of_lt l8_3
    have ny8_3 := Nat.ne_of_gt l8_3
    have le8_3 := Nat.le_of_lt l8_3
    obtain ⟨c8_4_0, c8_4_1, c8_4_2, c8_4_3, c8_4_4, -, -, -, -, -⟩ := T8.tail.tail.tail.tail.head.five
    have l8_4 := T8.tail.tail.tail.tail.head.lt
    have nx8_4 := Nat.ne_of_lt l8_4
    have ny8_4 := Nat.ne_of_gt l8_4
    have le8_4 := Nat.le_of_lt l8_4
    obtain ⟨c8_5_0, c8_5_1, c8_5_2, c8_5_3, c8_5_4, -, -, -, -, -⟩ := T8.tail.tail.tail.tail.tail.head.five
    have l8_5 := T8.tail.tail.tail.tail.tail.head.lt
    have nx8_5 := Nat.ne_of_lt l8_5
    have ny8_5 := Nat.ne_of_gt l8_5
    have le8_5 := Nat.le_of_lt l8_5
    obtain ⟨c8_6_0, c8_6_1, c8_6_2, c8_6_3, c8_6_4, -, -, -, -, -⟩ := T8.tail.tail.tail.tail.tail.tail.head.five
    have l8_6 := T8.tail.tail.tail.tail.tail.tail.head.lt
    have nx8_6 := Nat.ne_of_lt l8_6
    have ny8_6 := Nat.ne_of_gt l8_6
    have le8_6 := Nat.le_of_lt l8_6
    obtain ⟨c8_7_0, c8_7_1, c8_7_2, c8_7_3, c8_7_4, -, -, -, -, -⟩ := T8.tail.tail.tail.tail.tail.tail.tail.head.five
    have l8_7 := T8.tail.tail.tail.tail.tail.tail.tail.head.lt
    have nx8_7 := Nat.ne_of_lt l8_7
    have ny8_7 := Nat.ne_of_gt l8_7
    have le8_7 := Nat.le_of_lt l8_7
    obtain ⟨c8_8_0, c8_8_1, c8_8_2, c8_8_3, c8_8_4, -, -, -, -, -⟩ := T8.tail.tail.tail.tail.tail.tail.tail.tail.head.five
    have l8_8 := T8.tail.tail.tail.tail.tail.tail.tail.tail.head.lt
    have nx8_8 := Nat.ne_of_lt l8_8
    have ny8_8 := Nat.ne_of_gt l8_8
    have le8_8 := Nat.le_of_lt l8_8
    have hw := T8.below
    go_wp2
    go_ret
    refine ret_eq (by simp) ?_
    repeat (first | (with_reducible exact Below.refl _ _) | (with_reducible assumption) | (with_reducible refine bl_alloc ?_ _) | (with_reducible refine bl_drew ?_) | (with_reducible refine bl_set ?_ (by simp <;> omega) _) | (with_reducible refine bl_call ?_ (by assumption)))
  cases ok1
  · go_wp2_with fail
    refine (HS1.out _).mono ?_
    rintro e w8 ⟨rfl, hb⟩
    have T8 : Own w w8 [(w7.heap.size, 29, #[.int .i64 x9, .int .i64 y9, .int .i64 z9, .int .i64 t9, .int .i64 m9]), (w6.heap.size, 29, #[.int .i64 x8, .int .i64 y8, .int .i64 z8, .int .i64 t8, .int .i64 m8]), (w5.heap.size, 29, #[.int .i64 x7, .int .i64 y7, .int .i64 z7, .int .i64 t7, .int .i64 m7]), (w4.heap.size, 29, #[.int .i64 x6, .int .i64 y6, .int .i64 z6, .int .i64 t6, .int .i64 m6]), (w3.heap.size, 29, #[.int .i64 x5, .int .i64 y5, .int .i64 z5, .int .i64 t5, .int .i64 m5]), (w2.heap.size + 1, 29, #[.int .i64 a4, .int .i64 b4, .int .i64 c4, .int .i64 d4, .int .i64 k4]), (w2.heap.size, 29, #[.int .i64 a3, .int .i64 b3, .int .i64 c3, .int .i64 d3, .int .i64 k3]), (w1.heap.size + 1, 29, #[.int .i64 a2, .int .i64 b2, .int .i64 c2, .int .i64 d2, .int .i64 k2]), (w1.heap.size, 29, #[.int .i64 a1, .int .i64 b1, .int .i64 c1, .int .i64 d1, .int .i64 k1])] := by simpa using ((T7.push 29 #[.int .i64 x9, .int .i64 y9, .int .i64 z9, .int .i64 t9, .int .i64 m9])).call hb
    clear hb T7
    clear c7_0_0 c7_0_1 c7_0_2 c7_0_3 c7_0_4 c7_1_0 c7_1_1 c7_1_2 c7_1_3 c7_1_4 c7_2_0 c7_2_1 c7_2_2 c7_2_3 c7_2_4 c7_3_0 c7_3_1 c7_3_2 c7_3_3 c7_3_4 c7_4_0 c7_4_1 c7_4_2 c7_4_3 c7_4_4 c7_5_0 c7_5_1 c7_5_2 c7_5_3 c7_5_4 c7_6_0 c7_6_1 c7_6_2 c7_6_3 c7_6_4 c7_7_0 c7_7_1 c7_7_2 c7_7_3 c7_7_4
    obtain ⟨c8_0_0, c8_0_1, c8_0_2, c8_0_3, c8_0_4, -, -, -, -, -⟩ := T8.head.five
    have l8_0 := T8.head.lt
    have nx8_0 := Nat.ne_of_lt l8_0
    have ny8_0 := Nat.ne_of_gt l8_0
    have le8_0 := Nat.le_of_lt l8_0
    obtain ⟨c8_1_0, c8_1_1, c8_1_2, c8_1_3, c8_1_4, -, -, -, -, -⟩ := T8.tail.head.five
    have l8_1 := T8.tail.head.lt
    have nx8_1 := Nat.ne_of_lt l8_1
    have ny8_1 := Nat.ne_of_gt l8_1
    have le8_1 := Nat.le_of_lt l8_1
    obtain ⟨c8_2_0, c8_2_1, c8_2_2, c8_2_3, c8_2_4, -, -, -, -, -⟩ := T8.tail.tail.head.five
    have l8_2 := T8.tail.tail.head.lt
    have nx8_2 := Nat.ne_of_lt l8_2
    have ny8_2 := Nat.ne_of_gt l8_2
    have le8_2 := Nat.le_of_lt l8_2
    obtain ⟨c8_3_0, c8_3_1, c8_3_2, c8_3_3, c8_3_4, -, -, -, -, -⟩ := T8.tail.tail.tail.head.five
    have l8_3 := T8.tail.tail.tail.head.lt
    have nx8_3 := Nat.ne_of_lt l8_3
    have ny8_3 := Nat.ne_of_gt l8_3
    have le8_3 := Nat.le_of_lt l8_3
    obtain ⟨c8_4_0, c8_4_1, c8_4_2, c8_4_3, c8_4_4, -, -, -, -, -⟩ := T8.tail.tail.tail.tail.head.five
    have l8_4 := T8.tail.tail.tail.tail.head.lt
    have nx8_4 := Nat.ne_of_lt l8_4
    have ny8_4 := Nat.ne_of_gt l8_4
    have le8_4 := Nat.le_of_lt l8_4
    obtain ⟨c8_5_0, c8_5_1, c8_5_2, c8_5_3, c8_5_4, -, -, -, -, -⟩ := T8.tail.tail.tail.tail.tail.head.five
    have l8_5 := T8.tail.tail.tail.tail.tail.head.lt
    have nx8_5 := Nat.ne_of_lt l8_5
    have ny8_5 := Nat.ne_of_gt l8_5
    have le8_5 := Nat.le_of_lt l8_5
    obtain ⟨c8_6_0, c8_6_1, c8_6_2, c8_6_3, c8_6_4, -, -, -, -, -⟩ := T8.tail.tail.tail.tail.tail.tail.head.five
    have l8_6 := T8.tail.tail.tail.tail.tail.tail.head.lt
    have nx8_6 := Nat.ne_of_lt l8_6
    have ny8_6 := Nat.ne_of_gt l8_6
    have le8_6 := Nat.le_of_lt l8_6
    obtain ⟨c8_7_0, c8_7_1, c8_7_2, c8_7_3, c8_7_4, -, -, -, -, -⟩ := T8.tail.tail.tail.tail.tail.tail.tail.head.five
    have l8_7 := T8.tail.tail.tail.tail.tail.tail.tail.head.lt
    have nx8_7 := Nat.ne_of_lt l8_7
    have ny8_7 := Nat.ne_of_gt l8_7
    have le8_7 := Nat.le_of_lt l8_7
    obtain ⟨c8_8_0, c8_8_1, c8_8_2, c8_8_3, c8_8_4, -, -, -, -, -⟩ := T8.tail.tail.tail.tail.tail.tail.tail.tail.head.five
    have l8_8 := T8.tail.tail.tail.tail.tail.tail.tail.tail.head.lt
    have nx8_8 := Nat.ne_of_lt l8_8
    have ny8_8 := Nat.ne_of_gt l8_8
    have le8_8 := Nat.le_of_lt l8_8
    have hw := T8.below
    go_wp2
    go_ret
    refine ret_eq (by simp) ?_
    repeat (first | (with_reducible exact Below.refl _ _) | (with_reducible assumption) | (with_reducible refine bl_alloc ?_ _) | (with_reducible refine bl_drew ?_) | (with_reducible refine bl_set ?_ (by simp <;> omega) _) | (with_reducible refine bl_call ?_ (by assumption)))
  cases ok2
  · go_wp2_with fail
    refine (HS1.out _).mono ?_
    rintro e w8 ⟨rfl, hb⟩
    have T8 : Own w w8 [(w7.heap.size, 29, #[.int .i64 x9, .int .i64 y9, .int .i64 z9, .int .i64 t9, .int .i64 m9]), (w6.heap.size, 29, #[.int .i64 x8, .int .i64 y8, .int .i64 z8, .int .i64 t8, .int .i64 m8]), (w5.heap.size, 29, #[.int .i64 x7, .int .i64 y7, .int .i64 z7, .int .i64 t7, .int .i64 m7]), (w4.heap.size, 29, #[.int .i64 x6, .int .i64 y6, .int .i64 z6, .int .i64 t6, .int .i64 m6]), (w3.heap.size, 29, #[.int .i64 x5, .int .i64 y5, .int .i64 z5, .int .i64 t5, .int .i64 m5]), (w2.heap.size + 1, 29, #[.int .i64 a4, .int .i64 b4, .int .i64 c4, .int .i64 d4, .int .i64 k4]), (w2.heap.size, 29, #[.int .i64 a3, .int .i64 b3, .int .i64 c3, .int .i64 d3, .int .i64 k3]), (w1.heap.size + 1, 29, #[.int .i64 a2, .int .i64 b2, .int .i64 c2, .int .i64 d2, .int .i64 k2]), (w1.heap.size, 29, #[.int .i64 a1, .int .i64 b1, .int .i64 c1, .int .i64 d1, .int .i64 k1])] := by simpa using ((T7.push 29 #[.int .i64 x9, .int .i64 y9, .int .i64 z9, .int .i64 t9, .int .i64 m9])).call hb
    clear hb T7
    clear c7_0_0 c7_0_1 c7_0_2 c7_0_3 c7_0_4 c7_1_0 c7_1_1 c7_1_2 c7_1_3 c7_1_4 c7_2_0 c7_2_1 c7_2_2 c7_2_3 c7_2_4 c7_3_0 c7_3_1 c7_3_2 c7_3_3 c7_3_4 c7_4_0 c7_4_1 c7_4_2 c7_4_3 c7_4_4 c7_5_0 c7_5_1 c7_5_2 c7_5_3 c7_5_4 c7_6_0 c7_6_1 c7_6_2 c7_6_3 c7_6_4 c7_7_0 c7_7_1 c7_7_2 c7_7_3 c7_7_4
    obtain ⟨c8_0_0, c8_0_1, c8_0_2, c8_0_3, c8_0_4, -, -, -, -, -⟩ := T8.head.five
    have l8_0 := T8.head.lt
    have nx8_0 := Nat.ne_of_lt l8_0
    have ny8_0 := Nat.ne_of_gt l8_0
    have le8_0 := Nat.le_of_lt l8_0
    obtain ⟨c8_1_0, c8_1_1, c8_1_2, c8_1_3, c8_1_4, -, -, -, -, -⟩ := T8.tail.head.five
    have l8_1 := T8.tail.head.lt
    have nx8_1 := Nat.ne_of_lt l8_1
    have ny8_1 := Nat.ne_of_gt l8_1
    have le8_1 := Nat.le_of_lt l8_1
    obtain ⟨c8_2_0, c8_2_1, c8_2_2, c8_2_3, c8_2_4, -, -, -, -, -⟩ := T8.tail.tail.head.five
    have l8_2 := T8.tail.tail.head.lt
    have nx8_2 := Nat.ne_of_lt l8_2
    have ny8_2 := Nat.ne_of_gt l8_2
    have le8_2 := Nat.le_of_lt l8_2
    obtain ⟨c8_3_0, c8_3_1, c8_3_2, c8_3_3, c8_3_4, -, -, -, -, -⟩ := T8.tail.tail.tail.head.five
    have l8_3 := T8.tail.tail.tail.head.lt
    have nx8_3 := Nat.ne_of_lt l8_3
    have ny8_3 := Nat.ne_of_gt l8_3
    have le8_3 := Nat.le_of_lt l8_3
    obtain ⟨c8_4_0, c8_4_1, c8_4_2, c8_4_3, c8_4_4, -, -, -, -, -⟩ := T8.tail.tail.tail.tail.head.five
    have l8_4 := T8.tail.tail.tail.tail.head.lt
    have nx8_4 := Nat.ne_of_lt l8_4
    have ny8_4 := Nat.ne_of_gt l8_4
    have le8_4 := Nat.le_of_lt l8_4
    obtain ⟨c8_5_0, c8_5_1, c8_5_2, c8_5_3, c8_5_4, -, -, -, -, -⟩ := T8.tail.tail.tail.tail.tail.head.five
    have l8_5 := T8.tail.tail.tail.tail.tail.head.lt
    have nx8_5 := Nat.ne_of_lt l8_5
    have ny8_5 := Nat.ne_of_gt l8_5
    have le8_5 := Nat.le_of_lt l8_5
    obtain ⟨c8_6_0, c8_6_1, c8_6_2, c8_6_3, c8_6_4, -, -, -, -, -⟩ := T8.tail.tail.tail.tail.tail.tail.head.five
    have l8_6 := T8.tail.tail.tail.tail.tail.tail.head.lt
    have nx8_6 := Nat.ne_of_lt l8_6
    have ny8_6 := Nat.ne_of_gt l8_6
    have le8_6 := Nat.le_of_lt l8_6
    obtain ⟨c8_7_0, c8_7_1, c8_7_2, c8_7_3, c8_7_4, -, -, -, -, -⟩ := T8.tail.tail.tail.tail.tail.tail.tail.head.five
    have l8_7 := T8.tail.tail.tail.tail.tail.tail.tail.head.lt
    have nx8_7 := Nat.ne_of_lt l8_7
    have ny8_7 := Nat.ne_of_gt l8_7
    have le8_7 := Nat.le_of_lt l8_7
    obtain ⟨c8_8_0, c8_8_1, c8_8_2, c8_8_3, c8_8_4, -, -, -, -, -⟩ := T8.tail.tail.tail.tail.tail.tail.tail.tail.head.five
    have l8_8 := T8.tail.tail.tail.tail.tail.tail.tail.tail.head.lt
    have nx8_8 := Nat.ne_of_lt l8_8
    have ny8_8 := Nat.ne_of_gt l8_8
    have le8_8 := Nat.le_of_lt l8_8
    have hw := T8.below
    go_wp2
    go_ret
    refine ret_eq (by simp) ?_
    repeat (first | (with_reducible exact Below.refl _ _) | (with_reducible assumption) | (with_reducible refine bl_alloc ?_ _) | (with_reducible refine bl_drew ?_) | (with_reducible refine bl_set ?_ (by simp <;> omega) _) | (with_reducible refine bl_call ?_ (by assumption)))
  cases ok3
  · go_wp2_with fail
    refine (HS1.out _).mono ?_
    rintro e w8 ⟨rfl, hb⟩
    have T8 : Own w w8 [(w7.heap.size, 29, #[.int .i64 x9, .int .i64 y9, .int .i64 z9, .int .i64 t9, .int .i64 m9]), (w6.heap.size, 29, #[.int .i64 x8, .int .i64 y8, .int .i64 z8, .int .i64 t8, .int .i64 m8]), (w5.heap.size, 29, #[.int .i64 x7, .int .i64 y7, .int .i64 z7, .int .i64 t7, .int .i64 m7]), (w4.heap.size, 29, #[.int .i64 x6, .int .i64 y6, .int .i64 z6, .int .i64 t6, .int .i64 m6]), (w3.heap.size, 29, #[.int .i64 x5, .int .i64 y5, .int .i64 z5, .int .i64 t5, .int .i64 m5]), (w2.heap.size + 1, 29, #[.int .i64 a4, .int .i64 b4, .int .i64 c4, .int .i64 d4, .int .i64 k4]), (w2.heap.size, 29, #[.int .i64 a3, .int .i64 b3, .int .i64 c3, .int .i64 d3, .int .i64 k3]), (w1.heap.size + 1, 29, #[.int .i64 a2, .int .i64 b2, .int .i64 c2, .int .i64 d2, .int .i64 k2]), (w1.heap.size, 29, #[.int .i64 a1, .int .i64 b1, .int .i64 c1, .int .i64 d1, .int .i64 k1])] := by simpa using ((T7.push 29 #[.int .i64 x9, .int .i64 y9, .int .i64 z9, .int .i64 t9, .int .i64 m9])).call hb
    clear hb T7
    clear c7_0_0 c7_0_1 c7_0_2 c7_0_3 c7_0_4 c7_1_0 c7_1_1 c7_1_2 c7_1_3 c7_1_4 c7_2_0 c7_2_1 c7_2_2 c7_2_3 c7_2_4 c7_3_0 c7_3_1 c7_3_2 c7_3_3 c7_3_4 c7_4_0 c7_4_1 c7_4_2 c7_4_3 c7_4_4 c7_5_0 c7_5_1 c7_5_2 c7_5_3 c7_5_4 c7_6_0 c7_6_1 c7_6_2 c7_6_3 c7_6_4 c7_7_0 c7_7_1 c7_7_2 c7_7_3 c7_7_4
    obtain ⟨c8_0_0, c8_0_1, c8_0_2, c8_0_3, c8_0_4, -, -, -, -, -⟩ := T8.head.five
    have l8_0 := T8.head.lt
    have nx8_0 := Nat.ne_of_lt l8_0
    have ny8_0 := Nat.ne_of_gt l8_0
    have le8_0 := Nat.le_of_lt l8_0
    obtain ⟨c8_1_0, c8_1_1, c8_1_2, c8_1_3, c8_1_4, -, -, -, -, -⟩ := T8.tail.head.five
    have l8_1 := T8.tail.head.lt
    have nx8_1 := Nat.ne_of_lt l8_1
    have ny8_1 := Nat.ne_of_gt l8_1
    have le8_1 := Nat.le_of_lt l8_1
    obtain ⟨c8_2_0, c8_2_1, c8_2_2, c8_2_3, c8_2_4, -, -, -, -, -⟩ := T8.tail.tail.head.five
    have l8_2 := T8.tail.tail.head.lt
    have nx8_2 := Nat.ne_of_lt l8_2
    have ny8_2 := Nat.ne_of_gt l8_2
    have le8_2 := Nat.le_of_lt l8_2
    obtain ⟨c8_3_0, c8_3_1, c8_3_2, c8_3_3, c8_3_4, -, -, -, -, -⟩ := T8.tail.tail.tail.head.five
    have l8_3 := T8.tail.tail.tail.head.lt
    have nx8_3 := Nat.ne_of_lt l8_3
    have ny8_3 := Nat.ne_of_gt l8_3
    have le8_3 := Nat.le_of_lt l8_3
    obtain ⟨c8_4_0, c8_4_1, c8_4_2, c8_4_3, c8_4_4, -, -, -, -, -⟩ := T8.tail.tail.tail.tail.head.five
    have l8_4 := T8.tail.tail.tail.tail.head.lt
    have nx8_4 := Nat.ne_of_lt l8_4
    have ny8_4 := Nat.ne_of_gt l8_4
    have le8_4 := Nat.le_of_lt l8_4
    obtain ⟨c8_5_0, c8_5_1, c8_5_2, c8_5_3, c8_5_4, -, -, -, -, -⟩ := T8.tail.tail.tail.tail.tail.head.five
    have l8_5 := T8.tail.tail.tail.tail.tail.head.lt
    have nx8_5 := Nat.ne_of_lt l8_5
    have ny8_5 := Nat.ne_of_gt l8_5
    have le8_5 := Nat.le_of_lt l8_5
    obtain ⟨c8_6_0, c8_6_1, c8_6_2, c8_6_3, c8_6_4, -, -, -, -, -⟩ := T8.tail.tail.tail.tail.tail.tail.head.five
    have l8_6 := T8.tail.tail.tail.tail.tail.tail.head.lt
    have nx8_6 := Nat.ne_of_lt l8_6
    have ny8_6 := Nat.ne_of_gt l8_6
    have le8_6 := Nat.le_of_lt l8_6
    obtain ⟨c8_7_0, c8_7_1, c8_7_2, c8_7_3, c8_7_4, -, -, -, -, -⟩ := T8.tail.tail.tail.tail.tail.tail.tail.head.five
    have l8_7 := T8.tail.tail.tail.tail.tail.tail.tail.head.lt
    have nx8_7 := Nat.ne_of_lt l8_7
    have ny8_7 := Nat.ne_of_gt l8_7
    have le8_7 := Nat.le_of_lt l8_7
    obtain ⟨c8_8_0, c8_8_1, c8_8_2, c8_8_3, c8_8_4, -, -, -, -, -⟩ := T8.tail.tail.tail.tail.tail.tail.tail.tail.head.five
    have l8_8 := T8.tail.tail.tail.tail.tail.tail.tail.tail.head.lt
    have nx8_8 := Nat.ne_of_lt l8_8
    have ny8_8 := Nat.ne_of_gt l8_8
    have le8_8 := Nat.le_of_lt l8_8
    have hw := T8.below
    go_wp2
    go_ret
    refine ret_eq (by simp) ?_
    repeat (first | (with_reducible exact Below.refl _ _) | (with_reducible assumption) | (with_reducible refine bl_alloc ?_ _) | (with_reducible refine bl_drew ?_) | (with_reducible refine bl_set ?_ (by simp <;> omega) _) | (with_reducible refine bl_call ?_ (by assumption)))
  cases ok4
  · go_wp2_with fail
    refine (HS1.out _).mono ?_
    rintro e w8 ⟨rfl, hb⟩
    have T8 : Own w w8 [(w7.heap.size, 29, #[.int .i64 x9, .int .i64 y9, .int .i64 z9, .int .i64 t9, .int .i64 m9]), (w6.heap.size, 29, #[.int .i64 x8, .int .i64 y8, .int .i64 z8, .int .i64 t8, .int .i64 m8]), (w5.heap.size, 29, #[.int .i64 x7, .int .i64 y7, .int .i64 z7, .int .i64 t7, .int .i64 m7]), (w4.heap.size, 29, #[.int .i64 x6, .int .i64 y6, .int .i64 z6, .int .i64 t6, .int .i64 m6]), (w3.heap.size, 29, #[.int .i64 x5, .int .i64 y5, .int .i64 z5, .int .i64 t5, .int .i64 m5]), (w2.heap.size + 1, 29, #[.int .i64 a4, .int .i64 b4, .int .i64 c4, .int .i64 d4, .int .i64 k4]), (w2.heap.size, 29, #[.int .i64 a3, .int .i64 b3, .int .i64 c3, .int .i64 d3, .int .i64 k3]), (w1.heap.size + 1, 29, #[.int .i64 a2, .int .i64 b2, .int .i64 c2, .int .i64 d2, .int .i64 k2]), (w1.heap.size, 29, #[.int .i64 a1, .int .i64 b1, .int .i64 c1, .int .i64 d1, .int .i64 k1])] := by simpa using ((T7.push 29 #[.int .i64 x9, .int .i64 y9, .int .i64 z9, .int .i64 t9, .int .i64 m9])).call hb
    clear hb T7
    clear c7_0_0 c7_0_1 c7_0_2 c7_0_3 c7_0_4 c7_1_0 c7_1_1 c7_1_2 c7_1_3 c7_1_4 c7_2_0 c7_2_1 c7_2_2 c7_2_3 c7_2_4 c7_3_0 c7_3_1 c7_3_2 c7_3_3 c7_3_4 c7_4_0 c7_4_1 c7_4_2 c7_4_3 c7_4_4 c7_5_0 c7_5_1 c7_5_2 c7_5_3 c7_5_4 c7_6_0 c7_6_1 c7_6_2 c7_6_3 c7_6_4 c7_7_0 c7_7_1 c7_7_2 c7_7_3 c7_7_4
    obtain ⟨c8_0_0, c8_0_1, c8_0_2, c8_0_3, c8_0_4, -, -, -, -, -⟩ := T8.head.five
    have l8_0 := T8.head.lt
    have nx8_0 := Nat.ne_of_lt l8_0
    have ny8_0 := Nat.ne_of_gt l8_0
    have le8_0 := Nat.le_of_lt l8_0
    obtain ⟨c8_1_0, c8_1_1, c8_1_2, c8_1_3, c8_1_4, -, -, -, -, -⟩ := T8.tail.head.five
    have l8_1 := T8.tail.head.lt
    have nx8_1 := Nat.ne_of_lt l8_1
    have ny8_1 := Nat.ne_of_gt l8_1
    have le8_1 := Nat.le_of_lt l8_1
    obtain ⟨c8_2_0, c8_2_1, c8_2_2, c8_2_3, c8_2_4, -, -, -, -, -⟩ := T8.tail.tail.head.five
    have l8_2 := T8.tail.tail.head.lt
    have nx8_2 := Nat.ne_of_lt l8_2
    have ny8_2 := Nat.ne_of_gt l8_2
    have le8_2 := Nat.le_of_lt l8_2
    obtain ⟨c8_3_0, c8_3_1, c8_3_2, c8_3_3, c8_3_4, -, -, -, -, -⟩ := T8.tail.tail.tail.head.five
    have l8_3 := T8.tail.tail.tail.head.lt
    have nx8_3 := Nat.ne_of_lt l8_3
    have ny8_3 := Nat.ne_of_gt l8_3
    have le8_3 := Nat.le_of_lt l8_3
    obtain ⟨c8_4_0, c8_4_1, c8_4_2, c8_4_3, c8_4_4, -, -, -, -, -⟩ := T8.tail.tail.tail.tail.head.five
    have l8_4 := T8.tail.tail.tail.tail.head.lt
    have nx8_4 := Nat.ne_of_lt l8_4
    have ny8_4 := Nat.ne_of_gt l8_4
    have le8_4 := Nat.le_of_lt l8_4
    obtain ⟨c8_5_0, c8_5_1, c8_5_2, c8_5_3, c8_5_4, -, -, -, -, -⟩ := T8.tail.tail.tail.tail.tail.head.five
    have l8_5 := T8.tail.tail.tail.tail.tail.head.lt
    have nx8_5 := Nat.ne_of_lt l8_5
    have ny8_5 := Nat.ne_of_gt l8_5
    have le8_5 := Nat.le_of_lt l8_5
    obtain ⟨c8_6_0, c8_6_1, c8_6_2, c8_6_3, c8_6_4, -, -, -, -, -⟩ := T8.tail.tail.tail.tail.tail.tail.head.five
    have l8_6 := T8.tail.tail.tail.tail.tail.tail.head.lt
    have nx8_6 := Nat.ne_of_lt l8_6
    have ny8_6 := Nat.ne_of_gt l8_6
    have le8_6 := Nat.le_of_lt l8_6
    obtain ⟨c8_7_0, c8_7_1, c8_7_2, c8_7_3, c8_7_4, -, -, -, -, -⟩ := T8.tail.tail.tail.tail.tail.tail.tail.head.five
    have l8_7 := T8.tail.tail.tail.tail.tail.tail.tail.head.lt
    have nx8_7 := Nat.ne_of_lt l8_7
    have ny8_7 := Nat.ne_of_gt l8_7
    have le8_7 := Nat.le_of_lt l8_7
    obtain ⟨c8_8_0, c8_8_1, c8_8_2, c8_8_3, c8_8_4, -, -, -, -, -⟩ := T8.tail.tail.tail.tail.tail.tail.tail.tail.head.five
    have l8_8 := T8.tail.tail.tail.tail.tail.tail.tail.tail.head.lt
    have nx8_8 := Nat.ne_of_lt l8_8
    have ny8_8 := Nat.ne_of_gt l8_8
    have le8_8 := Nat.le_of_lt l8_8
    have hw := T8.below
    go_wp2
    go_ret
    refine ret_eq (by simp) ?_
    repeat (first | (with_reducible exact Below.refl _ _) | (with_reducible assumption) | (with_reducible refine bl_alloc ?_ _) | (with_reducible refine bl_drew ?_) | (with_reducible refine bl_set ?_ (by simp <;> omega) _) | (with_reducible refine bl_call ?_ (by assumption)))
  have e := dw_spreads (HT0.out rfl) (HT1.out rfl) (HT2.out rfl) (HT3.out rfl) (HT4.out rfl)
  simp only [DW.mk.injEq, ZO.mk.injEq] at e
  have e' : eqDb x8 y8 z8 t8 m8 x9 y9 z9 t9 m9 = true := by rw [eqDb_iff]; simp [e]
  clear e
  have hw := T7.below
  go_wp2
  go_ret
  refine ret_mk ?_
  repeat (first | (with_reducible exact Below.refl _ _) | (with_reducible assumption) | (with_reducible refine bl_alloc ?_ _) | (with_reducible refine bl_drew ?_) | (with_reducible refine bl_set ?_ (by simp <;> omega) _) | (with_reducible refine bl_call ?_ (by assumption)))

set_option maxRecDepth 100000 in
theorem lifted (os : Os) (started : os.Started) (H : Type) (enc : TypeId × Value → H) :
    ReturnsInHanded {} Try.checked os 9 .any (Rows.fnDwSpreadsSpec.pre6 enc Try.prog Try.f9 Rows.fnDwSpreadsRow.domain false) (Rows.fnDwSpreadsSpec.post enc Try.prog Try.f9 false true false false) := by
  refine returnsInHanded_of_change (C := Try.checked) own started (by kernel_rfl) Try.func9
    (ChangeSpec.witness6 (enc := enc) (C := Try.checked) false ⟨#[], #[.slice none 0 0], []⟩ 8 (by kernel_rfl) (by kernel_rfl) (by kernel_rfl) (by kernel_rfl)) ?_
  intro W base args ds gs before hval0 hW hcnd _
  have hval : ∀ (j : Nat) t v, Try.f9.params[j]? = some t → args[j]? = some v → Value.okWide Try.prog W .any base t v := hval0
  have hW' := hW
  obtain ⟨p, q, hA0, hV, rfl, hfz, hnd⟩ := hW
  have hA : DataW.TrodAll enc Try.prog W 0 (fun _ => true) true Try.f9.params.toList args.toList ds p := hA0
  rw [Try.params9] at hA hval
  obtain ⟨v0, vs0, d0, ds0, p0, q0, hargs, rfl, rfl, h0, r0⟩ := trodAll_cons hA
  obtain ⟨rfl, rfl, rfl⟩ := trodAll_nil r0
  obtain rfl : args = #[v0] := by cases args; simp_all
  obtain ⟨rfl, rfl⟩ := trodVars_none hV
  have kk0 := h0
  have lt0 : ∀ x ∈ p0, x.block < W.heap.size := by obtain ⟨m, hm⟩ := kk0; exact DataW.trod_lt m _ _ _ hm
  obtain ⟨A0, n0, cp0, rfl, hR0, hn0, hc0⟩ := open_B (hval 0 22 v0 rfl rfl) h0
  clear hA0 hval0
  refine (walk A0 n0 cp0 W hR0 hn0 hc0).mono fun e W' ⟨he, bel⟩ => ?_
  subst he
  exact ⟨_, rfl, _, _, _, [], _, [], hW', trodAll_mk1 (shut_bool Try.underlying4 _), (trodAll_cons_mk (Below.trod laidOut (by kernel_rfl) (of_decide_eq_true (by kernel_rfl)) kk0 bel lt0) trodAll_mk0), rfl, bel.frame _, fun h => by cases h⟩

theorem over : Rows.fnDwSpreadsRow.holds Try.pinned (OpenSpec.ofChange Rows.fnDwSpreadsSpec) :=
  OpenClaim.holds_of_wide 9 Try.f9 rfl rfl rfl rfl rfl rfl rfl ⟨rfl, rfl, rfl, rfl, rfl⟩ rfl rfl rfl rfl rfl (by kernel_rfl) Try.func9 (by kernel_rfl)
    (of_decide_eq_true (by kernel_rfl)) (by unfold Func.isWrapper; first | (rw [if_pos (by decide +kernel)]; kernel_rfl) | (rw [if_neg (by decide +kernel)]; exact ⟨rfl, rfl⟩))
    (fun os started H enc _ => lifted os started H enc)

theorem proved : Rows.FnDwSpreadsSaid := over
end Go.Proofs.Ytpkbmdlamcgiiaa.fnDwSpreads
