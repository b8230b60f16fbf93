/-
  Proved: for every input the Go function FnZwProduct returns true (the program's function returns what the reference's returns), and its arguments read as before.
  Conditions: none beyond the given statement.
-/
import Derived.Test.YtpkbmdlamcgiiaaCloseB
import Derived.Deep.RegionHeld3
import Derived.Test.YtpkbmdlamcgiiaaV
import Derived.Test.YtpkbmdlamcgiiaaDr3
import Derived.Test.YtpkbmdlamcgiiaaEq
import Derived.Test.YtpkbmdlamcgiiaaOwn
namespace Go.Proofs.Ytpkbmdlamcgiiaa.fnZwProduct
open Go.Proofs.Ytpkbmdlamcgiiaa
open Go.ChangeShapes Go.WideShapes Go.ChangeAt Go.RowKit
set_option linter.unusedVariables false
attribute [local go_sem ↓ high] eqlZ neqZ
set_option maxRecDepth 20000

set_option maxHeartbeats 2000000 in
theorem walk (A0 : Option Addr) (n0 cp0 : Nat) (w : World) (hR0 : RB w w.heap.size A0 n0) (hn0 : n0 ≤ 9223372036854775807) (hc0 : n0 ≤ cp0) :
    Calls Try.prog 5 #[.slice A0 n0 cp0] w (Ret (.bool true) w) := by
  by_cases hbig : n0 ≤ 1048576
  rotate_left
  · go_enter Try.func5, Try.ntmps5
    go_wp2_with fail
    refine (l_big_t _ _ _ _ (by omega)).mono ?_
    rintro e w' ⟨rfl, rfl⟩
    go_wp2
    go_ret
    exact ret_mk (Below.refl _ _)
  have HR := Lib.hid hR0
  clear hR0
  go_enter Try.func5, Try.ntmps5
  go_wp2_with fail
  refine (l_big_f _ _ _ _ hbig).mono ?_
  rintro e w' ⟨rfl, rfl⟩
  go_wp2_with fail
  refine (d_DrawMulZ A0 n0 cp0 _ HR.out hn0).mono ?_
  rintro e w1 ⟨a, b, c, d, p, q, r, s, rfl, hb⟩
  have T1 : Own w w1 [] := (Own.start w).call hb
  clear hb
  rcases h0 : mulZ ⟨a, b, c, d⟩ ⟨p, q, r, s⟩ with _ | ⟨x, y, z, t⟩
  · have H0 := Lib.hid h0
    have H1 := Lib.hid ((mulZ_cm ⟨p, q, r, s⟩ ⟨a, b, c, d⟩).trans h0)
    clear h0
    go_wp2_with fail
    refine (i_MulZ_none _ H0.out).mono ?_
    rintro e w2 ⟨rfl, hb⟩
    have T2 : Own w w2 [(w1.heap.size + 1, 25, #[.int .i64 p, .int .i64 q, .int .i64 r, .int .i64 s]), (w1.heap.size, 25, #[.int .i64 a, .int .i64 b, .int .i64 c, .int .i64 d])] := by simpa using (((T1.push 25 #[.int .i64 a, .int .i64 b, .int .i64 c, .int .i64 d]).push 25 #[.int .i64 p, .int .i64 q, .int .i64 r, .int .i64 s])).call hb
    clear hb T1
    obtain ⟨c2_0_0, c2_0_1, c2_0_2, c2_0_3, -, -, -, -⟩ := T2.head.four
    have l2_0 := T2.head.lt
    have nx2_0 := Nat.ne_of_lt l2_0
    have ny2_0 := Nat.ne_of_gt l2_0
    have le2_0 := Nat.le_of_lt l2_0
    obtain ⟨c2_1_0, c2_1_1, c2_1_2, c2_1_3, -, -, -, -⟩ := T2.tail.head.four
    have l2_1 := T2.tail.head.lt
    have nx2_1 := Nat.ne_of_lt l2_1
    have ny2_1 := Nat.ne_of_gt l2_1
    have le2_1 := Nat.le_of_lt l2_1
    go_wp2_with fail
    refine (i_MulZ_none _ H1.out).mono ?_
    rintro e w3 ⟨rfl, hb⟩
    have T3 : Own w w3 [(w2.heap.size, 25, #[.int .i64 0, .int .i64 0, .int .i64 0, .int .i64 0]), (w1.heap.size + 1, 25, #[.int .i64 p, .int .i64 q, .int .i64 r, .int .i64 s]), (w1.heap.size, 25, #[.int .i64 a, .int .i64 b, .int .i64 c, .int .i64 d])] := by simpa using ((T2.push 25 #[.int .i64 0, .int .i64 0, .int .i64 0, .int .i64 0])).call hb
    clear hb T2
    clear c2_0_0 c2_0_1 c2_0_2 c2_0_3 c2_1_0 c2_1_1 c2_1_2 c2_1_3 nx2_0 ny2_0 le2_0 l2_0 nx2_1 ny2_1 le2_1 l2_1
    obtain ⟨c3_0_0, c3_0_1, c3_0_2, c3_0_3, -, -, -, -⟩ := T3.head.four
    have l3_0 := T3.head.lt
    have nx3_0 := Nat.ne_of_lt l3_0
    have ny3_0 := Nat.ne_of_gt l3_0
    have le3_0 := Nat.le_of_lt l3_0
    obtain ⟨c3_1_0, c3_1_1, c3_1_2, c3_1_3, -, -, -, -⟩ := T3.tail.head.four
    have l3_1 := T3.tail.head.lt
    have nx3_1 := Nat.ne_of_lt l3_1
    have ny3_1 := Nat.ne_of_gt l3_1
    have le3_1 := Nat.le_of_lt l3_1
    obtain ⟨c3_2_0, c3_2_1, c3_2_2, c3_2_3, -, -, -, -⟩ := T3.tail.tail.head.four
    have l3_2 := T3.tail.tail.head.lt
    have nx3_2 := Nat.ne_of_lt l3_2
    have ny3_2 := Nat.ne_of_gt l3_2
    have le3_2 := Nat.le_of_lt l3_2
    go_wp2_with fail
    refine (s_MulZ_none _ H0.out).mono ?_
    rintro e w4 ⟨rfl, hb⟩
    have T4 : Own w w4 [(w3.heap.size, 25, #[.int .i64 0, .int .i64 0, .int .i64 0, .int .i64 0]), (w2.heap.size, 25, #[.int .i64 0, .int .i64 0, .int .i64 0, .int .i64 0]), (w1.heap.size + 1, 25, #[.int .i64 p, .int .i64 q, .int .i64 r, .int .i64 s]), (w1.heap.size, 25, #[.int .i64 a, .int .i64 b, .int .i64 c, .int .i64 d])] := by simpa using ((T3.push 25 #[.int .i64 0, .int .i64 0, .int .i64 0, .int .i64 0])).call hb
    clear hb T3
    clear c3_0_0 c3_0_1 c3_0_2 c3_0_3 c3_1_0 c3_1_1 c3_1_2 c3_1_3 c3_2_0 c3_2_1 c3_2_2 c3_2_3 nx3_0 ny3_0 le3_0 l3_0 nx3_1 ny3_1 le3_1 l3_1 nx3_2 ny3_2 le3_2 l3_2
    obtain ⟨c4_0_0, c4_0_1, c4_0_2, c4_0_3, -, -, -, -⟩ := T4.head.four
    have l4_0 := T4.head.lt
    have nx4_0 := Nat.ne_of_lt l4_0
    have ny4_0 := Nat.ne_of_gt l4_0
    have le4_0 := Nat.le_of_lt l4_0
    obtain ⟨c4_1_0, c4_1_1, c4_1_2, c4_1_3, -, -, -, -⟩ := T4.tail.head.four
    have l4_1 := T4.tail.head.lt
    have nx4_1 := Nat.ne_of_lt l4_1
    have ny4_1 := Nat.ne_of_gt l4_1
    have le4_1 := Nat.le_of_lt l4_1
    obtain ⟨c4_2_0, c4_2_1, c4_2_2, c4_2_3, -, -, -, -⟩ := T4.tail.tail.head.four
    have l4_2 := T4.tail.tail.head.lt
    have nx4_2 := Nat.ne_of_lt l4_2
    have ny4_2 := Nat.ne_of_gt l4_2
    have le4_2 := Nat.le_of_lt l4_2
    obtain ⟨c4_3_0, c4_3_1, c4_3_2, c4_3_3, -, -, -, -⟩ := T4.tail.tail.tail.head.four
    have l4_3 := T4.tail.tail.tail.head.lt
    have nx4_3 := Nat.ne_of_lt l4_3
    have ny4_3 := Nat.ne_of_gt l4_3
    have le4_3 := Nat.le_of_lt l4_3
    have e0 := eqZb_self 0 0 0 0
    have hw := T4.below
    go_wp2
    go_ret
    refine ret_mk ?_
    repeat (first | (with_reducible exact Below.refl _ _) | (with_reducible assumption) | (with_reducible refine bl_alloc ?_ _) | (with_reducible refine bl_drew ?_) | (with_reducible refine bl_set ?_ (by simp <;> omega) _) | (with_reducible refine bl_call ?_ (by assumption)))
  · have H0 := Lib.hid h0
    have H1 := Lib.hid ((mulZ_cm ⟨p, q, r, s⟩ ⟨a, b, c, d⟩).trans h0)
    obtain ⟨hx, hy, hs, -⟩ := mulZ_inv h0
    have HC : Hid (mulZ ⟨(cjZ ⟨a, b, c, d⟩).a, (cjZ ⟨a, b, c, d⟩).b, (cjZ ⟨a, b, c, d⟩).c, (cjZ ⟨a, b, c, d⟩).d⟩ ⟨(cjZ ⟨p, q, r, s⟩).a, (cjZ ⟨p, q, r, s⟩).b, (cjZ ⟨p, q, r, s⟩).c, (cjZ ⟨p, q, r, s⟩).d⟩ = some ⟨(cjZ ⟨x, y, z, t⟩).a, (cjZ ⟨x, y, z, t⟩).b, (cjZ ⟨x, y, z, t⟩).c, (cjZ ⟨x, y, z, t⟩).d⟩) := Lib.hid (by show mulZ (cjZ ⟨a, b, c, d⟩) (cjZ ⟨p, q, r, s⟩) = some (cjZ ⟨x, y, z, t⟩); rw [cjZ_ok hx, cjZ_ok hy, cjZ_ok hs]; exact mulZ_conj h0)
    have HQ : Hid (mulZ ⟨(sqZ ⟨a, b, c, d⟩).a, (sqZ ⟨a, b, c, d⟩).b, (sqZ ⟨a, b, c, d⟩).c, (sqZ ⟨a, b, c, d⟩).d⟩ ⟨(sqZ ⟨p, q, r, s⟩).a, (sqZ ⟨p, q, r, s⟩).b, (sqZ ⟨p, q, r, s⟩).c, (sqZ ⟨p, q, r, s⟩).d⟩ = some ⟨(sqZ ⟨x, y, z, t⟩).a, (sqZ ⟨x, y, z, t⟩).b, (sqZ ⟨x, y, z, t⟩).c, (sqZ ⟨x, y, z, t⟩).d⟩) := Lib.hid (by show mulZ (sqZ ⟨a, b, c, d⟩) (sqZ ⟨p, q, r, s⟩) = some (sqZ ⟨x, y, z, t⟩); rw [sqZ_ok hx, sqZ_ok hy, sqZ_ok hs]; exact mulZ_sq h0)
    have e4 : eqZb (cjZ ⟨(cjZ ⟨a, b, c, d⟩).a, (cjZ ⟨a, b, c, d⟩).b, (cjZ ⟨a, b, c, d⟩).c, (cjZ ⟨a, b, c, d⟩).d⟩).a (cjZ ⟨(cjZ ⟨a, b, c, d⟩).a, (cjZ ⟨a, b, c, d⟩).b, (cjZ ⟨a, b, c, d⟩).c, (cjZ ⟨a, b, c, d⟩).d⟩).b (cjZ ⟨(cjZ ⟨a, b, c, d⟩).a, (cjZ ⟨a, b, c, d⟩).b, (cjZ ⟨a, b, c, d⟩).c, (cjZ ⟨a, b, c, d⟩).d⟩).c (cjZ ⟨(cjZ ⟨a, b, c, d⟩).a, (cjZ ⟨a, b, c, d⟩).b, (cjZ ⟨a, b, c, d⟩).c, (cjZ ⟨a, b, c, d⟩).d⟩).d a b c d = true := by rw [eqZb_iff]; have e := cjZ_cjZ hx; have e' : cjZ ⟨(cjZ ⟨a, b, c, d⟩).a, (cjZ ⟨a, b, c, d⟩).b, (cjZ ⟨a, b, c, d⟩).c, (cjZ ⟨a, b, c, d⟩).d⟩ = ⟨a, b, c, d⟩ := e; rw [e']; simp
    have e5 : eqZb (sqZ ⟨(sqZ ⟨a, b, c, d⟩).a, (sqZ ⟨a, b, c, d⟩).b, (sqZ ⟨a, b, c, d⟩).c, (sqZ ⟨a, b, c, d⟩).d⟩).a (sqZ ⟨(sqZ ⟨a, b, c, d⟩).a, (sqZ ⟨a, b, c, d⟩).b, (sqZ ⟨a, b, c, d⟩).c, (sqZ ⟨a, b, c, d⟩).d⟩).b (sqZ ⟨(sqZ ⟨a, b, c, d⟩).a, (sqZ ⟨a, b, c, d⟩).b, (sqZ ⟨a, b, c, d⟩).c, (sqZ ⟨a, b, c, d⟩).d⟩).c (sqZ ⟨(sqZ ⟨a, b, c, d⟩).a, (sqZ ⟨a, b, c, d⟩).b, (sqZ ⟨a, b, c, d⟩).c, (sqZ ⟨a, b, c, d⟩).d⟩).d a b c d = true := by rw [eqZb_iff]; have e := sqZ_sqZ hx; have e' : sqZ ⟨(sqZ ⟨a, b, c, d⟩).a, (sqZ ⟨a, b, c, d⟩).b, (sqZ ⟨a, b, c, d⟩).c, (sqZ ⟨a, b, c, d⟩).d⟩ = ⟨a, b, c, d⟩ := e; rw [e']; simp
    clear h0 hx hy hs
    go_wp2_with fail
    refine (i_MulZ_some _ H0.out).mono ?_
    rintro e w2 ⟨rfl, hb⟩
    have T2 : Own w w2 [(w1.heap.size + 1, 25, #[.int .i64 p, .int .i64 q, .int .i64 r, .int .i64 s]), (w1.heap.size, 25, #[.int .i64 a, .int .i64 b, .int .i64 c, .int .i64 d])] := by simpa using (((T1.push 25 #[.int .i64 a, .int .i64 b, .int .i64 c, .int .i64 d]).push 25 #[.int .i64 p, .int .i64 q, .int .i64 r, .int .i64 s])).call hb
    clear hb T1
    obtain ⟨c2_0_0, c2_0_1, c2_0_2, c2_0_3, -, -, -, -⟩ := T2.head.four
    have l2_0 := T2.head.lt
    have nx2_0 := Nat.ne_of_lt l2_0
    have ny2_0 := Nat.ne_of_gt l2_0
    have le2_0 := Nat.le_of_lt l2_0
    obtain ⟨c2_1_0, c2_1_1, c2_1_2, c2_1_3, -, -, -, -⟩ := T2.tail.head.four
    have l2_1 := T2.tail.head.lt
    have nx2_1 := Nat.ne_of_lt l2_1
    have ny2_1 := Nat.ne_of_gt l2_1
    have le2_1 := Nat.le_of_lt l2_1
    go_wp2_with fail
    refine (i_MulZ_some _ H1.out).mono ?_
    rintro e w3 ⟨rfl, hb⟩
    have T3 : Own w w3 [(w2.heap.size, 25, #[.int .i64 x, .int .i64 y, .int .i64 z, .int .i64 t]), (w1.heap.size + 1, 25, #[.int .i64 p, .int .i64 q, .int .i64 r, .int .i64 s]), (w1.heap.size, 25, #[.int .i64 a, .int .i64 b, .int .i64 c, .int .i64 d])] := by simpa using ((T2.push 25 #[.int .i64 x, .int .i64 y, .int .i64 z, .int .i64 t])).call hb
    clear hb T2
    clear c2_0_0 c2_0_1 c2_0_2 c2_0_3 c2_1_0 c2_1_1 c2_1_2 c2_1_3 nx2_0 ny2_0 le2_0 l2_0 nx2_1 ny2_1 le2_1 l2_1
    obtain ⟨c3_0_0, c3_0_1, c3_0_2, c3_0_3, -, -, -, -⟩ := T3.head.four
    have l3_0 := T3.head.lt
    have nx3_0 := Nat.ne_of_lt l3_0
    have ny3_0 := Nat.ne_of_gt l3_0
    have le3_0 := Nat.le_of_lt l3_0
    obtain ⟨c3_1_0, c3_1_1, c3_1_2, c3_1_3, -, -, -, -⟩ := T3.tail.head.four
    have l3_1 := T3.tail.head.lt
    have nx3_1 := Nat.ne_of_lt l3_1
    have ny3_1 := Nat.ne_of_gt l3_1
    have le3_1 := Nat.le_of_lt l3_1
    obtain ⟨c3_2_0, c3_2_1, c3_2_2, c3_2_3, -, -, -, -⟩ := T3.tail.tail.head.four
    have l3_2 := T3.tail.tail.head.lt
    have nx3_2 := Nat.ne_of_lt l3_2
    have ny3_2 := Nat.ne_of_gt l3_2
    have le3_2 := Nat.le_of_lt l3_2
    go_wp2_with fail
    refine (s_MulZ_some _ H0.out).mono ?_
    rintro e w4 ⟨rfl, hb⟩
    have T4 : Own w w4 [(w3.heap.size, 25, #[.int .i64 x, .int .i64 y, .int .i64 z, .int .i64 t]), (w2.heap.size, 25, #[.int .i64 x, .int .i64 y, .int .i64 z, .int .i64 t]), (w1.heap.size + 1, 25, #[.int .i64 p, .int .i64 q, .int .i64 r, .int .i64 s]), (w1.heap.size, 25, #[.int .i64 a, .int .i64 b, .int .i64 c, .int .i64 d])] := by simpa using ((T3.push 25 #[.int .i64 x, .int .i64 y, .int .i64 z, .int .i64 t])).call hb
    clear hb T3
    clear c3_0_0 c3_0_1 c3_0_2 c3_0_3 c3_1_0 c3_1_1 c3_1_2 c3_1_3 c3_2_0 c3_2_1 c3_2_2 c3_2_3 nx3_0 ny3_0 le3_0 l3_0 nx3_1 ny3_1 le3_1 l3_1 nx3_2 ny3_2 le3_2 l3_2
    obtain ⟨c4_0_0, c4_0_1, c4_0_2, c4_0_3, -, -, -, -⟩ := T4.head.four
    have l4_0 := T4.head.lt
    have nx4_0 := Nat.ne_of_lt l4_0
    have ny4_0 := Nat.ne_of_gt l4_0
    have le4_0 := Nat.le_of_lt l4_0
    obtain ⟨c4_1_0, c4_1_1, c4_1_2, c4_1_3, -, -, -, -⟩ := T4.tail.head.four
    have l4_1 := T4.tail.head.lt
    have nx4_1 := Nat.ne_of_lt l4_1
    have ny4_1 := Nat.ne_of_gt l4_1
    have le4_1 := Nat.le_of_lt l4_1
    obtain ⟨c4_2_0, c4_2_1, c4_2_2, c4_2_3, -, -, -, -⟩ := T4.tail.tail.head.four
    have l4_2 := T4.tail.tail.head.lt
    have nx4_2 := Nat.ne_of_lt l4_2
    have ny4_2 := Nat.ne_of_gt l4_2
    have le4_2 := Nat.le_of_lt l4_2
    obtain ⟨c4_3_0, c4_3_1, c4_3_2, c4_3_3, -, -, -, -⟩ := T4.tail.tail.tail.head.four
    have l4_3 := T4.tail.tail.tail.head.lt
    have nx4_3 := Nat.ne_of_lt l4_3
    have ny4_3 := Nat.ne_of_gt l4_3
    have le4_3 := Nat.le_of_lt l4_3
    have e0 := eqZb_self x y z t
    have e1 := eqZb_self a b c d
    have e2 := eqZb_self (cjZ ⟨x, y, z, t⟩).a (cjZ ⟨x, y, z, t⟩).b (cjZ ⟨x, y, z, t⟩).c (cjZ ⟨x, y, z, t⟩).d
    have e3 := eqZb_self (sqZ ⟨x, y, z, t⟩).a (sqZ ⟨x, y, z, t⟩).b (sqZ ⟨x, y, z, t⟩).c (sqZ ⟨x, y, z, t⟩).d
    go_upto_region 11 with fail
    obtain ⟨W, hW⟩ : ∃ W, (w4.alloc (.cells #[.int .i64 x, .int .i64 y, .int .i64 z, .int .i64 t] 25)) = W := ⟨_, rfl⟩
    have Tz : Own w W [(w4.heap.size, 25, #[.int .i64 x, .int .i64 y, .int .i64 z, .int .i64 t]), (w3.heap.size, 25, #[.int .i64 x, .int .i64 y, .int .i64 z, .int .i64 t]), (w2.heap.size, 25, #[.int .i64 x, .int .i64 y, .int .i64 z, .int .i64 t]), (w1.heap.size + 1, 25, #[.int .i64 p, .int .i64 q, .int .i64 r, .int .i64 s]), (w1.heap.size, 25, #[.int .i64 a, .int .i64 b, .int .i64 c, .int .i64 d])] := by rw [← hW]; simpa using (T4.push 25 #[.int .i64 x, .int .i64 y, .int .i64 z, .int .i64 t])
    have T : Own w W [(w1.heap.size + 1, 25, #[.int .i64 p, .int .i64 q, .int .i64 r, .int .i64 s]), (w1.heap.size, 25, #[.int .i64 a, .int .i64 b, .int .i64 c, .int .i64 d]), (w2.heap.size, 25, #[.int .i64 x, .int .i64 y, .int .i64 z, .int .i64 t])] := (((Tz.bare).add Tz.tail.tail.head).add Tz.tail.tail.tail.tail.head).add Tz.tail.tail.tail.head
    rw [hW]
    clear hW Tz T4 c4_0_0 c4_0_1 c4_0_2 c4_0_3 c4_1_0 c4_1_1 c4_1_2 c4_1_3 c4_2_0 c4_2_1 c4_2_2 c4_2_3 c4_3_0 c4_3_1 c4_3_2 c4_3_3 nx4_0 ny4_0 le4_0 l4_0 nx4_1 ny4_1 le4_1 l4_1 nx4_2 ny4_2 le4_2 l4_2 nx4_3 ny4_3 le4_3 l4_3
    obtain ⟨c00, c01, c02, c03, -, -, -, -⟩ := T.head.four
    obtain ⟨c10, c11, c12, c13, -, -, -, -⟩ := T.tail.head.four
    have l0 := T.head.lt
    have l1 := T.tail.head.lt
    go_cut [11, 12] (fun s11 s12 wx => ∃ g : Nat, s11 = .pointer (some ⟨g, 0, none⟩) ∧ s12 = .bool true ∧ Own w wx ((g, 25, #[.int .i64 (cjZ ⟨x, y, z, t⟩).a, .int .i64 (cjZ ⟨x, y, z, t⟩).b, .int .i64 (cjZ ⟨x, y, z, t⟩).c, .int .i64 (cjZ ⟨x, y, z, t⟩).d]) :: [(w1.heap.size + 1, 25, #[.int .i64 p, .int .i64 q, .int .i64 r, .int .i64 s]), (w1.heap.size, 25, #[.int .i64 a, .int .i64 b, .int .i64 c, .int .i64 d]), (w2.heap.size, 25, #[.int .i64 x, .int .i64 y, .int .i64 z, .int .i64 t])]))
    case first =>
      go_region_held3 (fun w' => w'.cell? ⟨w1.heap.size + 1, 0, none⟩ = some (.int .i64 p) ∧ w'.cell? ⟨w1.heap.size + 1, 1, none⟩ = some (.int .i64 q) ∧ w'.cell? ⟨w1.heap.size + 1, 2, none⟩ = some (.int .i64 r) ∧ w'.cell? ⟨w1.heap.size + 1, 3, none⟩ = some (.int .i64 s) ∧ w'.cell? ⟨w1.heap.size, 0, none⟩ = some (.int .i64 a) ∧ w'.cell? ⟨w1.heap.size, 1, none⟩ = some (.int .i64 b) ∧ w'.cell? ⟨w1.heap.size, 2, none⟩ = some (.int .i64 c) ∧ w'.cell? ⟨w1.heap.size, 3, none⟩ = some (.int .i64 d)) (first | (with_reducible exact ⟨c00, c01, c02, c03, c10, c11, c12, c13⟩) | go_keep) (first | (go_at_call 25; refine (i_ConjZ_v _ _ _ _ _).mono ?_; rintro e w1 ⟨rfl, hb⟩; (first | (have T := T.call hb; (try have kz := kz.call hb)) | (have T := T.drew.call hb; (try have kz := kz.drew.call hb)) | (have kz := Blk.new_call hb; have n0 := Nat.ne_of_lt l0; have m0 := Nat.ne_of_gt l0; have n1 := Nat.ne_of_lt l1; have m1 := Nat.ne_of_gt l1; have kg := T.below.size; have KN := T.lts; have T := (T.alloc _).call hb) | (have kz := Blk.new_drew_call hb; have n0 := Nat.ne_of_lt l0; have m0 := Nat.ne_of_gt l0; have n1 := Nat.ne_of_lt l1; have m1 := Nat.ne_of_gt l1; have kg := T.below.size; have KN := T.lts; have T := (T.alloc _).drew.call hb)); obtain ⟨c00, c01, c02, c03, -, -, -, -⟩ := T.head.four; obtain ⟨c10, c11, c12, c13, -, -, -, -⟩ := T.tail.head.four; have l0 := T.head.lt; have l1 := T.tail.head.lt; (try obtain ⟨cz0, cz1, cz2, cz3, fz0, fz1, fz2, fz3⟩ := kz.four)) | (go_at_call 17; refine (i_MulZ_some _ HC.out).mono ?_; rintro e w1 ⟨rfl, hb⟩; (first | (have T := T.call hb; (try have kz := kz.call hb)) | (have T := T.drew.call hb; (try have kz := kz.drew.call hb)) | (have kz := Blk.new_call hb; have n0 := Nat.ne_of_lt l0; have m0 := Nat.ne_of_gt l0; have n1 := Nat.ne_of_lt l1; have m1 := Nat.ne_of_gt l1; have kg := T.below.size; have KN := T.lts; have T := (T.alloc _).call hb) | (have kz := Blk.new_drew_call hb; have n0 := Nat.ne_of_lt l0; have m0 := Nat.ne_of_gt l0; have n1 := Nat.ne_of_lt l1; have m1 := Nat.ne_of_gt l1; have kg := T.below.size; have KN := T.lts; have T := (T.alloc _).drew.call hb)); obtain ⟨c00, c01, c02, c03, -, -, -, -⟩ := T.head.four; obtain ⟨c10, c11, c12, c13, -, -, -, -⟩ := T.tail.head.four; have l0 := T.head.lt; have l1 := T.tail.head.lt; (try obtain ⟨cz0, cz1, cz2, cz3, fz0, fz1, fz2, fz3⟩ := kz.four)))
      all_goals
        go_wp2_with fail
        go_meet
        first | (with_reducible exact ⟨_, rfl, rfl, T.push _ _⟩) | (with_reducible exact ⟨_, rfl, rfl, (T.add kz).put4 kg KN.out _ _ _ _⟩)
    case rest =>
      obtain ⟨g5, rfl, rfl, T5⟩ := hcut
      clear T c00 c01 c02 c03 c10 c11 c12 c13 l0 l1
      obtain ⟨v5, rfl⟩ : ∃ v5, v5 = wc := ⟨_, rfl⟩
      obtain ⟨c5_0_0, c5_0_1, c5_0_2, c5_0_3, -, -, -, -⟩ := T5.head.four
      have l5_0 := T5.head.lt
      have nx5_0 := Nat.ne_of_lt l5_0
      have ny5_0 := Nat.ne_of_gt l5_0
      have le5_0 := Nat.le_of_lt l5_0
      obtain ⟨c5_1_0, c5_1_1, c5_1_2, c5_1_3, -, -, -, -⟩ := T5.tail.head.four
      have l5_1 := T5.tail.head.lt
      have nx5_1 := Nat.ne_of_lt l5_1
      have ny5_1 := Nat.ne_of_gt l5_1
      have le5_1 := Nat.le_of_lt l5_1
      obtain ⟨c5_2_0, c5_2_1, c5_2_2, c5_2_3, -, -, -, -⟩ := T5.tail.tail.head.four
      have l5_2 := T5.tail.tail.head.lt
      have nx5_2 := Nat.ne_of_lt l5_2
      have ny5_2 := Nat.ne_of_gt l5_2
      have le5_2 := Nat.le_of_lt l5_2
      obtain ⟨c5_3_0, c5_3_1, c5_3_2, c5_3_3, -, -, -, -⟩ := T5.tail.tail.tail.head.four
      have l5_3 := T5.tail.tail.tail.head.lt
      have nx5_3 := Nat.ne_of_lt l5_3
      have ny5_3 := Nat.ne_of_gt l5_3
      have le5_3 := Nat.le_of_lt l5_3
      go_upto_region 12 with fail
      obtain ⟨W, hW⟩ : ∃ W, v5 = W := ⟨_, rfl⟩
      have Tz : Own w W [(g5, 25, #[.int .i64 (cjZ ⟨x, y, z, t⟩).a, .int .i64 (cjZ ⟨x, y, z, t⟩).b, .int .i64 (cjZ ⟨x, y, z, t⟩).c, .int .i64 (cjZ ⟨x, y, z, t⟩).d]), (w1.heap.size + 1, 25, #[.int .i64 p, .int .i64 q, .int .i64 r, .int .i64 s]), (w1.heap.size, 25, #[.int .i64 a, .int .i64 b, .int .i64 c, .int .i64 d]), (w2.heap.size, 25, #[.int .i64 x, .int .i64 y, .int .i64 z, .int .i64 t])] := by rw [← hW]; exact T5
      have T : Own w W [(w1.heap.size + 1, 25, #[.int .i64 p, .int .i64 q, .int .i64 r, .int .i64 s]), (w1.heap.size, 25, #[.int .i64 a, .int .i64 b, .int .i64 c, .int .i64 d]), (g5, 25, #[.int .i64 (cjZ ⟨x, y, z, t⟩).a, .int .i64 (cjZ ⟨x, y, z, t⟩).b, .int .i64 (cjZ ⟨x, y, z, t⟩).c, .int .i64 (cjZ ⟨x, y, z, t⟩).d]), (w2.heap.size, 25, #[.int .i64 x, .int .i64 y, .int .i64 z, .int .i64 t])] := ((((Tz.bare).add Tz.tail.tail.tail.head).add Tz.head).add Tz.tail.tail.head).add Tz.tail.head
      rw [hW]
      clear hW Tz T5 c5_0_0 c5_0_1 c5_0_2 c5_0_3 c5_1_0 c5_1_1 c5_1_2 c5_1_3 c5_2_0 c5_2_1 c5_2_2 c5_2_3 c5_3_0 c5_3_1 c5_3_2 c5_3_3 nx5_0 ny5_0 le5_0 l5_0 nx5_1 ny5_1 le5_1 l5_1 nx5_2 ny5_2 le5_2 l5_2 nx5_3 ny5_3 le5_3 l5_3
      obtain ⟨c00, c01, c02, c03, -, -, -, -⟩ := T.head.four
      obtain ⟨c10, c11, c12, c13, -, -, -, -⟩ := T.tail.head.four
      have l0 := T.head.lt
      have l1 := T.tail.head.lt
      go_cut [13, 14] (fun s13 s14 wx => ∃ g : Nat, s13 = .pointer (some ⟨g, 0, none⟩) ∧ s14 = .bool true ∧ Own w wx ((g, 25, #[.int .i64 (sqZ ⟨x, y, z, t⟩).a, .int .i64 (sqZ ⟨x, y, z, t⟩).b, .int .i64 (sqZ ⟨x, y, z, t⟩).c, .int .i64 (sqZ ⟨x, y, z, t⟩).d]) :: [(w1.heap.size + 1, 25, #[.int .i64 p, .int .i64 q, .int .i64 r, .int .i64 s]), (w1.heap.size, 25, #[.int .i64 a, .int .i64 b, .int .i64 c, .int .i64 d]), (g5, 25, #[.int .i64 (cjZ ⟨x, y, z, t⟩).a, .int .i64 (cjZ ⟨x, y, z, t⟩).b, .int .i64 (cjZ ⟨x, y, z, t⟩).c, .int .i64 (cjZ ⟨x, y, z, t⟩).d]), (w2.heap.size, 25, #[.int .i64 x, .int .i64 y, .int .i64 z, .int .i64 t])]))
      case first =>
        go_region_held3 (fun w' => w'.cell? ⟨w1.heap.size + 1, 0, none⟩ = some (.int .i64 p) ∧ w'.cell? ⟨w1.heap.size + 1, 1, none⟩ = some (.int .i64 q) ∧ w'.cell? ⟨w1.heap.size + 1, 2, none⟩ = some (.int .i64 r) ∧ w'.cell? ⟨w1.heap.size + 1, 3, none⟩ = some (.int .i64 s) ∧ w'.cell? ⟨w1.heap.size, 0, none⟩ = some (.int .i64 a) ∧ w'.cell? ⟨w1.heap.size, 1, none⟩ = some (.int .i64 b) ∧ w'.cell? ⟨w1.heap.size, 2, none⟩ = some (.int .i64 c) ∧ w'.cell? ⟨w1.heap.size, 3, none⟩ = some (.int .i64 d)) (first | (with_reducible exact ⟨c00, c01, c02, c03, c10, c11, c12, c13⟩) | go_keep) (first | (go_at_call 26; refine (i_SqZ_v _ _ _ _ _).mono ?_; rintro e w1 ⟨rfl, hb⟩; (first | (have T := T.call hb; (try have kz := kz.call hb)) | (have T := T.drew.call hb; (try have kz := kz.drew.call hb)) | (have kz := Blk.new_call hb; have n0 := Nat.ne_of_lt l0; have m0 := Nat.ne_of_gt l0; have n1 := Nat.ne_of_lt l1; have m1 := Nat.ne_of_gt l1; have kg := T.below.size; have KN := T.lts; have T := (T.alloc _).call hb) | (have kz := Blk.new_drew_call hb; have n0 := Nat.ne_of_lt l0; have m0 := Nat.ne_of_gt l0; have n1 := Nat.ne_of_lt l1; have m1 := Nat.ne_of_gt l1; have kg := T.below.size; have KN := T.lts; have T := (T.alloc _).drew.call hb)); obtain ⟨c00, c01, c02, c03, -, -, -, -⟩ := T.head.four; obtain ⟨c10, c11, c12, c13, -, -, -, -⟩ := T.tail.head.four; have l0 := T.head.lt; have l1 := T.tail.head.lt; (try obtain ⟨cz0, cz1, cz2, cz3, fz0, fz1, fz2, fz3⟩ := kz.four)) | (go_at_call 17; refine (i_MulZ_some _ HQ.out).mono ?_; rintro e w1 ⟨rfl, hb⟩; (first | (have T := T.call hb; (try have kz := kz.call hb)) | (have T := T.drew.call hb; (try have kz := kz.drew.call hb)) | (have kz := Blk.new_call hb; have n0 := Nat.ne_of_lt l0; have m0 := Nat.ne_of_gt l0; have n1 := Nat.ne_of_lt l1; have m1 := Nat.ne_of_gt l1; have kg := T.below.size; have KN := T.lts; have T := (T.alloc _).call hb) | (have kz := Blk.new_drew_call hb; have n0 := Nat.ne_of_lt l0; have m0 := Nat.ne_of_gt l0; have n1 := Nat.ne_of_lt l1; have m1 := Nat.ne_of_gt l1; have kg := T.below.size; have KN := T.lts; have T := (T.alloc _).drew.call hb)); obtain ⟨c00, c01, c02, c03, -, -, -, -⟩ := T.head.four; obtain ⟨c10, c11, c12, c13, -, -, -, -⟩ := T.tail.head.four; have l0 := T.head.lt; have l1 := T.tail.head.lt; (try obtain ⟨cz0, cz1, cz2, cz3, fz0, fz1, fz2, fz3⟩ := kz.four)))
        all_goals
          go_wp2_with fail
          go_meet
          first | (with_reducible exact ⟨_, rfl, rfl, T.push _ _⟩) | (with_reducible exact ⟨_, rfl, rfl, (T.add kz).put4 kg KN.out _ _ _ _⟩)
      case rest =>
        obtain ⟨g6, rfl, rfl, T6⟩ := hcut
        clear T c00 c01 c02 c03 c10 c11 c12 c13 l0 l1
        obtain ⟨v6, rfl⟩ : ∃ v6, v6 = wc := ⟨_, rfl⟩
        obtain ⟨c6_0_0, c6_0_1, c6_0_2, c6_0_3, -, -, -, -⟩ := T6.head.four
        have l6_0 := T6.head.lt
        have nx6_0 := Nat.ne_of_lt l6_0
        have ny6_0 := Nat.ne_of_gt l6_0
        have le6_0 := Nat.le_of_lt l6_0
        obtain ⟨c6_1_0, c6_1_1, c6_1_2, c6_1_3, -, -, -, -⟩ := T6.tail.head.four
        have l6_1 := T6.tail.head.lt
        have nx6_1 := Nat.ne_of_lt l6_1
        have ny6_1 := Nat.ne_of_gt l6_1
        have le6_1 := Nat.le_of_lt l6_1
        obtain ⟨c6_2_0, c6_2_1, c6_2_2, c6_2_3, -, -, -, -⟩ := T6.tail.tail.head.four
        have l6_2 := T6.tail.tail.head.lt
        have nx6_2 := Nat.ne_of_lt l6_2
        have ny6_2 := Nat.ne_of_gt l6_2
        have le6_2 := Nat.le_of_lt l6_2
        obtain ⟨c6_3_0, c6_3_1, c6_3_2, c6_3_3, -, -, -, -⟩ := T6.tail.tail.tail.head.four
        have l6_3 := T6.tail.tail.tail.head.lt
        have nx6_3 := Nat.ne_of_lt l6_3
        have ny6_3 := Nat.ne_of_gt l6_3
        have le6_3 := Nat.le_of_lt l6_3
        obtain ⟨c6_4_0, c6_4_1, c6_4_2, c6_4_3, -, -, -, -⟩ := T6.tail.tail.tail.tail.head.four
        have l6_4 := T6.tail.tail.tail.tail.head.lt
        have nx6_4 := Nat.ne_of_lt l6_4
        have ny6_4 := Nat.ne_of_gt l6_4
        have le6_4 := Nat.le_of_lt l6_4
        go_upto_region 13 with fail
        obtain ⟨W, hW⟩ : ∃ W, v6 = W := ⟨_, rfl⟩
        have Tz : Own w W [(g6, 25, #[.int .i64 (sqZ ⟨x, y, z, t⟩).a, .int .i64 (sqZ ⟨x, y, z, t⟩).b, .int .i64 (sqZ ⟨x, y, z, t⟩).c, .int .i64 (sqZ ⟨x, y, z, t⟩).d]), (w1.heap.size + 1, 25, #[.int .i64 p, .int .i64 q, .int .i64 r, .int .i64 s]), (w1.heap.size, 25, #[.int .i64 a, .int .i64 b, .int .i64 c, .int .i64 d]), (g5, 25, #[.int .i64 (cjZ ⟨x, y, z, t⟩).a, .int .i64 (cjZ ⟨x, y, z, t⟩).b, .int .i64 (cjZ ⟨x, y, z, t⟩).c, .int .i64 (cjZ ⟨x, y, z, t⟩).d]), (w2.heap.size, 25, #[.int .i64 x, .int .i64 y, .int .i64 z, .int .i64 t])] := by rw [← hW]; exact T6
        have T : Own w W [(g6, 25, #[.int .i64 (sqZ ⟨x, y, z, t⟩).a, .int .i64 (sqZ ⟨x, y, z, t⟩).b, .int .i64 (sqZ ⟨x, y, z, t⟩).c, .int .i64 (sqZ ⟨x, y, z, t⟩).d]), (w1.heap.size + 1, 25, #[.int .i64 p, .int .i64 q, .int .i64 r, .int .i64 s]), (w1.heap.size, 25, #[.int .i64 a, .int .i64 b, .int .i64 c, .int .i64 d]), (g5, 25, #[.int .i64 (cjZ ⟨x, y, z, t⟩).a, .int .i64 (cjZ ⟨x, y, z, t⟩).b, .int .i64 (cjZ ⟨x, y, z, t⟩).c, .int .i64 (cjZ ⟨x, y, z, t⟩).d]), (w2.heap.size, 25, #[.int .i64 x, .int .i64 y, .int .i64 z, .int .i64 t])] := (((((Tz.bare).add Tz.tail.tail.tail.tail.head).add Tz.tail.tail.tail.head).add Tz.tail.tail.head).add Tz.tail.head).add Tz.head
        rw [hW]
        clear hW Tz T6 c6_0_0 c6_0_1 c6_0_2 c6_0_3 c6_1_0 c6_1_1 c6_1_2 c6_1_3 c6_2_0 c6_2_1 c6_2_2 c6_2_3 c6_3_0 c6_3_1 c6_3_2 c6_3_3 c6_4_0 c6_4_1 c6_4_2 c6_4_3 nx6_0 ny6_0 le6_0 l6_0 nx6_1 ny6_1 le6_1 l6_1 nx6_2 ny6_2 le6_2 l6_2 nx6_3 ny6_3 le6_3 l6_3 nx6_4 ny6_4 le6_4 l6_4
        obtain ⟨c00, c01, c02, c03, -, -, -, -⟩ := T.head.four
        obtain ⟨c10, c11, c12, c13, -, -, -, -⟩ := T.tail.head.four
        obtain ⟨c20, c21, c22, c23, -, -, -, -⟩ := T.tail.tail.head.four
        obtain ⟨c30, c31, c32, c33, -, -, -, -⟩ := T.tail.tail.tail.head.four
        obtain ⟨c40, c41, c42, c43, -, -, -, -⟩ := T.tail.tail.tail.tail.head.four
        have l0 := T.head.lt
        have l1 := T.tail.head.lt
        have l2 := T.tail.tail.head.lt
        have l3 := T.tail.tail.tail.head.lt
        have l4 := T.tail.tail.tail.tail.head.lt
        go_region_held3 (fun w' => w'.cell? ⟨g6, 0, none⟩ = some (.int .i64 (sqZ ⟨x, y, z, t⟩).a) ∧ w'.cell? ⟨g6, 1, none⟩ = some (.int .i64 (sqZ ⟨x, y, z, t⟩).b) ∧ w'.cell? ⟨g6, 2, none⟩ = some (.int .i64 (sqZ ⟨x, y, z, t⟩).c) ∧ w'.cell? ⟨g6, 3, none⟩ = some (.int .i64 (sqZ ⟨x, y, z, t⟩).d) ∧ w'.cell? ⟨w1.heap.size + 1, 0, none⟩ = some (.int .i64 p) ∧ w'.cell? ⟨w1.heap.size + 1, 1, none⟩ = some (.int .i64 q) ∧ w'.cell? ⟨w1.heap.size + 1, 2, none⟩ = some (.int .i64 r) ∧ w'.cell? ⟨w1.heap.size + 1, 3, none⟩ = some (.int .i64 s) ∧ w'.cell? ⟨w1.heap.size, 0, none⟩ = some (.int .i64 a) ∧ w'.cell? ⟨w1.heap.size, 1, none⟩ = some (.int .i64 b) ∧ w'.cell? ⟨w1.heap.size, 2, none⟩ = some (.int .i64 c) ∧ w'.cell? ⟨w1.heap.size, 3, none⟩ = some (.int .i64 d) ∧ w'.cell? ⟨g5, 0, none⟩ = some (.int .i64 (cjZ ⟨x, y, z, t⟩).a) ∧ w'.cell? ⟨g5, 1, none⟩ = some (.int .i64 (cjZ ⟨x, y, z, t⟩).b) ∧ w'.cell? ⟨g5, 2, none⟩ = some (.int .i64 (cjZ ⟨x, y, z, t⟩).c) ∧ w'.cell? ⟨g5, 3, none⟩ = some (.int .i64 (cjZ ⟨x, y, z, t⟩).d) ∧ w'.cell? ⟨w2.heap.size, 0, none⟩ = some (.int .i64 x) ∧ w'.cell? ⟨w2.heap.size, 1, none⟩ = some (.int .i64 y) ∧ w'.cell? ⟨w2.heap.size, 2, none⟩ = some (.int .i64 z) ∧ w'.cell? ⟨w2.heap.size, 3, none⟩ = some (.int .i64 t)) (first | (with_reducible exact ⟨c00, c01, c02, c03, c10, c11, c12, c13, c20, c21, c22, c23, c30, c31, c32, c33, c40, c41, c42, c43⟩) | go_keep) (first | (go_at_call 25; refine (i_ConjZ_v _ _ _ _ _).mono ?_; rintro e w9 ⟨rfl, hb⟩; (first | have T := T.call hb | have T := T.drew.call hb); obtain ⟨c00, c01, c02, c03, -, -, -, -⟩ := T.head.four; obtain ⟨c10, c11, c12, c13, -, -, -, -⟩ := T.tail.head.four; obtain ⟨c20, c21, c22, c23, -, -, -, -⟩ := T.tail.tail.head.four; obtain ⟨c30, c31, c32, c33, -, -, -, -⟩ := T.tail.tail.tail.head.four; obtain ⟨c40, c41, c42, c43, -, -, -, -⟩ := T.tail.tail.tail.tail.head.four; have l0 := T.head.lt; have l1 := T.tail.head.lt; have l2 := T.tail.tail.head.lt; have l3 := T.tail.tail.tail.head.lt; have l4 := T.tail.tail.tail.tail.head.lt) | (go_at_call 26; refine (i_SqZ_v _ _ _ _ _).mono ?_; rintro e w9 ⟨rfl, hb⟩; (first | have T := T.call hb | have T := T.drew.call hb); obtain ⟨c00, c01, c02, c03, -, -, -, -⟩ := T.head.four; obtain ⟨c10, c11, c12, c13, -, -, -, -⟩ := T.tail.head.four; obtain ⟨c20, c21, c22, c23, -, -, -, -⟩ := T.tail.tail.head.four; obtain ⟨c30, c31, c32, c33, -, -, -, -⟩ := T.tail.tail.tail.head.four; obtain ⟨c40, c41, c42, c43, -, -, -, -⟩ := T.tail.tail.tail.tail.head.four; have l0 := T.head.lt; have l1 := T.tail.head.lt; have l2 := T.tail.tail.head.lt; have l3 := T.tail.tail.tail.head.lt; have l4 := T.tail.tail.tail.tail.head.lt))
        all_goals
          have hw := T.below
          go_wp2
          go_ret
          refine ret_mk ?_
          repeat (first | (with_reducible exact Below.refl _ _) | (with_reducible assumption) | (with_reducible refine bl_alloc ?_ _) | (with_reducible refine bl_drew ?_) | (with_reducible refine bl_set ?_ (by simp <;> omega) _) | (with_reducible refine bl_call ?_ (by assumption)))

set_option maxRecDepth 100000 in
theorem lifted (os : Os) (started : os.Started) (H : Type) (enc : TypeId × Value → H) :
    ReturnsInHanded {} Try.checked os 5 .any (Rows.fnZwProductSpec.pre6 enc Try.prog Try.f5 Rows.fnZwProductRow.domain false) (Rows.fnZwProductSpec.post enc Try.prog Try.f5 false true false false) := by
  refine returnsInHanded_of_change (C := Try.checked) own started (by kernel_rfl) Try.func5
    (ChangeSpec.witness6 (enc := enc) (C := Try.checked) false ⟨#[], #[.slice none 0 0], []⟩ 8 (by kernel_rfl) (by kernel_rfl) (by kernel_rfl) (by kernel_rfl)) ?_
  intro W base args ds gs before hval0 hW hcnd _
  have hval : ∀ (j : Nat) t v, Try.f5.params[j]? = some t → args[j]? = some v → Value.okWide Try.prog W .any base t v := hval0
  have hW' := hW
  obtain ⟨p, q, hA0, hV, rfl, hfz, hnd⟩ := hW
  have hA : DataW.TrodAll enc Try.prog W 0 (fun _ => true) true Try.f5.params.toList args.toList ds p := hA0
  rw [Try.params5] at hA hval
  obtain ⟨v0, vs0, d0, ds0, p0, q0, hargs, rfl, rfl, h0, r0⟩ := trodAll_cons hA
  obtain ⟨rfl, rfl, rfl⟩ := trodAll_nil r0
  obtain rfl : args = #[v0] := by cases args; simp_all
  obtain ⟨rfl, rfl⟩ := trodVars_none hV
  have kk0 := h0
  have lt0 : ∀ x ∈ p0, x.block < W.heap.size := by obtain ⟨m, hm⟩ := kk0; exact DataW.trod_lt m _ _ _ hm
  obtain ⟨A0, n0, cp0, rfl, hR0, hn0, hc0⟩ := open_B (hval 0 22 v0 rfl rfl) h0
  clear hA0 hval0
  refine (walk A0 n0 cp0 W hR0 hn0 hc0).mono fun e W' ⟨he, bel⟩ => ?_
  subst he
  exact ⟨_, rfl, _, _, _, [], _, [], hW', trodAll_mk1 (shut_bool Try.underlying4 _), (trodAll_cons_mk (Below.trod laidOut (by kernel_rfl) (of_decide_eq_true (by kernel_rfl)) kk0 bel lt0) trodAll_mk0), rfl, bel.frame _, fun h => by cases h⟩

theorem over : Rows.fnZwProductRow.holds Try.pinned (OpenSpec.ofChange Rows.fnZwProductSpec) :=
  OpenClaim.holds_of_wide 5 Try.f5 rfl rfl rfl rfl rfl rfl rfl ⟨rfl, rfl, rfl, rfl, rfl⟩ rfl rfl rfl rfl rfl (by kernel_rfl) Try.func5 (by kernel_rfl)
    (of_decide_eq_true (by kernel_rfl)) (by unfold Func.isWrapper; first | (rw [if_pos (by decide +kernel)]; kernel_rfl) | (rw [if_neg (by decide +kernel)]; exact ⟨rfl, rfl⟩))
    (fun os started H enc _ => lifted os started H enc)

theorem proved : Rows.FnZwProductSaid := over
end Go.Proofs.Ytpkbmdlamcgiiaa.fnZwProduct
