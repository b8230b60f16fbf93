/-
  Proved: for every input the Go function FnDwSum returns true (the program's function returns what the reference's returns), and its arguments read as before.
  Conditions: none beyond the given statement.
-/
import Derived.Test.YtpkbmdlamcgiiaaCloseB
import Derived.Deep.RegionHeld3
import Derived.Test.YtpkbmdlamcgiiaaPure5
import Derived.Test.YtpkbmdlamcgiiaaDr3
import Derived.Test.YtpkbmdlamcgiiaaD2
import Derived.Test.YtpkbmdlamcgiiaaEq
import Derived.Test.YtpkbmdlamcgiiaaOwn
namespace Go.Proofs.Ytpkbmdlamcgiiaa.fnDwSum
open Go.Proofs.Ytpkbmdlamcgiiaa
open Go.ChangeShapes Go.WideShapes Go.ChangeAt Go.RowKit
set_option linter.unusedVariables false
attribute [local go_sem ↓ high] eqlD neqD eqlZ neqZ

set_option maxHeartbeats 2000000 in
theorem walk (A0 : Option Addr) (n0 cp0 : Nat) (w : World) (hR0 : RB w w.heap.size A0 n0) (hn0 : n0 ≤ 9223372036854775807) (hc0 : n0 ≤ cp0) :
    Calls Try.prog 11 #[.slice A0 n0 cp0] w (Ret (.bool true) w) := by
  by_cases hbig : n0 ≤ 1048576
  rotate_left
  · go_enter Try.func11, Try.ntmps11
    go_wp2_with fail
    refine (l_big_t _ _ _ _ (by omega)).mono ?_
    rintro e w' ⟨rfl, rfl⟩
    go_wp2
    go_ret
    exact ret_mk (Below.refl _ _)
  have HR := Lib.hid hR0
  clear hR0
  go_enter Try.func11, Try.ntmps11
  go_wp2_with fail
  refine (l_big_f _ _ _ _ hbig).mono ?_
  rintro e w' ⟨rfl, rfl⟩
  go_wp2_with fail
  refine (d_DrawAddD A0 n0 cp0 _ HR.out hn0).mono ?_
  rintro e w1 ⟨a, b, c, d, k, p, q, r, s, l, rfl, hb⟩
  have T1 : Own w w1 [] := (Own.start w).call hb
  clear hb
  rcases h0 : addD ⟨⟨a, b, c, d⟩, k⟩ ⟨⟨p, q, r, s⟩, l⟩ with _ | ⟨⟨x, y, z, t⟩, m⟩
  · have H0 := Lib.hid h0
    have H1 := Lib.hid ((addD_cm ⟨⟨p, q, r, s⟩, l⟩ ⟨⟨a, b, c, d⟩, k⟩).trans h0)
    clear h0
    go_wp2_with fail
    refine (i_AddD_none _ H0.out).mono ?_
    rintro e w2 ⟨rfl, hb⟩
    have T2 : Own w w2 [(w1.heap.size + 1, 29, #[.int .i64 p, .int .i64 q, .int .i64 r, .int .i64 s, .int .i64 l]), (w1.heap.size, 29, #[.int .i64 a, .int .i64 b, .int .i64 c, .int .i64 d, .int .i64 k])] := by simpa using (((T1.push 29 #[.int .i64 a, .int .i64 b, .int .i64 c, .int .i64 d, .int .i64 k]).push 29 #[.int .i64 p, .int .i64 q, .int .i64 r, .int .i64 s, .int .i64 l])).call hb
    clear hb T1
    obtain ⟨c2_0_0, c2_0_1, c2_0_2, c2_0_3, c2_0_4, -, -, -, -, -⟩ := T2.head.five
    have l2_0 := T2.head.lt
    have nx2_0 := Nat.ne_of_lt l2_0
    have ny2_0 := Nat.ne_of_gt l2_0
    have le2_0 := Nat.le_of_lt l2_0
    obtain ⟨c2_1_0, c2_1_1, c2_1_2, c2_1_3, c2_1_4, -, -, -, -, -⟩ := T2.tail.head.five
    have l2_1 := T2.tail.head.lt
    have nx2_1 := Nat.ne_of_lt l2_1
    have ny2_1 := Nat.ne_of_gt l2_1
    have le2_1 := Nat.le_of_lt l2_1
    go_wp2_with fail
    refine (i_AddD_none _ H1.out).mono ?_
    rintro e w3 ⟨rfl, hb⟩
    have T3 : Own w w3 [(w2.heap.size, 29, #[.int .i64 0, .int .i64 0, .int .i64 0, .int .i64 0, .int .i64 0]), (w1.heap.size + 1, 29, #[.int .i64 p, .int .i64 q, .int .i64 r, .int .i64 s, .int .i64 l]), (w1.heap.size, 29, #[.int .i64 a, .int .i64 b, .int .i64 c, .int .i64 d, .int .i64 k])] := by simpa using ((T2.push 29 #[.int .i64 0, .int .i64 0, .int .i64 0, .int .i64 0, .int .i64 0])).call hb
    clear hb T2
    clear c2_0_0 c2_0_1 c2_0_2 c2_0_3 c2_0_4 c2_1_0 c2_1_1 c2_1_2 c2_1_3 c2_1_4
    obtain ⟨c3_0_0, c3_0_1, c3_0_2, c3_0_3, c3_0_4, -, -, -, -, -⟩ := T3.head.five
    have l3_0 := T3.head.lt
    have nx3_0 := Nat.ne_of_lt l3_0
    have ny3_0 := Nat.ne_of_gt l3_0
    have le3_0 := Nat.le_of_lt l3_0
    obtain ⟨c3_1_0, c3_1_1, c3_1_2, c3_1_3, c3_1_4, -, -, -, -, -⟩ := T3.tail.head.five
    have l3_1 := T3.tail.head.lt
    have nx3_1 := Nat.ne_of_lt l3_1
    have ny3_1 := Nat.ne_of_gt l3_1
    have le3_1 := Nat.le_of_lt l3_1
    obtain ⟨c3_2_0, c3_2_1, c3_2_2, c3_2_3, c3_2_4, -, -, -, -, -⟩ := T3.tail.tail.head.five
    have l3_2 := T3.tail.tail.head.lt
    have nx3_2 := Nat.ne_of_lt l3_2
    have ny3_2 := Nat.ne_of_gt l3_2
    have le3_2 := Nat.le_of_lt l3_2
    go_wp2_with fail
    refine (s_AddD_none _ H0.out).mono ?_
    rintro e w4 ⟨rfl, hb⟩
    have T4 : Own w w4 [(w3.heap.size, 29, #[.int .i64 0, .int .i64 0, .int .i64 0, .int .i64 0, .int .i64 0]), (w2.heap.size, 29, #[.int .i64 0, .int .i64 0, .int .i64 0, .int .i64 0, .int .i64 0]), (w1.heap.size + 1, 29, #[.int .i64 p, .int .i64 q, .int .i64 r, .int .i64 s, .int .i64 l]), (w1.heap.size, 29, #[.int .i64 a, .int .i64 b, .int .i64 c, .int .i64 d, .int .i64 k])] := by simpa using ((T3.push 29 #[.int .i64 0, .int .i64 0, .int .i64 0, .int .i64 0, .int .i64 0])).call hb
    clear hb T3
    clear c3_0_0 c3_0_1 c3_0_2 c3_0_3 c3_0_4 c3_1_0 c3_1_1 c3_1_2 c3_1_3 c3_1_4 c3_2_0 c3_2_1 c3_2_2 c3_2_3 c3_2_4
    obtain ⟨c4_0_0, c4_0_1, c4_0_2, c4_0_3, c4_0_4, -, -, -, -, -⟩ := T4.head.five
    have l4_0 := T4.head.lt
    have nx4_0 := Nat.ne_of_lt l4_0
    have ny4_0 := Nat.ne_of_gt l4_0
    have le4_0 := Nat.le_of_lt l4_0
    obtain ⟨c4_1_0, c4_1_1, c4_1_2, c4_1_3, c4_1_4, -, -, -, -, -⟩ := T4.tail.head.five
    have l4_1 := T4.tail.head.lt
    have nx4_1 := Nat.ne_of_lt l4_1
    have ny4_1 := Nat.ne_of_gt l4_1
    have le4_1 := Nat.le_of_lt l4_1
    obtain ⟨c4_2_0, c4_2_1, c4_2_2, c4_2_3, c4_2_4, -, -, -, -, -⟩ := T4.tail.tail.head.five
    have l4_2 := T4.tail.tail.head.lt
    have nx4_2 := Nat.ne_of_lt l4_2
    have ny4_2 := Nat.ne_of_gt l4_2
    have le4_2 := Nat.le_of_lt l4_2
    obtain ⟨c4_3_0, c4_3_1, c4_3_2, c4_3_3, c4_3_4, -, -, -, -, -⟩ := T4.tail.tail.tail.head.five
    have l4_3 := T4.tail.tail.tail.head.lt
    have nx4_3 := Nat.ne_of_lt l4_3
    have ny4_3 := Nat.ne_of_gt l4_3
    have le4_3 := Nat.le_of_lt l4_3
    have e0 := eqDb_self 0 0 0 0 0
    have hw := T4.below
    go_wp2
    go_ret
    refine ret_mk ?_
    repeat (first | (with_reducible exact Below.refl _ _) | (with_reducible assumption) | (with_reducible refine bl_alloc ?_ _) | (with_reducible refine bl_drew ?_) | (with_reducible refine bl_set ?_ (by simp <;> omega) _) | (with_reducible refine bl_call ?_ (by assumption)))
  · have H0 := Lib.hid h0
    have H1 := Lib.hid ((addD_cm ⟨⟨p, q, r, s⟩, l⟩ ⟨⟨a, b, c, d⟩, k⟩).trans h0)
    obtain ⟨-, hy, hs, -⟩ := addD_inv h0
    clear h0
    obtain ⟨x2, y2, z2, t2, m2, ok2, hI2, hS2, hT2, hF2⟩ := addD_u x y z t m (-p) (-q) (-r) (-s) l
    have HI2 := Lib.hid hI2
    have HS2 := Lib.hid hS2
    have HT2 := Lib.hid hT2
    have HF2 := Lib.hid hF2
    clear hI2 hS2 hT2 hF2
    go_wp2_with fail
    refine (i_AddD_some _ H0.out).mono ?_
    rintro e w2 ⟨rfl, hb⟩
    have T2 : Own w w2 [(w1.heap.size + 1, 29, #[.int .i64 p, .int .i64 q, .int .i64 r, .int .i64 s, .int .i64 l]), (w1.heap.size, 29, #[.int .i64 a, .int .i64 b, .int .i64 c, .int .i64 d, .int .i64 k])] := by simpa using (((T1.push 29 #[.int .i64 a, .int .i64 b, .int .i64 c, .int .i64 d, .int .i64 k]).push 29 #[.int .i64 p, .int .i64 q, .int .i64 r, .int .i64 s, .int .i64 l])).call hb
    clear hb T1
    obtain ⟨c2_0_0, c2_0_1, c2_0_2, c2_0_3, c2_0_4, -, -, -, -, -⟩ := T2.head.five
    have l2_0 := T2.head.lt
    have nx2_0 := Nat.ne_of_lt l2_0
    have ny2_0 := Nat.ne_of_gt l2_0
    have le2_0 := Nat.le_of_lt l2_0
    obtain ⟨c2_1_0, c2_1_1, c2_1_2, c2_1_3, c2_1_4, -, -, -, -, -⟩ := T2.tail.head.five
    have l2_1 := T2.tail.head.lt
    have nx2_1 := Nat.ne_of_lt l2_1
    have ny2_1 := Nat.ne_of_gt l2_1
    have le2_1 := Nat.le_of_lt l2_1
    go_wp2_with fail
    refine (i_AddD_some _ H1.out).mono ?_
    rintro e w3 ⟨rfl, hb⟩
    have T3 : Own w w3 [(w2.heap.size, 29, #[.int .i64 x, .int .i64 y, .int .i64 z, .int .i64 t, .int .i64 m]), (w1.heap.size + 1, 29, #[.int .i64 p, .int .i64 q, .int .i64 r, .int .i64 s, .int .i64 l]), (w1.heap.size, 29, #[.int .i64 a, .int .i64 b, .int .i64 c, .int .i64 d, .int .i64 k])] := by simpa using ((T2.push 29 #[.int .i64 x, .int .i64 y, .int .i64 z, .int .i64 t, .int .i64 m])).call hb
    clear hb T2
    clear c2_0_0 c2_0_1 c2_0_2 c2_0_3 c2_0_4 c2_1_0 c2_1_1 c2_1_2 c2_1_3 c2_1_4
    obtain ⟨c3_0_0, c3_0_1, c3_0_2, c3_0_3, c3_0_4, -, -, -, -, -⟩ := T3.head.five
    have l3_0 := T3.head.lt
    have nx3_0 := Nat.ne_of_lt l3_0
    have ny3_0 := Nat.ne_of_gt l3_0
    have le3_0 := Nat.le_of_lt l3_0
    obtain ⟨c3_1_0, c3_1_1, c3_1_2, c3_1_3, c3_1_4, -, -, -, -, -⟩ := T3.tail.head.five
    have l3_1 := T3.tail.head.lt
    have nx3_1 := Nat.ne_of_lt l3_1
    have ny3_1 := Nat.ne_of_gt l3_1
    have le3_1 := Nat.le_of_lt l3_1
    obtain ⟨c3_2_0, c3_2_1, c3_2_2, c3_2_3, c3_2_4, -, -, -, -, -⟩ := T3.tail.tail.head.five
    have l3_2 := T3.tail.tail.head.lt
    have nx3_2 := Nat.ne_of_lt l3_2
    have ny3_2 := Nat.ne_of_gt l3_2
    have le3_2 := Nat.le_of_lt l3_2
    go_wp2_with fail
    refine (s_AddD_some _ H0.out).mono ?_
    rintro e w4 ⟨rfl, hb⟩
    have T4 : Own w w4 [(w3.heap.size, 29, #[.int .i64 x, .int .i64 y, .int .i64 z, .int .i64 t, .int .i64 m]), (w2.heap.size, 29, #[.int .i64 x, .int .i64 y, .int .i64 z, .int .i64 t, .int .i64 m]), (w1.heap.size + 1, 29, #[.int .i64 p, .int .i64 q, .int .i64 r, .int .i64 s, .int .i64 l]), (w1.heap.size, 29, #[.int .i64 a, .int .i64 b, .int .i64 c, .int .i64 d, .int .i64 k])] := by simpa using ((T3.push 29 #[.int .i64 x, .int .i64 y, .int .i64 z, .int .i64 t, .int .i64 m])).call hb
    clear hb T3
    clear c3_0_0 c3_0_1 c3_0_2 c3_0_3 c3_0_4 c3_1_0 c3_1_1 c3_1_2 c3_1_3 c3_1_4 c3_2_0 c3_2_1 c3_2_2 c3_2_3 c3_2_4
    obtain ⟨c4_0_0, c4_0_1, c4_0_2, c4_0_3, c4_0_4, -, -, -, -, -⟩ := T4.head.five
    have l4_0 := T4.head.lt
    have nx4_0 := Nat.ne_of_lt l4_0
    have ny4_0 := Nat.ne_of_gt l4_0
    have le4_0 := Nat.le_of_lt l4_0
    obtain ⟨c4_1_0, c4_1_1, c4_1_2, c4_1_3, c4_1_4, -, -, -, -, -⟩ := T4.tail.head.five
    have l4_1 := T4.tail.head.lt
    have nx4_1 := Nat.ne_of_lt l4_1
    have ny4_1 := Nat.ne_of_gt l4_1
    have le4_1 := Nat.le_of_lt l4_1
    obtain ⟨c4_2_0, c4_2_1, c4_2_2, c4_2_3, c4_2_4, -, -, -, -, -⟩ := T4.tail.tail.head.five
    have l4_2 := T4.tail.tail.head.lt
    have nx4_2 := Nat.ne_of_lt l4_2
    have ny4_2 := Nat.ne_of_gt l4_2
    have le4_2 := Nat.le_of_lt l4_2
    obtain ⟨c4_3_0, c4_3_1, c4_3_2, c4_3_3, c4_3_4, -, -, -, -, -⟩ := T4.tail.tail.tail.head.five
    have l4_3 := T4.tail.tail.tail.head.lt
    have nx4_3 := Nat.ne_of_lt l4_3
    have ny4_3 := Nat.ne_of_gt l4_3
    have le4_3 := Nat.le_of_lt l4_3
    have e0 := eqDb_self x y z t m
    go_upto_region 11 with fail
    obtain ⟨W, hW⟩ : ∃ W, (w4.alloc (.cells #[.int .i64 x, .int .i64 y, .int .i64 z, .int .i64 t, .int .i64 m] 29)) = W := ⟨_, rfl⟩
    have Tz : Own w W [(w4.heap.size, 29, #[.int .i64 x, .int .i64 y, .int .i64 z, .int .i64 t, .int .i64 m]), (w3.heap.size, 29, #[.int .i64 x, .int .i64 y, .int .i64 z, .int .i64 t, .int .i64 m]), (w2.heap.size, 29, #[.int .i64 x, .int .i64 y, .int .i64 z, .int .i64 t, .int .i64 m]), (w1.heap.size + 1, 29, #[.int .i64 p, .int .i64 q, .int .i64 r, .int .i64 s, .int .i64 l]), (w1.heap.size, 29, #[.int .i64 a, .int .i64 b, .int .i64 c, .int .i64 d, .int .i64 k])] := by rw [← hW]; simpa using (T4.push 29 #[.int .i64 x, .int .i64 y, .int .i64 z, .int .i64 t, .int .i64 m])
    have T : Own w W [(w2.heap.size, 29, #[.int .i64 x, .int .i64 y, .int .i64 z, .int .i64 t, .int .i64 m]), (w1.heap.size + 1, 29, #[.int .i64 p, .int .i64 q, .int .i64 r, .int .i64 s, .int .i64 l]), (w1.heap.size, 29, #[.int .i64 a, .int .i64 b, .int .i64 c, .int .i64 d, .int .i64 k])] := (((Tz.bare).add Tz.tail.tail.tail.tail.head).add Tz.tail.tail.tail.head).add Tz.tail.tail.head
    rw [hW]
    clear hW Tz T4 c4_0_0 c4_0_1 c4_0_2 c4_0_3 c4_0_4 c4_1_0 c4_1_1 c4_1_2 c4_1_3 c4_1_4 c4_2_0 c4_2_1 c4_2_2 c4_2_3 c4_2_4 c4_3_0 c4_3_1 c4_3_2 c4_3_3 c4_3_4
    obtain ⟨c00, c01, c02, c03, c04, -, -, -, -, -⟩ := T.head.five
    obtain ⟨c10, c11, c12, c13, c14, -, -, -, -, -⟩ := T.tail.head.five
    obtain ⟨c20, c21, c22, c23, c24, -, -, -, -, -⟩ := T.tail.tail.head.five
    have l0 := T.head.lt
    have l1 := T.tail.head.lt
    have l2 := T.tail.tail.head.lt
    go_cut [11, 12] (fun s11 s12 wx => ∃ g : Nat, s11 = .pointer (some ⟨g, 0, none⟩) ∧ s12 = .bool ok2 ∧ Own w wx ((g, 29, #[.int .i64 x2, .int .i64 y2, .int .i64 z2, .int .i64 t2, .int .i64 m2]) :: [(w2.heap.size, 29, #[.int .i64 x, .int .i64 y, .int .i64 z, .int .i64 t, .int .i64 m]), (w1.heap.size + 1, 29, #[.int .i64 p, .int .i64 q, .int .i64 r, .int .i64 s, .int .i64 l]), (w1.heap.size, 29, #[.int .i64 a, .int .i64 b, .int .i64 c, .int .i64 d, .int .i64 k])]))
    case first =>
      go_region_held3 (fun w' => w'.cell? ⟨w2.heap.size, 0, none⟩ = some (.int .i64 x) ∧ w'.cell? ⟨w2.heap.size, 1, none⟩ = some (.int .i64 y) ∧ w'.cell? ⟨w2.heap.size, 2, none⟩ = some (.int .i64 z) ∧ w'.cell? ⟨w2.heap.size, 3, none⟩ = some (.int .i64 t) ∧ w'.cell? ⟨w2.heap.size, 4, none⟩ = some (.int .i64 m) ∧ w'.cell? ⟨w1.heap.size + 1, 0, none⟩ = some (.int .i64 p) ∧ w'.cell? ⟨w1.heap.size + 1, 1, none⟩ = some (.int .i64 q) ∧ w'.cell? ⟨w1.heap.size + 1, 2, none⟩ = some (.int .i64 r) ∧ w'.cell? ⟨w1.heap.size + 1, 3, none⟩ = some (.int .i64 s) ∧ w'.cell? ⟨w1.heap.size + 1, 4, none⟩ = some (.int .i64 l) ∧ w'.cell? ⟨w1.heap.size, 0, none⟩ = some (.int .i64 a) ∧ w'.cell? ⟨w1.heap.size, 1, none⟩ = some (.int .i64 b) ∧ w'.cell? ⟨w1.heap.size, 2, none⟩ = some (.int .i64 c) ∧ w'.cell? ⟨w1.heap.size, 3, none⟩ = some (.int .i64 d) ∧ w'.cell? ⟨w1.heap.size, 4, none⟩ = some (.int .i64 k)) (first | (with_reducible exact ⟨c00, c01, c02, c03, c04, c10, c11, c12, c13, c14, c20, c21, c22, c23, c24⟩) | go_keep) (first | (go_at_call 50; refine (i_NegD_t _ hy).mono ?_; rintro e w1 ⟨rfl, hb⟩; (first | (have T := T.call hb; (try have kz := kz.call hb)) | (have T := T.drew.call hb; (try have kz := kz.drew.call hb)) | (have kz := Blk.new_call hb; have n0 := Nat.ne_of_lt l0; have m0 := Nat.ne_of_gt l0; have n1 := Nat.ne_of_lt l1; have m1 := Nat.ne_of_gt l1; have n2 := Nat.ne_of_lt l2; have m2 := Nat.ne_of_gt l2; have kg := T.below.size; have KN := T.lts; have T := (T.alloc _).call hb) | (have kz := Blk.new_drew_call hb; have n0 := Nat.ne_of_lt l0; have m0 := Nat.ne_of_gt l0; have n1 := Nat.ne_of_lt l1; have m1 := Nat.ne_of_gt l1; have n2 := Nat.ne_of_lt l2; have m2 := Nat.ne_of_gt l2; have kg := T.below.size; have KN := T.lts; have T := (T.alloc _).drew.call hb)); obtain ⟨c00, c01, c02, c03, c04, -, -, -, -, -⟩ := T.head.five; obtain ⟨c10, c11, c12, c13, c14, -, -, -, -, -⟩ := T.tail.head.five; obtain ⟨c20, c21, c22, c23, c24, -, -, -, -, -⟩ := T.tail.tail.head.five; have l0 := T.head.lt; have l1 := T.tail.head.lt; have l2 := T.tail.tail.head.lt; (try obtain ⟨cz0, cz1, cz2, cz3, cz4, fz0, fz1, fz2, fz3, fz4⟩ := kz.five)) | (go_at_call 43; refine (HI2.out _).mono ?_; rintro e w1 ⟨rfl, hb⟩; (first | (have T := T.call hb; (try have kz := kz.call hb)) | (have T := T.drew.call hb; (try have kz := kz.drew.call hb)) | (have kz := Blk.new_call hb; have n0 := Nat.ne_of_lt l0; have m0 := Nat.ne_of_gt l0; have n1 := Nat.ne_of_lt l1; have m1 := Nat.ne_of_gt l1; have n2 := Nat.ne_of_lt l2; have m2 := Nat.ne_of_gt l2; have kg := T.below.size; have KN := T.lts; have T := (T.alloc _).call hb) | (have kz := Blk.new_drew_call hb; have n0 := Nat.ne_of_lt l0; have m0 := Nat.ne_of_gt l0; have n1 := Nat.ne_of_lt l1; have m1 := Nat.ne_of_gt l1; have n2 := Nat.ne_of_lt l2; have m2 := Nat.ne_of_gt l2; have kg := T.below.size; have KN := T.lts; have T := (T.alloc _).drew.call hb)); obtain ⟨c00, c01, c02, c03, c04, -, -, -, -, -⟩ := T.head.five; obtain ⟨c10, c11, c12, c13, c14, -, -, -, -, -⟩ := T.tail.head.five; obtain ⟨c20, c21, c22, c23, c24, -, -, -, -, -⟩ := T.tail.tail.head.five; have l0 := T.head.lt; have l1 := T.tail.head.lt; have l2 := T.tail.tail.head.lt; (try obtain ⟨cz0, cz1, cz2, cz3, cz4, fz0, fz1, fz2, fz3, fz4⟩ := kz.five)))
      all_goals
        go_wp2_with fail
        go_meet
        first | (with_reducible exact ⟨_, rfl, rfl, T.push _ _⟩) | (with_reducible exact ⟨_, rfl, rfl, (T.add kz).put5 kg KN.out _ _ _ _ _⟩)
    case rest =>
      obtain ⟨g5, rfl, rfl, T5⟩ := hcut
      clear T c00 c01 c02 c03 c04 c10 c11 c12 c13 c14 c20 c21 c22 c23 c24 l0 l1 l2
      obtain ⟨v5, rfl⟩ : ∃ v5, v5 = wc := ⟨_, rfl⟩
      obtain ⟨c5_0_0, c5_0_1, c5_0_2, c5_0_3, c5_0_4, -, -, -, -, -⟩ := T5.head.five
      have l5_0 := T5.head.lt
      have nx5_0 := Nat.ne_of_lt l5_0
      have ny5_0 := Nat.ne_of_gt l5_0
      have le5_0 := Nat.le_of_lt l5_0
      obtain ⟨c5_1_0, c5_1_1, c5_1_2, c5_1_3, c5_1_4, -, -, -, -, -⟩ := T5.tail.head.five
      have l5_1 := T5.tail.head.lt
      have nx5_1 := Nat.ne_of_lt l5_1
      have ny5_1 := Nat.ne_of_gt l5_1
      have le5_1 := Nat.le_of_lt l5_1
      obtain ⟨c5_2_0, c5_2_1, c5_2_2, c5_2_3, c5_2_4, -, -, -, -, -⟩ := T5.tail.tail.head.five
      have l5_2 := T5.tail.tail.head.lt
      have nx5_2 := Nat.ne_of_lt l5_2
      have ny5_2 := Nat.ne_of_gt l5_2
      have le5_2 := Nat.le_of_lt l5_2
      obtain ⟨c5_3_0, c5_3_1, c5_3_2, c5_3_3, c5_3_4, -, -, -, -, -⟩ := T5.tail.tail.tail.head.five
      have l5_3 := T5.tail.tail.tail.head.lt
      have nx5_3 := Nat.ne_of_lt l5_3
      have ny5_3 := Nat.ne_of_gt l5_3
      have le5_3 := Nat.le_of_lt l5_3
      go_wp2_with fail
      refine (i_okd_t _ hs).mono ?_
      rintro e w6 ⟨rfl, hb⟩
      have T6 : Own w w6 [(g5, 29, #[.int .i64 x2, .int .i64 y2, .int .i64 z2, .int .i64 t2, .int .i64 m2]), (w2.heap.size, 29, #[.int .i64 x, .int .i64 y, .int .i64 z, .int .i64 t, .int .i64 m]), (w1.heap.size + 1, 29, #[.int .i64 p, .int .i64 q, .int .i64 r, .int .i64 s, .int .i64 l]), (w1.heap.size, 29, #[.int .i64 a, .int .i64 b, .int .i64 c, .int .i64 d, .int .i64 k])] := by simpa using (T5).call hb
      clear hb T5
      clear c5_0_0 c5_0_1 c5_0_2 c5_0_3 c5_0_4 c5_1_0 c5_1_1 c5_1_2 c5_1_3 c5_1_4 c5_2_0 c5_2_1 c5_2_2 c5_2_3 c5_2_4 c5_3_0 c5_3_1 c5_3_2 c5_3_3 c5_3_4
      obtain ⟨c6_0_0, c6_0_1, c6_0_2, c6_0_3, c6_0_4, -, -, -, -, -⟩ := T6.head.five
      have l6_0 := T6.head.lt
      have nx6_0 := Nat.ne_of_lt l6_0
      have ny6_0 := Nat.ne_of_gt l6_0
      have le6_0 := Nat.le_of_lt l6_0
      obtain ⟨c6_1_0, c6_1_1, c6_1_2, c6_1_3, c6_1_4, -, -, -, -, -⟩ := T6.tail.head.five
      have l6_1 := T6.tail.head.lt
      have nx6_1 := Nat.ne_of_lt l6_1
      have ny6_1 := Nat.ne_of_gt l6_1
      have le6_1 := Nat.le_of_lt l6_1
      obtain ⟨c6_2_0, c6_2_1, c6_2_2, c6_2_3, c6_2_4, -, -, -, -, -⟩ := T6.tail.tail.head.five
      have l6_2 := T6.tail.tail.head.lt
      have nx6_2 := Nat.ne_of_lt l6_2
      have ny6_2 := Nat.ne_of_gt l6_2
      have le6_2 := Nat.le_of_lt l6_2
      obtain ⟨c6_3_0, c6_3_1, c6_3_2, c6_3_3, c6_3_4, -, -, -, -, -⟩ := T6.tail.tail.tail.head.five
      have l6_3 := T6.tail.tail.tail.head.lt
      have nx6_3 := Nat.ne_of_lt l6_3
      have ny6_3 := Nat.ne_of_gt l6_3
      have le6_3 := Nat.le_of_lt l6_3
      cases ok2
      · have hw := T6.below
        go_wp2
        go_ret
        refine ret_mk ?_
        repeat (first | (with_reducible exact Below.refl _ _) | (with_reducible assumption) | (with_reducible refine bl_alloc ?_ _) | (with_reducible refine bl_drew ?_) | (with_reducible refine bl_set ?_ (by simp <;> omega) _) | (with_reducible refine bl_call ?_ (by assumption)))
      have e : (⟨⟨x2, y2, z2, t2⟩, m2⟩ : DW) = ⟨⟨a, b, c, d⟩, k⟩ := addD_back H0.out (HT2.out rfl)
      simp only [DW.mk.injEq, ZO.mk.injEq] at e
      have e' : eqDb x2 y2 z2 t2 m2 a b c d k = true := by rw [eqDb_iff]; simp [e]
      clear e
      have hw := T6.below
      go_wp2
      go_ret
      refine ret_mk ?_
      repeat (first | (with_reducible exact Below.refl _ _) | (with_reducible assumption) | (with_reducible refine bl_alloc ?_ _) | (with_reducible refine bl_drew ?_) | (with_reducible refine bl_set ?_ (by simp <;> omega) _) | (with_reducible refine bl_call ?_ (by assumption)))

set_option maxRecDepth 100000 in
theorem lifted (os : Os) (started : os.Started) (H : Type) (enc : TypeId × Value → H) :
    ReturnsInHanded {} Try.checked os 11 .any (Rows.fnDwSumSpec.pre6 enc Try.prog Try.f11 Rows.fnDwSumRow.domain false) (Rows.fnDwSumSpec.post enc Try.prog Try.f11 false true false false) := by
  refine returnsInHanded_of_change (C := Try.checked) own started (by kernel_rfl) Try.func11
    (ChangeSpec.witness6 (enc := enc) (C := Try.checked) false ⟨#[], #[.slice none 0 0], []⟩ 8 (by kernel_rfl) (by kernel_rfl) (by kernel_rfl) (by kernel_rfl)) ?_
  intro W base args ds gs before hval0 hW hcnd _
  have hval : ∀ (j : Nat) t v, Try.f11.params[j]? = some t → args[j]? = some v → Value.okWide Try.prog W .any base t v := hval0
  have hW' := hW
  obtain ⟨p, q, hA0, hV, rfl, hfz, hnd⟩ := hW
  have hA : DataW.TrodAll enc Try.prog W 0 (fun _ => true) true Try.f11.params.toList args.toList ds p := hA0
  rw [Try.params11] at hA hval
  obtain ⟨v0, vs0, d0, ds0, p0, q0, hargs, rfl, rfl, h0, r0⟩ := trodAll_cons hA
  obtain ⟨rfl, rfl, rfl⟩ := trodAll_nil r0
  obtain rfl : args = #[v0] := by cases args; simp_all
  obtain ⟨rfl, rfl⟩ := trodVars_none hV
  have kk0 := h0
  have lt0 : ∀ x ∈ p0, x.block < W.heap.size := by obtain ⟨m, hm⟩ := kk0; exact DataW.trod_lt m _ _ _ hm
  obtain ⟨A0, n0, cp0, rfl, hR0, hn0, hc0⟩ := open_B (hval 0 22 v0 rfl rfl) h0
  clear hA0 hval0
  refine (walk A0 n0 cp0 W hR0 hn0 hc0).mono fun e W' ⟨he, bel⟩ => ?_
  subst he
  exact ⟨_, rfl, _, _, _, [], _, [], hW', trodAll_mk1 (shut_bool Try.underlying4 _), (trodAll_cons_mk (Below.trod laidOut (by kernel_rfl) (of_decide_eq_true (by kernel_rfl)) kk0 bel lt0) trodAll_mk0), rfl, bel.frame _, fun h => by cases h⟩

theorem over : Rows.fnDwSumRow.holds Try.pinned (OpenSpec.ofChange Rows.fnDwSumSpec) :=
  OpenClaim.holds_of_wide 11 Try.f11 rfl rfl rfl rfl rfl rfl rfl ⟨rfl, rfl, rfl, rfl, rfl⟩ rfl rfl rfl rfl rfl (by kernel_rfl) Try.func11 (by kernel_rfl)
    (of_decide_eq_true (by kernel_rfl)) (by unfold Func.isWrapper; first | (rw [if_pos (by decide +kernel)]; kernel_rfl) | (rw [if_neg (by decide +kernel)]; exact ⟨rfl, rfl⟩))
    (fun os started H enc _ => lifted os started H enc)

theorem proved : Rows.FnDwSumSaid := over
end Go.Proofs.Ytpkbmdlamcgiiaa.fnDwSum
