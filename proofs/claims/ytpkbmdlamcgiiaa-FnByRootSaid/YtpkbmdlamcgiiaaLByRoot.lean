/-
  Proved: for every input the Go function FnByRoot returns true (the program's function returns what the reference's returns), and its arguments read as before.
  Conditions: none beyond the given statement.
-/
import Derived.Test.YtpkbmdlamcgiiaaCloseB
import Derived.Deep.RegionHeld3
import Derived.Test.YtpkbmdlamcgiiaaA
import Derived.Test.YtpkbmdlamcgiiaaPure3
import Derived.Test.YtpkbmdlamcgiiaaDr3
import Derived.Test.YtpkbmdlamcgiiaaEq
import Derived.Test.YtpkbmdlamcgiiaaOwn
namespace Go.Proofs.Ytpkbmdlamcgiiaa.fnByRoot
open Go.Proofs.Ytpkbmdlamcgiiaa
open Go.ChangeShapes Go.WideShapes Go.ChangeAt Go.RowKit
set_option linter.unusedVariables false
attribute [local go_sem ↓ high] eqlZ neqZ

set_option maxHeartbeats 2000000 in
theorem walk (A0 : Option Addr) (n0 cp0 : Nat) (w : World) (hR0 : RB w w.heap.size A0 n0) (hn0 : n0 ≤ 9223372036854775807) (hc0 : n0 ≤ cp0) :
    Calls Try.prog 6 #[.slice A0 n0 cp0] w (Ret (.bool true) w) := by
  by_cases hbig : n0 ≤ 1048576
  rotate_left
  · go_enter Try.func6, Try.ntmps6
    go_wp2_with fail
    refine (l_big_t _ _ _ _ (by omega)).mono ?_
    rintro e w' ⟨rfl, rfl⟩
    go_wp2
    go_ret
    exact ret_mk (Below.refl _ _)
  have HR := Lib.hid hR0
  clear hR0
  go_enter Try.func6, Try.ntmps6
  go_wp2_with fail
  refine (l_big_f _ _ _ _ hbig).mono ?_
  rintro e w' ⟨rfl, rfl⟩
  go_wp2_with fail
  refine (d_DrawDiv A0 n0 cp0 _ HR.out hn0).mono ?_
  rintro e w1 ⟨a, b, c, d, rfl, hb⟩
  have T1 : Own w w1 [] := (Own.start w).call hb
  clear hb
  obtain ⟨a2, b2, c2, d2, ok, hI1, hS1, hT1, hF1⟩ := divZ_u a b c d
  have HI1 := Lib.hid hI1
  have HS1 := Lib.hid hS1
  have HT1 := Lib.hid hT1
  have HF1 := Lib.hid hF1
  clear hI1 hS1 hT1 hF1
  go_wp2_with fail
  refine (HI1.out _).mono ?_
  rintro e w2 ⟨rfl, hb⟩
  have T2 : Own w w2 [(w1.heap.size, 25, #[.int .i64 a, .int .i64 b, .int .i64 c, .int .i64 d])] := by simpa using ((T1.push 25 #[.int .i64 a, .int .i64 b, .int .i64 c, .int .i64 d])).call hb
  clear hb T1
  obtain ⟨c2_0_0, c2_0_1, c2_0_2, c2_0_3, -, -, -, -⟩ := T2.head.four
  have l2_0 := T2.head.lt
  have nx2_0 := Nat.ne_of_lt l2_0
  have ny2_0 := Nat.ne_of_gt l2_0
  have le2_0 := Nat.le_of_lt l2_0
  go_wp2_with fail
  refine (HS1.out _).mono ?_
  rintro e w3 ⟨rfl, hb⟩
  have T3 : Own w w3 [(w2.heap.size, 25, #[.int .i64 a2, .int .i64 b2, .int .i64 c2, .int .i64 d2]), (w1.heap.size, 25, #[.int .i64 a, .int .i64 b, .int .i64 c, .int .i64 d])] := by simpa using ((T2.push 25 #[.int .i64 a2, .int .i64 b2, .int .i64 c2, .int .i64 d2])).call hb
  clear hb T2
  clear c2_0_0 c2_0_1 c2_0_2 c2_0_3
  obtain ⟨c3_0_0, c3_0_1, c3_0_2, c3_0_3, -, -, -, -⟩ := T3.head.four
  have l3_0 := T3.head.lt
  have nx3_0 := Nat.ne_of_lt l3_0
  have ny3_0 := Nat.ne_of_gt l3_0
  have le3_0 := Nat.le_of_lt l3_0
  obtain ⟨c3_1_0, c3_1_1, c3_1_2, c3_1_3, -, -, -, -⟩ := T3.tail.head.four
  have l3_1 := T3.tail.head.lt
  have nx3_1 := Nat.ne_of_lt l3_1
  have ny3_1 := Nat.ne_of_gt l3_1
  have le3_1 := Nat.le_of_lt l3_1
  cases ok
  · have TT := ((T3.push 25 #[.int .i64 a2, .int .i64 b2, .int .i64 c2, .int .i64 d2]).push 25 #[.int .i64 0, .int .i64 1, .int .i64 0, .int .i64 (-1)])
    have RR := Lib.hid ((HR.out.keep TT.below).more TT.below.size)
    clear TT
    go_wp2_with fail
    refine (d_DrawVZ A0 n0 cp0 _ RR.out hn0).mono ?_
    rintro e w4 ⟨a3, b3, c3, d3, rfl, hb⟩
    have T4 : Own w w4 [(w3.heap.size + 1, 25, #[.int .i64 0, .int .i64 1, .int .i64 0, .int .i64 (-1)]), (w3.heap.size, 25, #[.int .i64 a2, .int .i64 b2, .int .i64 c2, .int .i64 d2]), (w2.heap.size, 25, #[.int .i64 a2, .int .i64 b2, .int .i64 c2, .int .i64 d2]), (w1.heap.size, 25, #[.int .i64 a, .int .i64 b, .int .i64 c, .int .i64 d])] := by simpa using (((T3.push 25 #[.int .i64 a2, .int .i64 b2, .int .i64 c2, .int .i64 d2]).push 25 #[.int .i64 0, .int .i64 1, .int .i64 0, .int .i64 (-1)])).call hb
    clear hb T3
    clear c3_0_0 c3_0_1 c3_0_2 c3_0_3 c3_1_0 c3_1_1 c3_1_2 c3_1_3
    obtain ⟨c4_0_0, c4_0_1, c4_0_2, c4_0_3, -, -, -, -⟩ := T4.head.four
    have l4_0 := T4.head.lt
    have nx4_0 := Nat.ne_of_lt l4_0
    have ny4_0 := Nat.ne_of_gt l4_0
    have le4_0 := Nat.le_of_lt l4_0
    obtain ⟨c4_1_0, c4_1_1, c4_1_2, c4_1_3, -, -, -, -⟩ := T4.tail.head.four
    have l4_1 := T4.tail.head.lt
    have nx4_1 := Nat.ne_of_lt l4_1
    have ny4_1 := Nat.ne_of_gt l4_1
    have le4_1 := Nat.le_of_lt l4_1
    obtain ⟨c4_2_0, c4_2_1, c4_2_2, c4_2_3, -, -, -, -⟩ := T4.tail.tail.head.four
    have l4_2 := T4.tail.tail.head.lt
    have nx4_2 := Nat.ne_of_lt l4_2
    have ny4_2 := Nat.ne_of_gt l4_2
    have le4_2 := Nat.le_of_lt l4_2
    obtain ⟨c4_3_0, c4_3_1, c4_3_2, c4_3_3, -, -, -, -⟩ := T4.tail.tail.tail.head.four
    have l4_3 := T4.tail.tail.tail.head.lt
    have nx4_3 := Nat.ne_of_lt l4_3
    have ny4_3 := Nat.ne_of_gt l4_3
    have le4_3 := Nat.le_of_lt l4_3
    obtain ⟨a4, b4, c4, d4, ok3, hI3, hS3, hT3, hF3⟩ := mulZ_u a3 b3 c3 d3 0 1 0 (-1)
    have HI3 := Lib.hid hI3
    have HS3 := Lib.hid hS3
    have HT3 := Lib.hid hT3
    have HF3 := Lib.hid hF3
    clear hI3 hS3 hT3 hF3
    go_wp2_with fail
    refine (HI3.out _).mono ?_
    rintro e w5 ⟨rfl, hb⟩
    have T5 : Own w w5 [(w4.heap.size, 25, #[.int .i64 a3, .int .i64 b3, .int .i64 c3, .int .i64 d3]), (w3.heap.size + 1, 25, #[.int .i64 0, .int .i64 1, .int .i64 0, .int .i64 (-1)]), (w3.heap.size, 25, #[.int .i64 a2, .int .i64 b2, .int .i64 c2, .int .i64 d2]), (w2.heap.size, 25, #[.int .i64 a2, .int .i64 b2, .int .i64 c2, .int .i64 d2]), (w1.heap.size, 25, #[.int .i64 a, .int .i64 b, .int .i64 c, .int .i64 d])] := by simpa using ((T4.push 25 #[.int .i64 a3, .int .i64 b3, .int .i64 c3, .int .i64 d3])).call hb
    clear hb T4
    clear c4_0_0 c4_0_1 c4_0_2 c4_0_3 c4_1_0 c4_1_1 c4_1_2 c4_1_3 c4_2_0 c4_2_1 c4_2_2 c4_2_3 c4_3_0 c4_3_1 c4_3_2 c4_3_3
    obtain ⟨c5_0_0, c5_0_1, c5_0_2, c5_0_3, -, -, -, -⟩ := T5.head.four
    have l5_0 := T5.head.lt
    have nx5_0 := Nat.ne_of_lt l5_0
    have ny5_0 := Nat.ne_of_gt l5_0
    have le5_0 := Nat.le_of_lt l5_0
    obtain ⟨c5_1_0, c5_1_1, c5_1_2, c5_1_3, -, -, -, -⟩ := T5.tail.head.four
    have l5_1 := T5.tail.head.lt
    have nx5_1 := Nat.ne_of_lt l5_1
    have ny5_1 := Nat.ne_of_gt l5_1
    have le5_1 := Nat.le_of_lt l5_1
    obtain ⟨c5_2_0, c5_2_1, c5_2_2, c5_2_3, -, -, -, -⟩ := T5.tail.tail.head.four
    have l5_2 := T5.tail.tail.head.lt
    have nx5_2 := Nat.ne_of_lt l5_2
    have ny5_2 := Nat.ne_of_gt l5_2
    have le5_2 := Nat.le_of_lt l5_2
    obtain ⟨c5_3_0, c5_3_1, c5_3_2, c5_3_3, -, -, -, -⟩ := T5.tail.tail.tail.head.four
    have l5_3 := T5.tail.tail.tail.head.lt
    have nx5_3 := Nat.ne_of_lt l5_3
    have ny5_3 := Nat.ne_of_gt l5_3
    have le5_3 := Nat.le_of_lt l5_3
    obtain ⟨c5_4_0, c5_4_1, c5_4_2, c5_4_3, -, -, -, -⟩ := T5.tail.tail.tail.tail.head.four
    have l5_4 := T5.tail.tail.tail.tail.head.lt
    have nx5_4 := Nat.ne_of_lt l5_4
    have ny5_4 := Nat.ne_of_gt l5_4
    have le5_4 := Nat.le_of_lt l5_4
    cases ok3
    · have hw := T5.below
      go_wp2
      go_ret
      refine ret_mk ?_
      repeat (first | (with_reducible exact Below.refl _ _) | (with_reducible assumption) | (with_reducible refine bl_alloc ?_ _) | (with_reducible refine bl_drew ?_) | (with_reducible refine bl_set ?_ (by simp <;> omega) _) | (with_reducible refine bl_call ?_ (by assumption)))
    have HD := Lib.hid (mulZ_div (HT3.out rfl))
    have e1 := eqZb_self a3 b3 c3 d3
    go_wp2_with fail
    refine (i_Div_some _ HD.out).mono ?_
    rintro e w6 ⟨rfl, hb⟩
    have T6 : Own w w6 [(w5.heap.size, 25, #[.int .i64 a4, .int .i64 b4, .int .i64 c4, .int .i64 d4]), (w4.heap.size, 25, #[.int .i64 a3, .int .i64 b3, .int .i64 c3, .int .i64 d3]), (w3.heap.size + 1, 25, #[.int .i64 0, .int .i64 1, .int .i64 0, .int .i64 (-1)]), (w3.heap.size, 25, #[.int .i64 a2, .int .i64 b2, .int .i64 c2, .int .i64 d2]), (w2.heap.size, 25, #[.int .i64 a2, .int .i64 b2, .int .i64 c2, .int .i64 d2]), (w1.heap.size, 25, #[.int .i64 a, .int .i64 b, .int .i64 c, .int .i64 d])] := by simpa using ((T5.push 25 #[.int .i64 a4, .int .i64 b4, .int .i64 c4, .int .i64 d4])).call hb
    clear hb T5
    clear c5_0_0 c5_0_1 c5_0_2 c5_0_3 c5_1_0 c5_1_1 c5_1_2 c5_1_3 c5_2_0 c5_2_1 c5_2_2 c5_2_3 c5_3_0 c5_3_1 c5_3_2 c5_3_3 c5_4_0 c5_4_1 c5_4_2 c5_4_3
    obtain ⟨c6_0_0, c6_0_1, c6_0_2, c6_0_3, -, -, -, -⟩ := T6.head.four
    have l6_0 := T6.head.lt
    have nx6_0 := Nat.ne_of_lt l6_0
    have ny6_0 := Nat.ne_of_gt l6_0
    have le6_0 := Nat.le_of_lt l6_0
    obtain ⟨c6_1_0, c6_1_1, c6_1_2, c6_1_3, -, -, -, -⟩ := T6.tail.head.four
    have l6_1 := T6.tail.head.lt
    have nx6_1 := Nat.ne_of_lt l6_1
    have ny6_1 := Nat.ne_of_gt l6_1
    have le6_1 := Nat.le_of_lt l6_1
    obtain ⟨c6_2_0, c6_2_1, c6_2_2, c6_2_3, -, -, -, -⟩ := T6.tail.tail.head.four
    have l6_2 := T6.tail.tail.head.lt
    have nx6_2 := Nat.ne_of_lt l6_2
    have ny6_2 := Nat.ne_of_gt l6_2
    have le6_2 := Nat.le_of_lt l6_2
    obtain ⟨c6_3_0, c6_3_1, c6_3_2, c6_3_3, -, -, -, -⟩ := T6.tail.tail.tail.head.four
    have l6_3 := T6.tail.tail.tail.head.lt
    have nx6_3 := Nat.ne_of_lt l6_3
    have ny6_3 := Nat.ne_of_gt l6_3
    have le6_3 := Nat.le_of_lt l6_3
    obtain ⟨c6_4_0, c6_4_1, c6_4_2, c6_4_3, -, -, -, -⟩ := T6.tail.tail.tail.tail.head.four
    have l6_4 := T6.tail.tail.tail.tail.head.lt
    have nx6_4 := Nat.ne_of_lt l6_4
    have ny6_4 := Nat.ne_of_gt l6_4
    have le6_4 := Nat.le_of_lt l6_4
    obtain ⟨c6_5_0, c6_5_1, c6_5_2, c6_5_3, -, -, -, -⟩ := T6.tail.tail.tail.tail.tail.head.four
    have l6_5 := T6.tail.tail.tail.tail.tail.head.lt
    have nx6_5 := Nat.ne_of_lt l6_5
    have ny6_5 := Nat.ne_of_gt l6_5
    have le6_5 := Nat.le_of_lt l6_5
    have hw := T6.below
    go_wp2
    go_ret
    refine ret_mk ?_
    repeat (first | (with_reducible exact Below.refl _ _) | (with_reducible assumption) | (with_reducible refine bl_alloc ?_ _) | (with_reducible refine bl_drew ?_) | (with_reducible refine bl_set ?_ (by simp <;> omega) _) | (with_reducible refine bl_call ?_ (by assumption)))
  have HD := Lib.hid (divZ_mul (HT1.out rfl))
  have e1 := eqZb_self a b c d
  go_wp2_with fail
  refine (i_MulZ_some _ HD.out).mono ?_
  rintro e w4 ⟨rfl, hb⟩
  have T4 : Own w w4 [(w3.heap.size + 1, 25, #[.int .i64 0, .int .i64 1, .int .i64 0, .int .i64 (-1)]), (w3.heap.size, 25, #[.int .i64 a2, .int .i64 b2, .int .i64 c2, .int .i64 d2]), (w2.heap.size, 25, #[.int .i64 a2, .int .i64 b2, .int .i64 c2, .int .i64 d2]), (w1.heap.size, 25, #[.int .i64 a, .int .i64 b, .int .i64 c, .int .i64 d])] := by simpa using (((T3.push 25 #[.int .i64 a2, .int .i64 b2, .int .i64 c2, .int .i64 d2]).push 25 #[.int .i64 0, .int .i64 1, .int .i64 0, .int .i64 (-1)])).call hb
  clear hb T3
  clear c3_0_0 c3_0_1 c3_0_2 c3_0_3 c3_1_0 c3_1_1 c3_1_2 c3_1_3
  obtain ⟨c4_0_0, c4_0_1, c4_0_2, c4_0_3, -, -, -, -⟩ := T4.head.four
  have l4_0 := T4.head.lt
  have nx4_0 := Nat.ne_of_lt l4_0
  have ny4_0 := Nat.ne_of_gt l4_0
  have le4_0 := Nat.le_of_lt l4_0
  obtain ⟨c4_1_0, c4_1_1, c4_1_2, c4_1_3, -, -, -, -⟩ := T4.tail.head.four
  have l4_1 := T4.tail.head.lt
  have nx4_1 := Nat.ne_of_lt l4_1
  have ny4_1 := Nat.ne_of_gt l4_1
  have le4_1 := Nat.le_of_lt l4_1
  obtain ⟨c4_2_0, c4_2_1, c4_2_2, c4_2_3, -, -, -, -⟩ := T4.tail.tail.head.four
  have l4_2 := T4.tail.tail.head.lt
  have nx4_2 := Nat.ne_of_lt l4_2
  have ny4_2 := Nat.ne_of_gt l4_2
  have le4_2 := Nat.le_of_lt l4_2
  obtain ⟨c4_3_0, c4_3_1, c4_3_2, c4_3_3, -, -, -, -⟩ := T4.tail.tail.tail.head.four
  have l4_3 := T4.tail.tail.tail.head.lt
  have nx4_3 := Nat.ne_of_lt l4_3
  have ny4_3 := Nat.ne_of_gt l4_3
  have le4_3 := Nat.le_of_lt l4_3
  have hw := T4.below
  go_wp2
  go_ret
  refine ret_mk ?_
  repeat (first | (with_reducible exact Below.refl _ _) | (with_reducible assumption) | (with_reducible refine bl_alloc ?_ _) | (with_reducible refine bl_drew ?_) | (with_reducible refine bl_set ?_ (by simp <;> omega) _) | (with_reducible refine bl_call ?_ (by assumption)))

set_option maxRecDepth 100000 in
theorem lifted (os : Os) (started : os.Started) (H : Type) (enc : TypeId × Value → H) :
    ReturnsInHanded {} Try.checked os 6 .any (Rows.fnByRootSpec.pre6 enc Try.prog Try.f6 Rows.fnByRootRow.domain false) (Rows.fnByRootSpec.post enc Try.prog Try.f6 false true false false) := by
  refine returnsInHanded_of_change (C := Try.checked) own started (by kernel_rfl) Try.func6
    (ChangeSpec.witness6 (enc := enc) (C := Try.checked) false ⟨#[], #[.slice none 0 0], []⟩ 8 (by kernel_rfl) (by kernel_rfl) (by kernel_rfl) (by kernel_rfl)) ?_
  intro W base args ds gs before hval0 hW hcnd _
  have hval : ∀ (j : Nat) t v, Try.f6.params[j]? = some t → args[j]? = some v → Value.okWide Try.prog W .any base t v := hval0
  have hW' := hW
  obtain ⟨p, q, hA0, hV, rfl, hfz, hnd⟩ := hW
  have hA : DataW.TrodAll enc Try.prog W 0 (fun _ => true) true Try.f6.params.toList args.toList ds p := hA0
  rw [Try.params6] at hA hval
  obtain ⟨v0, vs0, d0, ds0, p0, q0, hargs, rfl, rfl, h0, r0⟩ := trodAll_cons hA
  obtain ⟨rfl, rfl, rfl⟩ := trodAll_nil r0
  obtain rfl : args = #[v0] := by cases args; simp_all
  obtain ⟨rfl, rfl⟩ := trodVars_none hV
  have kk0 := h0
  have lt0 : ∀ x ∈ p0, x.block < W.heap.size := by obtain ⟨m, hm⟩ := kk0; exact DataW.trod_lt m _ _ _ hm
  obtain ⟨A0, n0, cp0, rfl, hR0, hn0, hc0⟩ := open_B (hval 0 22 v0 rfl rfl) h0
  clear hA0 hval0
  refine (walk A0 n0 cp0 W hR0 hn0 hc0).mono fun e W' ⟨he, bel⟩ => ?_
  subst he
  exact ⟨_, rfl, _, _, _, [], _, [], hW', trodAll_mk1 (shut_bool Try.underlying4 _), (trodAll_cons_mk (Below.trod laidOut (by kernel_rfl) (of_decide_eq_true (by kernel_rfl)) kk0 bel lt0) trodAll_mk0), rfl, bel.frame _, fun h => by cases h⟩

theorem over : Rows.fnByRootRow.holds Try.pinned (OpenSpec.ofChange Rows.fnByRootSpec) :=
  OpenClaim.holds_of_wide 6 Try.f6 rfl rfl rfl rfl rfl rfl rfl ⟨rfl, rfl, rfl, rfl, rfl⟩ rfl rfl rfl rfl rfl (by kernel_rfl) Try.func6 (by kernel_rfl)
    (of_decide_eq_true (by kernel_rfl)) (by unfold Func.isWrapper; first | (rw [if_pos (by decide +kernel)]; kernel_rfl) | (rw [if_neg (by decide +kernel)]; exact ⟨rfl, rfl⟩))
    (fun os started H enc _ => lifted os started H enc)

theorem proved : Rows.FnByRootSaid := over
end Go.Proofs.Ytpkbmdlamcgiiaa.fnByRoot
