/-
  Proved: for every input the Go function FnDwText returns true (the program's function returns what the reference's returns), and its arguments read as before.
  Conditions: none beyond the given statement (a tied card: the listed variables of Go's library hold what its text lays).
-/
import Derived.Test.YtbjmfapoioebjaaDoorCloseL
import Derived.Test.YtbjmfapoioebjaaDoorCloseB
import Derived.Test.YtbjmfapoioebjaaDoorDw
import Derived.Test.YtbjmfapoioebjaaDoorPD
import Derived.Test.YtbjmfapoioebjaaDoorEq
import Derived.Test.YtbjmfapoioebjaaDoorOwn
import Derived.Deep.RegionHeld3
namespace Go.Proofs.YtbjmfapoioebjaaDoor.fnDwText
open Go.Proofs.YtbjmfapoioebjaaDoor
open Go.ChangeShapes Go.WideShapes Go.ChangeAt Go.RowKit
set_option linter.unusedVariables false
set_option maxRecDepth 20000
attribute [local go_sem ↓ high] eqlD

set_option maxHeartbeats 2000000 in
theorem walk (A0 : Option Addr) (n0 cp0 : Nat) (w : World) (hR0 : RB w w.heap.size A0 n0) (hn0 : n0 ≤ 9223372036854775807) (hc0 : n0 ≤ cp0) (heI : EnvI w) (heE : EnvE w) (heS : EnvS w) :
    Calls Tryd.prog 11 #[.slice A0 n0 cp0] w (Ret (.bool true) w) := by
  by_cases hbig : n0 ≤ 1048576
  rotate_left
  · have hb' : 1048576 < n0 := by omega
    clear hR0 heI heE heS
    go_enter Tryd.func11, Tryd.ntmps11
    go_wp2_with fail
    refine (l_big_t _ _ _ _ hb').mono ?_
    rintro e w' ⟨rfl, rfl⟩
    go_wp2
    go_ret
    exact ret_mk (Below.refl _ _)
  have HR := Lib.hid hR0
  have HI := Lib.hid heI
  have HE := Lib.hid heE
  have HS := Lib.hid heS
  clear hR0 heI heE heS
  go_enter Tryd.func11, Tryd.ntmps11
  go_wp2_with fail
  refine (l_big_f _ _ _ _ hbig).mono ?_
  rintro e w' ⟨rfl, rfl⟩
  go_wp2_with fail
  refine (d_DrawFD A0 n0 cp0 _ HR.out hn0).mono ?_
  rintro e w1 ⟨a, b, c, d, k, rfl, hb⟩
  have T1 : Own w w1 [] := (Own.start w).call hb
  clear hb
  have hsz : (str (fmtD a b c d k)).size ≤ 1048576 := by rw [str_size]; have := fmtD_len a b c d k; omega
  obtain ⟨x, y, z, t, m, ok, -, hP, hT, hF⟩ := PD_u (str (fmtD a b c d k)) hsz
  rw [str_data] at hT hF
  have hcase : (ok = true ∧ okd ⟨⟨a, b, c, d⟩, k⟩ = true ∧ x = a ∧ y = b ∧ z = c ∧ t = d ∧ m = k) ∨ (ok = false ∧ okd ⟨⟨a, b, c, d⟩, k⟩ = false) := by
    by_cases ho : okd ⟨⟨a, b, c, d⟩, k⟩ = true
    · have ht : isText (fmtD a b c d k) ⟨⟨a, b, c, d⟩, k⟩ := ⟨ho, by unfold fmtD; rw [if_pos ho]⟩
      cases ok with
      | false => exact absurd ht (hF rfl _)
      | true => have e := isText_unique (hT rfl) ht; injection e with e1 e2; injection e1 with e3 e4 e5 e6; exact .inl ⟨rfl, ho, e3, e4, e5, e6, e2⟩
    · have ho' : okd ⟨⟨a, b, c, d⟩, k⟩ = false := by simpa using ho
      cases ok with
      | false => exact .inr ⟨rfl, ho'⟩
      | true => exact absurd (hT rfl).2 (by unfold fmtD; rw [if_neg ho]; intro e; have := congrArg List.length e; simp [dtext] at this)
  obtain ⟨S1, hS1⟩ : ∃ S, str (fmtD a b c d k) = S := ⟨_, rfl⟩
  rw [hS1] at hP
  have h1 : ∀ W, EnvI W → Calls Tryd.prog 21 #[.agg #[.int .i64 a, .int .i64 b, .int .i64 c, .int .i64 d, .int .i64 k]] W (Ret (.string S1) W) := fun W h => by rw [← hS1]; exact i_FD W h
  have h2 : ∀ W, Calls Tryd.prog 19 #[.agg #[.int .i64 a, .int .i64 b, .int .i64 c, .int .i64 d, .int .i64 k]] W (Ret (.string S1) W) := fun W => by rw [← hS1]; exact s_FD W
  have K1 := Lib.hid h1
  have K2 := Lib.hid h2
  have K3 := Lib.hid hP
  clear h1 h2 hP hT hF hS1 hsz
  have eq1 := tl_eq (rfl : S1 = S1)
  go_wp2_with fail
  refine (K1.out _ (HI.out.call (bl_alloc T1.below _))).mono ?_
  rintro e w2 ⟨rfl, hb⟩
  have T2 : Own w w2 [(w1.heap.size, 36, #[.int .i64 a, .int .i64 b, .int .i64 c, .int .i64 d, .int .i64 k])] := by simpa using ((T1.push 36 #[.int .i64 a, .int .i64 b, .int .i64 c, .int .i64 d, .int .i64 k])).call hb
  clear hb T1
  obtain ⟨c2_0_0, c2_0_1, c2_0_2, c2_0_3, c2_0_4, -, -, -, -, -⟩ := T2.head.five
  have l2_0 := T2.head.lt
  have nx2_0 := Nat.ne_of_lt l2_0
  have ny2_0 := Nat.ne_of_gt l2_0
  have le2_0 := Nat.le_of_lt l2_0
  go_wp2_with fail
  refine (K3.out _ (HS.out.call T2.below) (HI.out.call T2.below) (HE.out.call T2.below)).mono ?_
  rintro e w3 ⟨rfl, hb⟩
  have T3 : Own w w3 [(w1.heap.size, 36, #[.int .i64 a, .int .i64 b, .int .i64 c, .int .i64 d, .int .i64 k])] := by simpa using (T2).call hb
  clear hb T2
  clear c2_0_0 c2_0_1 c2_0_2 c2_0_3 c2_0_4 nx2_0 ny2_0 le2_0 l2_0
  obtain ⟨c3_0_0, c3_0_1, c3_0_2, c3_0_3, c3_0_4, -, -, -, -, -⟩ := T3.head.five
  have l3_0 := T3.head.lt
  have nx3_0 := Nat.ne_of_lt l3_0
  have ny3_0 := Nat.ne_of_gt l3_0
  have le3_0 := Nat.le_of_lt l3_0
  go_wp2_with fail
  refine (d_DrawPDt A0 n0 cp0 _ ((HR.out.keep (bl_alloc T3.below _)).more (bl_alloc T3.below _).size) hn0).mono ?_
  rintro e w4 ⟨l, rfl, hl, hb⟩
  have T4 : Own w w4 [(w3.heap.size, 36, #[.int .i64 x, .int .i64 y, .int .i64 z, .int .i64 t, .int .i64 m]), (w1.heap.size, 36, #[.int .i64 a, .int .i64 b, .int .i64 c, .int .i64 d, .int .i64 k])] := by simpa using ((T3.push 36 #[.int .i64 x, .int .i64 y, .int .i64 z, .int .i64 t, .int .i64 m])).call hb
  clear hb T3
  clear c3_0_0 c3_0_1 c3_0_2 c3_0_3 c3_0_4 nx3_0 ny3_0 le3_0 l3_0
  obtain ⟨c4_0_0, c4_0_1, c4_0_2, c4_0_3, c4_0_4, -, -, -, -, -⟩ := T4.head.five
  have l4_0 := T4.head.lt
  have nx4_0 := Nat.ne_of_lt l4_0
  have ny4_0 := Nat.ne_of_gt l4_0
  have le4_0 := Nat.le_of_lt l4_0
  obtain ⟨c4_1_0, c4_1_1, c4_1_2, c4_1_3, c4_1_4, -, -, -, -, -⟩ := T4.tail.head.five
  have l4_1 := T4.tail.head.lt
  have nx4_1 := Nat.ne_of_lt l4_1
  have ny4_1 := Nat.ne_of_gt l4_1
  have le4_1 := Nat.le_of_lt l4_1
  have hsz : (str l).size ≤ 1048576 := by rw [str_size]; omega
  obtain ⟨x8, y8, z8, t8, m8, right, hQ, hP, hT, -⟩ := PD_u (str l) hsz
  rw [str_data] at hT
  have hback : right = true → str (fmtD x8 y8 z8 t8 m8) = str l := fun h => by obtain ⟨o, e⟩ := hT h; unfold fmtD; rw [if_pos o]; exact congrArg str e
  obtain ⟨S2, hS2⟩ : ∃ S, str l = S := ⟨_, rfl⟩
  rw [hS2] at hQ hP hback ⊢
  have h1 : right = true → ∀ W, EnvI W → Calls Tryd.prog 21 #[.agg #[.int .i64 x8, .int .i64 y8, .int .i64 z8, .int .i64 t8, .int .i64 m8]] W (Ret (.string S2) W) := fun hr W h => by rw [← hback hr]; exact i_FD W h
  have K4 := Lib.hid hP
  have K5 := Lib.hid hQ
  have K6 := Lib.hid h1
  clear h1 hP hQ hT hback hS2 hsz hl
  have eq2 := tl_eq (rfl : S2 = S2)
  go_wp2_with fail
  refine (K4.out _ (HS.out.call T4.below) (HI.out.call T4.below) (HE.out.call T4.below)).mono ?_
  rintro e w5 ⟨rfl, hb⟩
  have T5 : Own w w5 [(w3.heap.size, 36, #[.int .i64 x, .int .i64 y, .int .i64 z, .int .i64 t, .int .i64 m]), (w1.heap.size, 36, #[.int .i64 a, .int .i64 b, .int .i64 c, .int .i64 d, .int .i64 k])] := by simpa using (T4).call hb
  clear hb T4
  clear c4_0_0 c4_0_1 c4_0_2 c4_0_3 c4_0_4 c4_1_0 c4_1_1 c4_1_2 c4_1_3 c4_1_4 nx4_0 ny4_0 le4_0 l4_0 nx4_1 ny4_1 le4_1 l4_1
  obtain ⟨c5_0_0, c5_0_1, c5_0_2, c5_0_3, c5_0_4, -, -, -, -, -⟩ := T5.head.five
  have l5_0 := T5.head.lt
  have nx5_0 := Nat.ne_of_lt l5_0
  have ny5_0 := Nat.ne_of_gt l5_0
  have le5_0 := Nat.le_of_lt l5_0
  obtain ⟨c5_1_0, c5_1_1, c5_1_2, c5_1_3, c5_1_4, -, -, -, -, -⟩ := T5.tail.head.five
  have l5_1 := T5.tail.head.lt
  have nx5_1 := Nat.ne_of_lt l5_1
  have ny5_1 := Nat.ne_of_gt l5_1
  have le5_1 := Nat.le_of_lt l5_1
  go_wp2_with fail
  refine (K5.out _).mono ?_
  rintro e w6 ⟨rfl, hb⟩
  have T6 : Own w w6 [(w5.heap.size, 36, #[.int .i64 x8, .int .i64 y8, .int .i64 z8, .int .i64 t8, .int .i64 m8]), (w3.heap.size, 36, #[.int .i64 x, .int .i64 y, .int .i64 z, .int .i64 t, .int .i64 m]), (w1.heap.size, 36, #[.int .i64 a, .int .i64 b, .int .i64 c, .int .i64 d, .int .i64 k])] := by simpa using ((T5.push 36 #[.int .i64 x8, .int .i64 y8, .int .i64 z8, .int .i64 t8, .int .i64 m8])).call hb
  clear hb T5
  clear c5_0_0 c5_0_1 c5_0_2 c5_0_3 c5_0_4 c5_1_0 c5_1_1 c5_1_2 c5_1_3 c5_1_4 nx5_0 ny5_0 le5_0 l5_0 nx5_1 ny5_1 le5_1 l5_1
  obtain ⟨c6_0_0, c6_0_1, c6_0_2, c6_0_3, c6_0_4, -, -, -, -, -⟩ := T6.head.five
  have l6_0 := T6.head.lt
  have nx6_0 := Nat.ne_of_lt l6_0
  have ny6_0 := Nat.ne_of_gt l6_0
  have le6_0 := Nat.le_of_lt l6_0
  obtain ⟨c6_1_0, c6_1_1, c6_1_2, c6_1_3, c6_1_4, -, -, -, -, -⟩ := T6.tail.head.five
  have l6_1 := T6.tail.head.lt
  have nx6_1 := Nat.ne_of_lt l6_1
  have ny6_1 := Nat.ne_of_gt l6_1
  have le6_1 := Nat.le_of_lt l6_1
  obtain ⟨c6_2_0, c6_2_1, c6_2_2, c6_2_3, c6_2_4, -, -, -, -, -⟩ := T6.tail.tail.head.five
  have l6_2 := T6.tail.tail.head.lt
  have nx6_2 := Nat.ne_of_lt l6_2
  have ny6_2 := Nat.ne_of_gt l6_2
  have le6_2 := Nat.le_of_lt l6_2
  go_wp2_with fail
  refine (K2.out _).mono ?_
  rintro e w7 ⟨rfl, hb⟩
  have T7 : Own w w7 [(w6.heap.size, 36, #[.int .i64 x8, .int .i64 y8, .int .i64 z8, .int .i64 t8, .int .i64 m8]), (w5.heap.size, 36, #[.int .i64 x8, .int .i64 y8, .int .i64 z8, .int .i64 t8, .int .i64 m8]), (w3.heap.size, 36, #[.int .i64 x, .int .i64 y, .int .i64 z, .int .i64 t, .int .i64 m]), (w1.heap.size, 36, #[.int .i64 a, .int .i64 b, .int .i64 c, .int .i64 d, .int .i64 k])] := by simpa using ((T6.push 36 #[.int .i64 x8, .int .i64 y8, .int .i64 z8, .int .i64 t8, .int .i64 m8])).call hb
  clear hb T6
  clear c6_0_0 c6_0_1 c6_0_2 c6_0_3 c6_0_4 c6_1_0 c6_1_1 c6_1_2 c6_1_3 c6_1_4 c6_2_0 c6_2_1 c6_2_2 c6_2_3 c6_2_4 nx6_0 ny6_0 le6_0 l6_0 nx6_1 ny6_1 le6_1 l6_1 nx6_2 ny6_2 le6_2 l6_2
  obtain ⟨c7_0_0, c7_0_1, c7_0_2, c7_0_3, c7_0_4, -, -, -, -, -⟩ := T7.head.five
  have l7_0 := T7.head.lt
  have nx7_0 := Nat.ne_of_lt l7_0
  have ny7_0 := Nat.ne_of_gt l7_0
  have le7_0 := Nat.le_of_lt l7_0
  obtain ⟨c7_1_0, c7_1_1, c7_1_2, c7_1_3, c7_1_4, -, -, -, -, -⟩ := T7.tail.head.five
  have l7_1 := T7.tail.head.lt
  have nx7_1 := Nat.ne_of_lt l7_1
  have ny7_1 := Nat.ne_of_gt l7_1
  have le7_1 := Nat.le_of_lt l7_1
  obtain ⟨c7_2_0, c7_2_1, c7_2_2, c7_2_3, c7_2_4, -, -, -, -, -⟩ := T7.tail.tail.head.five
  have l7_2 := T7.tail.tail.head.lt
  have nx7_2 := Nat.ne_of_lt l7_2
  have ny7_2 := Nat.ne_of_gt l7_2
  have le7_2 := Nat.le_of_lt l7_2
  obtain ⟨c7_3_0, c7_3_1, c7_3_2, c7_3_3, c7_3_4, -, -, -, -, -⟩ := T7.tail.tail.tail.head.five
  have l7_3 := T7.tail.tail.tail.head.lt
  have nx7_3 := Nat.ne_of_lt l7_3
  have ny7_3 := Nat.ne_of_gt l7_3
  have le7_3 := Nat.le_of_lt l7_3
  rcases hcase with ⟨rfl, ho, rfl, rfl, rfl, rfl, rfl⟩ | ⟨rfl, ho⟩
  · go_wp2_with fail
    refine (s_okd_t _ ho).mono ?_
    rintro e w8 ⟨rfl, hb⟩
    have T8 : Own w w8 [(w6.heap.size, 36, #[.int .i64 x8, .int .i64 y8, .int .i64 z8, .int .i64 t8, .int .i64 m8]), (w5.heap.size, 36, #[.int .i64 x8, .int .i64 y8, .int .i64 z8, .int .i64 t8, .int .i64 m8]), (w3.heap.size, 36, #[.int .i64 x, .int .i64 y, .int .i64 z, .int .i64 t, .int .i64 m]), (w1.heap.size, 36, #[.int .i64 x, .int .i64 y, .int .i64 z, .int .i64 t, .int .i64 m])] := by simpa using (T7).call hb
    clear hb T7
    clear c7_0_0 c7_0_1 c7_0_2 c7_0_3 c7_0_4 c7_1_0 c7_1_1 c7_1_2 c7_1_3 c7_1_4 c7_2_0 c7_2_1 c7_2_2 c7_2_3 c7_2_4 c7_3_0 c7_3_1 c7_3_2 c7_3_3 c7_3_4 nx7_0 ny7_0 le7_0 l7_0 nx7_1 ny7_1 le7_1 l7_1 nx7_2 ny7_2 le7_2 l7_2 nx7_3 ny7_3 le7_3 l7_3
    obtain ⟨c8_0_0, c8_0_1, c8_0_2, c8_0_3, c8_0_4, -, -, -, -, -⟩ := T8.head.five
    have l8_0 := T8.head.lt
    have nx8_0 := Nat.ne_of_lt l8_0
    have ny8_0 := Nat.ne_of_gt l8_0
    have le8_0 := Nat.le_of_lt l8_0
    obtain ⟨c8_1_0, c8_1_1, c8_1_2, c8_1_3, c8_1_4, -, -, -, -, -⟩ := T8.tail.head.five
    have l8_1 := T8.tail.head.lt
    have nx8_1 := Nat.ne_of_lt l8_1
    have ny8_1 := Nat.ne_of_gt l8_1
    have le8_1 := Nat.le_of_lt l8_1
    obtain ⟨c8_2_0, c8_2_1, c8_2_2, c8_2_3, c8_2_4, -, -, -, -, -⟩ := T8.tail.tail.head.five
    have l8_2 := T8.tail.tail.head.lt
    have nx8_2 := Nat.ne_of_lt l8_2
    have ny8_2 := Nat.ne_of_gt l8_2
    have le8_2 := Nat.le_of_lt l8_2
    obtain ⟨c8_3_0, c8_3_1, c8_3_2, c8_3_3, c8_3_4, -, -, -, -, -⟩ := T8.tail.tail.tail.head.five
    have l8_3 := T8.tail.tail.tail.head.lt
    have nx8_3 := Nat.ne_of_lt l8_3
    have ny8_3 := Nat.ne_of_gt l8_3
    have le8_3 := Nat.le_of_lt l8_3
    have e0 := eqDb_self x y z t m
    cases right
    · have hw := T8.below
      go_wp2
      go_ret
      refine ret_eq (by simp) ?_
      repeat (first | (with_reducible exact Below.refl _ _) | (with_reducible assumption) | (with_reducible refine bl_alloc ?_ _) | (with_reducible refine bl_drew ?_) | (with_reducible refine bl_set ?_ (by simp <;> omega) _) | (with_reducible refine bl_call ?_ (by assumption)))
    · go_wp2_with fail
      refine (K6.out (by simp) _ (HI.out.call T8.below)).mono ?_
      rintro e w9 ⟨rfl, hb⟩
      have T9 : Own w w9 [(w6.heap.size, 36, #[.int .i64 x8, .int .i64 y8, .int .i64 z8, .int .i64 t8, .int .i64 m8]), (w5.heap.size, 36, #[.int .i64 x8, .int .i64 y8, .int .i64 z8, .int .i64 t8, .int .i64 m8]), (w3.heap.size, 36, #[.int .i64 x, .int .i64 y, .int .i64 z, .int .i64 t, .int .i64 m]), (w1.heap.size, 36, #[.int .i64 x, .int .i64 y, .int .i64 z, .int .i64 t, .int .i64 m])] := by simpa using (T8).call hb
      clear hb T8
      clear c8_0_0 c8_0_1 c8_0_2 c8_0_3 c8_0_4 c8_1_0 c8_1_1 c8_1_2 c8_1_3 c8_1_4 c8_2_0 c8_2_1 c8_2_2 c8_2_3 c8_2_4 c8_3_0 c8_3_1 c8_3_2 c8_3_3 c8_3_4 nx8_0 ny8_0 le8_0 l8_0 nx8_1 ny8_1 le8_1 l8_1 nx8_2 ny8_2 le8_2 l8_2 nx8_3 ny8_3 le8_3 l8_3
      obtain ⟨c9_0_0, c9_0_1, c9_0_2, c9_0_3, c9_0_4, -, -, -, -, -⟩ := T9.head.five
      have l9_0 := T9.head.lt
      have nx9_0 := Nat.ne_of_lt l9_0
      have ny9_0 := Nat.ne_of_gt l9_0
      have le9_0 := Nat.le_of_lt l9_0
      obtain ⟨c9_1_0, c9_1_1, c9_1_2, c9_1_3, c9_1_4, -, -, -, -, -⟩ := T9.tail.head.five
      have l9_1 := T9.tail.head.lt
      have nx9_1 := Nat.ne_of_lt l9_1
      have ny9_1 := Nat.ne_of_gt l9_1
      have le9_1 := Nat.le_of_lt l9_1
      obtain ⟨c9_2_0, c9_2_1, c9_2_2, c9_2_3, c9_2_4, -, -, -, -, -⟩ := T9.tail.tail.head.five
      have l9_2 := T9.tail.tail.head.lt
      have nx9_2 := Nat.ne_of_lt l9_2
      have ny9_2 := Nat.ne_of_gt l9_2
      have le9_2 := Nat.le_of_lt l9_2
      obtain ⟨c9_3_0, c9_3_1, c9_3_2, c9_3_3, c9_3_4, -, -, -, -, -⟩ := T9.tail.tail.tail.head.five
      have l9_3 := T9.tail.tail.tail.head.lt
      have nx9_3 := Nat.ne_of_lt l9_3
      have ny9_3 := Nat.ne_of_gt l9_3
      have le9_3 := Nat.le_of_lt l9_3
      have hw := T9.below
      go_wp2
      go_ret
      refine ret_eq (by simp) ?_
      repeat (first | (with_reducible exact Below.refl _ _) | (with_reducible assumption) | (with_reducible refine bl_alloc ?_ _) | (with_reducible refine bl_drew ?_) | (with_reducible refine bl_set ?_ (by simp <;> omega) _) | (with_reducible refine bl_call ?_ (by assumption)))
  · go_wp2_with fail
    refine (s_okd_f _ ho).mono ?_
    rintro e w8 ⟨rfl, hb⟩
    have T8 : Own w w8 [(w6.heap.size, 36, #[.int .i64 x8, .int .i64 y8, .int .i64 z8, .int .i64 t8, .int .i64 m8]), (w5.heap.size, 36, #[.int .i64 x8, .int .i64 y8, .int .i64 z8, .int .i64 t8, .int .i64 m8]), (w3.heap.size, 36, #[.int .i64 x, .int .i64 y, .int .i64 z, .int .i64 t, .int .i64 m]), (w1.heap.size, 36, #[.int .i64 a, .int .i64 b, .int .i64 c, .int .i64 d, .int .i64 k])] := by simpa using (T7).call hb
    clear hb T7
    clear c7_0_0 c7_0_1 c7_0_2 c7_0_3 c7_0_4 c7_1_0 c7_1_1 c7_1_2 c7_1_3 c7_1_4 c7_2_0 c7_2_1 c7_2_2 c7_2_3 c7_2_4 c7_3_0 c7_3_1 c7_3_2 c7_3_3 c7_3_4 nx7_0 ny7_0 le7_0 l7_0 nx7_1 ny7_1 le7_1 l7_1 nx7_2 ny7_2 le7_2 l7_2 nx7_3 ny7_3 le7_3 l7_3
    obtain ⟨c8_0_0, c8_0_1, c8_0_2, c8_0_3, c8_0_4, -, -, -, -, -⟩ := T8.head.five
    have l8_0 := T8.head.lt
    have nx8_0 := Nat.ne_of_lt l8_0
    have ny8_0 := Nat.ne_of_gt l8_0
    have le8_0 := Nat.le_of_lt l8_0
    obtain ⟨c8_1_0, c8_1_1, c8_1_2, c8_1_3, c8_1_4, -, -, -, -, -⟩ := T8.tail.head.five
    have l8_1 := T8.tail.head.lt
    have nx8_1 := Nat.ne_of_lt l8_1
    have ny8_1 := Nat.ne_of_gt l8_1
    have le8_1 := Nat.le_of_lt l8_1
    obtain ⟨c8_2_0, c8_2_1, c8_2_2, c8_2_3, c8_2_4, -, -, -, -, -⟩ := T8.tail.tail.head.five
    have l8_2 := T8.tail.tail.head.lt
    have nx8_2 := Nat.ne_of_lt l8_2
    have ny8_2 := Nat.ne_of_gt l8_2
    have le8_2 := Nat.le_of_lt l8_2
    obtain ⟨c8_3_0, c8_3_1, c8_3_2, c8_3_3, c8_3_4, -, -, -, -, -⟩ := T8.tail.tail.tail.head.five
    have l8_3 := T8.tail.tail.tail.head.lt
    have nx8_3 := Nat.ne_of_lt l8_3
    have ny8_3 := Nat.ne_of_gt l8_3
    have le8_3 := Nat.le_of_lt l8_3
    cases right
    · have hw := T8.below
      go_wp2
      go_ret
      refine ret_eq (by simp) ?_
      repeat (first | (with_reducible exact Below.refl _ _) | (with_reducible assumption) | (with_reducible refine bl_alloc ?_ _) | (with_reducible refine bl_drew ?_) | (with_reducible refine bl_set ?_ (by simp <;> omega) _) | (with_reducible refine bl_call ?_ (by assumption)))
    · go_wp2_with fail
      refine (K6.out (by simp) _ (HI.out.call T8.below)).mono ?_
      rintro e w9 ⟨rfl, hb⟩
      have T9 : Own w w9 [(w6.heap.size, 36, #[.int .i64 x8, .int .i64 y8, .int .i64 z8, .int .i64 t8, .int .i64 m8]), (w5.heap.size, 36, #[.int .i64 x8, .int .i64 y8, .int .i64 z8, .int .i64 t8, .int .i64 m8]), (w3.heap.size, 36, #[.int .i64 x, .int .i64 y, .int .i64 z, .int .i64 t, .int .i64 m]), (w1.heap.size, 36, #[.int .i64 a, .int .i64 b, .int .i64 c, .int .i64 d, .int .i64 k])] := by simpa using (T8).call hb
      clear hb T8
      clear c8_0_0 c8_0_1 c8_0_2 c8_0_3 c8_0_4 c8_1_0 c8_1_1 c8_1_2 c8_1_3 c8_1_4 c8_2_0 c8_2_1 c8_2_2 c8_2_3 c8_2_4 c8_3_0 c8_3_1 c8_3_2 c8_3_3 c8_3_4 nx8_0 ny8_0 le8_0 l8_0 nx8_1 ny8_1 le8_1 l8_1 nx8_2 ny8_2 le8_2 l8_2 nx8_3 ny8_3 le8_3 l8_3
      obtain ⟨c9_0_0, c9_0_1, c9_0_2, c9_0_3, c9_0_4, -, -, -, -, -⟩ := T9.head.five
      have l9_0 := T9.head.lt
      have nx9_0 := Nat.ne_of_lt l9_0
      have ny9_0 := Nat.ne_of_gt l9_0
      have le9_0 := Nat.le_of_lt l9_0
      obtain ⟨c9_1_0, c9_1_1, c9_1_2, c9_1_3, c9_1_4, -, -, -, -, -⟩ := T9.tail.head.five
      have l9_1 := T9.tail.head.lt
      have nx9_1 := Nat.ne_of_lt l9_1
      have ny9_1 := Nat.ne_of_gt l9_1
      have le9_1 := Nat.le_of_lt l9_1
      obtain ⟨c9_2_0, c9_2_1, c9_2_2, c9_2_3, c9_2_4, -, -, -, -, -⟩ := T9.tail.tail.head.five
      have l9_2 := T9.tail.tail.head.lt
      have nx9_2 := Nat.ne_of_lt l9_2
      have ny9_2 := Nat.ne_of_gt l9_2
      have le9_2 := Nat.le_of_lt l9_2
      obtain ⟨c9_3_0, c9_3_1, c9_3_2, c9_3_3, c9_3_4, -, -, -, -, -⟩ := T9.tail.tail.tail.head.five
      have l9_3 := T9.tail.tail.tail.head.lt
      have nx9_3 := Nat.ne_of_lt l9_3
      have ny9_3 := Nat.ne_of_gt l9_3
      have le9_3 := Nat.le_of_lt l9_3
      have hw := T9.below
      go_wp2
      go_ret
      refine ret_eq (by simp) ?_
      repeat (first | (with_reducible exact Below.refl _ _) | (with_reducible assumption) | (with_reducible refine bl_alloc ?_ _) | (with_reducible refine bl_drew ?_) | (with_reducible refine bl_set ?_ (by simp <;> omega) _) | (with_reducible refine bl_call ?_ (by assumption)))

set_option maxRecDepth 100000 in
theorem lifted (os : Os) (started : os.Started) (H : Type) (enc : TypeId × Value → H) :
    ReturnsInHanded {} Tryd.checked os 11 .any (fun w args => (Rows.fnDwTextSpec.pre enc Tryd.prog Tryd.f11 [] false w args ∧ laidMetH Tryd.prog Rows.fnDwTextRow.laid w) ∧ sizedMet enc Tryd.prog Tryd.f11 (OpenSpec.ofChange Rows.fnDwTextSpec) false w args) (Rows.fnDwTextSpec.post enc Tryd.prog Tryd.f11 false true false false) := by
  refine handed_laid (C := Tryd.checked) (X := fun w _ => laidMetH Tryd.prog Rows.fnDwTextRow.laid w) (fun _ _ _ hh h => h.of_heap hh) own started (by kernel_rfl) Tryd.func11
    (ChangeSpec.witness_shaped (enc := enc) (C := Tryd.checked) (os := os) (X := fun w _ => laidMetH Tryd.prog Rows.fnDwTextRow.laid w) false (World.laidAll Tryd.prog os Rows.fnDwTextRow.laid) #[.slice none 0 0] 8 (World.laidAll_os _ _ _)
      (World.shaped_of_ZipB (by kernel_rfl) (by kernel_rfl)) (by kernel_rfl) (by kernel_rfl) (by kernel_rfl)
      (by rw [MakeChecks.laidMetH_plain _ _ _ (by kernel_rfl)]; exact laidMet_laidAll _ (by kernel_rfl) (by kernel_rfl))) ?_
  intro W base args ds gs before hval0 hW hL hsh
  rw [MakeChecks.laidMetH_plain _ _ _ (by kernel_rfl)] at hL
  have hval : ∀ (j : Nat) t v, Tryd.f11.params[j]? = some t → args[j]? = some v → Value.okWide Tryd.prog W .any base t v := hval0
  have hW' := hW
  obtain ⟨p, q, hA0, hV, rfl, hfz, hnd⟩ := hW
  have hA : DataW.TrodAll enc Tryd.prog W 0 (fun _ => true) true Tryd.f11.params.toList args.toList ds p := hA0
  rw [Tryd.params11] at hA hval
  obtain ⟨v0, vs0, d0, ds0, p0, q0, hargs, rfl, rfl, h0, r0⟩ := trodAll_cons hA
  obtain ⟨rfl, rfl, rfl⟩ := trodAll_nil r0
  obtain rfl : args = #[v0] := by cases args; simp_all
  obtain ⟨rfl, rfl⟩ := trodVars_none hV
  have kk0 := h0
  have lt0 : ∀ x ∈ p0, x.block < W.heap.size := by obtain ⟨m, hm⟩ := kk0; exact DataW.trod_lt m _ _ _ hm
  obtain ⟨A0, n0, cp0, rfl, hR0, hn0, hc0⟩ := open_B (hval 0 39 v0 rfl rfl) h0
  clear hA0 hval0
  refine (walk A0 n0 cp0 W hR0 hn0 hc0 (envI_of hL.tail.tail) (envE_of hL.tail.tail.tail.tail) (envS_of hsh)).mono fun e W' ⟨he, bel⟩ => ?_
  subst he
  exact ⟨_, rfl, _, _, _, [], _, [], hW', trodAll_mk1 (shut_bool Tryd.underlying4 _), (trodAll_cons_mk (Below.trod laidOut (by kernel_rfl) (of_decide_eq_true (by kernel_rfl)) kk0 bel lt0) trodAll_mk0), rfl, bel.frame _, fun h => by cases h⟩

set_option maxRecDepth 100000 in
theorem over : Rows.fnDwTextRow.holds Tryd.pinned (OpenSpec.ofChange Rows.fnDwTextSpec) :=
  OpenClaim.holds_of_wide 11 Tryd.f11 rfl rfl rfl rfl rfl rfl rfl ⟨rfl, rfl, rfl, rfl, rfl⟩ rfl rfl rfl rfl rfl (by kernel_rfl) Tryd.func11 (by kernel_rfl)
    (of_decide_eq_true (by kernel_rfl)) (by unfold Func.isWrapper; first | (rw [if_pos (by decide +kernel)]; kernel_rfl) | (rw [if_neg (by decide +kernel)]; exact ⟨rfl, rfl⟩))
    (fun os started H enc _ => lifted os started H enc)

set_option maxRecDepth 100000 in
theorem proved : Rows.FnDwTextCardSaid :=
  Claim7.holds_tied_plain_at .later [] [.data, .data, .data, .data, .sentinel, .sentinel, .pinned] true Rows.fnDwTextCard.stood.harness true over (fun _ h => by cases h) (by kernel_rfl) (fun _ h => by cases h) fnDwText_row_tie rfl ⟨rfl, rfl⟩ (by kernel_rfl) rfl
    (fun f fn hf hfn => by
      obtain rfl : f = 11 := Option.some.inj ((show Tryd.prog.funcNamed "loop.example/g00506/laws.FnDwText" = some 11 by kernel_rfl).symm.trans hf) |>.symm
      obtain rfl : fn = Tryd.f11 := (Option.some.inj (Tryd.func11.symm.trans hfn)).symm
      exact ⟨by kernel_rfl, fun j t ht => by
        rw [Tryd.params11] at ht
        have hm : t ∈ [39] := by simpa using Array.mem_of_getElem? ht
        have hall : ([39].all fun u => !Tryd.prog.wantsStandIn u) = true := by kernel_rfl
        exact (show Tryd.prog.wantsStandIn t = false by simpa using List.all_eq_true.1 hall t hm)⟩)
    (by kernel_rfl)
end Go.Proofs.YtbjmfapoioebjaaDoor.fnDwText
