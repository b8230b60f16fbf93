/-
  Proved: for every input the Go function FnExactInnerProduct returns true (the program's function returns what the reference's returns), and its arguments read as before.
  Conditions: none beyond the given statement.
-/
import Derived.Test.YtaokfppadfoniaaCloseS
import Derived.Deep.RegionHeld3
import Derived.Test.YtaokfppadfoniaaVc5
import Derived.Test.YtaokfppadfoniaaVec2
import Derived.Test.YtaokfppadfoniaaMk
namespace Go.Proofs.Ytaokfppadfoniaa.fnExactInnerProduct
open Go.Proofs.Ytaokfppadfoniaa
open Go.ChangeShapes Go.WideShapes Go.ChangeAt Go.RowKit
set_option linter.unusedVariables false

set_option maxHeartbeats 2000000 in
theorem walk (A0 : Option Addr) (n0 cp0 : Nat) (es0 : List DW) (A1 : Option Addr) (n1 cp1 : Nat) (es1 : List DW) (w : World) (hR0 : RD w w.heap.size A0 n0 es0) (hi0 : ∀ d ∈ es0, inr d.n.a ∧ inr d.n.b ∧ inr d.n.c ∧ inr d.n.d ∧ inr d.k) (hn0 : n0 ≤ 9223372036854775807) (hR1 : RD w w.heap.size A1 n1 es1) (hi1 : ∀ d ∈ es1, inr d.n.a ∧ inr d.n.b ∧ inr d.n.c ∧ inr d.n.d ∧ inr d.k) (hn1 : n1 ≤ 9223372036854775807) :
    Calls Try.prog 8 #[.slice A0 n0 cp0, .slice A1 n1 cp1] w (Ret (.bool true) w) := by
  obtain rfl : n0 = es0.length := hR0.1
  have HR0 := Lib.hid hR0
  clear hR0 hi0
  obtain rfl : n1 = es1.length := hR1.1
  have HR1 := Lib.hid hR1
  clear hR1 hi1
  by_cases hb0 : es0.length ≤ 1048576
  rotate_left
  · have g0 : (1048576 : Int) < (es0.length : Int) := by omega
    go_enter Try.func8, Try.ntmps8
    go_wp2_with fail
    refine (szS_no _ _ _ _ _ g0 (by omega) hn0).mono ?_
    rintro e w' ⟨rfl, rfl⟩
    go_wp2
    go_ret
    exact ret_mk (Below.refl _ _)
  have h0 : (es0.length : Int) ≤ (1048576 : Int) := by omega
  by_cases hb1 : es0.length + es1.length ≤ 1048576
  rotate_left
  · have g1 : (1048576 : Int) - (es0.length : Int) < (es1.length : Int) := by omega
    go_enter Try.func8, Try.ntmps8
    go_wp2_with fail
    refine (szS_ok _ _ _ _ _ h0 (by omega)).mono ?_
    rintro e w' ⟨rfl, rfl⟩
    go_wp2_with fail
    refine (szS_no _ _ _ _ _ g1 (by omega) hn1).mono ?_
    rintro e w' ⟨rfl, rfl⟩
    go_wp2
    go_ret
    exact ret_mk (Below.refl _ _)
  have h1 : (es1.length : Int) ≤ (1048576 : Int) - (es0.length : Int) := by omega
  have big0 : es0.length ≤ 1048576 := by omega
  have big1 : es1.length ≤ 1048576 := by omega
  clear hb0 hb1
  obtain ⟨x, y, z, t, m, ok, hV, -, -⟩ := outV_parts (innerD es0 es1)
  have HS : ∀ (P0 : Option Addr) (cc0 : Nat) (P1 : Option Addr) (cc1 : Nat) W, RD W W.heap.size P0 es0.length es0 → RD W W.heap.size P1 es1.length es1 → Calls Try.prog 47 #[.slice P0 es0.length cc0, .slice P1 es1.length cc1] W (Ret (.tuple #[.agg #[.int .i64 x, .int .i64 y, .int .i64 z, .int .i64 t, .int .i64 m], .bool ok]) W) := fun P0 cc0 P1 cc1 W h0 h1 => by have := s_Inner (c := cc0) (c' := cc1) W h0 h1 hn0 hn1; rwa [hV] at this
  have HS' := Lib.hid HS
  have HI : ∀ (P0 : Option Addr) (cc0 : Nat) (P1 : Option Addr) (cc1 : Nat) W, RD W W.heap.size P0 es0.length es0 → RD W W.heap.size P1 es1.length es1 → Calls Try.prog 32 #[.slice P0 es0.length cc0, .slice P1 es1.length cc1] W (Ret (.tuple #[.agg #[.int .i64 x, .int .i64 y, .int .i64 z, .int .i64 t, .int .i64 m], .bool ok]) W) := fun P0 cc0 P1 cc1 W h0 h1 => by have := i_Inner (c := cc0) (c' := cc1) W h0 h1 hn0 hn1; rwa [hV] at this
  have HI' := Lib.hid HI
  clear HS HI hV
  go_enter Try.func8, Try.ntmps8
  go_wp2_with fail
  refine (szS_ok _ _ _ _ _ h0 (by omega)).mono ?_
  rintro e w' ⟨rfl, rfl⟩
  go_wp2_with fail
  refine (szS_ok _ _ _ _ _ h1 (by omega)).mono ?_
  rintro e w' ⟨rfl, rfl⟩
  have HW_0 := Lib.hid (Below.refl w.heap.size w)
  go_wp2_with fail
  refine (toS _ _ _ es0 _ ((HR0.out.keep HW_0.out).more HW_0.out.size) big0).mono ?_
  rintro e w1 ⟨rfl, hrow1, hb1⟩
  have HW_1 := Lib.hid (bl_call HW_0.out hb1)
  clear HW_0
  have Z1 := Lib.hid hb1.size
  clear hb1
  have LT1 := Lib.hid hrow1.lt
  have A0_1 := Lib.hid (hrow1)
  clear hrow1
  go_wp2_with fail
  refine (toS _ _ _ es1 _ ((HR1.out.keep HW_1.out).more HW_1.out.size) big1).mono ?_
  rintro e w2 ⟨rfl, hrow2, hb2⟩
  have HW_2 := Lib.hid (bl_call HW_1.out hb2)
  have A0_2 := Lib.hid (A0_1.out.of_block (hb2.block _ A0_1.out.lt))
  clear HW_1 A0_1
  have Z2 := Lib.hid hb2.size
  clear hb2
  have LT2 := Lib.hid hrow2.lt
  have A1_2 := Lib.hid (hrow2)
  clear hrow2
  go_wp2_with fail
  refine (HS'.out _ _ _ _ _ (RD.of_row A0_2.out (Nat.le_refl _)) (RD.of_row A1_2.out (Nat.le_refl _))).mono ?_
  rintro e w3 ⟨rfl, hb3⟩
  have HW_3 := Lib.hid (bl_call HW_2.out hb3)
  have A0_3 := Lib.hid (A0_2.out.of_block (hb3.block _ A0_2.out.lt))
  have A1_3 := Lib.hid (A1_2.out.of_block (hb3.block _ A1_2.out.lt))
  clear HW_2 A0_2 A1_2
  have Z3 := Lib.hid hb3.size
  clear hb3
  clear A0_3
  clear A1_3
  go_wp2_with fail
  obtain ⟨w4, hw4⟩ : ∃ W, w3.alloc (.cells #[.int .i64 x, .int .i64 y, .int .i64 z, .int .i64 t, .int .i64 m] 29) = W := ⟨_, rfl⟩
  have hb4 : Below w3.heap.size w3 w4 := by rw [← hw4]; exact below_alloc _ _
  have kb4 : Blk w4 w3.heap.size 29 #[.int .i64 x, .int .i64 y, .int .i64 z, .int .i64 t, .int .i64 m] := by rw [← hw4]; exact Blk.new _ _ _
  rw [hw4]
  clear hw4
  have HW_4 := Lib.hid (bl_call HW_3.out hb4)
  clear HW_3
  have Z4 := Lib.hid hb4.size
  clear hb4
  have W_4 := Lib.hid (kb4)
  clear kb4
  refine (toS _ _ _ es0 _ ((HR0.out.keep HW_4.out).more HW_4.out.size) big0).mono ?_
  rintro e w5 ⟨rfl, hrow5, hb5⟩
  have HW_5 := Lib.hid (bl_call HW_4.out hb5)
  have W_5 := Lib.hid (W_4.out.call hb5)
  clear HW_4 W_4
  have Z5 := Lib.hid hb5.size
  clear hb5
  have LT5 := Lib.hid hrow5.lt
  have X0_5 := Lib.hid (hrow5)
  clear hrow5
  go_wp2_with fail
  refine (toS _ _ _ es1 _ ((HR1.out.keep HW_5.out).more HW_5.out.size) big1).mono ?_
  rintro e w6 ⟨rfl, hrow6, hb6⟩
  have HW_6 := Lib.hid (bl_call HW_5.out hb6)
  have W_6 := Lib.hid (W_5.out.call hb6)
  have X0_6 := Lib.hid (X0_5.out.of_block (hb6.block _ X0_5.out.lt))
  clear HW_5 W_5 X0_5
  have Z6 := Lib.hid hb6.size
  clear hb6
  have LT6 := Lib.hid hrow6.lt
  have X1_6 := Lib.hid (hrow6)
  clear hrow6
  go_wp2_with fail
  refine (HI'.out _ _ _ _ _ (RD.of_row X0_6.out (Nat.le_refl _)) (RD.of_row X1_6.out (Nat.le_refl _))).mono ?_
  rintro e w7 ⟨rfl, hb7⟩
  have HW_7 := Lib.hid (bl_call HW_6.out hb7)
  have W_7 := Lib.hid (W_6.out.call hb7)
  have X0_7 := Lib.hid (X0_6.out.of_block (hb7.block _ X0_6.out.lt))
  have X1_7 := Lib.hid (X1_6.out.of_block (hb7.block _ X1_6.out.lt))
  clear HW_6 W_6 X0_6 X1_6
  have Z7 := Lib.hid hb7.size
  clear hb7
  obtain ⟨c00, c01, c02, c03, c04, -, -, -, -, -⟩ := W_7.out.five
  have gl := W_7.out.lt
  have gl1 := Nat.ne_of_lt gl
  have gl2 := Nat.ne_of_gt gl
  go_wp2_with fail
  refine (eqD x y z t m _).mono ?_
  rintro e w8 ⟨rfl, hb80⟩
  have hb8 := bl_call (below_alloc w7 (.cells #[.int .i64 x, .int .i64 y, .int .i64 z, .int .i64 t, .int .i64 m] 29)) hb80
  clear hb80 c00 c01 c02 c03 c04 gl gl1 gl2
  have HW_8 := Lib.hid (bl_call HW_7.out hb8)
  have W_8 := Lib.hid (W_7.out.call hb8)
  have X0_8 := Lib.hid (X0_7.out.of_block (hb8.block _ X0_7.out.lt))
  have X1_8 := Lib.hid (X1_7.out.of_block (hb8.block _ X1_7.out.lt))
  clear HW_7 W_7 X0_7 X1_7
  have Z8 := Lib.hid hb8.size
  clear hb8
  clear W_8
  go_wp2_with fail
  refine (toS _ _ _ es0 _ ((HR0.out.keep HW_8.out).more HW_8.out.size) big0).mono ?_
  rintro e w9 ⟨rfl, hrow9, hb9⟩
  have HW_9 := Lib.hid (bl_call HW_8.out hb9)
  have X0_9 := Lib.hid (X0_8.out.of_block (hb9.block _ X0_8.out.lt))
  have X1_9 := Lib.hid (X1_8.out.of_block (hb9.block _ X1_8.out.lt))
  clear HW_8 X0_8 X1_8
  have Z9 := Lib.hid hb9.size
  clear hb9
  go_wp2_with fail
  refine (eqS _ _ _ _ _ es0 _ (RD.of_row X0_9.out (Nat.le_refl _)) (RD.of_row hrow9 (Nat.le_refl _)) big0).mono ?_
  rintro e w10 ⟨rfl, hb10⟩
  have HW_10 := Lib.hid (bl_call HW_9.out hb10)
  have X0_10 := Lib.hid (X0_9.out.of_block (hb10.block _ X0_9.out.lt))
  have X1_10 := Lib.hid (X1_9.out.of_block (hb10.block _ X1_9.out.lt))
  clear HW_9 X0_9 X1_9
  have Z10 := Lib.hid hb10.size
  clear hb10
  clear hrow9
  go_wp2_with fail
  refine (toS _ _ _ es1 _ ((HR1.out.keep HW_10.out).more HW_10.out.size) big1).mono ?_
  rintro e w11 ⟨rfl, hrow11, hb11⟩
  have HW_11 := Lib.hid (bl_call HW_10.out hb11)
  have X0_11 := Lib.hid (X0_10.out.of_block (hb11.block _ X0_10.out.lt))
  have X1_11 := Lib.hid (X1_10.out.of_block (hb11.block _ X1_10.out.lt))
  clear HW_10 X0_10 X1_10
  have Z11 := Lib.hid hb11.size
  clear hb11
  go_wp2_with fail
  refine (eqS _ _ _ _ _ es1 _ (RD.of_row X1_11.out (Nat.le_refl _)) (RD.of_row hrow11 (Nat.le_refl _)) big1).mono ?_
  rintro e w12 ⟨rfl, hb12⟩
  have HW_12 := Lib.hid (bl_call HW_11.out hb12)
  have X0_12 := Lib.hid (X0_11.out.of_block (hb12.block _ X0_11.out.lt))
  have X1_12 := Lib.hid (X1_11.out.of_block (hb12.block _ X1_11.out.lt))
  clear HW_11 X0_11 X1_11
  have Z12 := Lib.hid hb12.size
  clear hb12
  clear hrow11
  go_wp2
  go_ret
  exact ret_mk HW_12.out

set_option maxRecDepth 100000 in
theorem lifted (os : Os) (started : os.Started) (H : Type) (enc : TypeId × Value → H) :
    ReturnsInHanded {} Try.checked os 8 .any (Rows.fnExactInnerProductSpec.pre6 enc Try.prog Try.f8 Rows.fnExactInnerProductRow.domain false) (Rows.fnExactInnerProductSpec.post enc Try.prog Try.f8 false true false false) := by
  refine returnsInHanded_of_change (C := Try.checked) own started (by kernel_rfl) Try.func8
    (ChangeSpec.witness6 (enc := enc) (C := Try.checked) false ⟨#[], #[.slice none 0 0, .slice none 0 0], []⟩ 8 (by kernel_rfl) (by kernel_rfl) (by kernel_rfl) (by kernel_rfl)) ?_
  intro W base args ds gs before hval0 hW hcnd _
  have hval : ∀ (j : Nat) t v, Try.f8.params[j]? = some t → args[j]? = some v → Value.okWide Try.prog W .any base t v := hval0
  have hW' := hW
  obtain ⟨p, q, hA0, hV, rfl, hfz, hnd⟩ := hW
  have hA : DataW.TrodAll enc Try.prog W 0 (fun _ => true) true Try.f8.params.toList args.toList ds p := hA0
  rw [Try.params8] at hA hval
  obtain ⟨v0, vs0, d0, ds0, p0, q0, hargs, rfl, rfl, h0, r0⟩ := trodAll_cons hA
  obtain ⟨v1, vs1, d1, ds1, p1, q1, rfl, rfl, rfl, h1, r1⟩ := trodAll_cons r0
  obtain ⟨rfl, rfl, rfl⟩ := trodAll_nil r1
  obtain rfl : args = #[v0, v1] := by cases args; simp_all
  obtain ⟨rfl, rfl⟩ := trodVars_none hV
  have kk0 := h0
  have lt0 : ∀ x ∈ p0, x.block < W.heap.size := by obtain ⟨m, hm⟩ := kk0; exact DataW.trod_lt m _ _ _ hm
  obtain ⟨A0, n0, cp0, es0, rfl, hR0, hi0, hn0⟩ := open_S (hval 0 51 v0 rfl rfl) h0
  have kk1 := h1
  have lt1 : ∀ x ∈ p1, x.block < W.heap.size := by obtain ⟨m, hm⟩ := kk1; exact DataW.trod_lt m _ _ _ hm
  obtain ⟨A1, n1, cp1, es1, rfl, hR1, hi1, hn1⟩ := open_S (hval 1 51 v1 rfl rfl) h1
  clear hA0 hval0
  refine (walk A0 n0 cp0 es0 A1 n1 cp1 es1 W hR0 hi0 hn0 hR1 hi1 hn1).mono fun e W' ⟨he, bel⟩ => ?_
  subst he
  exact ⟨_, rfl, _, _, _, [], _, [], hW', trodAll_mk1 (shut_bool Try.underlying4 _), (trodAll_cons_mk (Below.trod laidOut (by kernel_rfl) (of_decide_eq_true (by kernel_rfl)) kk0 bel lt0) (trodAll_cons_mk (Below.trod laidOut (by kernel_rfl) (of_decide_eq_true (by kernel_rfl)) kk1 bel lt1) trodAll_mk0)), rfl, bel.frame _, fun h => by cases h⟩

theorem over : Rows.fnExactInnerProductRow.holds Try.pinned (OpenSpec.ofChange Rows.fnExactInnerProductSpec) :=
  OpenClaim.holds_of_wide 8 Try.f8 rfl rfl rfl rfl rfl rfl rfl ⟨rfl, rfl, rfl, rfl, rfl⟩ rfl rfl rfl rfl rfl (by kernel_rfl) Try.func8 (by kernel_rfl)
    (of_decide_eq_true (by kernel_rfl)) (by unfold Func.isWrapper; first | (rw [if_pos (by decide +kernel)]; kernel_rfl) | (rw [if_neg (by decide +kernel)]; exact ⟨rfl, rfl⟩))
    (fun os started H enc _ => lifted os started H enc)

theorem proved : Rows.FnExactInnerProductSaid := over
end Go.Proofs.Ytaokfppadfoniaa.fnExactInnerProduct
