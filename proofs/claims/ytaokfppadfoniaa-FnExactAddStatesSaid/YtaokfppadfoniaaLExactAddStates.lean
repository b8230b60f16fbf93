/-
  Proved: for every input the Go function FnExactAddStates returns true (the program's function returns what the reference's returns), and its arguments read as before.
  Conditions: none beyond the given statement.
-/
import Derived.Test.YtaokfppadfoniaaCloseS
import Derived.Deep.RegionHeld3
import Derived.Test.YtaokfppadfoniaaVc5
import Derived.Test.YtaokfppadfoniaaMk
namespace Go.Proofs.Ytaokfppadfoniaa.fnExactAddStates
open Go.Proofs.Ytaokfppadfoniaa
open Go.ChangeShapes Go.WideShapes Go.ChangeAt Go.RowKit
set_option linter.unusedVariables false

set_option maxHeartbeats 2000000 in
theorem walk (A0 : Option Addr) (n0 cp0 : Nat) (es0 : List DW) (A1 : Option Addr) (n1 cp1 : Nat) (es1 : List DW) (w : World) (hR0 : RD w w.heap.size A0 n0 es0) (hi0 : ∀ d ∈ es0, inr d.n.a ∧ inr d.n.b ∧ inr d.n.c ∧ inr d.n.d ∧ inr d.k) (hn0 : n0 ≤ 9223372036854775807) (hR1 : RD w w.heap.size A1 n1 es1) (hi1 : ∀ d ∈ es1, inr d.n.a ∧ inr d.n.b ∧ inr d.n.c ∧ inr d.n.d ∧ inr d.k) (hn1 : n1 ≤ 9223372036854775807) :
    Calls Try.prog 7 #[.slice A0 n0 cp0, .slice A1 n1 cp1] w (Ret (.bool true) w) := by
  obtain rfl : n0 = es0.length := hR0.1
  have HR0 := Lib.hid hR0
  clear hR0 hi0
  obtain rfl : n1 = es1.length := hR1.1
  have HR1 := Lib.hid hR1
  clear hR1 hi1
  by_cases hb0 : es0.length ≤ 1048576
  rotate_left
  · have g0 : (1048576 : Int) < (es0.length : Int) := by omega
    go_enter Try.func7, Try.ntmps7
    go_wp2_with fail
    refine (szS_no _ _ _ _ _ g0 (by omega) hn0).mono ?_
    rintro e w' ⟨rfl, rfl⟩
    go_wp2
    go_ret
    exact ret_mk (Below.refl _ _)
  have h0 : (es0.length : Int) ≤ (1048576 : Int) := by omega
  by_cases hb1 : es0.length + es1.length ≤ 1048576
  rotate_left
  · have g1 : (1048576 : Int) - (es0.length : Int) < (es1.length : Int) := by omega
    go_enter Try.func7, Try.ntmps7
    go_wp2_with fail
    refine (szS_ok _ _ _ _ _ h0 (by omega)).mono ?_
    rintro e w' ⟨rfl, rfl⟩
    go_wp2_with fail
    refine (szS_no _ _ _ _ _ g1 (by omega) hn1).mono ?_
    rintro e w' ⟨rfl, rfl⟩
    go_wp2
    go_ret
    exact ret_mk (Below.refl _ _)
  have h1 : (es1.length : Int) ≤ (1048576 : Int) - (es0.length : Int) := by omega
  have big0 : es0.length ≤ 1048576 := by omega
  have big1 : es1.length ≤ 1048576 := by omega
  clear hb0 hb1
  obtain ⟨ds, hds⟩ : ∃ ds, (addV es0 es1).getD [] = ds := ⟨_, rfl⟩
  obtain ⟨ok, hok⟩ : ∃ ok, (addV es0 es1).isSome = ok := ⟨_, rfl⟩
  have hlen : ds.length ≤ 16 := by rw [← hds]; exact addV_le _ _
  have HS : ∀ (P0 : Option Addr) (cc0 : Nat) (P1 : Option Addr) (cc1 : Nat) W, RD W W.heap.size P0 es0.length es0 → RD W W.heap.size P1 es1.length es1 → Calls Try.prog 45 #[.slice P0 es0.length cc0, .slice P1 es1.length cc1] W (RetV W 29 ds ok) := fun P0 cc0 P1 cc1 W h0 h1 => by have := s_AddS (c := cc0) (c' := cc1) W h0 h1 hn0 hn1; rwa [hds, hok] at this
  have HS' := Lib.hid HS
  have HI : ∀ (P0 : Option Addr) (cc0 : Nat) (P1 : Option Addr) (cc1 : Nat) W, RD W W.heap.size P0 es0.length es0 → RD W W.heap.size P1 es1.length es1 → Calls Try.prog 46 #[.slice P0 es0.length cc0, .slice P1 es1.length cc1] W (RetV W 29 ds ok) := fun P0 cc0 P1 cc1 W h0 h1 => by have := i_AddS (c := cc0) (c' := cc1) W h0 h1 hn0 hn1; rwa [hds, hok] at this
  have HI' := Lib.hid HI
  clear HS HI hds hok
  go_enter Try.func7, Try.ntmps7
  go_wp2_with fail
  refine (szS_ok _ _ _ _ _ h0 (by omega)).mono ?_
  rintro e w' ⟨rfl, rfl⟩
  go_wp2_with fail
  refine (szS_ok _ _ _ _ _ h1 (by omega)).mono ?_
  rintro e w' ⟨rfl, rfl⟩
  have HW_0 := Lib.hid (Below.refl w.heap.size w)
  go_wp2_with fail
  refine (toS _ _ _ es0 _ ((HR0.out.keep HW_0.out).more HW_0.out.size) big0).mono ?_
  rintro e w1 ⟨rfl, hrow1, hb1⟩
  have HW_1 := Lib.hid (bl_call HW_0.out hb1)
  clear HW_0
  have Z1 := Lib.hid hb1.size
  clear hb1
  have LT1 := Lib.hid hrow1.lt
  have A0_1 := Lib.hid (hrow1)
  clear hrow1
  go_wp2_with fail
  refine (toS _ _ _ es1 _ ((HR1.out.keep HW_1.out).more HW_1.out.size) big1).mono ?_
  rintro e w2 ⟨rfl, hrow2, hb2⟩
  have HW_2 := Lib.hid (bl_call HW_1.out hb2)
  have A0_2 := Lib.hid (A0_1.out.of_block (hb2.block _ A0_1.out.lt))
  clear HW_1 A0_1
  have Z2 := Lib.hid hb2.size
  clear hb2
  have LT2 := Lib.hid hrow2.lt
  have A1_2 := Lib.hid (hrow2)
  clear hrow2
  go_wp2_with fail
  refine (HS'.out _ _ _ _ _ (RD.of_row A0_2.out (Nat.le_refl _)) (RD.of_row A1_2.out (Nat.le_refl _))).mono ?_
  rintro e w3 ⟨A3x, c3x, rfl, O3, hb3⟩
  have HW_3 := Lib.hid (bl_call HW_2.out hb3)
  have A0_3 := Lib.hid (A0_2.out.of_block (hb3.block _ A0_2.out.lt))
  have A1_3 := Lib.hid (A1_2.out.of_block (hb3.block _ A1_2.out.lt))
  clear HW_2 A0_2 A1_2
  have Z3 := Lib.hid hb3.size
  clear hb3
  clear A0_3
  clear A1_3
  have WR := Lib.hid O3.read
  clear O3
  have V_3 := Lib.hid (Below.refl w3.heap.size w3)
  go_wp2_with fail
  refine (toS _ _ _ es0 _ ((HR0.out.keep HW_3.out).more HW_3.out.size) big0).mono ?_
  rintro e w4 ⟨rfl, hrow4, hb4⟩
  have HW_4 := Lib.hid (bl_call HW_3.out hb4)
  have V_4 := Lib.hid (bl_call V_3.out hb4)
  clear HW_3 V_3
  have Z4 := Lib.hid hb4.size
  clear hb4
  have LT4 := Lib.hid hrow4.lt
  have X0_4 := Lib.hid (hrow4)
  clear hrow4
  go_wp2_with fail
  refine (toS _ _ _ es1 _ ((HR1.out.keep HW_4.out).more HW_4.out.size) big1).mono ?_
  rintro e w5 ⟨rfl, hrow5, hb5⟩
  have HW_5 := Lib.hid (bl_call HW_4.out hb5)
  have V_5 := Lib.hid (bl_call V_4.out hb5)
  have X0_5 := Lib.hid (X0_4.out.of_block (hb5.block _ X0_4.out.lt))
  clear HW_4 V_4 X0_4
  have Z5 := Lib.hid hb5.size
  clear hb5
  have LT5 := Lib.hid hrow5.lt
  have X1_5 := Lib.hid (hrow5)
  clear hrow5
  go_wp2_with fail
  refine (HI'.out _ _ _ _ _ (RD.of_row X0_5.out (Nat.le_refl _)) (RD.of_row X1_5.out (Nat.le_refl _))).mono ?_
  rintro e w6 ⟨A6x, c6x, rfl, O6, hb6⟩
  have HW_6 := Lib.hid (bl_call HW_5.out hb6)
  have V_6 := Lib.hid (bl_call V_5.out hb6)
  have X0_6 := Lib.hid (X0_5.out.of_block (hb6.block _ X0_5.out.lt))
  have X1_6 := Lib.hid (X1_5.out.of_block (hb6.block _ X1_5.out.lt))
  clear HW_5 V_5 X0_5 X1_5
  have Z6 := Lib.hid hb6.size
  clear hb6
  have G_6 := Lib.hid (O6)
  clear O6
  go_wp2_with fail
  refine (eqS _ _ _ _ _ ds _ G_6.out.read ((WR.out.keep V_6.out).more V_6.out.size) (by omega)).mono ?_
  rintro e w7 ⟨rfl, hb7⟩
  have HW_7 := Lib.hid (bl_call HW_6.out hb7)
  have V_7 := Lib.hid (bl_call V_6.out hb7)
  have X0_7 := Lib.hid (X0_6.out.of_block (hb7.block _ X0_6.out.lt))
  have X1_7 := Lib.hid (X1_6.out.of_block (hb7.block _ X1_6.out.lt))
  have G_7 := Lib.hid (G_6.out.call hb7)
  clear HW_6 V_6 X0_6 X1_6 G_6
  have Z7 := Lib.hid hb7.size
  clear hb7
  go_wp2_with fail
  refine (toS _ _ _ es0 _ ((HR0.out.keep HW_7.out).more HW_7.out.size) big0).mono ?_
  rintro e w8 ⟨rfl, hrow8, hb8⟩
  have HW_8 := Lib.hid (bl_call HW_7.out hb8)
  have V_8 := Lib.hid (bl_call V_7.out hb8)
  have X0_8 := Lib.hid (X0_7.out.of_block (hb8.block _ X0_7.out.lt))
  have X1_8 := Lib.hid (X1_7.out.of_block (hb8.block _ X1_7.out.lt))
  have G_8 := Lib.hid (G_7.out.call hb8)
  clear HW_7 V_7 X0_7 X1_7 G_7
  have Z8 := Lib.hid hb8.size
  clear hb8
  go_wp2_with fail
  refine (eqS _ _ _ _ _ es0 _ (RD.of_row X0_8.out (Nat.le_refl _)) (RD.of_row hrow8 (Nat.le_refl _)) big0).mono ?_
  rintro e w9 ⟨rfl, hb9⟩
  have HW_9 := Lib.hid (bl_call HW_8.out hb9)
  have V_9 := Lib.hid (bl_call V_8.out hb9)
  have X0_9 := Lib.hid (X0_8.out.of_block (hb9.block _ X0_8.out.lt))
  have X1_9 := Lib.hid (X1_8.out.of_block (hb9.block _ X1_8.out.lt))
  have G_9 := Lib.hid (G_8.out.call hb9)
  clear HW_8 V_8 X0_8 X1_8 G_8
  have Z9 := Lib.hid hb9.size
  clear hb9
  clear hrow8
  go_wp2_with fail
  refine (toS _ _ _ es1 _ ((HR1.out.keep HW_9.out).more HW_9.out.size) big1).mono ?_
  rintro e w10 ⟨rfl, hrow10, hb10⟩
  have HW_10 := Lib.hid (bl_call HW_9.out hb10)
  have V_10 := Lib.hid (bl_call V_9.out hb10)
  have X0_10 := Lib.hid (X0_9.out.of_block (hb10.block _ X0_9.out.lt))
  have X1_10 := Lib.hid (X1_9.out.of_block (hb10.block _ X1_9.out.lt))
  have G_10 := Lib.hid (G_9.out.call hb10)
  clear HW_9 V_9 X0_9 X1_9 G_9
  have Z10 := Lib.hid hb10.size
  clear hb10
  go_wp2_with fail
  refine (eqS _ _ _ _ _ es1 _ (RD.of_row X1_10.out (Nat.le_refl _)) (RD.of_row hrow10 (Nat.le_refl _)) big1).mono ?_
  rintro e w11 ⟨rfl, hb11⟩
  have HW_11 := Lib.hid (bl_call HW_10.out hb11)
  have V_11 := Lib.hid (bl_call V_10.out hb11)
  have X0_11 := Lib.hid (X0_10.out.of_block (hb11.block _ X0_10.out.lt))
  have X1_11 := Lib.hid (X1_10.out.of_block (hb11.block _ X1_10.out.lt))
  have G_11 := Lib.hid (G_10.out.call hb11)
  clear HW_10 V_10 X0_10 X1_10 G_10
  have Z11 := Lib.hid hb11.size
  clear hb11
  clear hrow10
  obtain ⟨K1, hK1⟩ : ∃ K1, 1 + es0.length * 5 = K1 := ⟨_, rfl⟩
  have hKb1 : K1 ≤ 5242881 := by omega
  go_wp2_with fail
  refine (mark_row' w3.heap.size _ _ _ 1 K1 29 _ _ X0_11.out (Nat.le_refl _) hK1 (by omega)).mono ?_
  rintro e w12 ⟨rfl, hbm12, hfr12⟩
  clear X0_11
  have HW_12 := Lib.hid (HW_11.out.trans (hbm12.mono (by have := Z1.out; have := Z2.out; have := Z3.out; have := Z4.out; have := Z5.out; have := Z6.out; have := Z7.out; have := Z8.out; have := Z9.out; have := Z10.out; have := Z11.out; have := LT1.out; have := LT2.out; have := LT4.out; have := LT5.out; omega)))
  have V_12 := Lib.hid (V_11.out.trans (hbm12.mono (by have := Z1.out; have := Z2.out; have := Z3.out; have := Z4.out; have := Z5.out; have := Z6.out; have := Z7.out; have := Z8.out; have := Z9.out; have := Z10.out; have := Z11.out; have := LT1.out; have := LT2.out; have := LT4.out; have := LT5.out; omega)))
  have X1_12 := Lib.hid (X1_11.out.of_block (hfr12 _ (by have := Z1.out; have := Z2.out; have := Z3.out; have := Z4.out; have := Z5.out; have := Z6.out; have := Z7.out; have := Z8.out; have := Z9.out; have := Z10.out; have := Z11.out; have := LT1.out; have := LT2.out; have := LT4.out; have := LT5.out; omega)))
  have G_12 := Lib.hid (G_11.out.kept (fun b hb => hfr12 b (by have := Z1.out; have := Z2.out; have := Z3.out; have := Z4.out; have := Z5.out; have := Z6.out; have := Z7.out; have := Z8.out; have := Z9.out; have := Z10.out; have := Z11.out; have := LT1.out; have := LT2.out; have := LT4.out; have := LT5.out; omega)))
  clear HW_11 V_11 X1_11 G_11
  have Z12 := Lib.hid hbm12.size
  clear hbm12 hfr12 hK1
  obtain ⟨K2, hK2⟩ : ∃ K2, K1 + es1.length * 5 = K2 := ⟨_, rfl⟩
  have hKb2 : K2 ≤ 10485762 := by omega
  go_wp2_with fail
  refine (mark_row' w4.heap.size _ _ _ K1 K2 29 _ _ X1_12.out (Nat.le_refl _) hK2 (by omega)).mono ?_
  rintro e w13 ⟨rfl, hbm13, hfr13⟩
  clear X1_12
  have HW_13 := Lib.hid (HW_12.out.trans (hbm13.mono (by have := Z1.out; have := Z2.out; have := Z3.out; have := Z4.out; have := Z5.out; have := Z6.out; have := Z7.out; have := Z8.out; have := Z9.out; have := Z10.out; have := Z11.out; have := Z12.out; have := LT1.out; have := LT2.out; have := LT4.out; have := LT5.out; omega)))
  have V_13 := Lib.hid (V_12.out.trans (hbm13.mono (by have := Z1.out; have := Z2.out; have := Z3.out; have := Z4.out; have := Z5.out; have := Z6.out; have := Z7.out; have := Z8.out; have := Z9.out; have := Z10.out; have := Z11.out; have := Z12.out; have := LT1.out; have := LT2.out; have := LT4.out; have := LT5.out; omega)))
  have G_13 := Lib.hid (G_12.out.kept (fun b hb => hfr13 b (by have := Z1.out; have := Z2.out; have := Z3.out; have := Z4.out; have := Z5.out; have := Z6.out; have := Z7.out; have := Z8.out; have := Z9.out; have := Z10.out; have := Z11.out; have := Z12.out; have := LT1.out; have := LT2.out; have := LT4.out; have := LT5.out; omega)))
  clear HW_12 V_12 G_12
  have Z13 := Lib.hid hbm13.size
  clear hbm13 hfr13 hK2
  have hge : decide ((K2 : Int) < 0) = false := by first | (simp; done) | (simp; omega)
  go_wp2_with fail
  refine (eqS _ _ _ _ _ ds _ G_13.out.read ((WR.out.keep V_13.out).more V_13.out.size) (by omega)).mono ?_
  rintro e w14 ⟨rfl, hb14⟩
  have HW_14 := Lib.hid (bl_call HW_13.out hb14)
  have V_14 := Lib.hid (bl_call V_13.out hb14)
  have G_14 := Lib.hid (G_13.out.call hb14)
  clear HW_13 V_13 G_13
  have Z14 := Lib.hid hb14.size
  clear hb14
  obtain ⟨KM, hKM⟩ : ∃ KM, 1 + ds.length * 5 = KM := ⟨_, rfl⟩
  have hKm : KM ≤ 81 := by omega
  go_wp2_with fail
  refine (mark_any' _ _ _ 1 KM w5.heap.size 29 ds _ G_14.out rfl hKM (by omega)).mono ?_
  rintro e w15 ⟨rfl, O15, hbm15⟩
  clear G_14
  have HW_15 := Lib.hid (HW_14.out.trans (hbm15.mono (by have := Z1.out; have := Z2.out; have := Z3.out; have := Z4.out; have := Z5.out; have := Z6.out; have := Z7.out; have := Z8.out; have := Z9.out; have := Z10.out; have := Z11.out; have := Z12.out; have := Z13.out; have := Z14.out; have := LT1.out; have := LT2.out; have := LT4.out; have := LT5.out; omega)))
  have V_15 := Lib.hid (V_14.out.trans (hbm15.mono (by have := Z1.out; have := Z2.out; have := Z3.out; have := Z4.out; have := Z5.out; have := Z6.out; have := Z7.out; have := Z8.out; have := Z9.out; have := Z10.out; have := Z11.out; have := Z12.out; have := Z13.out; have := Z14.out; have := LT1.out; have := LT2.out; have := LT4.out; have := LT5.out; omega)))
  clear HW_14 V_14
  have Z15 := Lib.hid hbm15.size
  clear hbm15
  have H_15 := Lib.hid (O15)
  clear O15
  have hgm : decide ((KM : Int) < 0) = false := by first | (simp; done) | (simp; omega)
  go_wp2_with fail
  refine (held_any' _ _ _ 1 KM w5.heap.size 29 _ H_15.out hKM (by omega)).mono ?_
  rintro e w' ⟨rfl, rfl⟩
  go_wp2_with fail
  refine (toS _ _ _ es0 _ ((HR0.out.keep HW_15.out).more HW_15.out.size) big0).mono ?_
  rintro e w16 ⟨rfl, hrow16, hb16⟩
  have HW_16 := Lib.hid (bl_call HW_15.out hb16)
  have V_16 := Lib.hid (bl_call V_15.out hb16)
  have H_16 := Lib.hid (H_15.out.call hb16)
  clear HW_15 V_15 H_15
  have Z16 := Lib.hid hb16.size
  clear hb16
  have LT16 := Lib.hid hrow16.lt
  have C0_16 := Lib.hid (hrow16)
  clear hrow16
  go_wp2_with fail
  refine (toS _ _ _ es1 _ ((HR1.out.keep HW_16.out).more HW_16.out.size) big1).mono ?_
  rintro e w17 ⟨rfl, hrow17, hb17⟩
  have HW_17 := Lib.hid (bl_call HW_16.out hb17)
  have V_17 := Lib.hid (bl_call V_16.out hb17)
  have H_17 := Lib.hid (H_16.out.call hb17)
  have C0_17 := Lib.hid (C0_16.out.of_block (hb17.block _ C0_16.out.lt))
  clear HW_16 V_16 H_16 C0_16
  have Z17 := Lib.hid hb17.size
  clear hb17
  have LT17 := Lib.hid hrow17.lt
  have C1_17 := Lib.hid (hrow17)
  clear hrow17
  go_wp2_with fail
  refine (HI'.out _ _ _ _ _ (RD.of_row C0_17.out (Nat.le_refl _)) (RD.of_row C1_17.out (Nat.le_refl _))).mono ?_
  rintro e w18 ⟨A18x, c18x, rfl, O18, hb18⟩
  have HW_18 := Lib.hid (bl_call HW_17.out hb18)
  have V_18 := Lib.hid (bl_call V_17.out hb18)
  have H_18 := Lib.hid (H_17.out.call hb18)
  have C0_18 := Lib.hid (C0_17.out.of_block (hb18.block _ C0_17.out.lt))
  have C1_18 := Lib.hid (C1_17.out.of_block (hb18.block _ C1_17.out.lt))
  clear HW_17 V_17 H_17 C0_17 C1_17
  have Z18 := Lib.hid hb18.size
  clear hb18
  clear C0_18
  clear C1_18
  go_wp2_with fail
  refine (eqS _ _ _ _ _ ds _ O18.read ((WR.out.keep V_18.out).more V_18.out.size) (by omega)).mono ?_
  rintro e w19 ⟨rfl, hb19⟩
  have HW_19 := Lib.hid (bl_call HW_18.out hb19)
  have V_19 := Lib.hid (bl_call V_18.out hb19)
  have H_19 := Lib.hid (H_18.out.call hb19)
  clear HW_18 V_18 H_18
  have Z19 := Lib.hid hb19.size
  clear hb19
  clear O18
  go_wp2_with fail
  refine (held_any' _ _ _ 1 KM w5.heap.size 29 _ H_19.out hKM (by omega)).mono ?_
  rintro e w' ⟨rfl, rfl⟩
  go_wp2
  go_ret
  exact ret_mk HW_19.out

set_option maxRecDepth 100000 in
theorem lifted (os : Os) (started : os.Started) (H : Type) (enc : TypeId × Value → H) :
    ReturnsInHanded {} Try.checked os 7 .any (Rows.fnExactAddStatesSpec.pre6 enc Try.prog Try.f7 Rows.fnExactAddStatesRow.domain false) (Rows.fnExactAddStatesSpec.post enc Try.prog Try.f7 false true false false) := by
  refine returnsInHanded_of_change (C := Try.checked) own started (by kernel_rfl) Try.func7
    (ChangeSpec.witness6 (enc := enc) (C := Try.checked) false ⟨#[], #[.slice none 0 0, .slice none 0 0], []⟩ 8 (by kernel_rfl) (by kernel_rfl) (by kernel_rfl) (by kernel_rfl)) ?_
  intro W base args ds gs before hval0 hW hcnd _
  have hval : ∀ (j : Nat) t v, Try.f7.params[j]? = some t → args[j]? = some v → Value.okWide Try.prog W .any base t v := hval0
  have hW' := hW
  obtain ⟨p, q, hA0, hV, rfl, hfz, hnd⟩ := hW
  have hA : DataW.TrodAll enc Try.prog W 0 (fun _ => true) true Try.f7.params.toList args.toList ds p := hA0
  rw [Try.params7] at hA hval
  obtain ⟨v0, vs0, d0, ds0, p0, q0, hargs, rfl, rfl, h0, r0⟩ := trodAll_cons hA
  obtain ⟨v1, vs1, d1, ds1, p1, q1, rfl, rfl, rfl, h1, r1⟩ := trodAll_cons r0
  obtain ⟨rfl, rfl, rfl⟩ := trodAll_nil r1
  obtain rfl : args = #[v0, v1] := by cases args; simp_all
  obtain ⟨rfl, rfl⟩ := trodVars_none hV
  have kk0 := h0
  have lt0 : ∀ x ∈ p0, x.block < W.heap.size := by obtain ⟨m, hm⟩ := kk0; exact DataW.trod_lt m _ _ _ hm
  obtain ⟨A0, n0, cp0, es0, rfl, hR0, hi0, hn0⟩ := open_S (hval 0 51 v0 rfl rfl) h0
  have kk1 := h1
  have lt1 : ∀ x ∈ p1, x.block < W.heap.size := by obtain ⟨m, hm⟩ := kk1; exact DataW.trod_lt m _ _ _ hm
  obtain ⟨A1, n1, cp1, es1, rfl, hR1, hi1, hn1⟩ := open_S (hval 1 51 v1 rfl rfl) h1
  clear hA0 hval0
  refine (walk A0 n0 cp0 es0 A1 n1 cp1 es1 W hR0 hi0 hn0 hR1 hi1 hn1).mono fun e W' ⟨he, bel⟩ => ?_
  subst he
  exact ⟨_, rfl, _, _, _, [], _, [], hW', trodAll_mk1 (shut_bool Try.underlying4 _), (trodAll_cons_mk (Below.trod laidOut (by kernel_rfl) (of_decide_eq_true (by kernel_rfl)) kk0 bel lt0) (trodAll_cons_mk (Below.trod laidOut (by kernel_rfl) (of_decide_eq_true (by kernel_rfl)) kk1 bel lt1) trodAll_mk0)), rfl, bel.frame _, fun h => by cases h⟩

theorem over : Rows.fnExactAddStatesRow.holds Try.pinned (OpenSpec.ofChange Rows.fnExactAddStatesSpec) :=
  OpenClaim.holds_of_wide 7 Try.f7 rfl rfl rfl rfl rfl rfl rfl ⟨rfl, rfl, rfl, rfl, rfl⟩ rfl rfl rfl rfl rfl (by kernel_rfl) Try.func7 (by kernel_rfl)
    (of_decide_eq_true (by kernel_rfl)) (by unfold Func.isWrapper; first | (rw [if_pos (by decide +kernel)]; kernel_rfl) | (rw [if_neg (by decide +kernel)]; exact ⟨rfl, rfl⟩))
    (fun os started H enc _ => lifted os started H enc)

theorem proved : Rows.FnExactAddStatesSaid := over
end Go.Proofs.Ytaokfppadfoniaa.fnExactAddStates
