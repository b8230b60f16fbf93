/-
  Proved: for every input the Go function FnExactScaleState returns true (the program's function returns what the reference's returns), and its arguments read as before.
  Conditions: none beyond the given statement.
-/
import Derived.Test.YtaokfppadfoniaaCloseS
import Derived.Deep.RegionHeld3
import Derived.Test.YtaokfppadfoniaaVc5
import Derived.Test.YtaokfppadfoniaaMk
import Derived.Test.YtaokfppadfoniaaOwn
namespace Go.Proofs.Ytaokfppadfoniaa.fnExactScaleState
open Go.Proofs.Ytaokfppadfoniaa
open Go.ChangeShapes Go.WideShapes Go.ChangeAt Go.RowKit
set_option linter.unusedVariables false
set_option maxRecDepth 20000

set_option maxHeartbeats 2000000 in
theorem walk (A0 : Option Addr) (n0 cp0 : Nat) (es0 : List DW) (a1 b1 c1 d1 k1 : Int) (w : World) (hR0 : RD w w.heap.size A0 n0 es0) (hi0 : ∀ d ∈ es0, inr d.n.a ∧ inr d.n.b ∧ inr d.n.c ∧ inr d.n.d ∧ inr d.k) (hn0 : n0 ≤ 9223372036854775807) (fa1 : inr a1) (fb1 : inr b1) (fc1 : inr c1) (fd1 : inr d1) (fk1 : inr k1) :
    Calls Try.prog 6 #[.slice A0 n0 cp0, .agg #[.int .i64 a1, .int .i64 b1, .int .i64 c1, .int .i64 d1, .int .i64 k1]] w (Ret (.bool true) w) := by
  obtain rfl : n0 = es0.length := hR0.1
  have HR0 := Lib.hid hR0
  clear hR0 hi0
  by_cases hb0 : es0.length ≤ 1048576
  rotate_left
  · have g0 : (1048576 : Int) < (es0.length : Int) := by omega
    go_enter Try.func6, Try.ntmps6
    go_wp2_with fail
    refine (szS_no _ _ _ _ _ g0 (by omega) hn0).mono ?_
    rintro e w' ⟨rfl, rfl⟩
    go_wp2
    go_ret
    refine ret_mk ?_
    repeat (first | (with_reducible exact Below.refl _ _) | (with_reducible assumption) | (with_reducible refine bl_alloc ?_ _) | (with_reducible refine bl_drew ?_) | (with_reducible refine bl_set ?_ (by simp <;> omega) _) | (with_reducible refine bl_call ?_ (by assumption)))
  have h0 : (es0.length : Int) ≤ (1048576 : Int) := by omega
  have big0 : es0.length ≤ 1048576 := by omega
  clear hb0
  obtain ⟨ds, hds⟩ : ∃ ds, (scaleD es0 ⟨⟨a1, b1, c1, d1⟩, k1⟩).getD [] = ds := ⟨_, rfl⟩
  obtain ⟨ok, hok⟩ : ∃ ok, (scaleD es0 ⟨⟨a1, b1, c1, d1⟩, k1⟩).isSome = ok := ⟨_, rfl⟩
  have hlen : ds.length ≤ 16 := by rw [← hds]; exact scaleD_le _ _
  have HS : ∀ (P0 : Option Addr) (cc0 : Nat) W, RD W W.heap.size P0 es0.length es0 → Calls Try.prog 38 #[.slice P0 es0.length cc0, .agg #[.int .i64 a1, .int .i64 b1, .int .i64 c1, .int .i64 d1, .int .i64 k1]] W (RetV W 29 ds ok) := fun P0 cc0 W h0 => by have := s_Scale (c := cc0) (p := a1) (q := b1) (r := c1) (s := d1) (m := k1) W h0 hn0; rwa [hds, hok] at this
  have HS' := Lib.hid HS
  have HI : ∀ (P0 : Option Addr) (cc0 : Nat) W, RD W W.heap.size P0 es0.length es0 → Calls Try.prog 41 #[.slice P0 es0.length cc0, .agg #[.int .i64 a1, .int .i64 b1, .int .i64 c1, .int .i64 d1, .int .i64 k1]] W (RetV W 29 ds ok) := fun P0 cc0 W h0 => by have := i_Scale (c := cc0) (p := a1) (q := b1) (r := c1) (s := d1) (m := k1) W h0 hn0; rwa [hds, hok] at this
  have HI' := Lib.hid HI
  clear HS HI hds hok
  go_enter Try.func6, Try.ntmps6
  have HW_0 := Lib.hid (Below.refl w.heap.size w)
  go_wp2_with fail
  obtain ⟨w1, hw1⟩ : ∃ W, w.alloc (.cells #[.int .i64 a1, .int .i64 b1, .int .i64 c1, .int .i64 d1, .int .i64 k1] 54) = W := ⟨_, rfl⟩
  have hb1 : Below w.heap.size w w1 := by rw [← hw1]; exact below_alloc _ _
  have kb1 : Blk w1 w.heap.size 54 #[.int .i64 a1, .int .i64 b1, .int .i64 c1, .int .i64 d1, .int .i64 k1] := by rw [← hw1]; exact Blk.new _ _ _
  rw [hw1]
  clear hw1
  have HW_1 := Lib.hid (bl_call HW_0.out hb1)
  clear HW_0
  have Z1 := Lib.hid hb1.size
  clear hb1
  have D_1 := Lib.hid (kb1)
  clear kb1
  have LTD := Lib.hid D_1.out.lt
  refine (szS_ok _ _ _ _ _ h0 (by omega)).mono ?_
  rintro e w' ⟨rfl, rfl⟩
  go_upto_region 5 with fail
  have HB := Lib.hid (bl_drew (Below.refl w1.heap.size w1))
  have RA := Lib.hid ((HR0.out.keep HW_1.out).more HW_1.out.size)
  obtain ⟨u0, u1, u2, u3, u4, -, -, -, -, -⟩ := D_1.out.five
  have l0 := D_1.out.lt
  go_cut [6, 7] (fun s6 s7 wx => ∃ A c, s6 = .slice A ds.length c ∧ s7 = .bool ok ∧ RD wx wx.heap.size A ds.length ds ∧ Below w1.heap.size w1 wx)
  case first =>
    go_region_held3 (fun w' => w'.cell? ⟨w.heap.size, 0, none⟩ = some (.int .i64 a1) ∧ w'.cell? ⟨w.heap.size, 1, none⟩ = some (.int .i64 b1) ∧ w'.cell? ⟨w.heap.size, 2, none⟩ = some (.int .i64 c1) ∧ w'.cell? ⟨w.heap.size, 3, none⟩ = some (.int .i64 d1) ∧ w'.cell? ⟨w.heap.size, 4, none⟩ = some (.int .i64 k1)) (first | (with_reducible exact ⟨u0, u1, u2, u3, u4⟩) | go_keep) (first | (go_at_call 39; refine (toS _ _ _ es0 _ (RA.out.call HB.out) big0).mono ?_; rintro e wA ⟨rfl, hrA, hbA⟩; have RS := Lib.hid (RD.of_row hrA (Nat.le_refl _)); have u0 := (hbA.cell (p := ⟨w.heap.size, 0, none⟩) l0).trans u0; have u1 := (hbA.cell (p := ⟨w.heap.size, 1, none⟩) l0).trans u1; have u2 := (hbA.cell (p := ⟨w.heap.size, 2, none⟩) l0).trans u2; have u3 := (hbA.cell (p := ⟨w.heap.size, 3, none⟩) l0).trans u3; have u4 := (hbA.cell (p := ⟨w.heap.size, 4, none⟩) l0).trans u4; have l0 := Nat.lt_of_lt_of_le l0 hbA.size; have HB := Lib.hid (bl_call HB.out hbA); clear hbA; clear hrA) | (go_at_call 40; refine (toD _ _ _ _ _ _).mono ?_; rintro e wA ⟨rfl, hbA⟩; (try have RS := Lib.hid (RS.out.call hbA)); have u0 := (hbA.cell (p := ⟨w.heap.size, 0, none⟩) l0).trans u0; have u1 := (hbA.cell (p := ⟨w.heap.size, 1, none⟩) l0).trans u1; have u2 := (hbA.cell (p := ⟨w.heap.size, 2, none⟩) l0).trans u2; have u3 := (hbA.cell (p := ⟨w.heap.size, 3, none⟩) l0).trans u3; have u4 := (hbA.cell (p := ⟨w.heap.size, 4, none⟩) l0).trans u4; have l0 := Nat.lt_of_lt_of_le l0 hbA.size; have HB := Lib.hid (bl_call HB.out hbA); clear hbA) | (go_at_call 38; refine (HS'.out _ _ _ RS.out).mono ?_; rintro e wA ⟨AC, cC, rfl, OC0, hbA⟩; have OC := Lib.hid OC0.read; have u0 := (hbA.cell (p := ⟨w.heap.size, 0, none⟩) l0).trans u0; have u1 := (hbA.cell (p := ⟨w.heap.size, 1, none⟩) l0).trans u1; have u2 := (hbA.cell (p := ⟨w.heap.size, 2, none⟩) l0).trans u2; have u3 := (hbA.cell (p := ⟨w.heap.size, 3, none⟩) l0).trans u3; have u4 := (hbA.cell (p := ⟨w.heap.size, 4, none⟩) l0).trans u4; have l0 := Nat.lt_of_lt_of_le l0 hbA.size; have HB := Lib.hid (bl_call HB.out hbA); clear hbA; clear OC0))
    all_goals
      go_wp2_with fail
      go_meet
      exact ⟨_, _, rfl, rfl, OC.out, HB.out⟩
  case rest =>
    clear HB RA l0 u0 u1 u2 u3 u4
    obtain ⟨A2x, c2x, rfl, rfl, hW2, hbk2⟩ := hcut
    obtain ⟨w2, rfl⟩ : ∃ w2, w2 = wc := ⟨_, rfl⟩
    have HW_2 := Lib.hid (bl_call HW_1.out hbk2)
    have D_2 := Lib.hid (D_1.out.call hbk2)
    clear HW_1 D_1
    have Z2 := Lib.hid hbk2.size
    clear hbk2
    have WR := Lib.hid hW2
    clear hW2
    have V_2 := Lib.hid (Below.refl w2.heap.size w2)
    go_wp2_with fail
    refine (toS _ _ _ es0 _ ((HR0.out.keep HW_2.out).more HW_2.out.size) big0).mono ?_
    rintro e w3 ⟨rfl, hrow3, hb3⟩
    have HW_3 := Lib.hid (bl_call HW_2.out hb3)
    have D_3 := Lib.hid (D_2.out.call hb3)
    have V_3 := Lib.hid (bl_call V_2.out hb3)
    clear HW_2 D_2 V_2
    have Z3 := Lib.hid hb3.size
    clear hb3
    have LT3 := Lib.hid hrow3.lt
    have X0_3 := Lib.hid (hrow3)
    clear hrow3
    obtain ⟨u0, u1, u2, u3, u4, -, -, -, -, -⟩ := D_3.out.five
    go_wp2_with fail
    refine (toD _ _ _ _ _ _).mono ?_
    rintro e w4 ⟨rfl, hb4⟩
    have HW_4 := Lib.hid (bl_call HW_3.out hb4)
    have D_4 := Lib.hid (D_3.out.call hb4)
    have V_4 := Lib.hid (bl_call V_3.out hb4)
    have X0_4 := Lib.hid (X0_3.out.of_block (hb4.block _ X0_3.out.lt))
    clear HW_3 D_3 V_3 X0_3
    have Z4 := Lib.hid hb4.size
    clear hb4
    clear u0 u1 u2 u3 u4
    go_wp2_with fail
    refine (HI'.out _ _ _ (RD.of_row X0_4.out (Nat.le_refl _))).mono ?_
    rintro e w5 ⟨A5x, c5x, rfl, O5, hb5⟩
    have HW_5 := Lib.hid (bl_call HW_4.out hb5)
    have D_5 := Lib.hid (D_4.out.call hb5)
    have V_5 := Lib.hid (bl_call V_4.out hb5)
    have X0_5 := Lib.hid (X0_4.out.of_block (hb5.block _ X0_4.out.lt))
    clear HW_4 D_4 V_4 X0_4
    have Z5 := Lib.hid hb5.size
    clear hb5
    have G_5 := Lib.hid (O5)
    clear O5
    go_wp2_with fail
    refine (eqS _ _ _ _ _ ds _ G_5.out.read ((WR.out.keep V_5.out).more V_5.out.size) (by omega)).mono ?_
    rintro e w6 ⟨rfl, hb6⟩
    have HW_6 := Lib.hid (bl_call HW_5.out hb6)
    have D_6 := Lib.hid (D_5.out.call hb6)
    have V_6 := Lib.hid (bl_call V_5.out hb6)
    have X0_6 := Lib.hid (X0_5.out.of_block (hb6.block _ X0_5.out.lt))
    have G_6 := Lib.hid (G_5.out.call hb6)
    clear HW_5 D_5 V_5 X0_5 G_5
    have Z6 := Lib.hid hb6.size
    clear hb6
    go_wp2_with fail
    refine (toS _ _ _ es0 _ ((HR0.out.keep HW_6.out).more HW_6.out.size) big0).mono ?_
    rintro e w7 ⟨rfl, hrow7, hb7⟩
    have HW_7 := Lib.hid (bl_call HW_6.out hb7)
    have D_7 := Lib.hid (D_6.out.call hb7)
    have V_7 := Lib.hid (bl_call V_6.out hb7)
    have X0_7 := Lib.hid (X0_6.out.of_block (hb7.block _ X0_6.out.lt))
    have G_7 := Lib.hid (G_6.out.call hb7)
    clear HW_6 D_6 V_6 X0_6 G_6
    have Z7 := Lib.hid hb7.size
    clear hb7
    go_wp2_with fail
    refine (eqS _ _ _ _ _ es0 _ (RD.of_row X0_7.out (Nat.le_refl _)) (RD.of_row hrow7 (Nat.le_refl _)) big0).mono ?_
    rintro e w8 ⟨rfl, hb8⟩
    have HW_8 := Lib.hid (bl_call HW_7.out hb8)
    have D_8 := Lib.hid (D_7.out.call hb8)
    have V_8 := Lib.hid (bl_call V_7.out hb8)
    have X0_8 := Lib.hid (X0_7.out.of_block (hb8.block _ X0_7.out.lt))
    have G_8 := Lib.hid (G_7.out.call hb8)
    clear HW_7 D_7 V_7 X0_7 G_7
    have Z8 := Lib.hid hb8.size
    clear hb8
    clear hrow7
    obtain ⟨K1, hK1⟩ : ∃ K1, 1 + es0.length * 5 = K1 := ⟨_, rfl⟩
    have hKb1 : K1 ≤ 5242881 := by omega
    go_wp2_with fail
    refine (mark_row' w2.heap.size _ _ _ 1 K1 29 _ _ X0_8.out (Nat.le_refl _) hK1 (by omega)).mono ?_
    rintro e w9 ⟨rfl, hbm9, hfr9⟩
    clear X0_8
    have HW_9 := Lib.hid (HW_8.out.trans (hbm9.mono (by have := Z1.out; have := Z2.out; have := Z3.out; have := Z4.out; have := Z5.out; have := Z6.out; have := Z7.out; have := Z8.out; have := LTD.out; have := LT3.out; omega)))
    have D_9 := Lib.hid (D_8.out.below hbm9 (by have := Z1.out; have := Z2.out; have := Z3.out; have := Z4.out; have := Z5.out; have := Z6.out; have := Z7.out; have := Z8.out; have := LTD.out; have := LT3.out; omega))
    have V_9 := Lib.hid (V_8.out.trans (hbm9.mono (by have := Z1.out; have := Z2.out; have := Z3.out; have := Z4.out; have := Z5.out; have := Z6.out; have := Z7.out; have := Z8.out; have := LTD.out; have := LT3.out; omega)))
    have G_9 := Lib.hid (G_8.out.kept (fun b hb => hfr9 b (by have := Z1.out; have := Z2.out; have := Z3.out; have := Z4.out; have := Z5.out; have := Z6.out; have := Z7.out; have := Z8.out; have := LTD.out; have := LT3.out; omega)))
    clear HW_8 D_8 V_8 G_8
    have Z9 := Lib.hid hbm9.size
    clear hbm9 hfr9 hK1
    have hge : decide ((K1 : Int) < 0) = false := by first | (simp; done) | (simp; omega)
    go_wp2_with fail
    refine (eqS _ _ _ _ _ ds _ G_9.out.read ((WR.out.keep V_9.out).more V_9.out.size) (by omega)).mono ?_
    rintro e w10 ⟨rfl, hb10⟩
    have HW_10 := Lib.hid (bl_call HW_9.out hb10)
    have D_10 := Lib.hid (D_9.out.call hb10)
    have V_10 := Lib.hid (bl_call V_9.out hb10)
    have G_10 := Lib.hid (G_9.out.call hb10)
    clear HW_9 D_9 V_9 G_9
    have Z10 := Lib.hid hb10.size
    clear hb10
    obtain ⟨KM, hKM⟩ : ∃ KM, 1 + ds.length * 5 = KM := ⟨_, rfl⟩
    have hKm : KM ≤ 81 := by omega
    go_wp2_with fail
    refine (mark_any' _ _ _ 1 KM w4.heap.size 29 ds _ G_10.out rfl hKM (by omega)).mono ?_
    rintro e w11 ⟨rfl, O11, hbm11⟩
    clear G_10
    have HW_11 := Lib.hid (HW_10.out.trans (hbm11.mono (by have := Z1.out; have := Z2.out; have := Z3.out; have := Z4.out; have := Z5.out; have := Z6.out; have := Z7.out; have := Z8.out; have := Z9.out; have := Z10.out; have := LTD.out; have := LT3.out; omega)))
    have D_11 := Lib.hid (D_10.out.below hbm11 (by have := Z1.out; have := Z2.out; have := Z3.out; have := Z4.out; have := Z5.out; have := Z6.out; have := Z7.out; have := Z8.out; have := Z9.out; have := Z10.out; have := LTD.out; have := LT3.out; omega))
    have V_11 := Lib.hid (V_10.out.trans (hbm11.mono (by have := Z1.out; have := Z2.out; have := Z3.out; have := Z4.out; have := Z5.out; have := Z6.out; have := Z7.out; have := Z8.out; have := Z9.out; have := Z10.out; have := LTD.out; have := LT3.out; omega)))
    clear HW_10 D_10 V_10
    have Z11 := Lib.hid hbm11.size
    clear hbm11
    have H_11 := Lib.hid (O11)
    clear O11
    have hgm : decide ((KM : Int) < 0) = false := by first | (simp; done) | (simp; omega)
    go_wp2_with fail
    refine (held_any' _ _ _ 1 KM w4.heap.size 29 _ H_11.out hKM (by omega)).mono ?_
    rintro e w' ⟨rfl, rfl⟩
    go_upto_region 24 with fail
    have HB := Lib.hid (bl_drew (Below.refl w11.heap.size w11))
    have RA := Lib.hid ((HR0.out.keep HW_11.out).more HW_11.out.size)
    obtain ⟨u0, u1, u2, u3, u4, -, -, -, -, -⟩ := D_11.out.five
    have l0 := D_11.out.lt
    go_cut [14, 15] (fun s14 s15 wx => ∃ A c, s14 = .slice A ds.length c ∧ s15 = .bool ok ∧ RD wx wx.heap.size A ds.length ds ∧ Below w11.heap.size w11 wx)
    case first =>
      go_region_held3 (fun w' => w'.cell? ⟨w.heap.size, 0, none⟩ = some (.int .i64 a1) ∧ w'.cell? ⟨w.heap.size, 1, none⟩ = some (.int .i64 b1) ∧ w'.cell? ⟨w.heap.size, 2, none⟩ = some (.int .i64 c1) ∧ w'.cell? ⟨w.heap.size, 3, none⟩ = some (.int .i64 d1) ∧ w'.cell? ⟨w.heap.size, 4, none⟩ = some (.int .i64 k1)) (first | (with_reducible exact ⟨u0, u1, u2, u3, u4⟩) | go_keep) (first | (go_at_call 39; refine (toS _ _ _ es0 _ (RA.out.call HB.out) big0).mono ?_; rintro e wA ⟨rfl, hrA, hbA⟩; have RS := Lib.hid (RD.of_row hrA (Nat.le_refl _)); have u0 := (hbA.cell (p := ⟨w.heap.size, 0, none⟩) l0).trans u0; have u1 := (hbA.cell (p := ⟨w.heap.size, 1, none⟩) l0).trans u1; have u2 := (hbA.cell (p := ⟨w.heap.size, 2, none⟩) l0).trans u2; have u3 := (hbA.cell (p := ⟨w.heap.size, 3, none⟩) l0).trans u3; have u4 := (hbA.cell (p := ⟨w.heap.size, 4, none⟩) l0).trans u4; have l0 := Nat.lt_of_lt_of_le l0 hbA.size; have HB := Lib.hid (bl_call HB.out hbA); clear hbA; clear hrA) | (go_at_call 40; refine (toD _ _ _ _ _ _).mono ?_; rintro e wA ⟨rfl, hbA⟩; (try have RS := Lib.hid (RS.out.call hbA)); have u0 := (hbA.cell (p := ⟨w.heap.size, 0, none⟩) l0).trans u0; have u1 := (hbA.cell (p := ⟨w.heap.size, 1, none⟩) l0).trans u1; have u2 := (hbA.cell (p := ⟨w.heap.size, 2, none⟩) l0).trans u2; have u3 := (hbA.cell (p := ⟨w.heap.size, 3, none⟩) l0).trans u3; have u4 := (hbA.cell (p := ⟨w.heap.size, 4, none⟩) l0).trans u4; have l0 := Nat.lt_of_lt_of_le l0 hbA.size; have HB := Lib.hid (bl_call HB.out hbA); clear hbA) | (go_at_call 41; refine (HI'.out _ _ _ RS.out).mono ?_; rintro e wA ⟨AC, cC, rfl, OC0, hbA⟩; have OC := Lib.hid OC0.read; have u0 := (hbA.cell (p := ⟨w.heap.size, 0, none⟩) l0).trans u0; have u1 := (hbA.cell (p := ⟨w.heap.size, 1, none⟩) l0).trans u1; have u2 := (hbA.cell (p := ⟨w.heap.size, 2, none⟩) l0).trans u2; have u3 := (hbA.cell (p := ⟨w.heap.size, 3, none⟩) l0).trans u3; have u4 := (hbA.cell (p := ⟨w.heap.size, 4, none⟩) l0).trans u4; have l0 := Nat.lt_of_lt_of_le l0 hbA.size; have HB := Lib.hid (bl_call HB.out hbA); clear hbA; clear OC0))
      all_goals
        go_wp2_with fail
        go_meet
        exact ⟨_, _, rfl, rfl, OC.out, HB.out⟩
    case rest =>
      clear HB RA l0 u0 u1 u2 u3 u4
      obtain ⟨A12x, c12x, rfl, rfl, hW12, hbk12⟩ := hcut
      obtain ⟨w12, rfl⟩ : ∃ w12, w12 = wc := ⟨_, rfl⟩
      have HW_12 := Lib.hid (bl_call HW_11.out hbk12)
      have D_12 := Lib.hid (D_11.out.call hbk12)
      have V_12 := Lib.hid (bl_call V_11.out hbk12)
      have H_12 := Lib.hid (H_11.out.call hbk12)
      clear HW_11 D_11 V_11 H_11
      have Z12 := Lib.hid hbk12.size
      clear hbk12
      have WH := Lib.hid hW12
      clear hW12
      go_wp2_with fail
      refine (eqS _ _ _ _ _ ds _ WH.out ((WR.out.keep V_12.out).more V_12.out.size) (by omega)).mono ?_
      rintro e w13 ⟨rfl, hb13⟩
      have HW_13 := Lib.hid (bl_call HW_12.out hb13)
      have D_13 := Lib.hid (D_12.out.call hb13)
      have V_13 := Lib.hid (bl_call V_12.out hb13)
      have H_13 := Lib.hid (H_12.out.call hb13)
      clear HW_12 D_12 V_12 H_12
      have Z13 := Lib.hid hb13.size
      clear hb13
      clear WH
      go_wp2_with fail
      refine (held_any' _ _ _ 1 KM w4.heap.size 29 _ H_13.out hKM (by omega)).mono ?_
      rintro e w' ⟨rfl, rfl⟩
      go_wp2
      go_ret
      exact ret_mk HW_13.out

set_option maxRecDepth 100000 in
theorem lifted (os : Os) (started : os.Started) (H : Type) (enc : TypeId × Value → H) :
    ReturnsInHanded {} Try.checked os 6 .any (Rows.fnExactScaleStateSpec.pre6 enc Try.prog Try.f6 Rows.fnExactScaleStateRow.domain false) (Rows.fnExactScaleStateSpec.post enc Try.prog Try.f6 false true false false) := by
  refine returnsInHanded_of_change (C := Try.checked) own started (by kernel_rfl) Try.func6
    (ChangeSpec.witness6 (enc := enc) (C := Try.checked) false ⟨#[], #[.slice none 0 0, .agg #[.int .i64 0, .int .i64 0, .int .i64 0, .int .i64 0, .int .i64 0]], []⟩ 8 (by kernel_rfl) (by kernel_rfl) (by kernel_rfl) (by kernel_rfl)) ?_
  intro W base args ds gs before hval0 hW hcnd _
  have hval : ∀ (j : Nat) t v, Try.f6.params[j]? = some t → args[j]? = some v → Value.okWide Try.prog W .any base t v := hval0
  have hW' := hW
  obtain ⟨p, q, hA0, hV, rfl, hfz, hnd⟩ := hW
  have hA : DataW.TrodAll enc Try.prog W 0 (fun _ => true) true Try.f6.params.toList args.toList ds p := hA0
  rw [Try.params6] at hA hval
  obtain ⟨v0, vs0, d0, ds0, p0, q0, hargs, rfl, rfl, h0, r0⟩ := trodAll_cons hA
  obtain ⟨v1, vs1, d1, ds1, p1, q1, rfl, rfl, rfl, h1, r1⟩ := trodAll_cons r0
  obtain ⟨rfl, rfl, rfl⟩ := trodAll_nil r1
  obtain rfl : args = #[v0, v1] := by cases args; simp_all
  obtain ⟨rfl, rfl⟩ := trodVars_none hV
  have kk0 := h0
  have lt0 : ∀ x ∈ p0, x.block < W.heap.size := by obtain ⟨m, hm⟩ := kk0; exact DataW.trod_lt m _ _ _ hm
  obtain ⟨A0, n0, cp0, es0, rfl, hR0, hi0, hn0⟩ := open_S (hval 0 51 v0 rfl rfl) h0
  have kk1 := h1
  have lt1 : ∀ x ∈ p1, x.block < W.heap.size := by obtain ⟨m, hm⟩ := kk1; exact DataW.trod_lt m _ _ _ hm
  obtain ⟨a1, b1, c1, d1, k1, rfl, fa1, fb1, fc1, fd1, fk1⟩ := open_D (hval 1 54 v1 rfl rfl) h1
  clear hA0 hval0
  refine (walk A0 n0 cp0 es0 a1 b1 c1 d1 k1 W hR0 hi0 hn0 fa1 fb1 fc1 fd1 fk1).mono fun e W' ⟨he, bel⟩ => ?_
  subst he
  exact ⟨_, rfl, _, _, _, [], _, [], hW', trodAll_mk1 (shut_bool Try.underlying4 _), (trodAll_cons_mk (Below.trod laidOut (by kernel_rfl) (of_decide_eq_true (by kernel_rfl)) kk0 bel lt0) (trodAll_cons_mk (Below.trod laidOut (by kernel_rfl) (of_decide_eq_true (by kernel_rfl)) kk1 bel lt1) trodAll_mk0)), rfl, bel.frame _, fun h => by cases h⟩

theorem over : Rows.fnExactScaleStateRow.holds Try.pinned (OpenSpec.ofChange Rows.fnExactScaleStateSpec) :=
  OpenClaim.holds_of_wide 6 Try.f6 rfl rfl rfl rfl rfl rfl rfl ⟨rfl, rfl, rfl, rfl, rfl⟩ rfl rfl rfl rfl rfl (by kernel_rfl) Try.func6 (by kernel_rfl)
    (of_decide_eq_true (by kernel_rfl)) (by unfold Func.isWrapper; first | (rw [if_pos (by decide +kernel)]; kernel_rfl) | (rw [if_neg (by decide +kernel)]; exact ⟨rfl, rfl⟩))
    (fun os started H enc _ => lifted os started H enc)

theorem proved : Rows.FnExactScaleStateSaid := over
end Go.Proofs.Ytaokfppadfoniaa.fnExactScaleState
