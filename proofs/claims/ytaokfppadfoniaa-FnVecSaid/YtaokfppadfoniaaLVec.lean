/-
  Proved: for every input the Go function FnVec returns true (the program's function returns what the reference's returns), and its arguments read as before.
  Conditions: none beyond the given statement.
-/
import Derived.Test.YtaokfppadfoniaaCloseB
import Derived.Deep.RegionHeld3
import Derived.Test.YtaokfppadfoniaaVc5
import Derived.Test.YtaokfppadfoniaaVec2
import Derived.Test.YtaokfppadfoniaaDV2
import Derived.Test.YtaokfppadfoniaaEq
import Derived.Test.YtaokfppadfoniaaOwn
import Derived.Test.YtaokfppadfoniaaQt
namespace Go.Proofs.Ytaokfppadfoniaa.fnVec
open Go.Proofs.Ytaokfppadfoniaa
open Go.ChangeShapes Go.WideShapes Go.ChangeAt Go.RowKit
set_option linter.unusedVariables false
attribute [local go_sem ↓ high] eqlD neqD
set_option maxRecDepth 20000

set_option maxHeartbeats 2000000 in
theorem walk (A0 : Option Addr) (n0 cp0 : Nat) (w : World) (hR0 : RB w w.heap.size A0 n0) (hn0 : n0 ≤ 9223372036854775807) (hc0 : n0 ≤ cp0) :
    Calls Try.prog 11 #[.slice A0 n0 cp0] w (Ret (.bool true) w) := by
  by_cases hbig : n0 ≤ 1048576
  rotate_left
  · go_enter Try.func11, Try.ntmps11
    go_wp2_with fail
    refine (l_big_t _ _ _ _ (by omega)).mono ?_
    rintro e w' ⟨rfl, rfl⟩
    go_wp2
    go_ret
    exact ret_mk (Below.refl _ _)
  have HR := Lib.hid hR0
  clear hR0
  go_enter Try.func11, Try.ntmps11
  go_wp2_with fail
  refine (l_big_f _ _ _ _ hbig).mono ?_
  rintro e w' ⟨rfl, rfl⟩
  go_wp2_with fail
  refine (d_DrawAddS A0 n0 cp0 _ HR.out hn0).mono ?_
  rintro e w1 ⟨Au, cu, us, Av, cv, vs, rfl, hlu, hlv, hRu, hRv, hb1⟩
  have HW_1 := Lib.hid (bl_call (Below.refl w.heap.size w) hb1)
  have Z1 := Lib.hid hb1.size
  clear hb1
  have U_1 := Lib.hid (hRu)
  have V_1 := Lib.hid (hRv)
  clear hRu hRv
  obtain ⟨ds, hds⟩ : ∃ ds, (addV us vs).getD [] = ds := ⟨_, rfl⟩
  obtain ⟨ok, hok⟩ : ∃ ok, (addV us vs).isSome = ok := ⟨_, rfl⟩
  have hdl : ds.length ≤ 16 := by rw [← hds]; exact addV_le _ _
  have hHA : ∀ (A B : Option Addr) (c d : Nat) W, RD W W.heap.size A us.length us → RD W W.heap.size B vs.length vs → Calls Try.prog 46 #[.slice A us.length c, .slice B vs.length d] W (RetV W 29 ds ok) := fun A B c d W h1 h2 => by have := i_AddS (c := c) (c' := d) W h1 h2 (by omega) (by omega); rwa [hds, hok] at this
  have HA := Lib.hid hHA
  clear hHA
  have hHB : ∀ (A B : Option Addr) (c d : Nat) W, RD W W.heap.size A vs.length vs → RD W W.heap.size B us.length us → Calls Try.prog 46 #[.slice A vs.length c, .slice B us.length d] W (RetV W 29 ds ok) := fun A B c d W h1 h2 => by have := i_AddS (c := c) (c' := d) W h1 h2 (by omega) (by omega); rw [addV_cm] at this; rwa [hds, hok] at this
  have HB := Lib.hid hHB
  clear hHB
  have hHC : ∀ (A B : Option Addr) (c d : Nat) W, RD W W.heap.size A us.length us → RD W W.heap.size B vs.length vs → Calls Try.prog 45 #[.slice A us.length c, .slice B vs.length d] W (RetV W 29 ds ok) := fun A B c d W h1 h2 => by have := s_AddS (c := c) (c' := d) W h1 h2 (by omega) (by omega); rwa [hds, hok] at this
  have HC := Lib.hid hHC
  clear hHC
  clear hds hok
  obtain ⟨x, y, z, t, m, k1, hI1, hT1, -⟩ := outV_parts (innerD us vs)
  obtain ⟨p, q, r, s, l, k2, hI2, hT2, -⟩ := outV_parts (innerD vs us)
  have hHE : k1 = true → k2 = true → okd ⟨⟨x, y, z, t⟩, m⟩ = true ∧ eqDb x (-t) (-z) (-y) m p q r s l = true := fun e1 e2 => by obtain ⟨h1, h2⟩ := inner_sym (hT1 e1) (hT2 e2); refine ⟨h2, ?_⟩; rw [eqDb_iff]; simp only [dconj, zconj, DW.mk.injEq, ZO.mk.injEq] at h1; obtain ⟨⟨rfl, rfl, rfl, rfl⟩, rfl⟩ := h1; exact ⟨rfl, rfl, rfl, rfl, rfl⟩
  have HE := Lib.hid hHE
  clear hHE
  have hIA : ∀ (A B : Option Addr) (c d : Nat) W, RD W W.heap.size A us.length us → RD W W.heap.size B vs.length vs → Calls Try.prog 32 #[.slice A us.length c, .slice B vs.length d] W (Ret (.tuple #[.agg #[.int .i64 x, .int .i64 y, .int .i64 z, .int .i64 t, .int .i64 m], .bool k1]) W) := fun A B c d W h1 h2 => by have := i_Inner (c := c) (c' := d) W h1 h2 (by omega) (by omega); rwa [hI1] at this
  have IA := Lib.hid hIA
  clear hIA
  have hIB : ∀ (A B : Option Addr) (c d : Nat) W, RD W W.heap.size A vs.length vs → RD W W.heap.size B us.length us → Calls Try.prog 32 #[.slice A vs.length c, .slice B us.length d] W (Ret (.tuple #[.agg #[.int .i64 p, .int .i64 q, .int .i64 r, .int .i64 s, .int .i64 l], .bool k2]) W) := fun A B c d W h1 h2 => by have := i_Inner (c := c) (c' := d) W h1 h2 (by omega) (by omega); rwa [hI2] at this
  have IB := Lib.hid hIB
  clear hIB
  have hIC : ∀ (A B : Option Addr) (c d : Nat) W, RD W W.heap.size A us.length us → RD W W.heap.size B vs.length vs → Calls Try.prog 47 #[.slice A us.length c, .slice B vs.length d] W (Ret (.tuple #[.agg #[.int .i64 x, .int .i64 y, .int .i64 z, .int .i64 t, .int .i64 m], .bool k1]) W) := fun A B c d W h1 h2 => by have := s_Inner (c := c) (c' := d) W h1 h2 (by omega) (by omega); rwa [hI1] at this
  have IC := Lib.hid hIC
  clear hIC
  clear hI1 hI2 hT1 hT2
  go_wp2_with fail
  refine (HA.out _ _ _ _ _ U_1.out V_1.out).mono ?_
  rintro e w2 ⟨A2, c2, rfl, O2, hb2⟩
  have HW_2 := Lib.hid (bl_call HW_1.out hb2)
  have U_2 := Lib.hid (U_1.out.call hb2)
  have V_2 := Lib.hid (V_1.out.call hb2)
  clear HW_1 U_1 V_1
  have Z2 := Lib.hid hb2.size
  clear hb2
  have S_2 := Lib.hid (O2.read)
  clear O2
  go_wp2_with fail
  refine (HB.out _ _ _ _ _ V_2.out U_2.out).mono ?_
  rintro e w3 ⟨A3, c3, rfl, O3, hb3⟩
  have HW_3 := Lib.hid (bl_call HW_2.out hb3)
  have U_3 := Lib.hid (U_2.out.call hb3)
  have V_3 := Lib.hid (V_2.out.call hb3)
  have S_3 := Lib.hid (S_2.out.call hb3)
  clear HW_2 U_2 V_2 S_2
  have Z3 := Lib.hid hb3.size
  clear hb3
  have T_3 := Lib.hid (O3.read)
  clear O3
  go_wp2_with fail
  refine (HC.out _ _ _ _ _ U_3.out V_3.out).mono ?_
  rintro e w4 ⟨A4, c4, rfl, O4, hb4⟩
  have HW_4 := Lib.hid (bl_call HW_3.out hb4)
  have U_4 := Lib.hid (U_3.out.call hb4)
  have V_4 := Lib.hid (V_3.out.call hb4)
  have S_4 := Lib.hid (S_3.out.call hb4)
  have T_4 := Lib.hid (T_3.out.call hb4)
  clear HW_3 U_3 V_3 S_3 T_3
  have Z4 := Lib.hid hb4.size
  clear hb4
  clear O4
  go_wp2_with fail
  refine (s_same _ _ _ _ _ _ ds ds true _ (by simp) S_4.out T_4.out (by omega) (by omega)).mono ?_
  rintro e w5 ⟨rfl, hb5⟩
  have HW_5 := Lib.hid (bl_call HW_4.out hb5)
  have U_5 := Lib.hid (U_4.out.call hb5)
  have V_5 := Lib.hid (V_4.out.call hb5)
  have S_5 := Lib.hid (S_4.out.call hb5)
  have T_5 := Lib.hid (T_4.out.call hb5)
  clear HW_4 U_4 V_4 S_4 T_4
  have Z5 := Lib.hid hb5.size
  clear hb5
  clear S_5
  clear T_5
  go_wp2_with fail
  refine (IA.out _ _ _ _ _ U_5.out V_5.out).mono ?_
  rintro e w6 ⟨rfl, hb6⟩
  have HW_6 := Lib.hid (bl_call HW_5.out hb6)
  have U_6 := Lib.hid (U_5.out.call hb6)
  have V_6 := Lib.hid (V_5.out.call hb6)
  clear HW_5 U_5 V_5
  have Z6 := Lib.hid hb6.size
  clear hb6
  go_wp2_with fail
  obtain ⟨w7, hw7⟩ : ∃ W, w6.alloc (.cells #[.int .i64 x, .int .i64 y, .int .i64 z, .int .i64 t, .int .i64 m] 29) = W := ⟨_, rfl⟩
  have hb7 : Below w6.heap.size w6 w7 := by rw [← hw7]; exact below_alloc _ _
  have kb7 : Blk w7 w6.heap.size 29 #[.int .i64 x, .int .i64 y, .int .i64 z, .int .i64 t, .int .i64 m] := by rw [← hw7]; exact Blk.new _ _ _
  rw [hw7]
  clear hw7
  have HW_7 := Lib.hid (bl_call HW_6.out hb7)
  have U_7 := Lib.hid (U_6.out.call hb7)
  have V_7 := Lib.hid (V_6.out.call hb7)
  clear HW_6 U_6 V_6
  have Z7 := Lib.hid hb7.size
  clear hb7
  have X_7 := Lib.hid (kb7)
  clear kb7
  refine (IB.out _ _ _ _ _ V_7.out U_7.out).mono ?_
  rintro e w8 ⟨rfl, hb8⟩
  have HW_8 := Lib.hid (bl_call HW_7.out hb8)
  have U_8 := Lib.hid (U_7.out.call hb8)
  have V_8 := Lib.hid (V_7.out.call hb8)
  have X_8 := Lib.hid (X_7.out.call hb8)
  clear HW_7 U_7 V_7 X_7
  have Z8 := Lib.hid hb8.size
  clear hb8
  go_wp2_with fail
  obtain ⟨w9, hw9⟩ : ∃ W, w8.alloc (.cells #[.int .i64 p, .int .i64 q, .int .i64 r, .int .i64 s, .int .i64 l] 29) = W := ⟨_, rfl⟩
  have hb9 : Below w8.heap.size w8 w9 := by rw [← hw9]; exact below_alloc _ _
  have kb9 : Blk w9 w8.heap.size 29 #[.int .i64 p, .int .i64 q, .int .i64 r, .int .i64 s, .int .i64 l] := by rw [← hw9]; exact Blk.new _ _ _
  rw [hw9]
  clear hw9
  have HW_9 := Lib.hid (bl_call HW_8.out hb9)
  have U_9 := Lib.hid (U_8.out.call hb9)
  have V_9 := Lib.hid (V_8.out.call hb9)
  have X_9 := Lib.hid (X_8.out.call hb9)
  clear HW_8 U_8 V_8 X_8
  have Z9 := Lib.hid hb9.size
  clear hb9
  have Y_9 := Lib.hid (kb9)
  clear kb9
  refine (IC.out _ _ _ _ _ U_9.out V_9.out).mono ?_
  rintro e w10 ⟨rfl, hb10⟩
  have HW_10 := Lib.hid (bl_call HW_9.out hb10)
  have U_10 := Lib.hid (U_9.out.call hb10)
  have V_10 := Lib.hid (V_9.out.call hb10)
  have X_10 := Lib.hid (X_9.out.call hb10)
  have Y_10 := Lib.hid (Y_9.out.call hb10)
  clear HW_9 U_9 V_9 X_9 Y_9
  have Z10 := Lib.hid hb10.size
  clear hb10
  clear U_10
  clear V_10
  cases k1
  · go_upto_region 12 with fail
    obtain ⟨w11, hw11⟩ : ∃ W, w10.alloc (.cells #[.int .i64 x, .int .i64 y, .int .i64 z, .int .i64 t, .int .i64 m] 29) = W := ⟨_, rfl⟩
    have hb11 : Below w10.heap.size w10 w11 := by rw [← hw11]; exact below_alloc _ _
    have kb11 : Blk w11 w10.heap.size 29 #[.int .i64 x, .int .i64 y, .int .i64 z, .int .i64 t, .int .i64 m] := by rw [← hw11]; exact Blk.new _ _ _
    rw [hw11]
    clear hw11
    have HW_11 := Lib.hid (bl_call HW_10.out hb11)
    have X_11 := Lib.hid (X_10.out.call hb11)
    have Y_11 := Lib.hid (Y_10.out.call hb11)
    clear HW_10 X_10 Y_10
    have Z11 := Lib.hid hb11.size
    clear hb11
    have Z_11 := Lib.hid (kb11)
    clear kb11
    obtain ⟨u00, u01, u02, u03, u04, -, -, -, -, -⟩ := X_11.out.five
    have v0 := X_11.out.lt
    obtain ⟨u10, u11, u12, u13, u14, -, -, -, -, -⟩ := Y_11.out.five
    have v1 := Y_11.out.lt
    have hw := HW_11.out
    go_quiet (fail)
    go_wp2
    go_ret
    refine ret_eq (by simp) (bl_drewN hw _)
  cases k2
  · go_upto_region 12 with fail
    obtain ⟨w11, hw11⟩ : ∃ W, w10.alloc (.cells #[.int .i64 x, .int .i64 y, .int .i64 z, .int .i64 t, .int .i64 m] 29) = W := ⟨_, rfl⟩
    have hb11 : Below w10.heap.size w10 w11 := by rw [← hw11]; exact below_alloc _ _
    have kb11 : Blk w11 w10.heap.size 29 #[.int .i64 x, .int .i64 y, .int .i64 z, .int .i64 t, .int .i64 m] := by rw [← hw11]; exact Blk.new _ _ _
    rw [hw11]
    clear hw11
    have HW_11 := Lib.hid (bl_call HW_10.out hb11)
    have X_11 := Lib.hid (X_10.out.call hb11)
    have Y_11 := Lib.hid (Y_10.out.call hb11)
    clear HW_10 X_10 Y_10
    have Z11 := Lib.hid hb11.size
    clear hb11
    have Z_11 := Lib.hid (kb11)
    clear kb11
    obtain ⟨u00, u01, u02, u03, u04, -, -, -, -, -⟩ := X_11.out.five
    have v0 := X_11.out.lt
    obtain ⟨u10, u11, u12, u13, u14, -, -, -, -, -⟩ := Y_11.out.five
    have v1 := Y_11.out.lt
    have hw := HW_11.out
    go_quiet (fail)
    go_wp2
    go_ret
    refine ret_eq (by simp) (bl_drewN hw _)
  obtain ⟨hokx, hee⟩ := HE.out rfl rfl
  go_upto_region 12 with fail
  obtain ⟨w11, hw11⟩ : ∃ W, w10.alloc (.cells #[.int .i64 x, .int .i64 y, .int .i64 z, .int .i64 t, .int .i64 m] 29) = W := ⟨_, rfl⟩
  have hb11 : Below w10.heap.size w10 w11 := by rw [← hw11]; exact below_alloc _ _
  have kb11 : Blk w11 w10.heap.size 29 #[.int .i64 x, .int .i64 y, .int .i64 z, .int .i64 t, .int .i64 m] := by rw [← hw11]; exact Blk.new _ _ _
  rw [hw11]
  clear hw11
  have HW_11 := Lib.hid (bl_call HW_10.out hb11)
  have X_11 := Lib.hid (X_10.out.call hb11)
  have Y_11 := Lib.hid (Y_10.out.call hb11)
  clear HW_10 X_10 Y_10
  have Z11 := Lib.hid hb11.size
  clear hb11
  have Z_11 := Lib.hid (kb11)
  clear kb11
  obtain ⟨u00, u01, u02, u03, u04, -, -, -, -, -⟩ := X_11.out.five
  have v0 := X_11.out.lt
  obtain ⟨u10, u11, u12, u13, u14, -, -, -, -, -⟩ := Y_11.out.five
  have v1 := Y_11.out.lt
  have hw := HW_11.out
  go_region_held3 (fun w' => w'.cell? ⟨w6.heap.size, 0, none⟩ = some (.int .i64 x) ∧ w'.cell? ⟨w6.heap.size, 1, none⟩ = some (.int .i64 y) ∧ w'.cell? ⟨w6.heap.size, 2, none⟩ = some (.int .i64 z) ∧ w'.cell? ⟨w6.heap.size, 3, none⟩ = some (.int .i64 t) ∧ w'.cell? ⟨w6.heap.size, 4, none⟩ = some (.int .i64 m) ∧ w'.cell? ⟨w8.heap.size, 0, none⟩ = some (.int .i64 p) ∧ w'.cell? ⟨w8.heap.size, 1, none⟩ = some (.int .i64 q) ∧ w'.cell? ⟨w8.heap.size, 2, none⟩ = some (.int .i64 r) ∧ w'.cell? ⟨w8.heap.size, 3, none⟩ = some (.int .i64 s) ∧ w'.cell? ⟨w8.heap.size, 4, none⟩ = some (.int .i64 l)) (first | (with_reducible exact ⟨u00, u01, u02, u03, u04, u10, u11, u12, u13, u14⟩) | go_keep) (first | (go_at_call 56; refine (i_ConjD_t _ hokx).mono ?_; rintro e wA ⟨rfl, hbA⟩; (first | have hw := bl_call hw hbA | have hw := bl_call (bl_drew hw) hbA); have u00 := (hbA.cell (p := ⟨w6.heap.size, 0, none⟩) v0).trans u00; have u01 := (hbA.cell (p := ⟨w6.heap.size, 1, none⟩) v0).trans u01; have u02 := (hbA.cell (p := ⟨w6.heap.size, 2, none⟩) v0).trans u02; have u03 := (hbA.cell (p := ⟨w6.heap.size, 3, none⟩) v0).trans u03; have u04 := (hbA.cell (p := ⟨w6.heap.size, 4, none⟩) v0).trans u04; have u10 := (hbA.cell (p := ⟨w8.heap.size, 0, none⟩) v1).trans u10; have u11 := (hbA.cell (p := ⟨w8.heap.size, 1, none⟩) v1).trans u11; have u12 := (hbA.cell (p := ⟨w8.heap.size, 2, none⟩) v1).trans u12; have u13 := (hbA.cell (p := ⟨w8.heap.size, 3, none⟩) v1).trans u13; have u14 := (hbA.cell (p := ⟨w8.heap.size, 4, none⟩) v1).trans u14; have v0 := Nat.lt_of_lt_of_le v0 hbA.size; have v1 := Nat.lt_of_lt_of_le v1 hbA.size; clear hbA))
  all_goals
    go_wp2
    go_ret
    refine ret_eq (by simp) ?_
    repeat (first | (with_reducible exact Below.refl _ _) | (with_reducible assumption) | (with_reducible refine bl_alloc ?_ _) | (with_reducible refine bl_drew ?_) | (with_reducible refine bl_set ?_ (by simp <;> omega) _) | (with_reducible refine bl_call ?_ (by assumption)))

set_option maxRecDepth 100000 in
theorem lifted (os : Os) (started : os.Started) (H : Type) (enc : TypeId × Value → H) :
    ReturnsInHanded {} Try.checked os 11 .any (Rows.fnVecSpec.pre6 enc Try.prog Try.f11 Rows.fnVecRow.domain false) (Rows.fnVecSpec.post enc Try.prog Try.f11 false true false false) := by
  refine returnsInHanded_of_change (C := Try.checked) own started (by kernel_rfl) Try.func11
    (ChangeSpec.witness6 (enc := enc) (C := Try.checked) false ⟨#[], #[.slice none 0 0], []⟩ 8 (by kernel_rfl) (by kernel_rfl) (by kernel_rfl) (by kernel_rfl)) ?_
  intro W base args ds gs before hval0 hW hcnd _
  have hval : ∀ (j : Nat) t v, Try.f11.params[j]? = some t → args[j]? = some v → Value.okWide Try.prog W .any base t v := hval0
  have hW' := hW
  obtain ⟨p, q, hA0, hV, rfl, hfz, hnd⟩ := hW
  have hA : DataW.TrodAll enc Try.prog W 0 (fun _ => true) true Try.f11.params.toList args.toList ds p := hA0
  rw [Try.params11] at hA hval
  obtain ⟨v0, vs0, d0, ds0, p0, q0, hargs, rfl, rfl, h0, r0⟩ := trodAll_cons hA
  obtain ⟨rfl, rfl, rfl⟩ := trodAll_nil r0
  obtain rfl : args = #[v0] := by cases args; simp_all
  obtain ⟨rfl, rfl⟩ := trodVars_none hV
  have kk0 := h0
  have lt0 : ∀ x ∈ p0, x.block < W.heap.size := by obtain ⟨m, hm⟩ := kk0; exact DataW.trod_lt m _ _ _ hm
  obtain ⟨A0, n0, cp0, rfl, hR0, hn0, hc0⟩ := open_B (hval 0 22 v0 rfl rfl) h0
  clear hA0 hval0
  refine (walk A0 n0 cp0 W hR0 hn0 hc0).mono fun e W' ⟨he, bel⟩ => ?_
  subst he
  exact ⟨_, rfl, _, _, _, [], _, [], hW', trodAll_mk1 (shut_bool Try.underlying4 _), (trodAll_cons_mk (Below.trod laidOut (by kernel_rfl) (of_decide_eq_true (by kernel_rfl)) kk0 bel lt0) trodAll_mk0), rfl, bel.frame _, fun h => by cases h⟩

theorem over : Rows.fnVecRow.holds Try.pinned (OpenSpec.ofChange Rows.fnVecSpec) :=
  OpenClaim.holds_of_wide 11 Try.f11 rfl rfl rfl rfl rfl rfl rfl ⟨rfl, rfl, rfl, rfl, rfl⟩ rfl rfl rfl rfl rfl (by kernel_rfl) Try.func11 (by kernel_rfl)
    (of_decide_eq_true (by kernel_rfl)) (by unfold Func.isWrapper; first | (rw [if_pos (by decide +kernel)]; kernel_rfl) | (rw [if_neg (by decide +kernel)]; exact ⟨rfl, rfl⟩))
    (fun os started H enc _ => lifted os started H enc)

theorem proved : Rows.FnVecSaid := over
end Go.Proofs.Ytaokfppadfoniaa.fnVec
