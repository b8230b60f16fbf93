/-
  Proved: for every input the Go function FnExactGlobalPhase returns true (the program's function returns what the reference's returns), and its arguments read as before.
  Conditions: none beyond the given statement.
-/
import Derived.Test.YtaokfppadfoniaaCloseM
import Derived.Deep.RegionHeld3
import Derived.Test.YtaokfppadfoniaaGp
import Derived.Test.YtaokfppadfoniaaMk
namespace Go.Proofs.Ytaokfppadfoniaa.fnExactGlobalPhase
open Go.Proofs.Ytaokfppadfoniaa
open Go.ChangeShapes Go.WideShapes Go.ChangeAt Go.RowKit
set_option linter.unusedVariables false

set_option maxHeartbeats 2000000 in
theorem walk (A0 : Option Addr) (n0 cp0 : Nat) (rs0 : List (List DW)) (A1 : Option Addr) (n1 cp1 : Nat) (rs1 : List (List DW)) (w : World) (hR0 : RM w w.heap.size A0 n0 rs0) (hl0 : ∀ r ∈ rs0, r.length ≤ 9223372036854775807) (hi0 : ∀ r ∈ rs0, ∀ d ∈ r, inr d.n.a ∧ inr d.n.b ∧ inr d.n.c ∧ inr d.n.d ∧ inr d.k) (hn0 : n0 ≤ 9223372036854775807) (hR1 : RM w w.heap.size A1 n1 rs1) (hl1 : ∀ r ∈ rs1, r.length ≤ 9223372036854775807) (hi1 : ∀ r ∈ rs1, ∀ d ∈ r, inr d.n.a ∧ inr d.n.b ∧ inr d.n.c ∧ inr d.n.d ∧ inr d.k) (hn1 : n1 ≤ 9223372036854775807) :
    Calls Try.prog 10 #[.slice A0 n0 cp0, .slice A1 n1 cp1] w (Ret (.bool true) w) := by
  obtain rfl : n0 = rs0.length := hR0.1
  have HR0 := Lib.hid hR0
  have HL0 := Lib.hid hl0
  clear hR0 hi0 hl0
  obtain rfl : n1 = rs1.length := hR1.1
  have HR1 := Lib.hid hR1
  have HL1 := Lib.hid hl1
  clear hR1 hi1 hl1
  by_cases hb0 : tot rs0 ≤ 1048576
  rotate_left
  · have g0 : (1048576 : Int) < (tot rs0 : Int) := by omega
    go_enter Try.func10, Try.ntmps10
    go_wp2_with fail
    refine (szSS_no _ _ _ _ _ _ HR0.out g0 (by omega) (by omega) hn0 HL0.out).mono ?_
    rintro e w' ⟨rfl, rfl⟩
    go_wp2
    go_ret
    exact ret_mk (Below.refl _ _)
  have h0 : (tot rs0 : Int) ≤ (1048576 : Int) := by omega
  by_cases hb1 : tot rs0 + tot rs1 ≤ 1048576
  rotate_left
  · have g1 : (1048576 : Int) - (tot rs0 : Int) < (tot rs1 : Int) := by omega
    go_enter Try.func10, Try.ntmps10
    go_wp2_with fail
    refine (szSS_ok _ _ _ _ _ _ HR0.out h0 (by omega) hn0 HL0.out).mono ?_
    rintro e w' ⟨rfl, rfl⟩
    go_wp2_with fail
    refine (szSS_no _ _ _ _ _ _ HR1.out g1 (by omega) (by omega) hn1 HL1.out).mono ?_
    rintro e w' ⟨rfl, rfl⟩
    go_wp2
    go_ret
    exact ret_mk (Below.refl _ _)
  have h1 : (tot rs1 : Int) ≤ (1048576 : Int) - (tot rs0 : Int) := by omega
  have big0 : tot rs0 ≤ 1048576 := by omega
  have big1 : tot rs1 ≤ 1048576 := by omega
  clear hb0 hb1
  obtain ⟨x, hx⟩ : ∃ x, (gphD rs0 rs1).getD 0 = x := ⟨_, rfl⟩
  obtain ⟨ok, hok⟩ : ∃ ok, (gphD rs0 rs1).isSome = ok := ⟨_, rfl⟩
  have HS : ∀ (P0 : Option Addr) (cc0 : Nat) (P1 : Option Addr) (cc1 : Nat) W, RM W W.heap.size P0 rs0.length rs0 → RM W W.heap.size P1 rs1.length rs1 → Calls Try.prog 51 #[.slice P0 rs0.length cc0, .slice P1 rs1.length cc1] W (Ret (.tuple #[.int .i64 (x : Int), .bool ok]) W) := fun P0 cc0 P1 cc1 W h0 h1 => by have := s_GPh (c := cc0) (c' := cc1) W h0 h1 hn0 HL0.out hn1 HL1.out; rwa [hx, hok] at this
  have HS' := Lib.hid HS
  have HI : ∀ (P0 : Option Addr) (cc0 : Nat) (P1 : Option Addr) (cc1 : Nat) W, RM W W.heap.size P0 rs0.length rs0 → RM W W.heap.size P1 rs1.length rs1 → Calls Try.prog 53 #[.slice P0 rs0.length cc0, .slice P1 rs1.length cc1] W (Ret (.tuple #[.int .i64 (x : Int), .bool ok]) W) := fun P0 cc0 P1 cc1 W h0 h1 => by have := i_GPh (c := cc0) (c' := cc1) W h0 h1 hn0 HL0.out hn1 HL1.out; rwa [hx, hok] at this
  have HI' := Lib.hid HI
  clear HS HI hx hok
  go_enter Try.func10, Try.ntmps10
  go_wp2_with fail
  refine (szSS_ok _ _ _ _ _ _ HR0.out h0 (by omega) hn0 HL0.out).mono ?_
  rintro e w' ⟨rfl, rfl⟩
  go_wp2_with fail
  refine (szSS_ok _ _ _ _ _ _ HR1.out h1 (by omega) hn1 HL1.out).mono ?_
  rintro e w' ⟨rfl, rfl⟩
  have HW_0 := Lib.hid (Below.refl w.heap.size w)
  go_wp2_with fail
  refine (toSS _ _ _ rs0 _ ((HR0.out.keep HW_0.out).more HW_0.out.size) big0).mono ?_
  rintro e w1 ⟨rfl, O1, hb1⟩
  have HW_1 := Lib.hid (bl_call HW_0.out hb1)
  clear HW_0
  have Z1 := Lib.hid hb1.size
  clear hb1
  have A0_1 := Lib.hid (O1.top)
  clear O1
  go_wp2_with fail
  refine (toSS _ _ _ rs1 _ ((HR1.out.keep HW_1.out).more HW_1.out.size) big1).mono ?_
  rintro e w2 ⟨rfl, O2, hb2⟩
  have HW_2 := Lib.hid (bl_call HW_1.out hb2)
  have A0_2 := Lib.hid (A0_1.out.call hb2)
  clear HW_1 A0_1
  have Z2 := Lib.hid hb2.size
  clear hb2
  have A1_2 := Lib.hid (O2.top)
  clear O2
  go_wp2_with fail
  refine (HS'.out _ _ _ _ _ A0_2.out.own.read A1_2.out.own.read).mono ?_
  rintro e w3 ⟨rfl, hb3⟩
  have HW_3 := Lib.hid (bl_call HW_2.out hb3)
  have A0_3 := Lib.hid (A0_2.out.call hb3)
  have A1_3 := Lib.hid (A1_2.out.call hb3)
  clear HW_2 A0_2 A1_2
  have Z3 := Lib.hid hb3.size
  clear hb3
  clear A0_3
  clear A1_3
  go_wp2_with fail
  refine (toSS _ _ _ rs0 _ ((HR0.out.keep HW_3.out).more HW_3.out.size) big0).mono ?_
  rintro e w4 ⟨rfl, O4, hb4⟩
  have HW_4 := Lib.hid (bl_call HW_3.out hb4)
  clear HW_3
  have Z4 := Lib.hid hb4.size
  clear hb4
  have X0_4 := Lib.hid (O4.top)
  clear O4
  go_wp2_with fail
  refine (toSS _ _ _ rs1 _ ((HR1.out.keep HW_4.out).more HW_4.out.size) big1).mono ?_
  rintro e w5 ⟨rfl, O5, hb5⟩
  have HW_5 := Lib.hid (bl_call HW_4.out hb5)
  have X0_5 := Lib.hid (X0_4.out.call hb5)
  clear HW_4 X0_4
  have Z5 := Lib.hid hb5.size
  clear hb5
  have X1_5 := Lib.hid (O5.top)
  clear O5
  go_wp2_with fail
  refine (HI'.out _ _ _ _ _ X0_5.out.own.read X1_5.out.own.read).mono ?_
  rintro e w6 ⟨rfl, hb6⟩
  have HW_6 := Lib.hid (bl_call HW_5.out hb6)
  have X0_6 := Lib.hid (X0_5.out.call hb6)
  have X1_6 := Lib.hid (X1_5.out.call hb6)
  clear HW_5 X0_5 X1_5
  have Z6 := Lib.hid hb6.size
  clear hb6
  go_wp2_with fail
  refine (toSS _ _ _ rs0 _ ((HR0.out.keep HW_6.out).more HW_6.out.size) big0).mono ?_
  rintro e w7 ⟨rfl, O7, hb7⟩
  have HW_7 := Lib.hid (bl_call HW_6.out hb7)
  have X0_7 := Lib.hid (X0_6.out.call hb7)
  have X1_7 := Lib.hid (X1_6.out.call hb7)
  clear HW_6 X0_6 X1_6
  have Z7 := Lib.hid hb7.size
  clear hb7
  go_wp2_with fail
  refine (eqSS _ _ _ _ _ rs0 _ X0_7.out.own.read O7.read big0).mono ?_
  rintro e w8 ⟨rfl, hb8⟩
  have HW_8 := Lib.hid (bl_call HW_7.out hb8)
  have X0_8 := Lib.hid (X0_7.out.call hb8)
  have X1_8 := Lib.hid (X1_7.out.call hb8)
  clear HW_7 X0_7 X1_7
  have Z8 := Lib.hid hb8.size
  clear hb8
  clear O7
  go_wp2_with fail
  refine (toSS _ _ _ rs1 _ ((HR1.out.keep HW_8.out).more HW_8.out.size) big1).mono ?_
  rintro e w9 ⟨rfl, O9, hb9⟩
  have HW_9 := Lib.hid (bl_call HW_8.out hb9)
  have X0_9 := Lib.hid (X0_8.out.call hb9)
  have X1_9 := Lib.hid (X1_8.out.call hb9)
  clear HW_8 X0_8 X1_8
  have Z9 := Lib.hid hb9.size
  clear hb9
  go_wp2_with fail
  refine (eqSS _ _ _ _ _ rs1 _ X1_9.out.own.read O9.read big1).mono ?_
  rintro e w10 ⟨rfl, hb10⟩
  have HW_10 := Lib.hid (bl_call HW_9.out hb10)
  have X0_10 := Lib.hid (X0_9.out.call hb10)
  have X1_10 := Lib.hid (X1_9.out.call hb10)
  clear HW_9 X0_9 X1_9
  have Z10 := Lib.hid hb10.size
  clear hb10
  clear O9
  go_wp2
  go_ret
  exact ret_mk HW_10.out

set_option maxRecDepth 100000 in
theorem lifted (os : Os) (started : os.Started) (H : Type) (enc : TypeId × Value → H) :
    ReturnsInHanded {} Try.checked os 10 .any (Rows.fnExactGlobalPhaseSpec.pre6 enc Try.prog Try.f10 Rows.fnExactGlobalPhaseRow.domain false) (Rows.fnExactGlobalPhaseSpec.post enc Try.prog Try.f10 false true false false) := by
  refine returnsInHanded_of_change (C := Try.checked) own started (by kernel_rfl) Try.func10
    (ChangeSpec.witness6 (enc := enc) (C := Try.checked) false ⟨#[], #[.slice none 0 0, .slice none 0 0], []⟩ 8 (by kernel_rfl) (by kernel_rfl) (by kernel_rfl) (by kernel_rfl)) ?_
  intro W base args ds gs before hval0 hW hcnd _
  have hval : ∀ (j : Nat) t v, Try.f10.params[j]? = some t → args[j]? = some v → Value.okWide Try.prog W .any base t v := hval0
  have hW' := hW
  obtain ⟨p, q, hA0, hV, rfl, hfz, hnd⟩ := hW
  have hA : DataW.TrodAll enc Try.prog W 0 (fun _ => true) true Try.f10.params.toList args.toList ds p := hA0
  rw [Try.params10] at hA hval
  obtain ⟨v0, vs0, d0, ds0, p0, q0, hargs, rfl, rfl, h0, r0⟩ := trodAll_cons hA
  obtain ⟨v1, vs1, d1, ds1, p1, q1, rfl, rfl, rfl, h1, r1⟩ := trodAll_cons r0
  obtain ⟨rfl, rfl, rfl⟩ := trodAll_nil r1
  obtain rfl : args = #[v0, v1] := by cases args; simp_all
  obtain ⟨rfl, rfl⟩ := trodVars_none hV
  have kk0 := h0
  have lt0 : ∀ x ∈ p0, x.block < W.heap.size := by obtain ⟨m, hm⟩ := kk0; exact DataW.trod_lt m _ _ _ hm
  obtain ⟨A0, n0, cp0, rs0, rfl, hR0, hl0, hi0, hn0⟩ := open_M (hval 0 67 v0 rfl rfl) h0
  have kk1 := h1
  have lt1 : ∀ x ∈ p1, x.block < W.heap.size := by obtain ⟨m, hm⟩ := kk1; exact DataW.trod_lt m _ _ _ hm
  obtain ⟨A1, n1, cp1, rs1, rfl, hR1, hl1, hi1, hn1⟩ := open_M (hval 1 67 v1 rfl rfl) h1
  clear hA0 hval0
  refine (walk A0 n0 cp0 rs0 A1 n1 cp1 rs1 W hR0 hl0 hi0 hn0 hR1 hl1 hi1 hn1).mono fun e W' ⟨he, bel⟩ => ?_
  subst he
  exact ⟨_, rfl, _, _, _, [], _, [], hW', trodAll_mk1 (shut_bool Try.underlying4 _), (trodAll_cons_mk (Below.trod laidOut (by kernel_rfl) (of_decide_eq_true (by kernel_rfl)) kk0 bel lt0) (trodAll_cons_mk (Below.trod laidOut (by kernel_rfl) (of_decide_eq_true (by kernel_rfl)) kk1 bel lt1) trodAll_mk0)), rfl, bel.frame _, fun h => by cases h⟩

theorem over : Rows.fnExactGlobalPhaseRow.holds Try.pinned (OpenSpec.ofChange Rows.fnExactGlobalPhaseSpec) :=
  OpenClaim.holds_of_wide 10 Try.f10 rfl rfl rfl rfl rfl rfl rfl ⟨rfl, rfl, rfl, rfl, rfl⟩ rfl rfl rfl rfl rfl (by kernel_rfl) Try.func10 (by kernel_rfl)
    (of_decide_eq_true (by kernel_rfl)) (by unfold Func.isWrapper; first | (rw [if_pos (by decide +kernel)]; kernel_rfl) | (rw [if_neg (by decide +kernel)]; exact ⟨rfl, rfl⟩))
    (fun os started H enc _ => lifted os started H enc)

theorem proved : Rows.FnExactGlobalPhaseSaid := over
end Go.Proofs.Ytaokfppadfoniaa.fnExactGlobalPhase
