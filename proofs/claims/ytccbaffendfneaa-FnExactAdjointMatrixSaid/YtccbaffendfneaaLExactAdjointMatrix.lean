/-
  Proved: for every input the Go function FnExactAdjointMatrix returns true (the program's function returns what the reference's returns), and its arguments read as before.
  Conditions: none beyond the given statement.
-/
import Derived.Test.YtccbaffendfneaaCloseM
import Derived.Deep.RegionHeld3
import Derived.Test.YtccbaffendfneaaAdj2
namespace Go.Proofs.Ytccbaffendfneaa.fnExactAdjointMatrix
open Go.Proofs.Ytccbaffendfneaa
open Go.ChangeShapes Go.WideShapes Go.ChangeAt Go.RowKit
set_option linter.unusedVariables false

set_option maxHeartbeats 2000000 in
theorem walk (A0 : Option Addr) (n0 cp0 : Nat) (rs0 : List (List DW)) (w : World) (hR0 : RM w w.heap.size A0 n0 rs0) (hl0 : ∀ r ∈ rs0, r.length ≤ 9223372036854775807) (hi0 : ∀ r ∈ rs0, ∀ d ∈ r, inr d.n.a ∧ inr d.n.b ∧ inr d.n.c ∧ inr d.n.d ∧ inr d.k) (hn0 : n0 ≤ 9223372036854775807) :
    Calls Try.prog 4 #[.slice A0 n0 cp0] w (Ret (.bool true) w) := by
  obtain rfl : n0 = rs0.length := hR0.1
  have HL := Lib.hid hl0
  have HR := Lib.hid hR0
  clear hl0 hi0 hR0
  by_cases hbig : tot rs0 ≤ 1048576
  rotate_left
  · have h1 : (1048576 : Int) < (tot rs0 : Int) := by omega
    go_enter Try.func4, Try.ntmps4
    go_wp2_with fail
    refine (szSS_no _ _ _ _ _ _ HR.out h1 (by omega) (by omega) hn0 HL.out).mono ?_
    rintro e w' ⟨rfl, rfl⟩
    go_wp2
    go_ret
    exact ret_mk (Below.refl _ _)
  have h1 : (tot rs0 : Int) ≤ 1048576 := by omega
  obtain ⟨ad, had⟩ : ∃ ad, adjD rs0 = ad := ⟨_, rfl⟩
  have ht : tot ad ≤ 272 := by rw [← had]; exact adjD_tot _
  have HS : ∀ A c W, RM W W.heap.size A rs0.length rs0 → Calls Try.prog 12 #[.slice A rs0.length c] W (RetOM W ad) := fun A c W h => by have := s_Adj A rs0.length c rs0 W h hn0 HL.out; rwa [had] at this
  have HI : ∀ A c W, RM W W.heap.size A rs0.length rs0 → Calls Try.prog 14 #[.slice A rs0.length c] W (RetOM W ad) := fun A c W h => by have := i_Adj A rs0.length c rs0 W h hn0 HL.out; rwa [had] at this
  have HS' := Lib.hid HS
  have HI' := Lib.hid HI
  clear HS HI had
  have hpp : (1 + part ad ad.length * 5 : Nat) ≤ 4611686018427387904 := by have := part_le ad ad.length; omega
  have hpr : (1 + part rs0 rs0.length * 5 : Nat) ≤ 4611686018427387904 := by have := part_le rs0 rs0.length; omega
  have hge : decide (((1 + part rs0 rs0.length * 5 : Nat) : Int) < 0) = false := by simp; omega
  have HW0 := Lib.hid (Below.refl w.heap.size w)
  go_enter Try.func4, Try.ntmps4
  go_wp2_with fail
  refine (szSS_ok _ _ _ _ _ _ HR.out h1 (by omega) hn0 HL.out).mono ?_
  rintro e w' ⟨rfl, rfl⟩
  go_wp2_with fail
  refine (toSS _ _ _ rs0 _ HR.out hbig).mono ?_
  rintro e w1 ⟨rfl, O1, hb1⟩
  have HW1 := Lib.hid (bl_call HW0.out hb1)
  go_wp2_with fail
  refine (HS'.out _ _ _ O1.read).mono ?_
  rintro e w2 ⟨A2x, c2x, rfl, O2, hb2⟩
  have HW2 := Lib.hid (bl_call HW1.out hb2)
  have W2 := Lib.hid O2.read
  have V2 := Lib.hid (Below.refl w2.heap.size w2)
  clear O1 O2 hb1 hb2
  go_wp2_with fail
  refine (toSS _ _ _ rs0 _ ((HR.out.keep HW2.out).more HW2.out.size) hbig).mono ?_
  rintro e w3 ⟨rfl, O3, hb3⟩
  have HW3 := Lib.hid (bl_call HW2.out hb3)
  have V3 := Lib.hid (bl_call V2.out hb3)
  have X3 := Lib.hid O3.top
  clear hb3
  go_wp2_with fail
  refine (HI'.out _ _ _ O3.read).mono ?_
  rintro e w4 ⟨A4x, c4x, rfl, O4, hb4⟩
  have HW4 := Lib.hid (bl_call HW3.out hb4)
  have V4 := Lib.hid (bl_call V3.out hb4)
  have X4 := Lib.hid (X3.out.call hb4)
  have G4 := Lib.hid O4.top
  clear O3 O4 hb4
  go_wp2_with fail
  refine (eqSS _ _ _ _ _ ad _ G4.out.own.read ((W2.out.keep V4.out).more V4.out.size) (by omega)).mono ?_
  rintro e w5 ⟨rfl, hb5⟩
  have HW5 := Lib.hid (bl_call HW4.out hb5)
  have V5 := Lib.hid (bl_call V4.out hb5)
  have X5 := Lib.hid (X4.out.call hb5)
  have G5 := Lib.hid (G4.out.call hb5)
  clear hb5
  go_wp2_with fail
  refine (toSS _ _ _ rs0 _ ((HR.out.keep HW5.out).more HW5.out.size) hbig).mono ?_
  rintro e w6 ⟨rfl, O6, hb6⟩
  have HW6 := Lib.hid (bl_call HW5.out hb6)
  have V6 := Lib.hid (bl_call V5.out hb6)
  have X6 := Lib.hid (X5.out.call hb6)
  have G6 := Lib.hid (G5.out.call hb6)
  clear hb6
  go_wp2_with fail
  refine (eqSS _ _ _ _ _ rs0 _ X6.out.own.read O6.read hbig).mono ?_
  rintro e w7 ⟨rfl, hb7⟩
  have HW7 := Lib.hid (bl_call HW6.out hb7)
  have V7 := Lib.hid (bl_call V6.out hb7)
  have X7 := Lib.hid (X6.out.call hb7)
  have G7 := Lib.hid (G6.out.call hb7)
  clear hb7 O6
  go_wp2_with fail
  refine (markM _ _ 1 w2.heap.size w3.heap.size rs0 _ X7.out (by omega)).mono ?_
  rintro e w8 ⟨rfl, O8, hb8, hk8⟩
  have HW8 := Lib.hid (HW7.out.trans (hb8.mono HW2.out.size))
  have V8 := Lib.hid (V7.out.trans hb8)
  have G8 := Lib.hid (ownT_kept G7.out hk8)
  clear hb8 hk8 O8 X7
  go_wp2_with fail
  refine (eqSS _ _ _ _ _ ad _ G8.out.own.read ((W2.out.keep V8.out).more V8.out.size) (by omega)).mono ?_
  rintro e w9 ⟨rfl, hb9⟩
  have HW9 := Lib.hid (bl_call HW8.out hb9)
  have V9 := Lib.hid (bl_call V8.out hb9)
  have G9 := Lib.hid (G8.out.call hb9)
  clear hb9
  go_wp2_with fail
  refine (markM _ _ 1 w3.heap.size w4.heap.size ad _ G9.out (by omega)).mono ?_
  rintro e w10 ⟨rfl, O10, hb10, hk10⟩
  have HW10 := Lib.hid (HW9.out.trans (hb10.mono HW3.out.size))
  have V10 := Lib.hid (V9.out.trans (hb10.mono V3.out.size))
  have G10 := Lib.hid O10.own
  clear hb10 hk10 O10
  go_wp2_with fail
  refine (heldM _ _ 1 w3.heap.size ad _ G10.out (by omega)).mono ?_
  rintro e w' ⟨rfl, rfl⟩
  go_wp2_with fail
  refine (toSS _ _ _ rs0 _ ((HR.out.keep HW10.out).more HW10.out.size) hbig).mono ?_
  rintro e w11 ⟨rfl, O11, hb11⟩
  have HW11 := Lib.hid (bl_call HW10.out hb11)
  have V11 := Lib.hid (bl_call V10.out hb11)
  have G11 := Lib.hid (G10.out.call hb11)
  clear hb11
  go_wp2_with fail
  refine (HI'.out _ _ _ O11.read).mono ?_
  rintro e w12 ⟨A12x, c12x, rfl, O12, hb12⟩
  have HW12 := Lib.hid (bl_call HW11.out hb12)
  have V12 := Lib.hid (bl_call V11.out hb12)
  have G12 := Lib.hid (G11.out.call hb12)
  clear hb12 O11
  go_wp2_with fail
  refine (eqSS _ _ _ _ _ ad _ O12.read ((W2.out.keep V12.out).more V12.out.size) (by omega)).mono ?_
  rintro e w13 ⟨rfl, hb13⟩
  have HW13 := Lib.hid (bl_call HW12.out hb13)
  have G13 := Lib.hid (G12.out.call hb13)
  clear hb13 O12
  go_wp2_with fail
  refine (heldM _ _ 1 w3.heap.size ad _ G13.out (by omega)).mono ?_
  rintro e w' ⟨rfl, rfl⟩
  go_wp2
  go_ret
  exact ret_mk HW13.out

set_option maxRecDepth 100000 in
theorem lifted (os : Os) (started : os.Started) (H : Type) (enc : TypeId × Value → H) :
    ReturnsInHanded {} Try.checked os 4 .any (Rows.fnExactAdjointMatrixSpec.pre6 enc Try.prog Try.f4 Rows.fnExactAdjointMatrixRow.domain false) (Rows.fnExactAdjointMatrixSpec.post enc Try.prog Try.f4 false true false false) := by
  refine returnsInHanded_of_change (C := Try.checked) own started (by kernel_rfl) Try.func4
    (ChangeSpec.witness6 (enc := enc) (C := Try.checked) false ⟨#[], #[.slice none 0 0], []⟩ 8 (by kernel_rfl) (by kernel_rfl) (by kernel_rfl) (by kernel_rfl)) ?_
  intro W base args ds gs before hval0 hW hcnd _
  have hval : ∀ (j : Nat) t v, Try.f4.params[j]? = some t → args[j]? = some v → Value.okWide Try.prog W .any base t v := hval0
  have hW' := hW
  obtain ⟨p, q, hA0, hV, rfl, hfz, hnd⟩ := hW
  have hA : DataW.TrodAll enc Try.prog W 0 (fun _ => true) true Try.f4.params.toList args.toList ds p := hA0
  rw [Try.params4] at hA hval
  obtain ⟨v0, vs0, d0, ds0, p0, q0, hargs, rfl, rfl, h0, r0⟩ := trodAll_cons hA
  obtain ⟨rfl, rfl, rfl⟩ := trodAll_nil r0
  obtain rfl : args = #[v0] := by cases args; simp_all
  obtain ⟨rfl, rfl⟩ := trodVars_none hV
  have kk0 := h0
  have lt0 : ∀ x ∈ p0, x.block < W.heap.size := by obtain ⟨m, hm⟩ := kk0; exact DataW.trod_lt m _ _ _ hm
  obtain ⟨A0, n0, cp0, rs0, rfl, hR0, hl0, hi0, hn0⟩ := open_M (hval 0 32 v0 rfl rfl) h0
  clear hA0 hval0
  refine (walk A0 n0 cp0 rs0 W hR0 hl0 hi0 hn0).mono fun e W' ⟨he, bel⟩ => ?_
  subst he
  exact ⟨_, rfl, _, _, _, [], _, [], hW', trodAll_mk1 (shut_bool Try.underlying4 _), (trodAll_cons_mk (Below.trod laidOut (by kernel_rfl) (of_decide_eq_true (by kernel_rfl)) kk0 bel lt0) trodAll_mk0), rfl, bel.frame _, fun h => by cases h⟩

theorem over : Rows.fnExactAdjointMatrixRow.holds Try.pinned (OpenSpec.ofChange Rows.fnExactAdjointMatrixSpec) :=
  OpenClaim.holds_of_wide 4 Try.f4 rfl rfl rfl rfl rfl rfl rfl ⟨rfl, rfl, rfl, rfl, rfl⟩ rfl rfl rfl rfl rfl (by kernel_rfl) Try.func4 (by kernel_rfl)
    (of_decide_eq_true (by kernel_rfl)) (by unfold Func.isWrapper; first | (rw [if_pos (by decide +kernel)]; kernel_rfl) | (rw [if_neg (by decide +kernel)]; exact ⟨rfl, rfl⟩))
    (fun os started H enc _ => lifted os started H enc)

theorem proved : Rows.FnExactAdjointMatrixSaid := over
end Go.Proofs.Ytccbaffendfneaa.fnExactAdjointMatrix
