/-
  Proved: for every input the Go function FnExactEqualState returns true (the program's function returns what the reference's returns), and its arguments read as before.
  Conditions: none beyond the given statement.
-/
import Derived.Test.YtllkllnfbmcfeaaCloseS
import Derived.Deep.RegionHeld3
import Derived.Test.YtllkllnfbmcfeaaS4
namespace Go.Proofs.Ytllkllnfbmcfeaa.fnExactEqualState
open Go.Proofs.Ytllkllnfbmcfeaa
open Go.ChangeShapes Go.WideShapes Go.ChangeAt Go.RowKit
set_option linter.unusedVariables false

set_option maxHeartbeats 2000000 in
theorem walk (A0 : Option Addr) (n0 cp0 : Nat) (es0 : List DW) (A1 : Option Addr) (n1 cp1 : Nat) (es1 : List DW) (w : World) (hR0 : RD w w.heap.size A0 n0 es0) (hi0 : ∀ d ∈ es0, inr d.n.a ∧ inr d.n.b ∧ inr d.n.c ∧ inr d.n.d ∧ inr d.k) (hn0 : n0 ≤ 9223372036854775807) (hR1 : RD w w.heap.size A1 n1 es1) (hi1 : ∀ d ∈ es1, inr d.n.a ∧ inr d.n.b ∧ inr d.n.c ∧ inr d.n.d ∧ inr d.k) (hn1 : n1 ≤ 9223372036854775807) :
    Calls Try.prog 5 #[.slice A0 n0 cp0, .slice A1 n1 cp1] w (Ret (.bool true) w) := by
  obtain ⟨b, hbb⟩ : ∃ b : Bool, b = true ↔ es0 = es1 := by
    by_cases h : es0 = es1
    · exact ⟨true, by simp [h]⟩
    · exact ⟨false, by simp [h]⟩
  have HB := Lib.hid hbb
  clear hbb
  obtain rfl : n0 = es0.length := hR0.1
  obtain rfl : n1 = es1.length := hR1.1
  by_cases hb0 : es0.length ≤ 1048576
  rotate_left
  · have h1 : (1048576 : Int) < (es0.length : Int) := by omega
    clear hR0 hR1 hi0 hi1
    go_enter Try.func5, Try.ntmps5
    go_wp2_with fail
    refine (szS_no _ _ _ _ _ h1 (by omega) hn0).mono ?_
    rintro e w' ⟨rfl, rfl⟩
    go_wp2
    go_ret
    exact ret_mk (Below.refl _ _)
  have h1 : (es0.length : Int) ≤ 1048576 := by omega
  by_cases hb1 : es0.length + es1.length ≤ 1048576
  rotate_left
  · have h2 : (1048576 : Int) - (es0.length : Int) < (es1.length : Int) := by omega
    clear hR0 hR1 hi0 hi1
    go_enter Try.func5, Try.ntmps5
    go_wp2_with fail
    refine (szS_ok _ _ _ _ _ h1 (by omega)).mono ?_
    rintro e w' ⟨rfl, rfl⟩
    go_wp2_with fail
    refine (szS_no _ _ _ _ _ h2 (by omega) hn1).mono ?_
    rintro e w' ⟨rfl, rfl⟩
    go_wp2
    go_ret
    exact ret_mk (Below.refl _ _)
  have h2 : (es1.length : Int) ≤ (1048576 : Int) - (es0.length : Int) := by omega
  have hbig0 : es0.length ≤ 1048576 := hb0
  have hbig1 : es1.length ≤ 1048576 := by omega
  clear hb0 hb1
  have HR0 := Lib.hid hR0
  have HR1 := Lib.hid hR1
  clear hR0 hR1 hi0 hi1
  go_enter Try.func5, Try.ntmps5
  go_wp2_with fail
  refine (szS_ok _ _ _ _ _ h1 (by omega)).mono ?_
  rintro e w' ⟨rfl, rfl⟩
  go_wp2_with fail
  refine (szS_ok _ _ _ _ _ h2 (by omega)).mono ?_
  rintro e w' ⟨rfl, rfl⟩
  go_wp2_with fail
  refine (toS _ _ _ es0 _ HR0.out hbig0).mono ?_
  rintro e w1 ⟨rfl, hrow1, hb1⟩
  have P1 := Lib.hid (HR0.out.call hb1)
  have Q1 := Lib.hid (HR1.out.call hb1)
  have G1 := Lib.hid (RD.of_row hrow1 (Nat.le_refl _))
  go_wp2_with fail
  refine (toS _ _ _ es1 _ Q1.out hbig1).mono ?_
  rintro e w2 ⟨rfl, hrow2, hb2⟩
  have P2 := Lib.hid (P1.out.call hb2)
  have Q2 := Lib.hid (Q1.out.call hb2)
  have G2 := Lib.hid (RD.of_row hrow2 (Nat.le_refl _))
  go_wp2_with fail
  refine (s_same _ _ _ _ _ _ es0 es1 b _ HB.out (G1.out.call hb2) G2.out hn0 hn1).mono ?_
  rintro e w3 ⟨rfl, hb3⟩
  have P3 := Lib.hid (P2.out.call hb3)
  have Q3 := Lib.hid (Q2.out.call hb3)
  go_wp2_with fail
  refine (toS _ _ _ es0 _ P3.out hbig0).mono ?_
  rintro e w4 ⟨rfl, hrow4, hb4⟩
  have P4 := Lib.hid (P3.out.call hb4)
  have Q4 := Lib.hid (Q3.out.call hb4)
  have G4 := Lib.hid (RD.of_row hrow4 (Nat.le_refl _))
  go_wp2_with fail
  refine (toS _ _ _ es1 _ Q4.out hbig1).mono ?_
  rintro e w5 ⟨rfl, hrow5, hb5⟩
  have P5 := Lib.hid (P4.out.call hb5)
  have Q5 := Lib.hid (Q4.out.call hb5)
  have E4 := Lib.hid (G4.out.call hb5)
  have G5 := Lib.hid (RD.of_row hrow5 (Nat.le_refl _))
  go_wp2_with fail
  refine (i_EqS _ _ _ _ _ _ es0 es1 b _ HB.out E4.out G5.out hn0 hn1).mono ?_
  rintro e w6 ⟨rfl, hb6⟩
  have P6 := Lib.hid (P5.out.call hb6)
  have Q6 := Lib.hid (Q5.out.call hb6)
  have E6 := Lib.hid (E4.out.call hb6)
  have G6 := Lib.hid (G5.out.call hb6)
  go_wp2_with fail
  refine (toS _ _ _ es0 _ P6.out hbig0).mono ?_
  rintro e w7 ⟨rfl, hrow7, hb7⟩
  have Q7 := Lib.hid (Q6.out.call hb7)
  have E7 := Lib.hid (E6.out.call hb7)
  have F7 := Lib.hid (G6.out.call hb7)
  have G7 := Lib.hid (RD.of_row hrow7 (Nat.le_refl _))
  go_wp2_with fail
  refine (eqS _ _ _ _ _ es0 _ E7.out G7.out hbig0).mono ?_
  rintro e w8 ⟨rfl, hb8⟩
  have Q8 := Lib.hid (Q7.out.call hb8)
  have F8 := Lib.hid (F7.out.call hb8)
  go_wp2_with fail
  refine (toS _ _ _ es1 _ Q8.out hbig1).mono ?_
  rintro e w9 ⟨rfl, hrow9, hb9⟩
  have F9 := Lib.hid (F8.out.call hb9)
  have G9 := Lib.hid (RD.of_row hrow9 (Nat.le_refl _))
  go_wp2_with fail
  refine (eqS _ _ _ _ _ es1 _ F9.out G9.out hbig1).mono ?_
  rintro e w10 ⟨rfl, hb10⟩
  go_wp2
  go_ret
  refine ret_mk ?_
  repeat (first | (with_reducible exact Below.refl _ _) | (with_reducible assumption) | (with_reducible refine bl_alloc ?_ _) | (with_reducible refine bl_drew ?_) | (with_reducible refine bl_set ?_ (by simp <;> omega) _) | (with_reducible refine bl_call ?_ (by assumption)))

set_option maxRecDepth 100000 in
theorem lifted (os : Os) (started : os.Started) (H : Type) (enc : TypeId × Value → H) :
    ReturnsInHanded {} Try.checked os 5 .any (Rows.fnExactEqualStateSpec.pre6 enc Try.prog Try.f5 Rows.fnExactEqualStateRow.domain false) (Rows.fnExactEqualStateSpec.post enc Try.prog Try.f5 false true false false) := by
  refine returnsInHanded_of_change (C := Try.checked) own started (by kernel_rfl) Try.func5
    (ChangeSpec.witness6 (enc := enc) (C := Try.checked) false ⟨#[], #[.slice none 0 0, .slice none 0 0], []⟩ 8 (by kernel_rfl) (by kernel_rfl) (by kernel_rfl) (by kernel_rfl)) ?_
  intro W base args ds gs before hval0 hW hcnd _
  have hval : ∀ (j : Nat) t v, Try.f5.params[j]? = some t → args[j]? = some v → Value.okWide Try.prog W .any base t v := hval0
  have hW' := hW
  obtain ⟨p, q, hA0, hV, rfl, hfz, hnd⟩ := hW
  have hA : DataW.TrodAll enc Try.prog W 0 (fun _ => true) true Try.f5.params.toList args.toList ds p := hA0
  rw [Try.params5] at hA hval
  obtain ⟨v0, vs0, d0, ds0, p0, q0, hargs, rfl, rfl, h0, r0⟩ := trodAll_cons hA
  obtain ⟨v1, vs1, d1, ds1, p1, q1, rfl, rfl, rfl, h1, r1⟩ := trodAll_cons r0
  obtain ⟨rfl, rfl, rfl⟩ := trodAll_nil r1
  obtain rfl : args = #[v0, v1] := by cases args; simp_all
  obtain ⟨rfl, rfl⟩ := trodVars_none hV
  have kk0 := h0
  have lt0 : ∀ x ∈ p0, x.block < W.heap.size := by obtain ⟨m, hm⟩ := kk0; exact DataW.trod_lt m _ _ _ hm
  obtain ⟨A0, n0, cp0, es0, rfl, hR0, hi0, hn0⟩ := open_S (hval 0 30 v0 rfl rfl) h0
  have kk1 := h1
  have lt1 : ∀ x ∈ p1, x.block < W.heap.size := by obtain ⟨m, hm⟩ := kk1; exact DataW.trod_lt m _ _ _ hm
  obtain ⟨A1, n1, cp1, es1, rfl, hR1, hi1, hn1⟩ := open_S (hval 1 30 v1 rfl rfl) h1
  clear hA0 hval0
  refine (walk A0 n0 cp0 es0 A1 n1 cp1 es1 W hR0 hi0 hn0 hR1 hi1 hn1).mono fun e W' ⟨he, bel⟩ => ?_
  subst he
  exact ⟨_, rfl, _, _, _, [], _, [], hW', trodAll_mk1 (shut_bool Try.underlying4 _), (trodAll_cons_mk (Below.trod laidOut (by kernel_rfl) (of_decide_eq_true (by kernel_rfl)) kk0 bel lt0) (trodAll_cons_mk (Below.trod laidOut (by kernel_rfl) (of_decide_eq_true (by kernel_rfl)) kk1 bel lt1) trodAll_mk0)), rfl, bel.frame _, fun h => by cases h⟩

theorem over : Rows.fnExactEqualStateRow.holds Try.pinned (OpenSpec.ofChange Rows.fnExactEqualStateSpec) :=
  OpenClaim.holds_of_wide 5 Try.f5 rfl rfl rfl rfl rfl rfl rfl ⟨rfl, rfl, rfl, rfl, rfl⟩ rfl rfl rfl rfl rfl (by kernel_rfl) Try.func5 (by kernel_rfl)
    (of_decide_eq_true (by kernel_rfl)) (by unfold Func.isWrapper; first | (rw [if_pos (by decide +kernel)]; kernel_rfl) | (rw [if_neg (by decide +kernel)]; exact ⟨rfl, rfl⟩))
    (fun os started H enc _ => lifted os started H enc)

theorem proved : Rows.FnExactEqualStateSaid := over
end Go.Proofs.Ytllkllnfbmcfeaa.fnExactEqualState
