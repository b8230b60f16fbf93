/-
  Proved: for every input the Go function FnExactEqualMatrix returns true (the program's function returns what the reference's returns), and its arguments read as before.
  Conditions: none beyond the given statement.
-/
import Derived.Test.YtllkllnfbmcfeaaCloseM
import Derived.Deep.RegionHeld3
import Derived.Test.YtllkllnfbmcfeaaSS2
namespace Go.Proofs.Ytllkllnfbmcfeaa.fnExactEqualMatrix
open Go.Proofs.Ytllkllnfbmcfeaa
open Go.ChangeShapes Go.WideShapes Go.ChangeAt Go.RowKit
set_option linter.unusedVariables false

set_option maxHeartbeats 2000000 in
theorem walk (A0 : Option Addr) (n0 cp0 : Nat) (rs0 : List (List DW)) (A1 : Option Addr) (n1 cp1 : Nat) (rs1 : List (List DW)) (w : World) (hR0 : RM w w.heap.size A0 n0 rs0) (hl0 : ∀ r ∈ rs0, r.length ≤ 9223372036854775807) (hi0 : ∀ r ∈ rs0, ∀ d ∈ r, inr d.n.a ∧ inr d.n.b ∧ inr d.n.c ∧ inr d.n.d ∧ inr d.k) (hn0 : n0 ≤ 9223372036854775807) (hR1 : RM w w.heap.size A1 n1 rs1) (hl1 : ∀ r ∈ rs1, r.length ≤ 9223372036854775807) (hi1 : ∀ r ∈ rs1, ∀ d ∈ r, inr d.n.a ∧ inr d.n.b ∧ inr d.n.c ∧ inr d.n.d ∧ inr d.k) (hn1 : n1 ≤ 9223372036854775807) :
    Calls Try.prog 12 #[.slice A0 n0 cp0, .slice A1 n1 cp1] w (Ret (.bool true) w) := by
  obtain ⟨b, hbb⟩ : ∃ b : Bool, b = true ↔ rs0 = rs1 := by
    by_cases h : rs0 = rs1
    · exact ⟨true, by simp [h]⟩
    · exact ⟨false, by simp [h]⟩
  have HB := Lib.hid hbb
  clear hbb
  obtain rfl : n0 = rs0.length := hR0.1
  obtain rfl : n1 = rs1.length := hR1.1
  have HL0 := Lib.hid hl0
  have HR0 := Lib.hid hR0
  have HL1 := Lib.hid hl1
  have HR1 := Lib.hid hR1
  clear hl0 hi0 hR0 hl1 hi1 hR1
  by_cases hb0 : tot rs0 ≤ 1048576
  rotate_left
  · have h1 : (1048576 : Int) < (tot rs0 : Int) := by omega
    go_enter Try.func12, Try.ntmps12
    go_wp2_with fail
    refine (szSS_no _ _ _ _ _ _ HR0.out h1 (by omega) (by omega) hn0 HL0.out).mono ?_
    rintro e w' ⟨rfl, rfl⟩
    go_wp2
    go_ret
    exact ret_mk (Below.refl _ _)
  have h1 : (tot rs0 : Int) ≤ 1048576 := by omega
  by_cases hb1 : tot rs0 + tot rs1 ≤ 1048576
  rotate_left
  · have h2 : (1048576 : Int) - (tot rs0 : Int) < (tot rs1 : Int) := by omega
    go_enter Try.func12, Try.ntmps12
    go_wp2_with fail
    refine (szSS_ok _ _ _ _ _ _ HR0.out h1 (by omega) hn0 HL0.out).mono ?_
    rintro e w' ⟨rfl, rfl⟩
    go_wp2_with fail
    refine (szSS_no _ _ _ _ _ _ HR1.out h2 (by omega) (by omega) hn1 HL1.out).mono ?_
    rintro e w' ⟨rfl, rfl⟩
    go_wp2
    go_ret
    exact ret_mk (Below.refl _ _)
  have h2 : (tot rs1 : Int) ≤ (1048576 : Int) - (tot rs0 : Int) := by omega
  have hbig0 : tot rs0 ≤ 1048576 := hb0
  have hbig1 : tot rs1 ≤ 1048576 := by omega
  clear hb0 hb1
  go_enter Try.func12, Try.ntmps12
  go_wp2_with fail
  refine (szSS_ok _ _ _ _ _ _ HR0.out h1 (by omega) hn0 HL0.out).mono ?_
  rintro e w' ⟨rfl, rfl⟩
  go_wp2_with fail
  refine (szSS_ok _ _ _ _ _ _ HR1.out h2 (by omega) hn1 HL1.out).mono ?_
  rintro e w' ⟨rfl, rfl⟩
  go_wp2_with fail
  refine (toSS _ _ _ rs0 _ HR0.out hbig0).mono ?_
  rintro e w1 ⟨rfl, O1, hb1⟩
  have P1 := Lib.hid (HR0.out.call hb1)
  have Q1 := Lib.hid (HR1.out.call hb1)
  go_wp2_with fail
  refine (toSS _ _ _ rs1 _ Q1.out hbig1).mono ?_
  rintro e w2 ⟨rfl, O2, hb2⟩
  have P2 := Lib.hid (P1.out.call hb2)
  have Q2 := Lib.hid (Q1.out.call hb2)
  go_wp2_with fail
  refine (s_EqM _ _ _ _ _ _ rs0 rs1 b _ HB.out (O1.read.call hb2) O2.read hn0 hn1 HL0.out HL1.out).mono ?_
  rintro e w3 ⟨rfl, hb3⟩
  have P3 := Lib.hid (P2.out.call hb3)
  have Q3 := Lib.hid (Q2.out.call hb3)
  go_wp2_with fail
  refine (toSS _ _ _ rs0 _ P3.out hbig0).mono ?_
  rintro e w4 ⟨rfl, O4, hb4⟩
  have P4 := Lib.hid (P3.out.call hb4)
  have Q4 := Lib.hid (Q3.out.call hb4)
  have E4 := Lib.hid O4.read
  go_wp2_with fail
  refine (toSS _ _ _ rs1 _ Q4.out hbig1).mono ?_
  rintro e w5 ⟨rfl, O5, hb5⟩
  have P5 := Lib.hid (P4.out.call hb5)
  have Q5 := Lib.hid (Q4.out.call hb5)
  have E5 := Lib.hid (E4.out.call hb5)
  have F5 := Lib.hid O5.read
  go_wp2_with fail
  refine (i_EqM _ _ _ _ _ _ rs0 rs1 b _ HB.out E5.out F5.out hn0 hn1 HL0.out HL1.out).mono ?_
  rintro e w6 ⟨rfl, hb6⟩
  have P6 := Lib.hid (P5.out.call hb6)
  have Q6 := Lib.hid (Q5.out.call hb6)
  have E6 := Lib.hid (E5.out.call hb6)
  have F6 := Lib.hid (F5.out.call hb6)
  go_wp2_with fail
  refine (toSS _ _ _ rs0 _ P6.out hbig0).mono ?_
  rintro e w7 ⟨rfl, O7, hb7⟩
  have Q7 := Lib.hid (Q6.out.call hb7)
  have E7 := Lib.hid (E6.out.call hb7)
  have F7 := Lib.hid (F6.out.call hb7)
  go_wp2_with fail
  refine (eqSS _ _ _ _ _ rs0 _ E7.out O7.read hbig0).mono ?_
  rintro e w8 ⟨rfl, hb8⟩
  have Q8 := Lib.hid (Q7.out.call hb8)
  have F8 := Lib.hid (F7.out.call hb8)
  go_wp2_with fail
  refine (toSS _ _ _ rs1 _ Q8.out hbig1).mono ?_
  rintro e w9 ⟨rfl, O9, hb9⟩
  have F9 := Lib.hid (F8.out.call hb9)
  go_wp2_with fail
  refine (eqSS _ _ _ _ _ rs1 _ F9.out O9.read hbig1).mono ?_
  rintro e w10 ⟨rfl, hb10⟩
  go_wp2
  go_ret
  refine ret_mk ?_
  repeat (first | (with_reducible exact Below.refl _ _) | (with_reducible assumption) | (with_reducible refine bl_alloc ?_ _) | (with_reducible refine bl_drew ?_) | (with_reducible refine bl_set ?_ (by simp <;> omega) _) | (with_reducible refine bl_call ?_ (by assumption)))

set_option maxRecDepth 100000 in
theorem lifted (os : Os) (started : os.Started) (H : Type) (enc : TypeId × Value → H) :
    ReturnsInHanded {} Try.checked os 12 .any (Rows.fnExactEqualMatrixSpec.pre6 enc Try.prog Try.f12 Rows.fnExactEqualMatrixRow.domain false) (Rows.fnExactEqualMatrixSpec.post enc Try.prog Try.f12 false true false false) := by
  refine returnsInHanded_of_change (C := Try.checked) own started (by kernel_rfl) Try.func12
    (ChangeSpec.witness6 (enc := enc) (C := Try.checked) false ⟨#[], #[.slice none 0 0, .slice none 0 0], []⟩ 8 (by kernel_rfl) (by kernel_rfl) (by kernel_rfl) (by kernel_rfl)) ?_
  intro W base args ds gs before hval0 hW hcnd _
  have hval : ∀ (j : Nat) t v, Try.f12.params[j]? = some t → args[j]? = some v → Value.okWide Try.prog W .any base t v := hval0
  have hW' := hW
  obtain ⟨p, q, hA0, hV, rfl, hfz, hnd⟩ := hW
  have hA : DataW.TrodAll enc Try.prog W 0 (fun _ => true) true Try.f12.params.toList args.toList ds p := hA0
  rw [Try.params12] at hA hval
  obtain ⟨v0, vs0, d0, ds0, p0, q0, hargs, rfl, rfl, h0, r0⟩ := trodAll_cons hA
  obtain ⟨v1, vs1, d1, ds1, p1, q1, rfl, rfl, rfl, h1, r1⟩ := trodAll_cons r0
  obtain ⟨rfl, rfl, rfl⟩ := trodAll_nil r1
  obtain rfl : args = #[v0, v1] := by cases args; simp_all
  obtain ⟨rfl, rfl⟩ := trodVars_none hV
  have kk0 := h0
  have lt0 : ∀ x ∈ p0, x.block < W.heap.size := by obtain ⟨m, hm⟩ := kk0; exact DataW.trod_lt m _ _ _ hm
  obtain ⟨A0, n0, cp0, rs0, rfl, hR0, hl0, hi0, hn0⟩ := open_M (hval 0 54 v0 rfl rfl) h0
  have kk1 := h1
  have lt1 : ∀ x ∈ p1, x.block < W.heap.size := by obtain ⟨m, hm⟩ := kk1; exact DataW.trod_lt m _ _ _ hm
  obtain ⟨A1, n1, cp1, rs1, rfl, hR1, hl1, hi1, hn1⟩ := open_M (hval 1 54 v1 rfl rfl) h1
  clear hA0 hval0
  refine (walk A0 n0 cp0 rs0 A1 n1 cp1 rs1 W hR0 hl0 hi0 hn0 hR1 hl1 hi1 hn1).mono fun e W' ⟨he, bel⟩ => ?_
  subst he
  exact ⟨_, rfl, _, _, _, [], _, [], hW', trodAll_mk1 (shut_bool Try.underlying4 _), (trodAll_cons_mk (Below.trod laidOut (by kernel_rfl) (of_decide_eq_true (by kernel_rfl)) kk0 bel lt0) (trodAll_cons_mk (Below.trod laidOut (by kernel_rfl) (of_decide_eq_true (by kernel_rfl)) kk1 bel lt1) trodAll_mk0)), rfl, bel.frame _, fun h => by cases h⟩

theorem over : Rows.fnExactEqualMatrixRow.holds Try.pinned (OpenSpec.ofChange Rows.fnExactEqualMatrixSpec) :=
  OpenClaim.holds_of_wide 12 Try.f12 rfl rfl rfl rfl rfl rfl rfl ⟨rfl, rfl, rfl, rfl, rfl⟩ rfl rfl rfl rfl rfl (by kernel_rfl) Try.func12 (by kernel_rfl)
    (of_decide_eq_true (by kernel_rfl)) (by unfold Func.isWrapper; first | (rw [if_pos (by decide +kernel)]; kernel_rfl) | (rw [if_neg (by decide +kernel)]; exact ⟨rfl, rfl⟩))
    (fun os started H enc _ => lifted os started H enc)

theorem proved : Rows.FnExactEqualMatrixSaid := over
end Go.Proofs.Ytllkllnfbmcfeaa.fnExactEqualMatrix
