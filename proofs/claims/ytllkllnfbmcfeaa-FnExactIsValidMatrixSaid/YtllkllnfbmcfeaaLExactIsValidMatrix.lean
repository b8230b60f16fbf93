/-
  Proved: for every input the Go function FnExactIsValidMatrix returns true (the program's function returns what the reference's returns), and its arguments read as before.
  Conditions: none beyond the given statement.
-/
import Derived.Test.YtllkllnfbmcfeaaCloseM
import Derived.Deep.RegionHeld3
import Derived.Test.YtllkllnfbmcfeaaSS2
namespace Go.Proofs.Ytllkllnfbmcfeaa.fnExactIsValidMatrix
open Go.Proofs.Ytllkllnfbmcfeaa
open Go.ChangeShapes Go.WideShapes Go.ChangeAt Go.RowKit
set_option linter.unusedVariables false

set_option maxHeartbeats 2000000 in
theorem walk (A0 : Option Addr) (n0 cp0 : Nat) (rs0 : List (List DW)) (w : World) (hR0 : RM w w.heap.size A0 n0 rs0) (hl0 : ∀ r ∈ rs0, r.length ≤ 9223372036854775807) (hi0 : ∀ r ∈ rs0, ∀ d ∈ r, inr d.n.a ∧ inr d.n.b ∧ inr d.n.c ∧ inr d.n.d ∧ inr d.k) (hn0 : n0 ≤ 9223372036854775807) :
    Calls Try.prog 14 #[.slice A0 n0 cp0] w (Ret (.bool true) w) := by
  obtain rfl : n0 = rs0.length := hR0.1
  have HL := Lib.hid hl0
  have HR := Lib.hid hR0
  clear hl0 hi0 hR0
  by_cases hbig : tot rs0 ≤ 1048576
  rotate_left
  · have h1 : (1048576 : Int) < (tot rs0 : Int) := by omega
    go_enter Try.func14, Try.ntmps14
    go_wp2_with fail
    refine (szSS_no _ _ _ _ _ _ HR.out h1 (by omega) (by omega) hn0 HL.out).mono ?_
    rintro e w' ⟨rfl, rfl⟩
    go_wp2
    go_ret
    exact ret_mk (Below.refl _ _)
  have h1 : (tot rs0 : Int) ≤ 1048576 := by omega
  go_enter Try.func14, Try.ntmps14
  go_wp2_with fail
  refine (szSS_ok _ _ _ _ _ _ HR.out h1 (by omega) hn0 HL.out).mono ?_
  rintro e w' ⟨rfl, rfl⟩
  go_wp2_with fail
  refine (toSS _ _ _ rs0 _ HR.out hbig).mono ?_
  rintro e w1 ⟨rfl, O1, hb1⟩
  have R1 := Lib.hid (HR.out.call hb1)
  go_wp2_with fail
  refine (s_VM _ _ _ rs0 _ O1.read hn0 HL.out).mono ?_
  rintro e w2 ⟨rfl, hb2⟩
  have R2 := Lib.hid (R1.out.call hb2)
  go_wp2_with fail
  refine (toSS _ _ _ rs0 _ R2.out hbig).mono ?_
  rintro e w3 ⟨rfl, O3, hb3⟩
  have R3 := Lib.hid (R2.out.call hb3)
  go_wp2_with fail
  refine (i_VM _ _ _ rs0 _ O3.read hn0 HL.out).mono ?_
  rintro e w4 ⟨rfl, hb4⟩
  have R4 := Lib.hid (R3.out.call hb4)
  have E4 := Lib.hid (O3.read.call hb4)
  go_wp2_with fail
  refine (toSS _ _ _ rs0 _ R4.out hbig).mono ?_
  rintro e w5 ⟨rfl, O5, hb5⟩
  have E5 := Lib.hid (E4.out.call hb5)
  go_wp2_with fail
  refine (eqSS _ _ _ _ _ rs0 _ E5.out O5.read hbig).mono ?_
  rintro e w6 ⟨rfl, hb6⟩
  go_wp2
  go_ret
  refine ret_mk ?_
  repeat (first | (with_reducible exact Below.refl _ _) | (with_reducible assumption) | (with_reducible refine bl_alloc ?_ _) | (with_reducible refine bl_drew ?_) | (with_reducible refine bl_set ?_ (by simp <;> omega) _) | (with_reducible refine bl_call ?_ (by assumption)))

set_option maxRecDepth 100000 in
theorem lifted (os : Os) (started : os.Started) (H : Type) (enc : TypeId × Value → H) :
    ReturnsInHanded {} Try.checked os 14 .any (Rows.fnExactIsValidMatrixSpec.pre6 enc Try.prog Try.f14 Rows.fnExactIsValidMatrixRow.domain false) (Rows.fnExactIsValidMatrixSpec.post enc Try.prog Try.f14 false true false false) := by
  refine returnsInHanded_of_change (C := Try.checked) own started (by kernel_rfl) Try.func14
    (ChangeSpec.witness6 (enc := enc) (C := Try.checked) false ⟨#[], #[.slice none 0 0], []⟩ 8 (by kernel_rfl) (by kernel_rfl) (by kernel_rfl) (by kernel_rfl)) ?_
  intro W base args ds gs before hval0 hW hcnd _
  have hval : ∀ (j : Nat) t v, Try.f14.params[j]? = some t → args[j]? = some v → Value.okWide Try.prog W .any base t v := hval0
  have hW' := hW
  obtain ⟨p, q, hA0, hV, rfl, hfz, hnd⟩ := hW
  have hA : DataW.TrodAll enc Try.prog W 0 (fun _ => true) true Try.f14.params.toList args.toList ds p := hA0
  rw [Try.params14] at hA hval
  obtain ⟨v0, vs0, d0, ds0, p0, q0, hargs, rfl, rfl, h0, r0⟩ := trodAll_cons hA
  obtain ⟨rfl, rfl, rfl⟩ := trodAll_nil r0
  obtain rfl : args = #[v0] := by cases args; simp_all
  obtain ⟨rfl, rfl⟩ := trodVars_none hV
  have kk0 := h0
  have lt0 : ∀ x ∈ p0, x.block < W.heap.size := by obtain ⟨m, hm⟩ := kk0; exact DataW.trod_lt m _ _ _ hm
  obtain ⟨A0, n0, cp0, rs0, rfl, hR0, hl0, hi0, hn0⟩ := open_M (hval 0 54 v0 rfl rfl) h0
  clear hA0 hval0
  refine (walk A0 n0 cp0 rs0 W hR0 hl0 hi0 hn0).mono fun e W' ⟨he, bel⟩ => ?_
  subst he
  exact ⟨_, rfl, _, _, _, [], _, [], hW', trodAll_mk1 (shut_bool Try.underlying4 _), (trodAll_cons_mk (Below.trod laidOut (by kernel_rfl) (of_decide_eq_true (by kernel_rfl)) kk0 bel lt0) trodAll_mk0), rfl, bel.frame _, fun h => by cases h⟩

theorem over : Rows.fnExactIsValidMatrixRow.holds Try.pinned (OpenSpec.ofChange Rows.fnExactIsValidMatrixSpec) :=
  OpenClaim.holds_of_wide 14 Try.f14 rfl rfl rfl rfl rfl rfl rfl ⟨rfl, rfl, rfl, rfl, rfl⟩ rfl rfl rfl rfl rfl (by kernel_rfl) Try.func14 (by kernel_rfl)
    (of_decide_eq_true (by kernel_rfl)) (by unfold Func.isWrapper; first | (rw [if_pos (by decide +kernel)]; kernel_rfl) | (rw [if_neg (by decide +kernel)]; exact ⟨rfl, rfl⟩))
    (fun os started H enc _ => lifted os started H enc)

theorem proved : Rows.FnExactIsValidMatrixSaid := over
end Go.Proofs.Ytllkllnfbmcfeaa.fnExactIsValidMatrix
