/-
  Proved: for every input the Go function FnExactOneDOmega returns true (the program's function returns what the reference's returns), and its arguments read as before.
  Conditions: none beyond the given statement.
-/
import Derived.Test.YtijgcbocidejmaaClose
import Derived.Test.YtijgcbocidejmaaD
namespace Go.Proofs.Ytijgcbocidejmaa.fnExactOneDOmega
open Go.Proofs.Ytijgcbocidejmaa
open Go.ChangeShapes Go.WideShapes Go.ChangeAt Go.RowKit
set_option linter.unusedVariables false

set_option maxHeartbeats 2000000 in
theorem walk (w : World) :
    Calls Try.prog 5 #[] w (Ret (.bool true) w) := by
  go_enter Try.func5, Try.ntmps5
  go_wp2_with fail
  refine (s_One _).mono ?_
  rintro e w1 ⟨rfl, hb1⟩
  obtain ⟨hc1, hf1⟩ := bcell hb1
  have hz1 := hb1.size
  (try simp at hz1)
  go_wp2_with fail
  refine (i_One _).mono ?_
  rintro e w2 ⟨rfl, hb2⟩
  obtain ⟨hc2, hf2⟩ := bcell hb2
  have hz2 := hb2.size
  (try simp at hz2)
  have l2w10 : w1.heap.size < w2.heap.size := by omega
  have m2w10 : w1.heap.size ≤ w2.heap.size := by omega
  have x2w10 : ¬ w1.heap.size = w2.heap.size := by omega
  have y2w10 : ¬ w2.heap.size = w1.heap.size := by omega
  go_wp2_with fail
  refine (eqD _ _ _ _ _ _).mono ?_
  rintro e w3 ⟨rfl, hb3⟩
  obtain ⟨hc3, hf3⟩ := bcell hb3
  have hz3 := hb3.size
  (try simp at hz3)
  have l3w10 : w1.heap.size < w3.heap.size := by omega
  have m3w10 : w1.heap.size ≤ w3.heap.size := by omega
  have x3w10 : ¬ w1.heap.size = w3.heap.size := by omega
  have y3w10 : ¬ w3.heap.size = w1.heap.size := by omega
  have l3w20 : w2.heap.size < w3.heap.size := by omega
  have m3w20 : w2.heap.size ≤ w3.heap.size := by omega
  have x3w20 : ¬ w2.heap.size = w3.heap.size := by omega
  have y3w20 : ¬ w3.heap.size = w2.heap.size := by omega
  go_wp2
  go_ret
  refine ret_mk ?_
  repeat (first | (with_reducible exact Below.refl _ _) | (with_reducible refine bl_alloc ?_ _) | (with_reducible refine bl_drew ?_) | (with_reducible refine bl_set ?_ (by simp <;> omega) _) | (with_reducible refine bl_call ?_ (by assumption)))

set_option maxRecDepth 100000 in
theorem lifted (os : Os) (started : os.Started) (H : Type) (enc : TypeId × Value → H) :
    ReturnsInHanded {} Try.checked os 5 .any (Rows.fnExactOneDOmegaSpec.pre6 enc Try.prog Try.f5 Rows.fnExactOneDOmegaRow.domain false) (Rows.fnExactOneDOmegaSpec.post enc Try.prog Try.f5 false true false false) := by
  refine returnsInHanded_of_change (C := Try.checked) own started (by kernel_rfl) Try.func5
    (ChangeSpec.witness6 (enc := enc) (C := Try.checked) false ⟨#[], #[], []⟩ 8 (by kernel_rfl) (by kernel_rfl) (by kernel_rfl) (by kernel_rfl)) ?_
  intro W base args ds gs before hval0 hW hcnd _
  have hval : ∀ (j : Nat) t v, Try.f5.params[j]? = some t → args[j]? = some v → Value.okWide Try.prog W .any base t v := hval0
  have hW' := hW
  obtain ⟨p, q, hA0, hV, rfl, hfz, hnd⟩ := hW
  have hA : DataW.TrodAll enc Try.prog W 0 (fun _ => true) true Try.f5.params.toList args.toList ds p := hA0
  rw [Try.params5] at hA hval
  obtain ⟨hargs, rfl, rfl⟩ := trodAll_nil hA
  obtain rfl : args = #[] := by cases args; simp_all
  obtain ⟨rfl, rfl⟩ := trodVars_none hV
  clear hA0 hval0
  refine (walk  W).mono fun e W' ⟨he, bel⟩ => ?_
  subst he
  exact ⟨_, rfl, _, _, _, [], _, [], hW', trodAll_mk1 (shut_bool Try.underlying4 _), rfl, rfl, bel.frame _, fun h => by cases h⟩

theorem over : Rows.fnExactOneDOmegaRow.holds Try.pinned (OpenSpec.ofChange Rows.fnExactOneDOmegaSpec) :=
  OpenClaim.holds_of_wide 5 Try.f5 rfl rfl rfl rfl rfl rfl rfl ⟨rfl, rfl, rfl, rfl, rfl⟩ rfl rfl rfl rfl rfl (by kernel_rfl) Try.func5 (by kernel_rfl)
    (of_decide_eq_true (by kernel_rfl)) (by unfold Func.isWrapper; first | (rw [if_pos (by decide +kernel)]; kernel_rfl) | (rw [if_neg (by decide +kernel)]; exact ⟨rfl, rfl⟩))
    (fun os started H enc _ => lifted os started H enc)

theorem proved : Rows.FnExactOneDOmegaSaid := over
end Go.Proofs.Ytijgcbocidejmaa.fnExactOneDOmega
