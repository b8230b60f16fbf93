/-
  Proved: for every input the Go function FnExactPhaseFactor returns true (the program's function returns what the reference's returns), and its arguments read as before.
  Conditions: none beyond the given statement.
-/
import Derived.Test.YtijgcbocidejmaaClose
import Derived.Test.YtijgcbocidejmaaPh
namespace Go.Proofs.Ytijgcbocidejmaa.fnExactPhaseFactor
open Go.Proofs.Ytijgcbocidejmaa
open Go.ChangeShapes Go.WideShapes Go.ChangeAt Go.RowKit
set_option linter.unusedVariables false

set_option maxHeartbeats 2000000 in
theorem walk (x0 : Int) (w : World) (fx0 : inr x0) :
    Calls Try.prog 13 #[.int .i64 x0] w (Ret (.bool true) w) := by
  obtain ⟨⟨a, b, c, d⟩, h0⟩ : ∃ z, phaseZ x0 = z := ⟨_, rfl⟩
  have H0 := Lib.hid h0
  clear h0
  go_enter Try.func13, Try.ntmps13
  go_wp2_with fail
  refine (s_Phase _ H0.out).mono ?_
  rintro e w1 ⟨rfl, hb1⟩
  obtain ⟨hc1, hf1⟩ := bcell hb1
  have hz1 := hb1.size
  (try simp at hz1)
  go_wp2_with fail
  refine (i_Phase _ H0.out).mono ?_
  rintro e w2 ⟨rfl, hb2⟩
  obtain ⟨hc2, hf2⟩ := bcell hb2
  have hz2 := hb2.size
  (try simp at hz2)
  have l2w10 : w1.heap.size < w2.heap.size := by omega
  have m2w10 : w1.heap.size ≤ w2.heap.size := by omega
  have x2w10 : ¬ w1.heap.size = w2.heap.size := by omega
  have y2w10 : ¬ w2.heap.size = w1.heap.size := by omega
  go_wp2_with fail
  refine (eqD _ _ _ _ _ _).mono ?_
  rintro e w3 ⟨rfl, hb3⟩
  obtain ⟨hc3, hf3⟩ := bcell hb3
  have hz3 := hb3.size
  (try simp at hz3)
  have l3w10 : w1.heap.size < w3.heap.size := by omega
  have m3w10 : w1.heap.size ≤ w3.heap.size := by omega
  have x3w10 : ¬ w1.heap.size = w3.heap.size := by omega
  have y3w10 : ¬ w3.heap.size = w1.heap.size := by omega
  have l3w20 : w2.heap.size < w3.heap.size := by omega
  have m3w20 : w2.heap.size ≤ w3.heap.size := by omega
  have x3w20 : ¬ w2.heap.size = w3.heap.size := by omega
  have y3w20 : ¬ w3.heap.size = w2.heap.size := by omega
  go_wp2
  go_ret
  refine ret_mk ?_
  repeat (first | (with_reducible exact Below.refl _ _) | (with_reducible refine bl_alloc ?_ _) | (with_reducible refine bl_drew ?_) | (with_reducible refine bl_set ?_ (by simp <;> omega) _) | (with_reducible refine bl_call ?_ (by assumption)))

set_option maxRecDepth 100000 in
theorem lifted (os : Os) (started : os.Started) (H : Type) (enc : TypeId × Value → H) :
    ReturnsInHanded {} Try.checked os 13 .any (Rows.fnExactPhaseFactorSpec.pre6 enc Try.prog Try.f13 Rows.fnExactPhaseFactorRow.domain false) (Rows.fnExactPhaseFactorSpec.post enc Try.prog Try.f13 false true false false) := by
  refine returnsInHanded_of_change (C := Try.checked) own started (by kernel_rfl) Try.func13
    (ChangeSpec.witness6 (enc := enc) (C := Try.checked) false ⟨#[], #[.int .i64 0], []⟩ 8 (by kernel_rfl) (by kernel_rfl) (by kernel_rfl) (by kernel_rfl)) ?_
  intro W base args ds gs before hval0 hW hcnd _
  have hval : ∀ (j : Nat) t v, Try.f13.params[j]? = some t → args[j]? = some v → Value.okWide Try.prog W .any base t v := hval0
  have hW' := hW
  obtain ⟨p, q, hA0, hV, rfl, hfz, hnd⟩ := hW
  have hA : DataW.TrodAll enc Try.prog W 0 (fun _ => true) true Try.f13.params.toList args.toList ds p := hA0
  rw [Try.params13] at hA hval
  obtain ⟨v0, vs0, d0, ds0, p0, q0, hargs, rfl, rfl, h0, r0⟩ := trodAll_cons hA
  obtain ⟨rfl, rfl, rfl⟩ := trodAll_nil r0
  obtain rfl : args = #[v0] := by cases args; simp_all
  obtain ⟨rfl, rfl⟩ := trodVars_none hV
  have kk0 := h0
  have lt0 : ∀ x ∈ p0, x.block < W.heap.size := by obtain ⟨m, hm⟩ := kk0; exact DataW.trod_lt m _ _ _ hm
  obtain ⟨x0, rfl, rfl, rfl, wx0⟩ := open_int Try.underlying3 (hval 0 3 v0 rfl rfl) h0
  clear hA0 hval0
  refine (walk x0 W (inr_of wx0)).mono fun e W' ⟨he, bel⟩ => ?_
  subst he
  exact ⟨_, rfl, _, _, _, [], _, [], hW', trodAll_mk1 (shut_bool Try.underlying4 _), (trodAll_cons_mk (Below.trod laidOut (by kernel_rfl) (of_decide_eq_true (by kernel_rfl)) kk0 bel lt0) trodAll_mk0), rfl, bel.frame _, fun h => by cases h⟩

theorem over : Rows.fnExactPhaseFactorRow.holds Try.pinned (OpenSpec.ofChange Rows.fnExactPhaseFactorSpec) :=
  OpenClaim.holds_of_wide 13 Try.f13 rfl rfl rfl rfl rfl rfl rfl ⟨rfl, rfl, rfl, rfl, rfl⟩ rfl rfl rfl rfl rfl (by kernel_rfl) Try.func13 (by kernel_rfl)
    (of_decide_eq_true (by kernel_rfl)) (by unfold Func.isWrapper; first | (rw [if_pos (by decide +kernel)]; kernel_rfl) | (rw [if_neg (by decide +kernel)]; exact ⟨rfl, rfl⟩))
    (fun os started H enc _ => lifted os started H enc)

theorem proved : Rows.FnExactPhaseFactorSaid := over
end Go.Proofs.Ytijgcbocidejmaa.fnExactPhaseFactor
