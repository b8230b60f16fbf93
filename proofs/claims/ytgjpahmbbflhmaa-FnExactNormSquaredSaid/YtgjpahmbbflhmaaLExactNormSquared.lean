/-
  Proved: for every input the Go function FnExactNormSquared returns true (the program's function returns what the reference's returns), and its arguments read as before.
  Conditions: none beyond the given statement.
-/
import Derived.Test.YtgjpahmbbflhmaaClose
import Derived.Deep.RegionHeld3
import Derived.Test.YtgjpahmbbflhmaaNS
namespace Go.Proofs.Ytgjpahmbbflhmaa.fnExactNormSquared
open Go.Proofs.Ytgjpahmbbflhmaa
open Go.ChangeShapes Go.WideShapes Go.ChangeAt Go.RowKit
set_option linter.unusedVariables false

set_option maxHeartbeats 2000000 in
theorem walk (a0 b0 c0 d0 k0 : Int) (w : World) (fa0 : inr a0) (fb0 : inr b0) (fc0 : inr c0) (fd0 : inr d0) (fk0 : inr k0) :
    Calls Try.prog 5 #[.agg #[.int .i64 a0, .int .i64 b0, .int .i64 c0, .int .i64 d0, .int .i64 k0]] w (Ret (.bool true) w) := by
  rcases h0 : mulD ⟨⟨a0, b0, c0, d0⟩, k0⟩ ⟨⟨a0, -d0, -c0, -b0⟩, k0⟩ with _ | ⟨⟨p, q, r, s⟩, m⟩
  · have H0 := Lib.hid h0
    clear h0
    go_enter Try.func5, Try.ntmps5
    go_wp2_with fail
    refine (toD _ _ _ _ _ _).mono ?_
    rintro e w1 ⟨rfl, hb1⟩
    obtain ⟨hc1, hf1⟩ := bcell hb1
    have hz1 := hb1.size
    (try simp at hz1)
    have l1w0 : w.heap.size < w1.heap.size := by omega
    have m1w0 : w.heap.size ≤ w1.heap.size := by omega
    have x1w0 : ¬ w.heap.size = w1.heap.size := by omega
    have y1w0 : ¬ w1.heap.size = w.heap.size := by omega
    go_wp2_with fail
    refine (s_Norm_none _ H0.out).mono ?_
    rintro e w2 ⟨rfl, hb2⟩
    obtain ⟨hc2, hf2⟩ := bcell hb2
    have hz2 := hb2.size
    (try simp at hz2)
    have l2w0 : w.heap.size < w2.heap.size := by omega
    have m2w0 : w.heap.size ≤ w2.heap.size := by omega
    have x2w0 : ¬ w.heap.size = w2.heap.size := by omega
    have y2w0 : ¬ w2.heap.size = w.heap.size := by omega
    go_wp2_with fail
    refine (toD _ _ _ _ _ _).mono ?_
    rintro e w3 ⟨rfl, hb3⟩
    obtain ⟨hc3, hf3⟩ := bcell hb3
    have hz3 := hb3.size
    (try simp at hz3)
    have l3w0 : w.heap.size < w3.heap.size := by omega
    have m3w0 : w.heap.size ≤ w3.heap.size := by omega
    have x3w0 : ¬ w.heap.size = w3.heap.size := by omega
    have y3w0 : ¬ w3.heap.size = w.heap.size := by omega
    have l3w20 : w2.heap.size < w3.heap.size := by omega
    have m3w20 : w2.heap.size ≤ w3.heap.size := by omega
    have x3w20 : ¬ w2.heap.size = w3.heap.size := by omega
    have y3w20 : ¬ w3.heap.size = w2.heap.size := by omega
    go_wp2_with fail
    refine (i_Norm_none _ H0.out).mono ?_
    rintro e w4 ⟨rfl, hb4⟩
    obtain ⟨hc4, hf4⟩ := bcell hb4
    have hz4 := hb4.size
    (try simp at hz4)
    have l4w0 : w.heap.size < w4.heap.size := by omega
    have m4w0 : w.heap.size ≤ w4.heap.size := by omega
    have x4w0 : ¬ w.heap.size = w4.heap.size := by omega
    have y4w0 : ¬ w4.heap.size = w.heap.size := by omega
    have l4w20 : w2.heap.size < w4.heap.size := by omega
    have m4w20 : w2.heap.size ≤ w4.heap.size := by omega
    have x4w20 : ¬ w2.heap.size = w4.heap.size := by omega
    have y4w20 : ¬ w4.heap.size = w2.heap.size := by omega
    go_wp2_with fail
    refine (eqD _ _ _ _ _ _).mono ?_
    rintro e w5 ⟨rfl, hb5⟩
    obtain ⟨hc5, hf5⟩ := bcell hb5
    have hz5 := hb5.size
    (try simp at hz5)
    have l5w0 : w.heap.size < w5.heap.size := by omega
    have m5w0 : w.heap.size ≤ w5.heap.size := by omega
    have x5w0 : ¬ w.heap.size = w5.heap.size := by omega
    have y5w0 : ¬ w5.heap.size = w.heap.size := by omega
    have l5w20 : w2.heap.size < w5.heap.size := by omega
    have m5w20 : w2.heap.size ≤ w5.heap.size := by omega
    have x5w20 : ¬ w2.heap.size = w5.heap.size := by omega
    have y5w20 : ¬ w5.heap.size = w2.heap.size := by omega
    have l5w40 : w4.heap.size < w5.heap.size := by omega
    have m5w40 : w4.heap.size ≤ w5.heap.size := by omega
    have x5w40 : ¬ w4.heap.size = w5.heap.size := by omega
    have y5w40 : ¬ w5.heap.size = w4.heap.size := by omega
    go_wp2
    go_ret
    refine ret_mk ?_
    repeat (first | (with_reducible exact Below.refl _ _) | (with_reducible assumption) | (with_reducible refine bl_alloc ?_ _) | (with_reducible refine bl_drew ?_) | (with_reducible refine bl_set ?_ (by simp <;> omega) _) | (with_reducible refine bl_call ?_ (by assumption)))
  · have H0 := Lib.hid h0
    clear h0
    go_enter Try.func5, Try.ntmps5
    go_wp2_with fail
    refine (toD _ _ _ _ _ _).mono ?_
    rintro e w1 ⟨rfl, hb1⟩
    obtain ⟨hc1, hf1⟩ := bcell hb1
    have hz1 := hb1.size
    (try simp at hz1)
    have l1w0 : w.heap.size < w1.heap.size := by omega
    have m1w0 : w.heap.size ≤ w1.heap.size := by omega
    have x1w0 : ¬ w.heap.size = w1.heap.size := by omega
    have y1w0 : ¬ w1.heap.size = w.heap.size := by omega
    go_wp2_with fail
    refine (s_Norm_some _ H0.out).mono ?_
    rintro e w2 ⟨rfl, hb2⟩
    obtain ⟨hc2, hf2⟩ := bcell hb2
    have hz2 := hb2.size
    (try simp at hz2)
    have l2w0 : w.heap.size < w2.heap.size := by omega
    have m2w0 : w.heap.size ≤ w2.heap.size := by omega
    have x2w0 : ¬ w.heap.size = w2.heap.size := by omega
    have y2w0 : ¬ w2.heap.size = w.heap.size := by omega
    go_wp2_with fail
    refine (toD _ _ _ _ _ _).mono ?_
    rintro e w3 ⟨rfl, hb3⟩
    obtain ⟨hc3, hf3⟩ := bcell hb3
    have hz3 := hb3.size
    (try simp at hz3)
    have l3w0 : w.heap.size < w3.heap.size := by omega
    have m3w0 : w.heap.size ≤ w3.heap.size := by omega
    have x3w0 : ¬ w.heap.size = w3.heap.size := by omega
    have y3w0 : ¬ w3.heap.size = w.heap.size := by omega
    have l3w20 : w2.heap.size < w3.heap.size := by omega
    have m3w20 : w2.heap.size ≤ w3.heap.size := by omega
    have x3w20 : ¬ w2.heap.size = w3.heap.size := by omega
    have y3w20 : ¬ w3.heap.size = w2.heap.size := by omega
    go_wp2_with fail
    refine (i_Norm_some _ H0.out).mono ?_
    rintro e w4 ⟨rfl, hb4⟩
    obtain ⟨hc4, hf4⟩ := bcell hb4
    have hz4 := hb4.size
    (try simp at hz4)
    have l4w0 : w.heap.size < w4.heap.size := by omega
    have m4w0 : w.heap.size ≤ w4.heap.size := by omega
    have x4w0 : ¬ w.heap.size = w4.heap.size := by omega
    have y4w0 : ¬ w4.heap.size = w.heap.size := by omega
    have l4w20 : w2.heap.size < w4.heap.size := by omega
    have m4w20 : w2.heap.size ≤ w4.heap.size := by omega
    have x4w20 : ¬ w2.heap.size = w4.heap.size := by omega
    have y4w20 : ¬ w4.heap.size = w2.heap.size := by omega
    go_wp2_with fail
    refine (eqD _ _ _ _ _ _).mono ?_
    rintro e w5 ⟨rfl, hb5⟩
    obtain ⟨hc5, hf5⟩ := bcell hb5
    have hz5 := hb5.size
    (try simp at hz5)
    have l5w0 : w.heap.size < w5.heap.size := by omega
    have m5w0 : w.heap.size ≤ w5.heap.size := by omega
    have x5w0 : ¬ w.heap.size = w5.heap.size := by omega
    have y5w0 : ¬ w5.heap.size = w.heap.size := by omega
    have l5w20 : w2.heap.size < w5.heap.size := by omega
    have m5w20 : w2.heap.size ≤ w5.heap.size := by omega
    have x5w20 : ¬ w2.heap.size = w5.heap.size := by omega
    have y5w20 : ¬ w5.heap.size = w2.heap.size := by omega
    have l5w40 : w4.heap.size < w5.heap.size := by omega
    have m5w40 : w4.heap.size ≤ w5.heap.size := by omega
    have x5w40 : ¬ w4.heap.size = w5.heap.size := by omega
    have y5w40 : ¬ w5.heap.size = w4.heap.size := by omega
    go_wp2
    go_ret
    refine ret_mk ?_
    repeat (first | (with_reducible exact Below.refl _ _) | (with_reducible assumption) | (with_reducible refine bl_alloc ?_ _) | (with_reducible refine bl_drew ?_) | (with_reducible refine bl_set ?_ (by simp <;> omega) _) | (with_reducible refine bl_call ?_ (by assumption)))

set_option maxRecDepth 100000 in
theorem lifted (os : Os) (started : os.Started) (H : Type) (enc : TypeId × Value → H) :
    ReturnsInHanded {} Try.checked os 5 .any (Rows.fnExactNormSquaredSpec.pre6 enc Try.prog Try.f5 Rows.fnExactNormSquaredRow.domain false) (Rows.fnExactNormSquaredSpec.post enc Try.prog Try.f5 false true false false) := by
  refine returnsInHanded_of_change (C := Try.checked) own started (by kernel_rfl) Try.func5
    (ChangeSpec.witness6 (enc := enc) (C := Try.checked) false ⟨#[], #[.agg #[.int .i64 0, .int .i64 0, .int .i64 0, .int .i64 0, .int .i64 0]], []⟩ 8 (by kernel_rfl) (by kernel_rfl) (by kernel_rfl) (by kernel_rfl)) ?_
  intro W base args ds gs before hval0 hW hcnd _
  have hval : ∀ (j : Nat) t v, Try.f5.params[j]? = some t → args[j]? = some v → Value.okWide Try.prog W .any base t v := hval0
  have hW' := hW
  obtain ⟨p, q, hA0, hV, rfl, hfz, hnd⟩ := hW
  have hA : DataW.TrodAll enc Try.prog W 0 (fun _ => true) true Try.f5.params.toList args.toList ds p := hA0
  rw [Try.params5] at hA hval
  obtain ⟨v0, vs0, d0, ds0, p0, q0, hargs, rfl, rfl, h0, r0⟩ := trodAll_cons hA
  obtain ⟨rfl, rfl, rfl⟩ := trodAll_nil r0
  obtain rfl : args = #[v0] := by cases args; simp_all
  obtain ⟨rfl, rfl⟩ := trodVars_none hV
  have kk0 := h0
  have lt0 : ∀ x ∈ p0, x.block < W.heap.size := by obtain ⟨m, hm⟩ := kk0; exact DataW.trod_lt m _ _ _ hm
  obtain ⟨a0, b0, c0, d0, k0, rfl, fa0, fb0, fc0, fd0, fk0⟩ := open_D (hval 0 31 v0 rfl rfl) h0
  clear hA0 hval0
  refine (walk a0 b0 c0 d0 k0 W fa0 fb0 fc0 fd0 fk0).mono fun e W' ⟨he, bel⟩ => ?_
  subst he
  exact ⟨_, rfl, _, _, _, [], _, [], hW', trodAll_mk1 (shut_bool Try.underlying4 _), (trodAll_cons_mk (Below.trod laidOut (by kernel_rfl) (of_decide_eq_true (by kernel_rfl)) kk0 bel lt0) trodAll_mk0), rfl, bel.frame _, fun h => by cases h⟩

theorem over : Rows.fnExactNormSquaredRow.holds Try.pinned (OpenSpec.ofChange Rows.fnExactNormSquaredSpec) :=
  OpenClaim.holds_of_wide 5 Try.f5 rfl rfl rfl rfl rfl rfl rfl ⟨rfl, rfl, rfl, rfl, rfl⟩ rfl rfl rfl rfl rfl (by kernel_rfl) Try.func5 (by kernel_rfl)
    (of_decide_eq_true (by kernel_rfl)) (by unfold Func.isWrapper; first | (rw [if_pos (by decide +kernel)]; kernel_rfl) | (rw [if_neg (by decide +kernel)]; exact ⟨rfl, rfl⟩))
    (fun os started H enc _ => lifted os started H enc)

theorem proved : Rows.FnExactNormSquaredSaid := over
end Go.Proofs.Ytgjpahmbbflhmaa.fnExactNormSquared
