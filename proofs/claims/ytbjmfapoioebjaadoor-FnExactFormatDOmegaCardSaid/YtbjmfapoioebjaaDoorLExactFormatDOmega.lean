/-
  Proved: for every input the Go function FnExactFormatDOmega returns true (the program's function returns what the reference's returns), and its arguments read as before.
  Conditions: none beyond the given statement (a tied card: the listed variables of Go's library hold what its text lays).
-/
import Derived.Test.YtbjmfapoioebjaaDoorCloseL
import Derived.Test.YtbjmfapoioebjaaDoorFD
import Derived.Deep.RegionHeld3
namespace Go.Proofs.YtbjmfapoioebjaaDoor.fnExactFormatDOmega
open Go.Proofs.YtbjmfapoioebjaaDoor
open Go.ChangeShapes Go.WideShapes Go.ChangeAt Go.RowKit
set_option linter.unusedVariables false
set_option maxRecDepth 20000

set_option maxHeartbeats 2000000 in
theorem walk (a0 b0 c0 d0 k0 : Int) (w : World) (fa0 : inr a0) (fb0 : inr b0) (fc0 : inr c0) (fd0 : inr d0) (fk0 : inr k0) (heI : EnvI w) :
    Calls Tryd.prog 5 #[.agg #[.int .i64 a0, .int .i64 b0, .int .i64 c0, .int .i64 d0, .int .i64 k0]] w (Ret (.bool true) w) := by
  have HE := Lib.hid heI
  clear heI
  obtain ⟨R, hR⟩ : ∃ R, str (fmtD a0 b0 c0 d0 k0) = R := ⟨_, rfl⟩
  have h1 : ∀ W, Calls Tryd.prog 19 #[.agg #[.int .i64 a0, .int .i64 b0, .int .i64 c0, .int .i64 d0, .int .i64 k0]] W (Ret (.string R) W) := fun W => by rw [← hR]; exact s_FD W
  have h2 : ∀ W, EnvI W → Calls Tryd.prog 21 #[.agg #[.int .i64 a0, .int .i64 b0, .int .i64 c0, .int .i64 d0, .int .i64 k0]] W (Ret (.string R) W) := fun W h => by rw [← hR]; exact i_FD W h
  have H1 := Lib.hid h1
  have H2 := Lib.hid h2
  clear h1 h2 hR fa0 fb0 fc0 fd0 fk0
  have eq := tl_eq (rfl : R = R)
  go_enter Tryd.func5, Tryd.ntmps5
  go_wp2_with fail
  refine (toD _ _ _ _ _ _).mono ?_
  rintro e w1 ⟨rfl, hb1⟩
  obtain ⟨hc1, hf1⟩ := bcell hb1
  have hz1 := hb1.size
  (try simp at hz1)
  have l1w0 : w.heap.size < w1.heap.size := by omega
  have m1w0 : w.heap.size ≤ w1.heap.size := by omega
  have x1w0 : ¬ w.heap.size = w1.heap.size := by omega
  have y1w0 : ¬ w1.heap.size = w.heap.size := by omega
  go_wp2_with fail
  refine (H1.out _).mono ?_
  rintro e w2 ⟨rfl, hb2⟩
  obtain ⟨hc2, hf2⟩ := bcell hb2
  have hz2 := hb2.size
  (try simp at hz2)
  have l2w0 : w.heap.size < w2.heap.size := by omega
  have m2w0 : w.heap.size ≤ w2.heap.size := by omega
  have x2w0 : ¬ w.heap.size = w2.heap.size := by omega
  have y2w0 : ¬ w2.heap.size = w.heap.size := by omega
  go_wp2_with fail
  refine (toD _ _ _ _ _ _).mono ?_
  rintro e w3 ⟨rfl, hb3⟩
  obtain ⟨hc3, hf3⟩ := bcell hb3
  have hz3 := hb3.size
  (try simp at hz3)
  have l3w0 : w.heap.size < w3.heap.size := by omega
  have m3w0 : w.heap.size ≤ w3.heap.size := by omega
  have x3w0 : ¬ w.heap.size = w3.heap.size := by omega
  have y3w0 : ¬ w3.heap.size = w.heap.size := by omega
  have EI : EnvI w3 := HE.out.call (by repeat (first | (with_reducible exact Below.refl _ _) | (with_reducible assumption) | (with_reducible refine bl_alloc ?_ _) | (with_reducible refine bl_drew ?_) | (with_reducible refine bl_set ?_ (by simp <;> omega) _) | (with_reducible refine bl_call ?_ (by assumption))))
  go_wp2_with fail
  refine (H2.out _ EI).mono ?_
  rintro e w4 ⟨rfl, hb4⟩
  obtain ⟨hc4, hf4⟩ := bcell hb4
  have hz4 := hb4.size
  (try simp at hz4)
  have l4w0 : w.heap.size < w4.heap.size := by omega
  have m4w0 : w.heap.size ≤ w4.heap.size := by omega
  have x4w0 : ¬ w.heap.size = w4.heap.size := by omega
  have y4w0 : ¬ w4.heap.size = w.heap.size := by omega
  go_wp2
  go_ret
  refine ret_eq (by simp) ?_
  repeat (first | (with_reducible exact Below.refl _ _) | (with_reducible assumption) | (with_reducible refine bl_alloc ?_ _) | (with_reducible refine bl_drew ?_) | (with_reducible refine bl_set ?_ (by simp <;> omega) _) | (with_reducible refine bl_call ?_ (by assumption)))

set_option maxRecDepth 100000 in
theorem lifted (os : Os) (started : os.Started) (H : Type) (enc : TypeId × Value → H) :
    ReturnsInHanded {} Tryd.checked os 5 .any (fun w args => (Rows.fnExactFormatDOmegaSpec.pre enc Tryd.prog Tryd.f5 [] false w args ∧ laidMetH Tryd.prog Rows.fnExactFormatDOmegaRow.laid w) ∧ sizedMet enc Tryd.prog Tryd.f5 (OpenSpec.ofChange Rows.fnExactFormatDOmegaSpec) false w args) (Rows.fnExactFormatDOmegaSpec.post enc Tryd.prog Tryd.f5 false true false false) := by
  refine handed_laid (C := Tryd.checked) (X := fun w _ => laidMetH Tryd.prog Rows.fnExactFormatDOmegaRow.laid w) (fun _ _ _ hh h => h.of_heap hh) own started (by kernel_rfl) Tryd.func5
    (ChangeSpec.witness_shaped (enc := enc) (C := Tryd.checked) (os := os) (X := fun w _ => laidMetH Tryd.prog Rows.fnExactFormatDOmegaRow.laid w) false (World.laidAll Tryd.prog os Rows.fnExactFormatDOmegaRow.laid) #[.agg #[.int .i64 0, .int .i64 0, .int .i64 0, .int .i64 0, .int .i64 0]] 8 (World.laidAll_os _ _ _)
      (World.shaped_of_ZipB (by kernel_rfl) (by kernel_rfl)) (by kernel_rfl) (by kernel_rfl) (by kernel_rfl)
      (by rw [MakeChecks.laidMetH_plain _ _ _ (by kernel_rfl)]; exact laidMet_laidAll _ (by kernel_rfl) (by kernel_rfl))) ?_
  intro W base args ds gs before hval0 hW hL hsh
  rw [MakeChecks.laidMetH_plain _ _ _ (by kernel_rfl)] at hL
  have hval : ∀ (j : Nat) t v, Tryd.f5.params[j]? = some t → args[j]? = some v → Value.okWide Tryd.prog W .any base t v := hval0
  have hW' := hW
  obtain ⟨p, q, hA0, hV, rfl, hfz, hnd⟩ := hW
  have hA : DataW.TrodAll enc Tryd.prog W 0 (fun _ => true) true Tryd.f5.params.toList args.toList ds p := hA0
  rw [Tryd.params5] at hA hval
  obtain ⟨v0, vs0, d0, ds0, p0, q0, hargs, rfl, rfl, h0, r0⟩ := trodAll_cons hA
  obtain ⟨rfl, rfl, rfl⟩ := trodAll_nil r0
  obtain rfl : args = #[v0] := by cases args; simp_all
  obtain ⟨rfl, rfl⟩ := trodVars_none hV
  have kk0 := h0
  have lt0 : ∀ x ∈ p0, x.block < W.heap.size := by obtain ⟨m, hm⟩ := kk0; exact DataW.trod_lt m _ _ _ hm
  obtain ⟨a0, b0, c0, d0, k0, rfl, fa0, fb0, fc0, fd0, fk0⟩ := open_D (hval 0 32 v0 rfl rfl) h0
  clear hA0 hval0
  refine (walk a0 b0 c0 d0 k0 W fa0 fb0 fc0 fd0 fk0 (envI_of hL.tail.tail)).mono fun e W' ⟨he, bel⟩ => ?_
  subst he
  exact ⟨_, rfl, _, _, _, [], _, [], hW', trodAll_mk1 (shut_bool Tryd.underlying4 _), (trodAll_cons_mk (Below.trod laidOut (by kernel_rfl) (of_decide_eq_true (by kernel_rfl)) kk0 bel lt0) trodAll_mk0), rfl, bel.frame _, fun h => by cases h⟩

set_option maxRecDepth 100000 in
theorem over : Rows.fnExactFormatDOmegaRow.holds Tryd.pinned (OpenSpec.ofChange Rows.fnExactFormatDOmegaSpec) :=
  OpenClaim.holds_of_wide 5 Tryd.f5 rfl rfl rfl rfl rfl rfl rfl ⟨rfl, rfl, rfl, rfl, rfl⟩ rfl rfl rfl rfl rfl (by kernel_rfl) Tryd.func5 (by kernel_rfl)
    (of_decide_eq_true (by kernel_rfl)) (by unfold Func.isWrapper; first | (rw [if_pos (by decide +kernel)]; kernel_rfl) | (rw [if_neg (by decide +kernel)]; exact ⟨rfl, rfl⟩))
    (fun os started H enc _ => lifted os started H enc)

set_option maxRecDepth 100000 in
theorem proved : Rows.FnExactFormatDOmegaCardSaid :=
  Claim7.holds_tied_plain_at .later [] [.data, .data, .data] true Rows.fnExactFormatDOmegaCard.stood.harness true over (fun _ h => by cases h) (by kernel_rfl) (fun _ h => by cases h) fnExactFormatDOmega_row_tie rfl ⟨rfl, rfl⟩ (by kernel_rfl) rfl
    (fun f fn hf hfn => by
      obtain rfl : f = 5 := Option.some.inj ((show Tryd.prog.funcNamed "loop.example/g00506/laws.FnExactFormatDOmega" = some 5 by kernel_rfl).symm.trans hf) |>.symm
      obtain rfl : fn = Tryd.f5 := (Option.some.inj (Tryd.func5.symm.trans hfn)).symm
      exact ⟨by kernel_rfl, fun j t ht => by
        rw [Tryd.params5] at ht
        have hm : t ∈ [32] := by simpa using Array.mem_of_getElem? ht
        have hall : ([32].all fun u => !Tryd.prog.wantsStandIn u) = true := by kernel_rfl
        exact (show Tryd.prog.wantsStandIn t = false by simpa using List.all_eq_true.1 hall t hm)⟩)
    (by kernel_rfl)
end Go.Proofs.YtbjmfapoioebjaaDoor.fnExactFormatDOmega
