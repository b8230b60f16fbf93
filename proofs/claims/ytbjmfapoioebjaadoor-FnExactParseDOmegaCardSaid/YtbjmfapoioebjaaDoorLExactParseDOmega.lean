/-
  Proved: for every input the Go function FnExactParseDOmega returns true (the program's function returns what the reference's returns), and its arguments read as before.
  Conditions: none beyond the given statement (a tied card: the listed variables of Go's library hold what its text lays).
-/
import Derived.Test.YtbjmfapoioebjaaDoorCloseL
import Derived.Test.YtbjmfapoioebjaaDoorPD
import Derived.Deep.RegionHeld3
namespace Go.Proofs.YtbjmfapoioebjaaDoor.fnExactParseDOmega
open Go.Proofs.YtbjmfapoioebjaaDoor
open Go.ChangeShapes Go.WideShapes Go.ChangeAt Go.RowKit
set_option linter.unusedVariables false
set_option maxRecDepth 20000

set_option maxHeartbeats 2000000 in
theorem walk (s0 : ByteArray) (w : World) (fs0 : s0.size ≤ 9223372036854775807) (heI : EnvI w) (heE : EnvE w) (heS : EnvS w) :
    Calls Tryd.prog 10 #[.string s0] w (Ret (.bool true) w) := by
  by_cases hbig : s0.size ≤ 1048576
  rotate_left
  · have d0 : decide ((1048576 : Int) < (s0.size : Int)) = true := by simp; omega
    have d1 : decide (1048576 < s0.size) = true := by simp; omega
    clear heI heE heS
    go_enter Tryd.func10, Tryd.ntmps10
    go_wp2
    go_ret
    exact ret_mk (Below.refl _ _)
  have d0 : decide ((1048576 : Int) < (s0.size : Int)) = false := by simp; omega
  have d1 : decide (1048576 < s0.size) = false := by simp; omega
  obtain ⟨x, y, z, t, m, ok, h1, h2, -, -⟩ := PD_u s0 hbig
  have K1 := Lib.hid h1
  have K2 := Lib.hid h2
  have HI := Lib.hid heI
  have HE := Lib.hid heE
  have HS := Lib.hid heS
  clear h1 h2 heI heE heS
  have hbb : (ok != ok) = false := by simp
  have hbe : (ok == ok) = true := by simp
  go_enter Tryd.func10, Tryd.ntmps10
  go_wp2_with fail
  refine (K1.out _).mono ?_
  rintro e w1 ⟨rfl, hb1⟩
  obtain ⟨hc1, hf1⟩ := bcell hb1
  have hz1 := hb1.size
  (try simp at hz1)
  go_wp2_with fail
  refine (K2.out _ (HS.out.call (bl_alloc hb1 _)) (HI.out.call (bl_alloc hb1 _)) (HE.out.call (bl_alloc hb1 _))).mono ?_
  rintro e w2 ⟨rfl, hb2⟩
  obtain ⟨hc2, hf2⟩ := bcell hb2
  have hz2 := hb2.size
  (try simp at hz2)
  have l2w10 : w1.heap.size < w2.heap.size := by omega
  have m2w10 : w1.heap.size ≤ w2.heap.size := by omega
  have x2w10 : ¬ w1.heap.size = w2.heap.size := by omega
  have y2w10 : ¬ w2.heap.size = w1.heap.size := by omega
  go_wp2_with fail
  refine (eqD _ _ _ _ _ _).mono ?_
  rintro e w3 ⟨rfl, hb3⟩
  obtain ⟨hc3, hf3⟩ := bcell hb3
  have hz3 := hb3.size
  (try simp at hz3)
  have l3w10 : w1.heap.size < w3.heap.size := by omega
  have m3w10 : w1.heap.size ≤ w3.heap.size := by omega
  have x3w10 : ¬ w1.heap.size = w3.heap.size := by omega
  have y3w10 : ¬ w3.heap.size = w1.heap.size := by omega
  have l3w20 : w2.heap.size < w3.heap.size := by omega
  have m3w20 : w2.heap.size ≤ w3.heap.size := by omega
  have x3w20 : ¬ w2.heap.size = w3.heap.size := by omega
  have y3w20 : ¬ w3.heap.size = w2.heap.size := by omega
  go_wp2
  go_ret
  refine ret_eq (by simp) ?_
  repeat (first | (with_reducible exact Below.refl _ _) | (with_reducible assumption) | (with_reducible refine bl_alloc ?_ _) | (with_reducible refine bl_drew ?_) | (with_reducible refine bl_set ?_ (by simp <;> omega) _) | (with_reducible refine bl_call ?_ (by assumption)))

set_option maxRecDepth 100000 in
theorem lifted (os : Os) (started : os.Started) (H : Type) (enc : TypeId × Value → H) :
    ReturnsInHanded {} Tryd.checked os 10 .any (fun w args => (Rows.fnExactParseDOmegaSpec.pre enc Tryd.prog Tryd.f10 [] false w args ∧ laidMetH Tryd.prog Rows.fnExactParseDOmegaRow.laid w) ∧ sizedMet enc Tryd.prog Tryd.f10 (OpenSpec.ofChange Rows.fnExactParseDOmegaSpec) false w args) (Rows.fnExactParseDOmegaSpec.post enc Tryd.prog Tryd.f10 false true false false) := by
  refine handed_laid (C := Tryd.checked) (X := fun w _ => laidMetH Tryd.prog Rows.fnExactParseDOmegaRow.laid w) (fun _ _ _ hh h => h.of_heap hh) own started (by kernel_rfl) Tryd.func10
    (ChangeSpec.witness_shaped (enc := enc) (C := Tryd.checked) (os := os) (X := fun w _ => laidMetH Tryd.prog Rows.fnExactParseDOmegaRow.laid w) false (World.laidAll Tryd.prog os Rows.fnExactParseDOmegaRow.laid) #[.string ⟨#[]⟩] 8 (World.laidAll_os _ _ _)
      (World.shaped_of_ZipB (by kernel_rfl) (by kernel_rfl)) (by kernel_rfl) (by kernel_rfl) (by kernel_rfl)
      (by rw [MakeChecks.laidMetH_plain _ _ _ (by kernel_rfl)]; exact laidMet_laidAll _ (by kernel_rfl) (by kernel_rfl))) ?_
  intro W base args ds gs before hval0 hW hL hsh
  rw [MakeChecks.laidMetH_plain _ _ _ (by kernel_rfl)] at hL
  have hval : ∀ (j : Nat) t v, Tryd.f10.params[j]? = some t → args[j]? = some v → Value.okWide Tryd.prog W .any base t v := hval0
  have hW' := hW
  obtain ⟨p, q, hA0, hV, rfl, hfz, hnd⟩ := hW
  have hA : DataW.TrodAll enc Tryd.prog W 0 (fun _ => true) true Tryd.f10.params.toList args.toList ds p := hA0
  rw [Tryd.params10] at hA hval
  obtain ⟨v0, vs0, d0, ds0, p0, q0, hargs, rfl, rfl, h0, r0⟩ := trodAll_cons hA
  obtain ⟨rfl, rfl, rfl⟩ := trodAll_nil r0
  obtain rfl : args = #[v0] := by cases args; simp_all
  obtain ⟨rfl, rfl⟩ := trodVars_none hV
  have kk0 := h0
  have lt0 : ∀ x ∈ p0, x.block < W.heap.size := by obtain ⟨m, hm⟩ := kk0; exact DataW.trod_lt m _ _ _ hm
  obtain ⟨s0, rfl, rfl, rfl, ws0⟩ := Go.ChangeMaps.open_string Tryd.underlying9 (hval 0 9 v0 rfl rfl) h0
  unfold maxLen at ws0
  clear hA0 hval0
  refine (walk s0 W (by omega) (envI_of hL.tail.tail) (envE_of hL.tail.tail.tail.tail) (envS_of hsh)).mono fun e W' ⟨he, bel⟩ => ?_
  subst he
  exact ⟨_, rfl, _, _, _, [], _, [], hW', trodAll_mk1 (shut_bool Tryd.underlying4 _), (trodAll_cons_mk (Below.trod laidOut (by kernel_rfl) (of_decide_eq_true (by kernel_rfl)) kk0 bel lt0) trodAll_mk0), rfl, bel.frame _, fun h => by cases h⟩

set_option maxRecDepth 100000 in
theorem over : Rows.fnExactParseDOmegaRow.holds Tryd.pinned (OpenSpec.ofChange Rows.fnExactParseDOmegaSpec) :=
  OpenClaim.holds_of_wide 10 Tryd.f10 rfl rfl rfl rfl rfl rfl rfl ⟨rfl, rfl, rfl, rfl, rfl⟩ rfl rfl rfl rfl rfl (by kernel_rfl) Tryd.func10 (by kernel_rfl)
    (of_decide_eq_true (by kernel_rfl)) (by unfold Func.isWrapper; first | (rw [if_pos (by decide +kernel)]; kernel_rfl) | (rw [if_neg (by decide +kernel)]; exact ⟨rfl, rfl⟩))
    (fun os started H enc _ => lifted os started H enc)

set_option maxRecDepth 100000 in
theorem proved : Rows.FnExactParseDOmegaCardSaid :=
  Claim7.holds_tied_plain_at .later [] [.data, .data, .data, .data, .sentinel, .sentinel, .pinned] true Rows.fnExactParseDOmegaCard.stood.harness true over (fun _ h => by cases h) (by kernel_rfl) (fun _ h => by cases h) fnExactParseDOmega_row_tie rfl ⟨rfl, rfl⟩ (by kernel_rfl) rfl
    (fun f fn hf hfn => by
      obtain rfl : f = 10 := Option.some.inj ((show Tryd.prog.funcNamed "loop.example/g00506/laws.FnExactParseDOmega" = some 10 by kernel_rfl).symm.trans hf) |>.symm
      obtain rfl : fn = Tryd.f10 := (Option.some.inj (Tryd.func10.symm.trans hfn)).symm
      exact ⟨by kernel_rfl, fun j t ht => by
        rw [Tryd.params10] at ht
        have hm : t ∈ [9] := by simpa using Array.mem_of_getElem? ht
        have hall : ([9].all fun u => !Tryd.prog.wantsStandIn u) = true := by kernel_rfl
        exact (show Tryd.prog.wantsStandIn t = false by simpa using List.all_eq_true.1 hall t hm)⟩)
    (by kernel_rfl)
end Go.Proofs.YtbjmfapoioebjaaDoor.fnExactParseDOmega
