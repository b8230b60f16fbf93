/-
  Proved: for every input the Go function FnExactParseInt returns true (the program's function returns what the reference's returns), and its arguments read as before.
  Conditions: none beyond the given statement (a tied card: the listed variables of Go's library hold what its text lays).
-/
import Derived.Test.YtbjmfapoioebjaaDoorCloseL
import Derived.Test.YtbjmfapoioebjaaDoorPa
import Derived.Deep.RegionHeld3
namespace Go.Proofs.YtbjmfapoioebjaaDoor.fnExactParseInt
open Go.Proofs.YtbjmfapoioebjaaDoor
open Go.ChangeShapes Go.WideShapes Go.ChangeAt Go.RowKit
set_option linter.unusedVariables false
set_option maxRecDepth 20000

set_option maxHeartbeats 2000000 in
theorem walk (s0 : ByteArray) (w : World) (fs0 : s0.size ≤ 9223372036854775807) (heI : EnvI w) (heE : EnvE w) :
    Calls Tryd.prog 7 #[.string s0] w (Ret (.bool true) w) := by
  by_cases hbig : s0.size ≤ 1048576
  rotate_left
  · have d0 : decide ((1048576 : Int) < (s0.size : Int)) = true := by simp; omega
    have d1 : decide (1048576 < s0.size) = true := by simp; omega
    clear heI heE
    go_enter Tryd.func7, Tryd.ntmps7
    go_wp2
    go_ret
    exact ret_mk (Below.refl _ _)
  have d0 : decide ((1048576 : Int) < (s0.size : Int)) = false := by simp; omega
  have d1 : decide (1048576 < s0.size) = false := by simp; omega
  have HI := Lib.hid heI
  have HE := Lib.hid heE
  clear heI heE
  obtain ⟨V, hV⟩ : ∃ V, pnum (-999999999999) 999999999999 s0.data.toList = V := ⟨_, rfl⟩
  have H1 : ∀ W, Calls Tryd.prog 25 #[.string s0] W (Ret (optV V) W) := fun W => by have := s_PInt s0 W hbig; rwa [hV] at this
  have H2 : ∀ W, EnvI W → EnvE W → Calls Tryd.prog 26 #[.string s0] W (Ret (optV V) W) := fun W a b => by have := i_PInt s0 W hbig a b; rwa [hV] at this
  have K1 := Lib.hid H1
  have K2 := Lib.hid H2
  clear H1 H2 hV
  obtain ⟨n, hn⟩ : ∃ n, V.getD 0 = n := ⟨_, rfl⟩
  obtain ⟨b, hb⟩ : ∃ b, V.isSome = b := ⟨_, rfl⟩
  have HN := Lib.hid hn
  have HB := Lib.hid hb
  clear hn hb
  go_enter Tryd.func7, Tryd.ntmps7
  go_wp2_with fail
  refine (K1.out _).mono ?_
  rintro e w1 ⟨rfl, hb1⟩
  unfold optV
  rw [HN.out, HB.out]
  go_wp2_with fail
  refine (K2.out _ (HI.out.call hb1) (HE.out.call hb1)).mono ?_
  rintro e w2 ⟨rfl, hb2⟩
  unfold optV
  rw [HN.out, HB.out]
  have hbb : (b != b) = false := by simp
  have hbe : (b == b) = true := by simp
  go_wp2
  go_ret
  refine ret_eq (by simp) ?_
  repeat (first | (with_reducible exact Below.refl _ _) | (with_reducible assumption) | (with_reducible refine bl_alloc ?_ _) | (with_reducible refine bl_drew ?_) | (with_reducible refine bl_set ?_ (by simp <;> omega) _) | (with_reducible refine bl_call ?_ (by assumption)))

set_option maxRecDepth 100000 in
theorem lifted (os : Os) (started : os.Started) (H : Type) (enc : TypeId × Value → H) :
    ReturnsInHanded {} Tryd.checked os 7 .any (fun w args => (Rows.fnExactParseIntSpec.pre enc Tryd.prog Tryd.f7 [] false w args ∧ laidMetH Tryd.prog Rows.fnExactParseIntRow.laid w) ∧ sizedMet enc Tryd.prog Tryd.f7 (OpenSpec.ofChange Rows.fnExactParseIntSpec) false w args) (Rows.fnExactParseIntSpec.post enc Tryd.prog Tryd.f7 false true false false) := by
  refine handed_laid (C := Tryd.checked) (X := fun w _ => laidMetH Tryd.prog Rows.fnExactParseIntRow.laid w) (fun _ _ _ hh h => h.of_heap hh) own started (by kernel_rfl) Tryd.func7
    (ChangeSpec.witness_shaped (enc := enc) (C := Tryd.checked) (os := os) (X := fun w _ => laidMetH Tryd.prog Rows.fnExactParseIntRow.laid w) false (World.laidAll Tryd.prog os Rows.fnExactParseIntRow.laid) #[.string ⟨#[]⟩] 8 (World.laidAll_os _ _ _)
      (World.shaped_of_ZipB (by kernel_rfl) (by kernel_rfl)) (by kernel_rfl) (by kernel_rfl) (by kernel_rfl)
      (by rw [MakeChecks.laidMetH_plain _ _ _ (by kernel_rfl)]; exact laidMet_laidAll _ (by kernel_rfl) (by kernel_rfl))) ?_
  intro W base args ds gs before hval0 hW hL hsh
  rw [MakeChecks.laidMetH_plain _ _ _ (by kernel_rfl)] at hL
  have hval : ∀ (j : Nat) t v, Tryd.f7.params[j]? = some t → args[j]? = some v → Value.okWide Tryd.prog W .any base t v := hval0
  have hW' := hW
  obtain ⟨p, q, hA0, hV, rfl, hfz, hnd⟩ := hW
  have hA : DataW.TrodAll enc Tryd.prog W 0 (fun _ => true) true Tryd.f7.params.toList args.toList ds p := hA0
  rw [Tryd.params7] at hA hval
  obtain ⟨v0, vs0, d0, ds0, p0, q0, hargs, rfl, rfl, h0, r0⟩ := trodAll_cons hA
  obtain ⟨rfl, rfl, rfl⟩ := trodAll_nil r0
  obtain rfl : args = #[v0] := by cases args; simp_all
  obtain ⟨rfl, rfl⟩ := trodVars_none hV
  have kk0 := h0
  have lt0 : ∀ x ∈ p0, x.block < W.heap.size := by obtain ⟨m, hm⟩ := kk0; exact DataW.trod_lt m _ _ _ hm
  obtain ⟨s0, rfl, rfl, rfl, ws0⟩ := Go.ChangeMaps.open_string Tryd.underlying9 (hval 0 9 v0 rfl rfl) h0
  unfold maxLen at ws0
  clear hA0 hval0
  refine (walk s0 W (by omega) (envI_of hL.tail.tail) (envE_of hL.tail.tail.tail)).mono fun e W' ⟨he, bel⟩ => ?_
  subst he
  exact ⟨_, rfl, _, _, _, [], _, [], hW', trodAll_mk1 (shut_bool Tryd.underlying4 _), (trodAll_cons_mk (Below.trod laidOut (by kernel_rfl) (of_decide_eq_true (by kernel_rfl)) kk0 bel lt0) trodAll_mk0), rfl, bel.frame _, fun h => by cases h⟩

set_option maxRecDepth 100000 in
theorem over : Rows.fnExactParseIntRow.holds Tryd.pinned (OpenSpec.ofChange Rows.fnExactParseIntSpec) :=
  OpenClaim.holds_of_wide 7 Tryd.f7 rfl rfl rfl rfl rfl rfl rfl ⟨rfl, rfl, rfl, rfl, rfl⟩ rfl rfl rfl rfl rfl (by kernel_rfl) Tryd.func7 (by kernel_rfl)
    (of_decide_eq_true (by kernel_rfl)) (by unfold Func.isWrapper; first | (rw [if_pos (by decide +kernel)]; kernel_rfl) | (rw [if_neg (by decide +kernel)]; exact ⟨rfl, rfl⟩))
    (fun os started H enc _ => lifted os started H enc)

set_option maxRecDepth 100000 in
theorem proved : Rows.FnExactParseIntCardSaid :=
  Claim7.holds_tied_plain_at .later [] [.data, .data, .data, .sentinel, .sentinel] true Rows.fnExactParseIntCard.stood.harness true over (fun _ h => by cases h) (by kernel_rfl) (fun _ h => by cases h) fnExactParseInt_row_tie rfl ⟨rfl, rfl⟩ (by kernel_rfl) rfl
    (fun f fn hf hfn => by
      obtain rfl : f = 7 := Option.some.inj ((show Tryd.prog.funcNamed "loop.example/g00506/laws.FnExactParseInt" = some 7 by kernel_rfl).symm.trans hf) |>.symm
      obtain rfl : fn = Tryd.f7 := (Option.some.inj (Tryd.func7.symm.trans hfn)).symm
      exact ⟨by kernel_rfl, fun j t ht => by
        rw [Tryd.params7] at ht
        have hm : t ∈ [9] := by simpa using Array.mem_of_getElem? ht
        have hall : ([9].all fun u => !Tryd.prog.wantsStandIn u) = true := by kernel_rfl
        exact (show Tryd.prog.wantsStandIn t = false by simpa using List.all_eq_true.1 hall t hm)⟩)
    (by kernel_rfl)
end Go.Proofs.YtbjmfapoioebjaaDoor.fnExactParseInt
