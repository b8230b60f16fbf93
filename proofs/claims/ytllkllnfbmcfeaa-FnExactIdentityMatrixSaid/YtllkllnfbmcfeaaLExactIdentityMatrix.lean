/-
  Proved: for every input the Go function FnExactIdentityMatrix returns true (the program's function returns what the reference's returns), and its arguments read as before.
  Conditions: none beyond the given statement.
-/
import Derived.Test.YtllkllnfbmcfeaaClose
import Derived.Deep.RegionHeld3
import Derived.Test.YtllkllnfbmcfeaaId
namespace Go.Proofs.Ytllkllnfbmcfeaa.fnExactIdentityMatrix
open Go.Proofs.Ytllkllnfbmcfeaa
open Go.ChangeShapes Go.WideShapes Go.ChangeAt Go.RowKit
set_option linter.unusedVariables false

set_option maxHeartbeats 2000000 in
theorem walk (x0 : Int) (w : World) (fx0 : inr x0) :
    Calls Try.prog 13 #[.int .i64 x0] w (Ret (.bool true) w) := by
  obtain ⟨rs, hrs⟩ : ∃ rs, idD x0 = rs := ⟨_, rfl⟩
  have ht : tot rs ≤ 272 := by rw [← hrs]; exact idD_tot _
  have HS : ∀ W, Calls Try.prog 47 #[.int .i64 x0] W (RetOM W rs) := fun W => by have := s_Id x0 W; rwa [hrs] at this
  have HI : ∀ W, Calls Try.prog 48 #[.int .i64 x0] W (RetOM W rs) := fun W => by have := i_Id x0 W; rwa [hrs] at this
  have HS' := Lib.hid HS
  have HI' := Lib.hid HI
  clear HS HI hrs
  have hpp : (1 + part rs rs.length * 5 : Nat) ≤ 4611686018427387904 := by have := part_le rs rs.length; omega
  go_enter Try.func13, Try.ntmps13
  go_wp2_with fail
  refine (HS'.out _).mono ?_
  rintro e w1 ⟨A1x, c1x, rfl, O1, hb1⟩
  have R1 := Lib.hid O1.read
  go_wp2_with fail
  refine (HI'.out _).mono ?_
  rintro e w2 ⟨A2x, c2x, rfl, O2, hb2⟩
  have R2 := Lib.hid (R1.out.keep hb2)
  have hz2 := hb2.size
  have hw2 := Lib.hid (bl_call hb1 hb2)
  go_wp2_with fail
  refine (eqSS _ _ _ _ _ rs _ O2.read (R2.out.more hb2.size) (by omega)).mono ?_
  rintro e w3 ⟨rfl, hb3⟩
  have hz3 := hb3.size
  have R3 := Lib.hid (R2.out.keep (hb3.mono hz2))
  have hw3 := Lib.hid (bl_call hw2.out hb3)
  go_wp2_with fail
  refine (markM _ _ 1 w1.heap.size w2.heap.size rs _ (O2.top.call hb3) (by omega)).mono ?_
  rintro e w4 ⟨rfl, O4, hb4, hk4⟩
  have hz4 := hb4.size
  have R4 := Lib.hid (R3.out.keep hb4)
  have hw4 := Lib.hid (hw3.out.trans (hb4.mono hb1.size))
  go_wp2_with fail
  refine (heldM _ _ 1 w1.heap.size rs _ O4.own (by omega)).mono ?_
  rintro e w' ⟨rfl, rfl⟩
  go_wp2_with fail
  refine (HI'.out _).mono ?_
  rintro e w5 ⟨A5x, c5x, rfl, O5, hb5⟩
  have hz5 := hb5.size
  have R5 := Lib.hid (R4.out.keep (hb5.mono (by omega)))
  have hw5 := Lib.hid (bl_call hw4.out hb5)
  go_wp2_with fail
  refine (eqSS _ _ _ _ _ rs _ O5.read (R5.out.more (by omega)) (by omega)).mono ?_
  rintro e w6 ⟨rfl, hb6⟩
  have hw6 := Lib.hid (bl_call hw5.out hb6)
  go_wp2_with fail
  refine (heldM _ _ 1 w1.heap.size rs _ ((O4.own.call hb5).call hb6) (by omega)).mono ?_
  rintro e w' ⟨rfl, rfl⟩
  go_wp2
  go_ret
  exact ret_mk hw6.out

set_option maxRecDepth 100000 in
theorem lifted (os : Os) (started : os.Started) (H : Type) (enc : TypeId × Value → H) :
    ReturnsInHanded {} Try.checked os 13 .any (Rows.fnExactIdentityMatrixSpec.pre6 enc Try.prog Try.f13 Rows.fnExactIdentityMatrixRow.domain false) (Rows.fnExactIdentityMatrixSpec.post enc Try.prog Try.f13 false true false false) := by
  refine returnsInHanded_of_change (C := Try.checked) own started (by kernel_rfl) Try.func13
    (ChangeSpec.witness6 (enc := enc) (C := Try.checked) false ⟨#[], #[.int .i64 0], []⟩ 8 (by kernel_rfl) (by kernel_rfl) (by kernel_rfl) (by kernel_rfl)) ?_
  intro W base args ds gs before hval0 hW hcnd _
  have hval : ∀ (j : Nat) t v, Try.f13.params[j]? = some t → args[j]? = some v → Value.okWide Try.prog W .any base t v := hval0
  have hW' := hW
  obtain ⟨p, q, hA0, hV, rfl, hfz, hnd⟩ := hW
  have hA : DataW.TrodAll enc Try.prog W 0 (fun _ => true) true Try.f13.params.toList args.toList ds p := hA0
  rw [Try.params13] at hA hval
  obtain ⟨v0, vs0, d0, ds0, p0, q0, hargs, rfl, rfl, h0, r0⟩ := trodAll_cons hA
  obtain ⟨rfl, rfl, rfl⟩ := trodAll_nil r0
  obtain rfl : args = #[v0] := by cases args; simp_all
  obtain ⟨rfl, rfl⟩ := trodVars_none hV
  have kk0 := h0
  have lt0 : ∀ x ∈ p0, x.block < W.heap.size := by obtain ⟨m, hm⟩ := kk0; exact DataW.trod_lt m _ _ _ hm
  obtain ⟨x0, rfl, rfl, rfl, wx0⟩ := open_int Try.underlying3 (hval 0 3 v0 rfl rfl) h0
  clear hA0 hval0
  refine (walk x0 W (inr_of wx0)).mono fun e W' ⟨he, bel⟩ => ?_
  subst he
  exact ⟨_, rfl, _, _, _, [], _, [], hW', trodAll_mk1 (shut_bool Try.underlying4 _), (trodAll_cons_mk (Below.trod laidOut (by kernel_rfl) (of_decide_eq_true (by kernel_rfl)) kk0 bel lt0) trodAll_mk0), rfl, bel.frame _, fun h => by cases h⟩

theorem over : Rows.fnExactIdentityMatrixRow.holds Try.pinned (OpenSpec.ofChange Rows.fnExactIdentityMatrixSpec) :=
  OpenClaim.holds_of_wide 13 Try.f13 rfl rfl rfl rfl rfl rfl rfl ⟨rfl, rfl, rfl, rfl, rfl⟩ rfl rfl rfl rfl rfl (by kernel_rfl) Try.func13 (by kernel_rfl)
    (of_decide_eq_true (by kernel_rfl)) (by unfold Func.isWrapper; first | (rw [if_pos (by decide +kernel)]; kernel_rfl) | (rw [if_neg (by decide +kernel)]; exact ⟨rfl, rfl⟩))
    (fun os started H enc _ => lifted os started H enc)

theorem proved : Rows.FnExactIdentityMatrixSaid := over
end Go.Proofs.Ytllkllnfbmcfeaa.fnExactIdentityMatrix
