/-
  Proved: for every input the Go function FnExactSplitByte returns true (the program's function returns what the reference's returns), and its arguments read as before.
  Conditions: none beyond the given statement (a tied card: the listed variables of Go's library hold what its text lays).
-/
import Derived.Test.YtbjmfapoioebjaaDoorCloseL
import Derived.Test.YtbjmfapoioebjaaDoorSp
import Derived.Deep.RegionHeld3
namespace Go.Proofs.YtbjmfapoioebjaaDoor.fnExactSplitByte
open Go.Proofs.YtbjmfapoioebjaaDoor
open Go.ChangeShapes Go.WideShapes Go.ChangeAt Go.RowKit
set_option linter.unusedVariables false
set_option maxRecDepth 20000

set_option maxHeartbeats 2000000 in
theorem walk (s0 : ByteArray) (x1 : Int) (w : World) (fs0 : s0.size ≤ 9223372036854775807) (fx1 : 0 ≤ x1 ∧ x1 ≤ 255) (heS : EnvS w) :
    Calls Tryd.prog 4 #[.string s0, .int .u8 x1] w (Ret (.bool true) w) := by
  obtain ⟨b, hbx⟩ : ∃ b : UInt8, x1 = (b.toNat : Int) := ⟨UInt8.ofNat x1.toNat, by rw [UInt8.toNat_ofNat']; omega⟩
  subst hbx
  clear fx1
  by_cases hbig : s0.size ≤ 1048576
  rotate_left
  · have d0 : decide ((1048576 : Int) < (s0.size : Int)) = true := by simp; omega
    have d1 : decide (1048576 < s0.size) = true := by simp; omega
    clear heS
    go_enter Tryd.func4, Tryd.ntmps4
    go_wp2
    go_ret
    exact ret_mk (Below.refl _ _)
  have d0 : decide ((1048576 : Int) < (s0.size : Int)) = false := by simp; omega
  have d1 : decide (1048576 < s0.size) = false := by simp; omega
  obtain ⟨ls, hls⟩ : ∃ ls, spl b s0.data.toList = ls := ⟨_, rfl⟩
  have hlen : ls.length ≤ 1048578 := by rw [← hls]; have := spl_len b s0; omega
  have hp : 0 < ls.length := by rw [← hls]; exact spl_pos _ _
  have H1 : ∀ W, Calls Tryd.prog 14 #[.string s0, .int .u8 (b.toNat : Int)] W (RetX W ls) := fun W => by have := s_Split s0 b W hbig; rwa [hls] at this
  have H2 : ∀ W, EnvS W → Calls Tryd.prog 15 #[.string s0, .int .u8 (b.toNat : Int)] W (RetX W ls) := fun W h => by have := i_Split s0 b W hbig h; rwa [hls] at this
  have K1 := Lib.hid H1
  have K2 := Lib.hid H2
  have HS := Lib.hid heS
  clear H1 H2 hls heS
  have hge : decide (((1 + ls.length : Nat) : Int) < 0) = false := by simp; omega
  go_enter Tryd.func4, Tryd.ntmps4
  go_wp2_with fail
  refine (K1.out _).mono ?_
  rintro e w1 ⟨A1x, c1x, rfl, hc1x, O1, hb1⟩
  have R1 := Lib.hid O1.read
  have E1 := Lib.hid (HS.out.call hb1)
  have W1 := Lib.hid hb1
  go_wp2_with fail
  refine (K2.out _ E1.out).mono ?_
  rintro e w2 ⟨A2x, c2x, rfl, hc2x, O2, hb2⟩
  have V2 := Lib.hid hb2
  have E2 := Lib.hid (E1.out.call hb2)
  have W2 := Lib.hid (bl_call W1.out hb2)
  go_wp2_with fail
  refine (eqX _ _ _ _ _ ls _ O2.read ((R1.out.keep V2.out).more V2.out.size) (by omega)).mono ?_
  rintro e w3 ⟨rfl, hb3⟩
  have V3 := Lib.hid (bl_call V2.out hb3)
  have E3 := Lib.hid (E2.out.call hb3)
  have W3 := Lib.hid (bl_call W2.out hb3)
  have G3 := Lib.hid (O2.call hb3)
  clear hb1 hb2 hb3 O1 O2
  go_wp2_with fail
  refine (markX _ _ _ 1 w1.heap.size ls _ G3.out rfl hp (by omega) (by omega)).mono ?_
  rintro e w4 ⟨rfl, O4, hb4, hs4⟩
  have V4 := Lib.hid (V3.out.trans hb4)
  have W4 := Lib.hid (W3.out.trans (hb4.mono W1.out.size))
  go_wp2_with fail
  refine (heldX _ _ _ 1 w1.heap.size _ O4 hp (by omega) (by omega)).mono ?_
  rintro e w5 ⟨rfl, hb5⟩
  have V5 := Lib.hid (bl_call V4.out hb5)
  have W5 := Lib.hid (bl_call W4.out hb5)
  have G5 := Lib.hid (O4.call hb5)
  have E5 := Lib.hid (HS.out.call W5.out)
  clear hb4 hb5 O4
  go_wp2_with fail
  refine (K2.out _ E5.out).mono ?_
  rintro e w6 ⟨A6x, c6x, rfl, hc6x, O6, hb6⟩
  have V6 := Lib.hid (bl_call V5.out hb6)
  have W6 := Lib.hid (bl_call W5.out hb6)
  have G6 := Lib.hid (G5.out.call hb6)
  go_wp2_with fail
  refine (eqX _ _ _ _ _ ls _ O6.read ((R1.out.keep V6.out).more V6.out.size) (by omega)).mono ?_
  rintro e w7 ⟨rfl, hb7⟩
  have W7 := Lib.hid (bl_call W6.out hb7)
  have G7 := Lib.hid (G6.out.call hb7)
  clear hb6 hb7 O6
  go_wp2_with fail
  refine (heldX _ _ _ 1 w1.heap.size _ G7.out hp (by omega) (by omega)).mono ?_
  rintro e w8 ⟨rfl, hb8⟩
  have W8 := bl_call W7.out hb8
  clear hb8
  go_wp2
  go_ret
  exact ret_mk W8

set_option maxRecDepth 100000 in
theorem lifted (os : Os) (started : os.Started) (H : Type) (enc : TypeId × Value → H) :
    ReturnsInHanded {} Tryd.checked os 4 .any (fun w args => (Rows.fnExactSplitByteSpec.pre enc Tryd.prog Tryd.f4 [] false w args ∧ laidMetH Tryd.prog Rows.fnExactSplitByteRow.laid w) ∧ sizedMet enc Tryd.prog Tryd.f4 (OpenSpec.ofChange Rows.fnExactSplitByteSpec) false w args) (Rows.fnExactSplitByteSpec.post enc Tryd.prog Tryd.f4 false true false false) := by
  refine handed_laid (C := Tryd.checked) (X := fun w _ => laidMetH Tryd.prog Rows.fnExactSplitByteRow.laid w) (fun _ _ _ hh h => h.of_heap hh) own started (by kernel_rfl) Tryd.func4
    (ChangeSpec.witness_shaped (enc := enc) (C := Tryd.checked) (os := os) (X := fun w _ => laidMetH Tryd.prog Rows.fnExactSplitByteRow.laid w) false (World.laidAll Tryd.prog os Rows.fnExactSplitByteRow.laid) #[.string ⟨#[]⟩, .int .u8 0] 8 (World.laidAll_os _ _ _)
      (World.shaped_of_ZipB (by kernel_rfl) (by kernel_rfl)) (by kernel_rfl) (by kernel_rfl) (by kernel_rfl)
      (by rw [MakeChecks.laidMetH_plain _ _ _ (by kernel_rfl)]; exact laidMet_laidAll _ (by kernel_rfl) (by kernel_rfl))) ?_
  intro W base args ds gs before hval0 hW hL hsh
  rw [MakeChecks.laidMetH_plain _ _ _ (by kernel_rfl)] at hL
  have hval : ∀ (j : Nat) t v, Tryd.f4.params[j]? = some t → args[j]? = some v → Value.okWide Tryd.prog W .any base t v := hval0
  have hW' := hW
  obtain ⟨p, q, hA0, hV, rfl, hfz, hnd⟩ := hW
  have hA : DataW.TrodAll enc Tryd.prog W 0 (fun _ => true) true Tryd.f4.params.toList args.toList ds p := hA0
  rw [Tryd.params4] at hA hval
  obtain ⟨v0, vs0, d0, ds0, p0, q0, hargs, rfl, rfl, h0, r0⟩ := trodAll_cons hA
  obtain ⟨v1, vs1, d1, ds1, p1, q1, rfl, rfl, rfl, h1, r1⟩ := trodAll_cons r0
  obtain ⟨rfl, rfl, rfl⟩ := trodAll_nil r1
  obtain rfl : args = #[v0, v1] := by cases args; simp_all
  obtain ⟨rfl, rfl⟩ := trodVars_none hV
  have kk0 := h0
  have lt0 : ∀ x ∈ p0, x.block < W.heap.size := by obtain ⟨m, hm⟩ := kk0; exact DataW.trod_lt m _ _ _ hm
  obtain ⟨s0, rfl, rfl, rfl, ws0⟩ := Go.ChangeMaps.open_string Tryd.underlying9 (hval 0 9 v0 rfl rfl) h0
  unfold maxLen at ws0
  have kk1 := h1
  have lt1 : ∀ x ∈ p1, x.block < W.heap.size := by obtain ⟨m, hm⟩ := kk1; exact DataW.trod_lt m _ _ _ hm
  obtain ⟨x1, rfl, rfl, rfl, wx1⟩ := open_int Tryd.underlying5 (hval 1 5 v1 rfl rfl) h1
  clear hA0 hval0
  refine (walk s0 x1 W (by omega) (byteL_of wx1) (envS_of hsh)).mono fun e W' ⟨he, bel⟩ => ?_
  subst he
  exact ⟨_, rfl, _, _, _, [], _, [], hW', trodAll_mk1 (shut_bool Tryd.underlying4 _), (trodAll_cons_mk (Below.trod laidOut (by kernel_rfl) (of_decide_eq_true (by kernel_rfl)) kk0 bel lt0) (trodAll_cons_mk (Below.trod laidOut (by kernel_rfl) (of_decide_eq_true (by kernel_rfl)) kk1 bel lt1) trodAll_mk0)), rfl, bel.frame _, fun h => by cases h⟩

set_option maxRecDepth 100000 in
theorem over : Rows.fnExactSplitByteRow.holds Tryd.pinned (OpenSpec.ofChange Rows.fnExactSplitByteSpec) :=
  OpenClaim.holds_of_wide 4 Tryd.f4 rfl rfl rfl rfl rfl rfl rfl ⟨rfl, rfl, rfl, rfl, rfl⟩ rfl rfl rfl rfl rfl (by kernel_rfl) Tryd.func4 (by kernel_rfl)
    (of_decide_eq_true (by kernel_rfl)) (by unfold Func.isWrapper; first | (rw [if_pos (by decide +kernel)]; kernel_rfl) | (rw [if_neg (by decide +kernel)]; exact ⟨rfl, rfl⟩))
    (fun os started H enc _ => lifted os started H enc)

set_option maxRecDepth 100000 in
theorem proved : Rows.FnExactSplitByteCardSaid :=
  Claim7.holds_tied_plain_at .later [] [.data, .pinned] true Rows.fnExactSplitByteCard.stood.harness true over (fun _ h => by cases h) (by kernel_rfl) (fun _ h => by cases h) fnExactSplitByte_row_tie rfl ⟨rfl, rfl⟩ (by kernel_rfl) rfl
    (fun f fn hf hfn => by
      obtain rfl : f = 4 := Option.some.inj ((show Tryd.prog.funcNamed "loop.example/g00506/laws.FnExactSplitByte" = some 4 by kernel_rfl).symm.trans hf) |>.symm
      obtain rfl : fn = Tryd.f4 := (Option.some.inj (Tryd.func4.symm.trans hfn)).symm
      exact ⟨by kernel_rfl, fun j t ht => by
        rw [Tryd.params4] at ht
        have hm : t ∈ [9, 5] := by simpa using Array.mem_of_getElem? ht
        have hall : ([9, 5].all fun u => !Tryd.prog.wantsStandIn u) = true := by kernel_rfl
        exact (show Tryd.prog.wantsStandIn t = false by simpa using List.all_eq_true.1 hall t hm)⟩)
    (by kernel_rfl)
end Go.Proofs.YtbjmfapoioebjaaDoor.fnExactSplitByte
