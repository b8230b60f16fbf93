/-
  Proved: for every input the Go function FnParts returns true (the program's function returns what the reference's returns), and its arguments read as before.
  Conditions: none beyond the given statement (a tied card: the listed variables of Go's library hold what its text lays).
-/
import Derived.Test.YtbjmfapoioebjaaDoorCloseL
import Derived.Test.YtbjmfapoioebjaaDoorCloseB
import Derived.Test.YtbjmfapoioebjaaDoorDq
import Derived.Deep.RegionHeld3
namespace Go.Proofs.YtbjmfapoioebjaaDoor.fnParts
open Go.Proofs.YtbjmfapoioebjaaDoor
open Go.ChangeShapes Go.WideShapes Go.ChangeAt Go.RowKit
set_option linter.unusedVariables false
set_option maxRecDepth 20000

set_option maxHeartbeats 2000000 in
theorem walk (A0 : Option Addr) (n0 cp0 : Nat) (w : World) (hR0 : RB w w.heap.size A0 n0) (hn0 : n0 ≤ 9223372036854775807) (hc0 : n0 ≤ cp0) (heS : EnvS w) :
    Calls Tryd.prog 6 #[.slice A0 n0 cp0] w (Ret (.bool true) w) := by
  by_cases hbig : n0 ≤ 1048576
  rotate_left
  · have hb' : 1048576 < n0 := by omega
    clear hR0 heS
    go_enter Tryd.func6, Tryd.ntmps6
    go_wp2_with fail
    refine (l_big_t _ _ _ _ hb').mono ?_
    rintro e w' ⟨rfl, rfl⟩
    go_wp2
    go_ret
    exact ret_mk (Below.refl _ _)
  have HR := Lib.hid hR0
  have HS := Lib.hid heS
  clear hR0 heS
  go_enter Tryd.func6, Tryd.ntmps6
  go_wp2_with fail
  refine (l_big_f _ _ _ _ hbig).mono ?_
  rintro e w' ⟨rfl, rfl⟩
  go_wp2_with fail
  refine (d_DrawSB A0 n0 cp0 _ HR.out hn0).mono ?_
  rintro e w1 ⟨l, b, rfl, hl, hb1⟩
  have W1 := Lib.hid hb1
  have E1 := Lib.hid (HS.out.call hb1)
  have hsz : (str l).size ≤ 1048576 := by rw [str_size]; omega
  obtain ⟨ls, hls⟩ : ∃ ls, spl b l = ls := ⟨_, rfl⟩
  have h1 : ∀ W, Calls Tryd.prog 14 #[.string (str l), .int .u8 (b.toNat : Int)] W (RetX W ls) := fun W => by have := s_Split (str l) b W hsz; rwa [str_data, hls] at this
  have h2 : ∀ W, EnvS W → Calls Tryd.prog 15 #[.string (str l), .int .u8 (b.toNat : Int)] W (RetX W ls) := fun W h => by have := i_Split (str l) b W hsz h; rwa [str_data, hls] at this
  have hp : 0 < ls.length := by rw [← hls]; exact spl_pos _ _
  have hlen : ls.length ≤ 32 := by rw [← hls]; have := spl_len b (str l); rw [str_data, str_size] at this; omega
  have hj : Lib.join ls [b] = l := by rw [← hls]; exact join_spl b l
  have h3 : ∀ A c W, RX W W.heap.size A ls.length ls → ls.length ≤ c → Calls Tryd.prog 24 #[.slice A ls.length c, .string (str [b])] W (Ret (.string (str l)) W) := fun A c W h hc => by have := i_Join A ls.length c ls [b] W h hc (by omega) (by rw [hj]; omega); rwa [hj] at this
  have K1 := Lib.hid h1
  have K2 := Lib.hid h2
  have K3 := Lib.hid h3
  clear h1 h2 h3 hls hj hb1
  have hu : b.toNat < 256 := UInt8.toNat_lt _
  have eb : UInt8.ofNat (b.toNat : Int).toNat = b := by simp
  have eq := tl_eq (rfl : str l = str l)
  have g1 : ((ls.length : Int) == (ls.length : Int)) = true := by simp
  have g2 : decide ((0 : Int) < (ls.length : Int)) = true := by simp; omega
  have g3 : decide (0 < ls.length) = true := by simp; omega
  go_wp2_with fail
  refine (K2.out _ E1.out).mono ?_
  rintro e w2 ⟨A2x, c2x, rfl, hc2x, O2, hb2⟩
  have W2 := Lib.hid (bl_call W1.out hb2)
  have O2' := Lib.hid O2
  clear hb2 O2
  go_wp2_with fail
  refine (K1.out _).mono ?_
  rintro e w3 ⟨A3x, c3x, rfl, hc3x, O3, hb3⟩
  have W3 := Lib.hid (bl_call W2.out hb3)
  have O3' := Lib.hid (O2'.out.call hb3).read
  clear hb3 O3
  have hk := one_byte w3 (b.toNat : Int) (by omega) (by omega)
  rw [eb] at hk
  clear eb
  obtain ⟨S1, hS1⟩ : ∃ S, str [b] = S := ⟨_, rfl⟩
  rw [hS1] at hk K3
  clear hS1
  go_wp2_with fail
  refine (K3.out _ _ _ ((O3'.out.keep (bl_alloc (Below.refl _ _) _)).more (by simp)) hc2x).mono ?_
  rintro e w4 ⟨rfl, hb4⟩
  have W4 := bl_call (bl_alloc W3.out _) hb4
  clear hb4
  go_wp2
  go_ret
  refine ret_eq (by simp) W4

set_option maxRecDepth 100000 in
theorem lifted (os : Os) (started : os.Started) (H : Type) (enc : TypeId × Value → H) :
    ReturnsInHanded {} Tryd.checked os 6 .any (fun w args => (Rows.fnPartsSpec.pre enc Tryd.prog Tryd.f6 [] false w args ∧ laidMetH Tryd.prog Rows.fnPartsRow.laid w) ∧ sizedMet enc Tryd.prog Tryd.f6 (OpenSpec.ofChange Rows.fnPartsSpec) false w args) (Rows.fnPartsSpec.post enc Tryd.prog Tryd.f6 false true false false) := by
  refine handed_laid (C := Tryd.checked) (X := fun w _ => laidMetH Tryd.prog Rows.fnPartsRow.laid w) (fun _ _ _ hh h => h.of_heap hh) own started (by kernel_rfl) Tryd.func6
    (ChangeSpec.witness_shaped (enc := enc) (C := Tryd.checked) (os := os) (X := fun w _ => laidMetH Tryd.prog Rows.fnPartsRow.laid w) false (World.laidAll Tryd.prog os Rows.fnPartsRow.laid) #[.slice none 0 0] 8 (World.laidAll_os _ _ _)
      (World.shaped_of_ZipB (by kernel_rfl) (by kernel_rfl)) (by kernel_rfl) (by kernel_rfl) (by kernel_rfl)
      (by rw [MakeChecks.laidMetH_plain _ _ _ (by kernel_rfl)]; exact laidMet_laidAll _ (by kernel_rfl) (by kernel_rfl))) ?_
  intro W base args ds gs before hval0 hW hL hsh
  rw [MakeChecks.laidMetH_plain _ _ _ (by kernel_rfl)] at hL
  have hval : ∀ (j : Nat) t v, Tryd.f6.params[j]? = some t → args[j]? = some v → Value.okWide Tryd.prog W .any base t v := hval0
  have hW' := hW
  obtain ⟨p, q, hA0, hV, rfl, hfz, hnd⟩ := hW
  have hA : DataW.TrodAll enc Tryd.prog W 0 (fun _ => true) true Tryd.f6.params.toList args.toList ds p := hA0
  rw [Tryd.params6] at hA hval
  obtain ⟨v0, vs0, d0, ds0, p0, q0, hargs, rfl, rfl, h0, r0⟩ := trodAll_cons hA
  obtain ⟨rfl, rfl, rfl⟩ := trodAll_nil r0
  obtain rfl : args = #[v0] := by cases args; simp_all
  obtain ⟨rfl, rfl⟩ := trodVars_none hV
  have kk0 := h0
  have lt0 : ∀ x ∈ p0, x.block < W.heap.size := by obtain ⟨m, hm⟩ := kk0; exact DataW.trod_lt m _ _ _ hm
  obtain ⟨A0, n0, cp0, rfl, hR0, hn0, hc0⟩ := open_B (hval 0 39 v0 rfl rfl) h0
  clear hA0 hval0
  refine (walk A0 n0 cp0 W hR0 hn0 hc0 (envS_of hsh)).mono fun e W' ⟨he, bel⟩ => ?_
  subst he
  exact ⟨_, rfl, _, _, _, [], _, [], hW', trodAll_mk1 (shut_bool Tryd.underlying4 _), (trodAll_cons_mk (Below.trod laidOut (by kernel_rfl) (of_decide_eq_true (by kernel_rfl)) kk0 bel lt0) trodAll_mk0), rfl, bel.frame _, fun h => by cases h⟩

set_option maxRecDepth 100000 in
theorem over : Rows.fnPartsRow.holds Tryd.pinned (OpenSpec.ofChange Rows.fnPartsSpec) :=
  OpenClaim.holds_of_wide 6 Tryd.f6 rfl rfl rfl rfl rfl rfl rfl ⟨rfl, rfl, rfl, rfl, rfl⟩ rfl rfl rfl rfl rfl (by kernel_rfl) Tryd.func6 (by kernel_rfl)
    (of_decide_eq_true (by kernel_rfl)) (by unfold Func.isWrapper; first | (rw [if_pos (by decide +kernel)]; kernel_rfl) | (rw [if_neg (by decide +kernel)]; exact ⟨rfl, rfl⟩))
    (fun os started H enc _ => lifted os started H enc)

set_option maxRecDepth 100000 in
theorem proved : Rows.FnPartsCardSaid :=
  Claim7.holds_tied_plain_at .later [] [.data, .pinned] true Rows.fnPartsCard.stood.harness true over (fun _ h => by cases h) (by kernel_rfl) (fun _ h => by cases h) fnParts_row_tie rfl ⟨rfl, rfl⟩ (by kernel_rfl) rfl
    (fun f fn hf hfn => by
      obtain rfl : f = 6 := Option.some.inj ((show Tryd.prog.funcNamed "loop.example/g00506/laws.FnParts" = some 6 by kernel_rfl).symm.trans hf) |>.symm
      obtain rfl : fn = Tryd.f6 := (Option.some.inj (Tryd.func6.symm.trans hfn)).symm
      exact ⟨by kernel_rfl, fun j t ht => by
        rw [Tryd.params6] at ht
        have hm : t ∈ [39] := by simpa using Array.mem_of_getElem? ht
        have hall : ([39].all fun u => !Tryd.prog.wantsStandIn u) = true := by kernel_rfl
        exact (show Tryd.prog.wantsStandIn t = false by simpa using List.all_eq_true.1 hall t hm)⟩)
    (by kernel_rfl)
end Go.Proofs.YtbjmfapoioebjaaDoor.fnParts
