/-
  Proved: for every input the Go function FnBasis returns true (the program's function returns what the reference's returns), and its arguments read as before.
  Conditions: none beyond the given statement.
-/
import Derived.Test.YtaokfppadfoniaaCloseB
import Derived.Deep.RegionHeld3
import Derived.Test.YtaokfppadfoniaaBa
import Derived.Test.YtaokfppadfoniaaEq
import Derived.Test.YtaokfppadfoniaaOwn
namespace Go.Proofs.Ytaokfppadfoniaa.fnBasis
open Go.Proofs.Ytaokfppadfoniaa
open Go.ChangeShapes Go.WideShapes Go.ChangeAt Go.RowKit
set_option linter.unusedVariables false
attribute [local go_sem ↓ high] eqlD neqD
set_option maxRecDepth 20000

set_option maxHeartbeats 2000000 in
theorem walk (A0 : Option Addr) (n0 cp0 : Nat) (w : World) (hR0 : RB w w.heap.size A0 n0) (hn0 : n0 ≤ 9223372036854775807) (hc0 : n0 ≤ cp0) :
    Calls Try.prog 5 #[.slice A0 n0 cp0] w (Ret (.bool true) w) := by
  by_cases hbig : n0 ≤ 1048576
  rotate_left
  · go_enter Try.func5, Try.ntmps5
    go_wp2_with fail
    refine (l_big_t _ _ _ _ (by omega)).mono ?_
    rintro e w' ⟨rfl, rfl⟩
    go_wp2
    go_ret
    exact ret_mk (Below.refl _ _)
  have HR := Lib.hid hR0
  clear hR0
  go_enter Try.func5, Try.ntmps5
  go_wp2_with fail
  refine (l_big_f _ _ _ _ hbig).mono ?_
  rintro e w' ⟨rfl, rfl⟩
  go_wp2_with fail
  refine (d_DrawBasis A0 n0 cp0 _ HR.out hn0).mono ?_
  rintro e w1 ⟨N, i, rfl, hN, hi, hb1⟩
  have HW_1 := Lib.hid (bl_call (Below.refl w.heap.size w) hb1)
  have Z1 := Lib.hid hb1.size
  clear hb1
  obtain ⟨L, hL⟩ : ∃ L, basisD N i = L := ⟨_, rfl⟩
  have hll : L.length ≤ 16 := by rw [← hL]; exact basisD_len _ _
  have hHB : ∀ W, Calls Try.prog 29 #[.int .i64 N, .int .i64 i] W (RetO W 29 L) := fun W => by have := i_Basis N i W; rwa [hL] at this
  have HB := Lib.hid hHB
  clear hHB
  have hHC : ∀ W, Calls Try.prog 31 #[.int .i64 N, .int .i64 i] W (RetO W 29 L) := fun W => by have := s_Basis N i W; rwa [hL] at this
  have HC := Lib.hid hHC
  clear hHC
  have HL := Lib.hid hL
  clear hL
  go_wp2_with fail
  refine (HB.out _).mono ?_
  rintro e w2 ⟨Av, cv, rfl, O2, hb2⟩
  have HW_2 := Lib.hid (bl_call HW_1.out hb2)
  clear HW_1
  have Z2 := Lib.hid hb2.size
  clear hb2
  have V_2 := Lib.hid (O2.read)
  clear O2
  go_wp2_with fail
  refine (HC.out _).mono ?_
  rintro e w3 ⟨A3, c3, rfl, O3, hb3⟩
  have HW_3 := Lib.hid (bl_call HW_2.out hb3)
  have V_3 := Lib.hid (V_2.out.call hb3)
  clear HW_2 V_2
  have Z3 := Lib.hid hb3.size
  clear hb3
  have T_3 := Lib.hid (O3.read)
  clear O3
  by_cases h0 : L.length = 0
  · have hq : ((L.length : Int) == 0) = true := by rw [beq_iff_eq]; omega
    clear h0
    go_wp2_with fail
    refine (s_same _ _ _ _ _ _ L L true _ (by simp) V_3.out T_3.out (by omega) (by omega)).mono ?_
    rintro e w4 ⟨rfl, hb4⟩
    have HW_4 := Lib.hid (bl_call HW_3.out hb4)
    have V_4 := Lib.hid (V_3.out.call hb4)
    have T_4 := Lib.hid (T_3.out.call hb4)
    clear HW_3 V_3 T_3
    have Z4 := Lib.hid hb4.size
    clear hb4
    clear T_4
    go_wp2_with fail
    refine (HC.out _).mono ?_
    rintro e w5 ⟨A5, c5, rfl, O5, hb5⟩
    have HW_5 := Lib.hid (bl_call HW_4.out hb5)
    have V_5 := Lib.hid (V_4.out.call hb5)
    clear HW_4 V_4
    have Z5 := Lib.hid hb5.size
    clear hb5
    have T_5 := Lib.hid (O5.read)
    clear O5
    go_wp2_with fail
    refine (s_same _ _ _ _ _ _ L L true _ (by simp) V_5.out T_5.out (by omega) (by omega)).mono ?_
    rintro e w6 ⟨rfl, hb6⟩
    have HW_6 := Lib.hid (bl_call HW_5.out hb6)
    have V_6 := Lib.hid (V_5.out.call hb6)
    have T_6 := Lib.hid (T_5.out.call hb6)
    clear HW_5 V_5 T_5
    have Z6 := Lib.hid hb6.size
    clear hb6
    go_wp2
    go_ret
    exact ret_mk HW_6.out
  have hq : ((L.length : Int) == 0) = false := by rw [beq_eq_false_iff_ne]; omega
  go_wp2_with fail
  refine (s_same _ _ _ _ _ _ L L true _ (by simp) V_3.out T_3.out (by omega) (by omega)).mono ?_
  rintro e w4 ⟨rfl, hb4⟩
  have HW_4 := Lib.hid (bl_call HW_3.out hb4)
  have V_4 := Lib.hid (V_3.out.call hb4)
  have T_4 := Lib.hid (T_3.out.call hb4)
  clear HW_3 V_3 T_3
  have Z4 := Lib.hid hb4.size
  clear hb4
  clear T_4
  obtain ⟨I, rfl, hI, hLI, hlm, hq0, hqn⟩ := basis_parts (n := N) (i := i) (by rw [HL.out]; exact h0)
  rw [HL.out] at hLI hlm
  obtain ⟨M, hM⟩ : ∃ M, pw N = M := ⟨_, rfl⟩
  rw [hM] at hI hLI hlm hq0 hqn
  have HM := Lib.hid hM
  have HLI := Lib.hid hLI
  have HQ0 := Lib.hid hq0
  have HQN := Lib.hid hqn
  have HLM := Lib.hid hlm
  have hIL : I < L.length := by omega
  clear hM hLI hq0 hqn hlm h0 HL HC HB hI
  go_wp2
  clear hq
  go_loopw [6] (fun i wr => BaRel w Av L i wr) (fun i _ => L.length - (intOf i).toNat)
  case atStart => exact ⟨0, by omega, rfl, V_4.out, HW_4.out⟩
  case round =>
    obtain ⟨k, hk, rfl, hR, hb⟩ := hrel
    have HR' := Lib.hid hR
    clear hR V_4 HW_4
    by_cases hlt : k < L.length
    · have hd : decide ((k : Int) < (L.length : Int)) = true := by simp; omega
      obtain ⟨Lk, hLk⟩ : ∃ Lk, basisL M k = Lk := ⟨_, rfl⟩
      have hlk : Lk.length ≤ 16 := by rw [← hLk, basisL_length]; have := HLM.out; omega
      have hbk : ∀ W, Calls Try.prog 29 #[.int .i64 N, .int .i64 (k : Int)] W (RetO W 29 Lk) := fun W => by have := i_Basis_ok N M k W HM.out (by have := HLM.out; omega); rwa [hLk] at this
      have hin : innerD Lk L = some (if k = I then oneD else zeroD) := by rw [← hLk, HLI.out]; exact inner_basis HQ0.out (by have := HLM.out; omega)
      have HBK := Lib.hid hbk
      have HIN := Lib.hid hin
      clear hbk hin hLk
      go_wp2_with fail
      refine (HBK.out _).mono ?_
      rintro e wa ⟨A5, c5, rfl, O5, hb5⟩
      have RK := Lib.hid O5.read
      have RV := Lib.hid (HR'.out.call hb5)
      have HWA := Lib.hid (bl_call hb hb5)
      clear O5 hb5
      by_cases hki : k = I
      · obtain rfl : k = I := hki
        have e1 : eqDb 1 0 0 0 0 1 0 0 0 0 = true := by decide
        have q1 : ((k : Int) == (k : Int)) = true := by simp
        have q2 : ((k : Int) != (k : Int)) = false := by simp
        have hip : ∀ W, RD W W.heap.size A5 Lk.length Lk → RD W W.heap.size Av L.length L → Calls Try.prog 32 #[.slice A5 Lk.length c5, .slice Av L.length cv] W (Ret (.tuple #[.agg #[.int .i64 1, .int .i64 0, .int .i64 0, .int .i64 0, .int .i64 0], .bool true]) W) := fun W h1 h2 => by
          have := i_Inner (c := c5) (c' := cv) W h1 h2 (by omega) (by omega)
          rw [HIN.out, if_pos rfl] at this
          exact this
        have HIP := Lib.hid hip
        clear hip
        go_wp2_with fail
        refine (HIP.out _ RK.out RV.out).mono ?_
        rintro e wb ⟨rfl, hb6⟩
        have RV6 := Lib.hid (RV.out.call hb6)
        have HWB := Lib.hid (bl_call HWA.out hb6)
        clear hb6
        go_upto_region 11 with fail
        obtain ⟨wc, hwc⟩ : ∃ W, wb.alloc (.cells #[.int .i64 1, .int .i64 0, .int .i64 0, .int .i64 0, .int .i64 0] 29) = W := ⟨_, rfl⟩
        have RV7 : RD wc wc.heap.size Av L.length L := by rw [← hwc]; exact RV6.out.call (below_alloc _ _)
        have HWC : Below w.heap.size w wc := by rw [← hwc]; exact bl_alloc HWB.out _
        have kb : Blk wc wb.heap.size 29 #[.int .i64 1, .int .i64 0, .int .i64 0, .int .i64 0, .int .i64 0] := by rw [← hwc]; exact Blk.new _ _ _
        rw [hwc]
        clear hwc
        obtain ⟨u0, u1, u2, u3, u4, -, -, -, -, -⟩ := kb.five
        have k0 := cell_regrown u0
        have k1 := cell_regrown u1
        have k2 := cell_regrown u2
        have k3 := cell_regrown u3
        have k4 := cell_regrown u4
        have RV8 := Lib.hid RV7
        have HWD := Lib.hid HWC
        clear RV7 HWC kb u0 u1 u2 u3 u4
        refine wp_region_quiet_below (by kernel_rfl) (by kernel_rfl) ?_
        repeat (quiet_step (exact Calls.regrown_of (i_One _)))
        refine wpQuiet_nil ?_
        intro _ hw'
        obtain ⟨⟨dq, osq⟩, hw''⟩ := hw'
        subst hw''
        have hbr := below_regrown wc dq osq
        go_wp2
        go_roundw
        case rel => exact ⟨k + 1, by omega, by go_num, RV8.out.call hbr, bl_call HWD.out hbr⟩
        case measure => simp [intOf]; omega
      · have q1 : ((k : Int) == (I : Int)) = false := by rw [beq_eq_false_iff_ne]; omega
        have q2 : ((k : Int) != (I : Int)) = true := by rw [bne_iff_ne]; omega
        have e1 : eqDb 0 0 0 0 0 1 0 0 0 0 = false := by decide
        have e2 : eqDb 0 0 0 0 0 0 0 0 0 0 = true := by decide
        have hip : ∀ W, RD W W.heap.size A5 Lk.length Lk → RD W W.heap.size Av L.length L → Calls Try.prog 32 #[.slice A5 Lk.length c5, .slice Av L.length cv] W (Ret (.tuple #[.agg #[.int .i64 0, .int .i64 0, .int .i64 0, .int .i64 0, .int .i64 0], .bool true]) W) := fun W h1 h2 => by
          have := i_Inner (c := c5) (c' := cv) W h1 h2 (by omega) (by omega)
          rw [HIN.out, if_neg hki] at this
          exact this
        have HIP := Lib.hid hip
        clear hip hki
        go_wp2_with fail
        refine (HIP.out _ RK.out RV.out).mono ?_
        rintro e wb ⟨rfl, hb6⟩
        have RV6 := Lib.hid (RV.out.call hb6)
        have HWB := Lib.hid (bl_call HWA.out hb6)
        clear hb6
        go_upto_region 11 with fail
        obtain ⟨wc, hwc⟩ : ∃ W, wb.alloc (.cells #[.int .i64 0, .int .i64 0, .int .i64 0, .int .i64 0, .int .i64 0] 29) = W := ⟨_, rfl⟩
        have RV7 : RD wc wc.heap.size Av L.length L := by rw [← hwc]; exact RV6.out.call (below_alloc _ _)
        have HWC : Below w.heap.size w wc := by rw [← hwc]; exact bl_alloc HWB.out _
        have kb : Blk wc wb.heap.size 29 #[.int .i64 0, .int .i64 0, .int .i64 0, .int .i64 0, .int .i64 0] := by rw [← hwc]; exact Blk.new _ _ _
        rw [hwc]
        clear hwc
        obtain ⟨u0, u1, u2, u3, u4, -, -, -, -, -⟩ := kb.five
        have k0 := cell_regrown u0
        have k1 := cell_regrown u1
        have k2 := cell_regrown u2
        have k3 := cell_regrown u3
        have k4 := cell_regrown u4
        have RV8 := Lib.hid RV7
        have HWD := Lib.hid HWC
        clear RV7 HWC kb u0 u1 u2 u3 u4
        refine wp_region_quiet_below (by kernel_rfl) (by kernel_rfl) ?_
        repeat (quiet_step (exact Calls.regrown_of (i_One _)))
        refine wpQuiet_nil ?_
        intro _ hw'
        obtain ⟨⟨dq, osq⟩, hw''⟩ := hw'
        subst hw''
        have hbr := below_regrown wc dq osq
        go_wp2
        go_roundw
        case rel => exact ⟨k + 1, by omega, by go_num, RV8.out.call hbr, bl_call HWD.out hbr⟩
        case measure => simp [intOf]; omega
    · have hd : decide ((k : Int) < (L.length : Int)) = false := by simp; omega
      have hqq : (((qc L.length : Nat) : Int) == N) = true := by rw [beq_iff_eq, HLM.out]; exact HQN.out
      have hok : okS L = true := by rw [HLI.out]; exact basisL_okS HQ0.out
      have hvs : ∀ W, RD W W.heap.size Av L.length L → Calls Try.prog 35 #[.slice Av L.length cv] W (Ret (.bool true) W) := fun W h => by have := i_VS Av L.length cv L W h (by omega); rwa [hok] at this
      have HVS := Lib.hid hvs
      clear hvs hok
      obtain ⟨qv, hqv⟩ : ∃ qv : Nat, qc L.length = qv := ⟨_, rfl⟩
      have hqc : ∀ W, Calls Try.prog 34 #[.slice Av L.length cv] W fun e w' => e = .returned (.int .i64 (qv : Nat)) ∧ W = w' := fun W => by have := i_QC Av L.length cv W (by omega); rwa [hqv] at this
      rw [hqv] at hqq
      have HQC := Lib.hid hqc
      clear hqc hqv
      go_wp2_with fail
      refine (HQC.out _).mono ?_
      rintro e w' ⟨rfl, rfl⟩
      go_wp2_with fail
      refine (HVS.out _ HR'.out).mono ?_
      rintro e wa ⟨rfl, hb5⟩
      have R5 := Lib.hid (HR'.out.call hb5)
      have HW5 := Lib.hid (bl_call hb hb5)
      clear hb5
      go_wp2_with fail
      refine (i_EqS _ _ _ _ _ _ L L true _ (by simp) R5.out R5.out (by omega) (by omega)).mono ?_
      rintro e wb ⟨rfl, hb6⟩
      have HW6 := Lib.hid (bl_call HW5.out hb6)
      clear hb6
      go_wp2
      go_ret
      exact ret_mk HW6.out

set_option maxRecDepth 100000 in
theorem lifted (os : Os) (started : os.Started) (H : Type) (enc : TypeId × Value → H) :
    ReturnsInHanded {} Try.checked os 5 .any (Rows.fnBasisSpec.pre6 enc Try.prog Try.f5 Rows.fnBasisRow.domain false) (Rows.fnBasisSpec.post enc Try.prog Try.f5 false true false false) := by
  refine returnsInHanded_of_change (C := Try.checked) own started (by kernel_rfl) Try.func5
    (ChangeSpec.witness6 (enc := enc) (C := Try.checked) false ⟨#[], #[.slice none 0 0], []⟩ 8 (by kernel_rfl) (by kernel_rfl) (by kernel_rfl) (by kernel_rfl)) ?_
  intro W base args ds gs before hval0 hW hcnd _
  have hval : ∀ (j : Nat) t v, Try.f5.params[j]? = some t → args[j]? = some v → Value.okWide Try.prog W .any base t v := hval0
  have hW' := hW
  obtain ⟨p, q, hA0, hV, rfl, hfz, hnd⟩ := hW
  have hA : DataW.TrodAll enc Try.prog W 0 (fun _ => true) true Try.f5.params.toList args.toList ds p := hA0
  rw [Try.params5] at hA hval
  obtain ⟨v0, vs0, d0, ds0, p0, q0, hargs, rfl, rfl, h0, r0⟩ := trodAll_cons hA
  obtain ⟨rfl, rfl, rfl⟩ := trodAll_nil r0
  obtain rfl : args = #[v0] := by cases args; simp_all
  obtain ⟨rfl, rfl⟩ := trodVars_none hV
  have kk0 := h0
  have lt0 : ∀ x ∈ p0, x.block < W.heap.size := by obtain ⟨m, hm⟩ := kk0; exact DataW.trod_lt m _ _ _ hm
  obtain ⟨A0, n0, cp0, rfl, hR0, hn0, hc0⟩ := open_B (hval 0 22 v0 rfl rfl) h0
  clear hA0 hval0
  refine (walk A0 n0 cp0 W hR0 hn0 hc0).mono fun e W' ⟨he, bel⟩ => ?_
  subst he
  exact ⟨_, rfl, _, _, _, [], _, [], hW', trodAll_mk1 (shut_bool Try.underlying4 _), (trodAll_cons_mk (Below.trod laidOut (by kernel_rfl) (of_decide_eq_true (by kernel_rfl)) kk0 bel lt0) trodAll_mk0), rfl, bel.frame _, fun h => by cases h⟩

theorem over : Rows.fnBasisRow.holds Try.pinned (OpenSpec.ofChange Rows.fnBasisSpec) :=
  OpenClaim.holds_of_wide 5 Try.f5 rfl rfl rfl rfl rfl rfl rfl ⟨rfl, rfl, rfl, rfl, rfl⟩ rfl rfl rfl rfl rfl (by kernel_rfl) Try.func5 (by kernel_rfl)
    (of_decide_eq_true (by kernel_rfl)) (by unfold Func.isWrapper; first | (rw [if_pos (by decide +kernel)]; kernel_rfl) | (rw [if_neg (by decide +kernel)]; exact ⟨rfl, rfl⟩))
    (fun os started H enc _ => lifted os started H enc)

theorem proved : Rows.FnBasisSaid := over
end Go.Proofs.Ytaokfppadfoniaa.fnBasis
