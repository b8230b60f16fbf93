/-
  Proved: for every input the Go function FnExactJoin returns true (the program's function returns what the reference's returns), and its arguments read as before.
  Conditions: none beyond the given statement.
-/
import Derived.Test.YtbjmfapoioebjaaClose
import Derived.Deep.RegionHeld3
import Derived.Test.YtbjmfapoioebjaaJl
namespace Go.Proofs.Ytbjmfapoioebjaa.fnExactJoin
open Go.Proofs.Ytbjmfapoioebjaa
open Go.ChangeShapes Go.WideShapes Go.ChangeAt Go.RowKit
set_option linter.unusedVariables false
set_option maxRecDepth 20000

set_option maxHeartbeats 2000000 in
theorem walk (A0 : Option Addr) (n0 cp0 : Nat) (ls0 : List (List UInt8)) (s1 : ByteArray) (w : World) (hR0 : RX w w.heap.size A0 n0 ls0) (hr0 : ∀ r ∈ ls0, r.length ≤ 9223372036854775807) (hn0 : n0 ≤ 9223372036854775807) (hc0 : n0 ≤ cp0) (fs1 : s1.size ≤ 9223372036854775807) :
    Calls Try.prog 3 #[.slice A0 n0 cp0, .string s1] w (Ret (.bool true) w) := by
  obtain ⟨sep, hsep⟩ : ∃ l, s1 = str l := ⟨s1.data.toList, (str_of s1).symm⟩
  subst hsep
  have hz : (str sep).size = sep.length := str_size sep
  have HZ := Lib.hid hz
  clear hz
  have HR := Lib.hid hR0
  have HRR := Lib.hid hr0
  have HN := Lib.hid hR0.1
  clear hR0 hr0
  by_cases hby : (str sep).size ≤ 1048576
  rotate_left
  · have d0 : decide ((1048576 : Int) < ((str sep).size : Int)) = true := by simp; omega
    have d1 : decide (1048576 < (str sep).size) = true := by simp; omega
    go_enter Try.func3, Try.ntmps3
    go_wp2
    go_ret
    exact ret_mk (Below.refl _ _)
  have d0 : decide ((1048576 : Int) < ((str sep).size : Int)) = false := by simp; omega
  have d1 : decide (1048576 < (str sep).size) = false := by simp; omega
  by_cases hbig : totX ls0 ≤ 1048576
  rotate_left
  · go_enter Try.func3, Try.ntmps3
    go_wp2_with fail
    refine (szX _ _ _ _ (-1) _ _ HR.out (by omega) (by omega) hn0 HRR.out (by rw [if_neg (by omega)])).mono ?_
    rintro e w' ⟨rfl, rfl⟩
    go_wp2
    go_ret
    exact ret_mk (Below.refl _ _)
  obtain ⟨lf, hlf⟩ : ∃ lf : Int, (1048576 : Int) - totX ls0 = lf := ⟨_, rfl⟩
  have hlf0 : decide (lf < 0) = false := by simp; omega
  have hnl : n0 ≤ 1048576 := by have := HN.out; have := partX_le ls0 0; omega
  have hjl : (Lib.join ls0 sep).length ≤ 140737488355328 := by
    have h1 := join_len ls0 sep
    have h2 : sep.length * ls0.length ≤ 1048576 * 1048576 := Nat.mul_le_mul (by have := HZ.out; omega) (by have := HN.out; omega)
    omega
  have HLF := Lib.hid hlf
  clear hlf
  obtain ⟨J, hJ⟩ : ∃ J, Lib.join ls0 sep = J := ⟨_, rfl⟩
  have H1 : ∀ A c W, RX W W.heap.size A n0 ls0 → Calls Try.prog 5 #[.slice A n0 c, .string (str sep)] W (Ret (.string (str J)) W) := fun A c W h => by have := s_Join A n0 c ls0 sep W h (by omega) hjl; rwa [hJ] at this
  have H2 : ∀ A c W, RX W W.heap.size A n0 ls0 → n0 ≤ c → Calls Try.prog 7 #[.slice A n0 c, .string (str sep)] W (Ret (.string (str J)) W) := fun A c W h hc => by have := i_Join A n0 c ls0 sep W h hc (by omega) hjl; rwa [hJ] at this
  have K1 := Lib.hid H1
  have K2 := Lib.hid H2
  clear H1 H2 hJ
  have eq := tl_eq (rfl : str J = str J)
  go_enter Try.func3, Try.ntmps3
  go_wp2_with fail
  refine (szX _ _ _ _ lf _ _ HR.out (by omega) (by omega) hn0 HRR.out (by rw [if_pos (by omega)]; exact HLF.out.symm)).mono ?_
  rintro e w' ⟨rfl, rfl⟩
  go_wp2_with fail
  refine (toX _ _ _ ls0 _ HR.out hnl).mono ?_
  rintro e w1 ⟨rfl, O1, hb1⟩
  have W1 := Lib.hid hb1
  have O1' := Lib.hid O1.read
  rw [← HN.out] at O1' ⊢
  go_wp2_with fail
  refine (K1.out _ _ _ O1'.out).mono ?_
  rintro e w2 ⟨rfl, hb2⟩
  have W2 := Lib.hid (bl_call W1.out hb2)
  go_wp2_with fail
  refine (toX _ _ _ ls0 _ ((HR.out.keep W2.out).more W2.out.size) hnl).mono ?_
  rintro e w3 ⟨rfl, O3, hb3⟩
  have W3 := Lib.hid (bl_call W2.out hb3)
  have O3' := Lib.hid O3.read
  have X3 := Lib.hid O3
  rw [← HN.out] at O3' ⊢
  go_wp2_with fail
  refine (K2.out _ _ _ O3'.out (Nat.le_refl _)).mono ?_
  rintro e w4 ⟨rfl, hb4⟩
  have W4 := Lib.hid (bl_call W3.out hb4)
  have X4 := Lib.hid (X3.out.call hb4)
  go_wp2_with fail
  refine (toX _ _ _ ls0 _ ((HR.out.keep W4.out).more W4.out.size) hnl).mono ?_
  rintro e w5 ⟨rfl, O5, hb5⟩
  have W5 := Lib.hid (bl_call W4.out hb5)
  have O5' := Lib.hid O5.read
  have X5 := Lib.hid (X4.out.call hb5).read
  rw [← HN.out] at O5' X5 ⊢
  go_wp2_with fail
  refine (eqX _ _ _ _ _ ls0 _ X5.out O5'.out (by omega)).mono ?_
  rintro e w6 ⟨rfl, hb6⟩
  have W6 := bl_call W5.out hb6
  clear hb1 hb2 hb3 hb4 hb5 hb6
  go_wp2
  go_ret
  exact ret_mk W6

set_option maxRecDepth 100000 in
theorem lifted (os : Os) (started : os.Started) (H : Type) (enc : TypeId × Value → H) :
    ReturnsInHanded {} Try.checked os 3 .any (Rows.fnExactJoinSpec.pre6 enc Try.prog Try.f3 Rows.fnExactJoinRow.domain false) (Rows.fnExactJoinSpec.post enc Try.prog Try.f3 false true false false) := by
  refine returnsInHanded_of_change (C := Try.checked) own started (by kernel_rfl) Try.func3
    (ChangeSpec.witness6 (enc := enc) (C := Try.checked) false ⟨#[], #[.slice none 0 0, .string ⟨#[]⟩], []⟩ 8 (by kernel_rfl) (by kernel_rfl) (by kernel_rfl) (by kernel_rfl)) ?_
  intro W base args ds gs before hval0 hW hcnd _
  have hval : ∀ (j : Nat) t v, Try.f3.params[j]? = some t → args[j]? = some v → Value.okWide Try.prog W .any base t v := hval0
  have hW' := hW
  obtain ⟨p, q, hA0, hV, rfl, hfz, hnd⟩ := hW
  have hA : DataW.TrodAll enc Try.prog W 0 (fun _ => true) true Try.f3.params.toList args.toList ds p := hA0
  rw [Try.params3] at hA hval
  obtain ⟨v0, vs0, d0, ds0, p0, q0, hargs, rfl, rfl, h0, r0⟩ := trodAll_cons hA
  obtain ⟨v1, vs1, d1, ds1, p1, q1, rfl, rfl, rfl, h1, r1⟩ := trodAll_cons r0
  obtain ⟨rfl, rfl, rfl⟩ := trodAll_nil r1
  obtain rfl : args = #[v0, v1] := by cases args; simp_all
  obtain ⟨rfl, rfl⟩ := trodVars_none hV
  have kk0 := h0
  have lt0 : ∀ x ∈ p0, x.block < W.heap.size := by obtain ⟨m, hm⟩ := kk0; exact DataW.trod_lt m _ _ _ hm
  obtain ⟨A0, n0, cp0, ls0, rfl, hR0, hr0, hn0, hc0⟩ := open_X (hval 0 22 v0 rfl rfl) h0
  have kk1 := h1
  have lt1 : ∀ x ∈ p1, x.block < W.heap.size := by obtain ⟨m, hm⟩ := kk1; exact DataW.trod_lt m _ _ _ hm
  obtain ⟨s1, rfl, rfl, rfl, ws1⟩ := Go.ChangeMaps.open_string Try.underlying9 (hval 1 9 v1 rfl rfl) h1
  unfold maxLen at ws1
  clear hA0 hval0
  refine (walk A0 n0 cp0 ls0 s1 W hR0 hr0 hn0 hc0 (by omega)).mono fun e W' ⟨he, bel⟩ => ?_
  subst he
  exact ⟨_, rfl, _, _, _, [], _, [], hW', trodAll_mk1 (shut_bool Try.underlying4 _), (trodAll_cons_mk (Below.trod laidOut (by kernel_rfl) (of_decide_eq_true (by kernel_rfl)) kk0 bel lt0) (trodAll_cons_mk (Below.trod laidOut (by kernel_rfl) (of_decide_eq_true (by kernel_rfl)) kk1 bel lt1) trodAll_mk0)), rfl, bel.frame _, fun h => by cases h⟩

theorem over : Rows.fnExactJoinRow.holds Try.pinned (OpenSpec.ofChange Rows.fnExactJoinSpec) :=
  OpenClaim.holds_of_wide 3 Try.f3 rfl rfl rfl rfl rfl rfl rfl ⟨rfl, rfl, rfl, rfl, rfl⟩ rfl rfl rfl rfl rfl (by kernel_rfl) Try.func3 (by kernel_rfl)
    (of_decide_eq_true (by kernel_rfl)) (by unfold Func.isWrapper; first | (rw [if_pos (by decide +kernel)]; kernel_rfl) | (rw [if_neg (by decide +kernel)]; exact ⟨rfl, rfl⟩))
    (fun os started H enc _ => lifted os started H enc)

theorem proved : Rows.FnExactJoinSaid := over
end Go.Proofs.Ytbjmfapoioebjaa.fnExactJoin
