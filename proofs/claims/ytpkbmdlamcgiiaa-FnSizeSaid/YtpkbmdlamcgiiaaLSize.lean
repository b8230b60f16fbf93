/-
  Proved: for every input the Go function FnSize returns true (the program's function returns what the reference's returns), and its arguments read as before.
  Conditions: none beyond the given statement.
-/
import Derived.Test.YtpkbmdlamcgiiaaCloseB
import Derived.Deep.RegionHeld3
import Derived.Test.YtpkbmdlamcgiiaaPure6
import Derived.Test.YtpkbmdlamcgiiaaNS
import Derived.Test.YtpkbmdlamcgiiaaRS
import Derived.Test.YtpkbmdlamcgiiaaDr3
import Derived.Test.YtpkbmdlamcgiiaaEq
import Derived.Test.YtpkbmdlamcgiiaaOwn
namespace Go.Proofs.Ytpkbmdlamcgiiaa.fnSize
open Go.Proofs.Ytpkbmdlamcgiiaa
open Go.ChangeShapes Go.WideShapes Go.ChangeAt Go.RowKit
set_option linter.unusedVariables false
attribute [local go_sem ↓ high] eqlD neqD eqlZ neqZ

set_option maxHeartbeats 2000000 in
theorem walk (A0 : Option Addr) (n0 cp0 : Nat) (w : World) (hR0 : RB w w.heap.size A0 n0) (hn0 : n0 ≤ 9223372036854775807) (hc0 : n0 ≤ cp0) :
    Calls Try.prog 10 #[.slice A0 n0 cp0] w (Ret (.bool true) w) := by
  by_cases hbig : n0 ≤ 1048576
  rotate_left
  · go_enter Try.func10, Try.ntmps10
    go_wp2_with fail
    refine (l_big_t _ _ _ _ (by omega)).mono ?_
    rintro e w' ⟨rfl, rfl⟩
    go_wp2
    go_ret
    exact ret_mk (Below.refl _ _)
  have HR := Lib.hid hR0
  clear hR0
  go_enter Try.func10, Try.ntmps10
  go_wp2_with fail
  refine (l_big_f _ _ _ _ hbig).mono ?_
  rintro e w' ⟨rfl, rfl⟩
  go_wp2_with fail
  refine (d_DrawNS A0 n0 cp0 _ HR.out hn0).mono ?_
  rintro e w1 ⟨a, b, c, d, k, rfl, hb⟩
  have T1 : Own w w1 [] := (Own.start w).call hb
  clear hb
  rcases h0 : mulD ⟨⟨a, b, c, d⟩, k⟩ ⟨⟨a, -d, -c, -b⟩, k⟩ with _ | ⟨⟨x, y, z, t⟩, m⟩
  · have H0 := Lib.hid h0
    clear h0
    go_wp2_with fail
    refine (i_Norm_none _ H0.out).mono ?_
    rintro e w2 ⟨rfl, hb⟩
    have T2 : Own w w2 [(w1.heap.size, 29, #[.int .i64 a, .int .i64 b, .int .i64 c, .int .i64 d, .int .i64 k])] := by simpa using ((T1.push 29 #[.int .i64 a, .int .i64 b, .int .i64 c, .int .i64 d, .int .i64 k])).call hb
    clear hb T1
    obtain ⟨c2_0_0, c2_0_1, c2_0_2, c2_0_3, c2_0_4, -, -, -, -, -⟩ := T2.head.five
    have l2_0 := T2.head.lt
    have nx2_0 := Nat.ne_of_lt l2_0
    have ny2_0 := Nat.ne_of_gt l2_0
    have le2_0 := Nat.le_of_lt l2_0
    go_wp2_with fail
    refine (s_Norm_none _ H0.out).mono ?_
    rintro e w3 ⟨rfl, hb⟩
    have T3 : Own w w3 [(w2.heap.size, 29, #[.int .i64 0, .int .i64 0, .int .i64 0, .int .i64 0, .int .i64 0]), (w1.heap.size, 29, #[.int .i64 a, .int .i64 b, .int .i64 c, .int .i64 d, .int .i64 k])] := by simpa using ((T2.push 29 #[.int .i64 0, .int .i64 0, .int .i64 0, .int .i64 0, .int .i64 0])).call hb
    clear hb T2
    clear c2_0_0 c2_0_1 c2_0_2 c2_0_3 c2_0_4
    obtain ⟨c3_0_0, c3_0_1, c3_0_2, c3_0_3, c3_0_4, -, -, -, -, -⟩ := T3.head.five
    have l3_0 := T3.head.lt
    have nx3_0 := Nat.ne_of_lt l3_0
    have ny3_0 := Nat.ne_of_gt l3_0
    have le3_0 := Nat.le_of_lt l3_0
    obtain ⟨c3_1_0, c3_1_1, c3_1_2, c3_1_3, c3_1_4, -, -, -, -, -⟩ := T3.tail.head.five
    have l3_1 := T3.tail.head.lt
    have nx3_1 := Nat.ne_of_lt l3_1
    have ny3_1 := Nat.ne_of_gt l3_1
    have le3_1 := Nat.le_of_lt l3_1
    have hw := T3.below
    go_wp2
    go_ret
    refine ret_mk ?_
    repeat (first | (with_reducible exact Below.refl _ _) | (with_reducible assumption) | (with_reducible refine bl_alloc ?_ _) | (with_reducible refine bl_drew ?_) | (with_reducible refine bl_set ?_ (by simp <;> omega) _) | (with_reducible refine bl_call ?_ (by assumption)))
  · have H0 := Lib.hid h0
    obtain ⟨hr, hg, hz⟩ := size_law (x := ⟨⟨a, b, c, d⟩, k⟩) h0
    clear h0
    obtain ⟨n, hn'⟩ : ∃ n, realSign ⟨⟨x, y, z, t⟩, m⟩ = n := ⟨_, rfl⟩
    rw [hn'] at hg hz
    have HN := Lib.hid hn'
    clear hn'
    have hq : (n == 0) = eqDb a b c d k 0 0 0 0 0 := by rw [Bool.eq_iff_iff, eqDb_iff, beq_iff_eq, hz]; simp [and_assoc]
    clear hz
    have HQ := Lib.hid hq
    clear hq
    go_wp2_with fail
    refine (i_Norm_some _ H0.out).mono ?_
    rintro e w2 ⟨rfl, hb⟩
    have T2 : Own w w2 [(w1.heap.size, 29, #[.int .i64 a, .int .i64 b, .int .i64 c, .int .i64 d, .int .i64 k])] := by simpa using ((T1.push 29 #[.int .i64 a, .int .i64 b, .int .i64 c, .int .i64 d, .int .i64 k])).call hb
    clear hb T1
    obtain ⟨c2_0_0, c2_0_1, c2_0_2, c2_0_3, c2_0_4, -, -, -, -, -⟩ := T2.head.five
    have l2_0 := T2.head.lt
    have nx2_0 := Nat.ne_of_lt l2_0
    have ny2_0 := Nat.ne_of_gt l2_0
    have le2_0 := Nat.le_of_lt l2_0
    go_wp2_with fail
    refine (s_Norm_some _ H0.out).mono ?_
    rintro e w3 ⟨rfl, hb⟩
    have T3 : Own w w3 [(w2.heap.size, 29, #[.int .i64 x, .int .i64 y, .int .i64 z, .int .i64 t, .int .i64 m]), (w1.heap.size, 29, #[.int .i64 a, .int .i64 b, .int .i64 c, .int .i64 d, .int .i64 k])] := by simpa using ((T2.push 29 #[.int .i64 x, .int .i64 y, .int .i64 z, .int .i64 t, .int .i64 m])).call hb
    clear hb T2
    clear c2_0_0 c2_0_1 c2_0_2 c2_0_3 c2_0_4
    obtain ⟨c3_0_0, c3_0_1, c3_0_2, c3_0_3, c3_0_4, -, -, -, -, -⟩ := T3.head.five
    have l3_0 := T3.head.lt
    have nx3_0 := Nat.ne_of_lt l3_0
    have ny3_0 := Nat.ne_of_gt l3_0
    have le3_0 := Nat.le_of_lt l3_0
    obtain ⟨c3_1_0, c3_1_1, c3_1_2, c3_1_3, c3_1_4, -, -, -, -, -⟩ := T3.tail.head.five
    have l3_1 := T3.tail.head.lt
    have nx3_1 := Nat.ne_of_lt l3_1
    have ny3_1 := Nat.ne_of_gt l3_1
    have le3_1 := Nat.le_of_lt l3_1
    go_wp2_with fail
    refine (i_RS _ HN.out).mono ?_
    rintro e w4 ⟨rfl, hb⟩
    have T4 : Own w w4 [(w3.heap.size, 29, #[.int .i64 x, .int .i64 y, .int .i64 z, .int .i64 t, .int .i64 m]), (w2.heap.size, 29, #[.int .i64 x, .int .i64 y, .int .i64 z, .int .i64 t, .int .i64 m]), (w1.heap.size, 29, #[.int .i64 a, .int .i64 b, .int .i64 c, .int .i64 d, .int .i64 k])] := by simpa using ((T3.push 29 #[.int .i64 x, .int .i64 y, .int .i64 z, .int .i64 t, .int .i64 m])).call hb
    clear hb T3
    clear c3_0_0 c3_0_1 c3_0_2 c3_0_3 c3_0_4 c3_1_0 c3_1_1 c3_1_2 c3_1_3 c3_1_4
    obtain ⟨c4_0_0, c4_0_1, c4_0_2, c4_0_3, c4_0_4, -, -, -, -, -⟩ := T4.head.five
    have l4_0 := T4.head.lt
    have nx4_0 := Nat.ne_of_lt l4_0
    have ny4_0 := Nat.ne_of_gt l4_0
    have le4_0 := Nat.le_of_lt l4_0
    obtain ⟨c4_1_0, c4_1_1, c4_1_2, c4_1_3, c4_1_4, -, -, -, -, -⟩ := T4.tail.head.five
    have l4_1 := T4.tail.head.lt
    have nx4_1 := Nat.ne_of_lt l4_1
    have ny4_1 := Nat.ne_of_gt l4_1
    have le4_1 := Nat.le_of_lt l4_1
    obtain ⟨c4_2_0, c4_2_1, c4_2_2, c4_2_3, c4_2_4, -, -, -, -, -⟩ := T4.tail.tail.head.five
    have l4_2 := T4.tail.tail.head.lt
    have nx4_2 := Nat.ne_of_lt l4_2
    have ny4_2 := Nat.ne_of_gt l4_2
    have le4_2 := Nat.le_of_lt l4_2
    go_wp2_with fail
    refine (i_real_t _ hr).mono ?_
    rintro e w5 ⟨rfl, hb⟩
    have T5 : Own w w5 [(w3.heap.size, 29, #[.int .i64 x, .int .i64 y, .int .i64 z, .int .i64 t, .int .i64 m]), (w2.heap.size, 29, #[.int .i64 x, .int .i64 y, .int .i64 z, .int .i64 t, .int .i64 m]), (w1.heap.size, 29, #[.int .i64 a, .int .i64 b, .int .i64 c, .int .i64 d, .int .i64 k])] := by simpa using (T4).call hb
    clear hb T4
    clear c4_0_0 c4_0_1 c4_0_2 c4_0_3 c4_0_4 c4_1_0 c4_1_1 c4_1_2 c4_1_3 c4_1_4 c4_2_0 c4_2_1 c4_2_2 c4_2_3 c4_2_4
    obtain ⟨c5_0_0, c5_0_1, c5_0_2, c5_0_3, c5_0_4, -, -, -, -, -⟩ := T5.head.five
    have l5_0 := T5.head.lt
    have nx5_0 := Nat.ne_of_lt l5_0
    have ny5_0 := Nat.ne_of_gt l5_0
    have le5_0 := Nat.le_of_lt l5_0
    obtain ⟨c5_1_0, c5_1_1, c5_1_2, c5_1_3, c5_1_4, -, -, -, -, -⟩ := T5.tail.head.five
    have l5_1 := T5.tail.head.lt
    have nx5_1 := Nat.ne_of_lt l5_1
    have ny5_1 := Nat.ne_of_gt l5_1
    have le5_1 := Nat.le_of_lt l5_1
    obtain ⟨c5_2_0, c5_2_1, c5_2_2, c5_2_3, c5_2_4, -, -, -, -, -⟩ := T5.tail.tail.head.five
    have l5_2 := T5.tail.tail.head.lt
    have nx5_2 := Nat.ne_of_lt l5_2
    have ny5_2 := Nat.ne_of_gt l5_2
    have le5_2 := Nat.le_of_lt l5_2
    have hw := T5.below
    go_wp2
    go_ret
    refine ret_eq (by rw [HQ.out]; simp) ?_
    repeat (first | (with_reducible exact Below.refl _ _) | (with_reducible assumption) | (with_reducible refine bl_alloc ?_ _) | (with_reducible refine bl_drew ?_) | (with_reducible refine bl_set ?_ (by simp <;> omega) _) | (with_reducible refine bl_call ?_ (by assumption)))

set_option maxRecDepth 100000 in
theorem lifted (os : Os) (started : os.Started) (H : Type) (enc : TypeId × Value → H) :
    ReturnsInHanded {} Try.checked os 10 .any (Rows.fnSizeSpec.pre6 enc Try.prog Try.f10 Rows.fnSizeRow.domain false) (Rows.fnSizeSpec.post enc Try.prog Try.f10 false true false false) := by
  refine returnsInHanded_of_change (C := Try.checked) own started (by kernel_rfl) Try.func10
    (ChangeSpec.witness6 (enc := enc) (C := Try.checked) false ⟨#[], #[.slice none 0 0], []⟩ 8 (by kernel_rfl) (by kernel_rfl) (by kernel_rfl) (by kernel_rfl)) ?_
  intro W base args ds gs before hval0 hW hcnd _
  have hval : ∀ (j : Nat) t v, Try.f10.params[j]? = some t → args[j]? = some v → Value.okWide Try.prog W .any base t v := hval0
  have hW' := hW
  obtain ⟨p, q, hA0, hV, rfl, hfz, hnd⟩ := hW
  have hA : DataW.TrodAll enc Try.prog W 0 (fun _ => true) true Try.f10.params.toList args.toList ds p := hA0
  rw [Try.params10] at hA hval
  obtain ⟨v0, vs0, d0, ds0, p0, q0, hargs, rfl, rfl, h0, r0⟩ := trodAll_cons hA
  obtain ⟨rfl, rfl, rfl⟩ := trodAll_nil r0
  obtain rfl : args = #[v0] := by cases args; simp_all
  obtain ⟨rfl, rfl⟩ := trodVars_none hV
  have kk0 := h0
  have lt0 : ∀ x ∈ p0, x.block < W.heap.size := by obtain ⟨m, hm⟩ := kk0; exact DataW.trod_lt m _ _ _ hm
  obtain ⟨A0, n0, cp0, rfl, hR0, hn0, hc0⟩ := open_B (hval 0 22 v0 rfl rfl) h0
  clear hA0 hval0
  refine (walk A0 n0 cp0 W hR0 hn0 hc0).mono fun e W' ⟨he, bel⟩ => ?_
  subst he
  exact ⟨_, rfl, _, _, _, [], _, [], hW', trodAll_mk1 (shut_bool Try.underlying4 _), (trodAll_cons_mk (Below.trod laidOut (by kernel_rfl) (of_decide_eq_true (by kernel_rfl)) kk0 bel lt0) trodAll_mk0), rfl, bel.frame _, fun h => by cases h⟩

theorem over : Rows.fnSizeRow.holds Try.pinned (OpenSpec.ofChange Rows.fnSizeSpec) :=
  OpenClaim.holds_of_wide 10 Try.f10 rfl rfl rfl rfl rfl rfl rfl ⟨rfl, rfl, rfl, rfl, rfl⟩ rfl rfl rfl rfl rfl (by kernel_rfl) Try.func10 (by kernel_rfl)
    (of_decide_eq_true (by kernel_rfl)) (by unfold Func.isWrapper; first | (rw [if_pos (by decide +kernel)]; kernel_rfl) | (rw [if_neg (by decide +kernel)]; exact ⟨rfl, rfl⟩))
    (fun os started H enc _ => lifted os started H enc)

theorem proved : Rows.FnSizeSaid := over
end Go.Proofs.Ytpkbmdlamcgiiaa.fnSize
