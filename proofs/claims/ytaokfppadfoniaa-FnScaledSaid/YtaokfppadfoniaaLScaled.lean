/-
  Proved: for every input the Go function FnScaled returns true (the program's function returns what the reference's returns), and its arguments read as before.
  Conditions: none beyond the given statement.
-/
import Derived.Test.YtaokfppadfoniaaCloseB
import Derived.Deep.RegionHeld3
import Derived.Test.YtaokfppadfoniaaVc5
import Derived.Test.YtaokfppadfoniaaVec2
import Derived.Test.YtaokfppadfoniaaDV2
import Derived.Test.YtaokfppadfoniaaEq
import Derived.Test.YtaokfppadfoniaaOwn
namespace Go.Proofs.Ytaokfppadfoniaa.fnScaled
open Go.Proofs.Ytaokfppadfoniaa
open Go.ChangeShapes Go.WideShapes Go.ChangeAt Go.RowKit
set_option linter.unusedVariables false
attribute [local go_sem ↓ high] eqlD neqD
set_option maxRecDepth 20000

set_option maxHeartbeats 2000000 in
theorem walk (A0 : Option Addr) (n0 cp0 : Nat) (w : World) (hR0 : RB w w.heap.size A0 n0) (hn0 : n0 ≤ 9223372036854775807) (hc0 : n0 ≤ cp0) :
    Calls Try.prog 9 #[.slice A0 n0 cp0] w (Ret (.bool true) w) := by
  by_cases hbig : n0 ≤ 1048576
  rotate_left
  · go_enter Try.func9, Try.ntmps9
    go_wp2_with fail
    refine (l_big_t _ _ _ _ (by omega)).mono ?_
    rintro e w' ⟨rfl, rfl⟩
    go_wp2
    go_ret
    exact ret_mk (Below.refl _ _)
  have HR := Lib.hid hR0
  clear hR0
  go_enter Try.func9, Try.ntmps9
  go_wp2_with fail
  refine (l_big_f _ _ _ _ hbig).mono ?_
  rintro e w' ⟨rfl, rfl⟩
  go_wp2_with fail
  refine (d_DrawScale A0 n0 cp0 _ HR.out hn0).mono ?_
  rintro e w1 ⟨Au, cu, us, p, q, r, s, m, rfl, hlu, hRu, hb1⟩
  have HW_1 := Lib.hid (bl_call (Below.refl w.heap.size w) hb1)
  have Z1 := Lib.hid hb1.size
  clear hb1
  have U_1 := Lib.hid (hRu)
  clear hRu
  obtain ⟨ds, hds⟩ : ∃ ds, (scaleD us ⟨⟨p, q, r, s⟩, m⟩).getD [] = ds := ⟨_, rfl⟩
  obtain ⟨ok, hok⟩ : ∃ ok, (scaleD us ⟨⟨p, q, r, s⟩, m⟩).isSome = ok := ⟨_, rfl⟩
  have hdl : ds.length ≤ 16 := by rw [← hds]; exact scaleD_le _ _
  have hHA : ∀ (A : Option Addr) (c : Nat) W, RD W W.heap.size A us.length us → Calls Try.prog 41 #[.slice A us.length c, .agg #[.int .i64 p, .int .i64 q, .int .i64 r, .int .i64 s, .int .i64 m]] W (RetV W 29 ds ok) := fun A c W h1 => by have := i_Scale (c := c) (p := p) (q := q) (r := r) (s := s) (m := m) W h1 (by omega); rwa [hds, hok] at this
  have HA := Lib.hid hHA
  clear hHA
  have hHC : ∀ (A : Option Addr) (c : Nat) W, RD W W.heap.size A us.length us → Calls Try.prog 38 #[.slice A us.length c, .agg #[.int .i64 p, .int .i64 q, .int .i64 r, .int .i64 s, .int .i64 m]] W (RetV W 29 ds ok) := fun A c W h1 => by have := s_Scale (c := c) (p := p) (q := q) (r := r) (s := s) (m := m) W h1 (by omega); rwa [hds, hok] at this
  have HC := Lib.hid hHC
  clear hHC
  clear hds hok
  go_wp2_with fail
  obtain ⟨w2, hw2⟩ : ∃ W, w1.alloc (.cells #[.int .i64 p, .int .i64 q, .int .i64 r, .int .i64 s, .int .i64 m] 29) = W := ⟨_, rfl⟩
  have hb2 : Below w1.heap.size w1 w2 := by rw [← hw2]; exact below_alloc _ _
  have kb2 : Blk w2 w1.heap.size 29 #[.int .i64 p, .int .i64 q, .int .i64 r, .int .i64 s, .int .i64 m] := by rw [← hw2]; exact Blk.new _ _ _
  rw [hw2]
  clear hw2
  have HW_2 := Lib.hid (bl_call HW_1.out hb2)
  have U_2 := Lib.hid (U_1.out.call hb2)
  clear HW_1 U_1
  have Z2 := Lib.hid hb2.size
  clear hb2
  have D_2 := Lib.hid (kb2)
  clear kb2
  refine (HA.out _ _ _ U_2.out).mono ?_
  rintro e w3 ⟨A3, c3, rfl, O3, hb3⟩
  have HW_3 := Lib.hid (bl_call HW_2.out hb3)
  have U_3 := Lib.hid (U_2.out.call hb3)
  have D_3 := Lib.hid (D_2.out.call hb3)
  clear HW_2 U_2 D_2
  have Z3 := Lib.hid hb3.size
  clear hb3
  have S_3 := Lib.hid (O3.read)
  clear O3
  obtain ⟨u0, u1, u2, u3, u4, -, -, -, -, -⟩ := D_3.out.five
  go_wp2_with fail
  refine (HC.out _ _ _ U_3.out).mono ?_
  rintro e w4 ⟨A4, c4, rfl, O4, hb4⟩
  have HW_4 := Lib.hid (bl_call HW_3.out hb4)
  have U_4 := Lib.hid (U_3.out.call hb4)
  have D_4 := Lib.hid (D_3.out.call hb4)
  have S_4 := Lib.hid (S_3.out.call hb4)
  clear HW_3 U_3 D_3 S_3
  have Z4 := Lib.hid hb4.size
  clear hb4
  have T_4 := Lib.hid (O4.read)
  clear O4 u0 u1 u2 u3 u4
  clear D_4
  go_wp2_with fail
  refine (s_same _ _ _ _ _ _ ds ds true _ (by simp) S_4.out T_4.out (by omega) (by omega)).mono ?_
  rintro e w5 ⟨rfl, hb5⟩
  have HW_5 := Lib.hid (bl_call HW_4.out hb5)
  have U_5 := Lib.hid (U_4.out.call hb5)
  have S_5 := Lib.hid (S_4.out.call hb5)
  have T_5 := Lib.hid (T_4.out.call hb5)
  clear HW_4 U_4 S_4 T_4
  have Z5 := Lib.hid hb5.size
  clear hb5
  clear S_5
  clear T_5
  have RR := Lib.hid ((HR.out.keep HW_5.out).more HW_5.out.size)
  go_wp2_with fail
  refine (l_at0 4 A0 n0 cp0 _ RR.out hbig (by omega)).mono ?_
  rintro e w' ⟨j, rfl, hj, rfl⟩
  clear RR
  obtain ⟨⟨p2, q2, r2, s2⟩, hph⟩ : ∃ z, phaseZ j = z := ⟨_, rfl⟩
  have hHPH : ∀ W, Calls Try.prog 23 #[.int .i64 j] W (Ret (.agg #[.int .i64 p2, .int .i64 q2, .int .i64 r2, .int .i64 s2, .int .i64 0]) W) := fun W => i_Phase W hph
  have HPH := Lib.hid hHPH
  clear hHPH
  obtain ⟨es, hes⟩ : ∃ es, (scaleD us ⟨⟨p2, q2, r2, s2⟩, 0⟩).getD [] = es := ⟨_, rfl⟩
  obtain ⟨fine, hfi⟩ : ∃ ok, (scaleD us ⟨⟨p2, q2, r2, s2⟩, 0⟩).isSome = ok := ⟨_, rfl⟩
  have hel : es.length ≤ 16 := by rw [← hes]; exact scaleD_le _ _
  obtain ⟨x, y, z, t, l, k1, hI1, hT1, -⟩ := outV_parts (innerD us us)
  obtain ⟨x', y', z', t', l', k2, hI2, hT2, -⟩ := outV_parts (innerD es es)
  have hHE : fine = true → k1 = true → k2 = true → eqDb x y z t l x' y' z' t' l' = true := fun e0 e1 e2 => by rw [e0] at hfi; obtain ⟨v, hv⟩ := Option.isSome_iff_exists.1 hfi; rw [hv] at hes; have ev : v = es := hes; rw [ev, ← hph] at hv; have h := scaled_norm hv (hT1 e1) (hT2 e2); simp only [DW.mk.injEq, ZO.mk.injEq] at h; obtain ⟨⟨rfl, rfl, rfl, rfl⟩, rfl⟩ := h; exact eqDb_self _ _ _ _ _
  have HE := Lib.hid hHE
  clear hHE
  have hHF : ∀ (A : Option Addr) (c : Nat) W, RD W W.heap.size A us.length us → Calls Try.prog 41 #[.slice A us.length c, .agg #[.int .i64 p2, .int .i64 q2, .int .i64 r2, .int .i64 s2, .int .i64 0]] W (RetV W 29 es fine) := fun A c W h1 => by have := i_Scale (c := c) (p := p2) (q := q2) (r := r2) (s := s2) (m := 0) W h1 (by omega); rwa [hes, hfi] at this
  have HF := Lib.hid hHF
  clear hHF
  have hIA : ∀ (A : Option Addr) (c : Nat) W, RD W W.heap.size A us.length us → Calls Try.prog 47 #[.slice A us.length c, .slice A us.length c] W (Ret (.tuple #[.agg #[.int .i64 x, .int .i64 y, .int .i64 z, .int .i64 t, .int .i64 l], .bool k1]) W) := fun A c W h1 => by have := s_Inner (c := c) (c' := c) W h1 h1 (by omega) (by omega); rwa [hI1] at this
  have IA := Lib.hid hIA
  clear hIA
  have hIB : ∀ (A : Option Addr) (c : Nat) W, RD W W.heap.size A es.length es → Calls Try.prog 47 #[.slice A es.length c, .slice A es.length c] W (Ret (.tuple #[.agg #[.int .i64 x', .int .i64 y', .int .i64 z', .int .i64 t', .int .i64 l'], .bool k2]) W) := fun A c W h1 => by have := s_Inner (c := c) (c' := c) W h1 h1 (by omega) (by omega); rwa [hI2] at this
  have IB := Lib.hid hIB
  clear hIB
  clear hI1 hI2 hT1 hT2 hes hfi hph
  go_wp2_with fail
  refine (HPH.out _).mono ?_
  rintro e w6 ⟨rfl, hb6⟩
  have HW_6 := Lib.hid (bl_call HW_5.out hb6)
  have U_6 := Lib.hid (U_5.out.call hb6)
  clear HW_5 U_5
  have Z6 := Lib.hid hb6.size
  clear hb6
  go_wp2_with fail
  refine (HF.out _ _ _ U_6.out).mono ?_
  rintro e w7 ⟨A7, c7, rfl, O7, hb7⟩
  have HW_7 := Lib.hid (bl_call HW_6.out hb7)
  have U_7 := Lib.hid (U_6.out.call hb7)
  clear HW_6 U_6
  have Z7 := Lib.hid hb7.size
  clear hb7
  have E_7 := Lib.hid (O7.read)
  clear O7
  go_wp2_with fail
  refine (IA.out _ _ _ U_7.out).mono ?_
  rintro e w8 ⟨rfl, hb8⟩
  have HW_8 := Lib.hid (bl_call HW_7.out hb8)
  have U_8 := Lib.hid (U_7.out.call hb8)
  have E_8 := Lib.hid (E_7.out.call hb8)
  clear HW_7 U_7 E_7
  have Z8 := Lib.hid hb8.size
  clear hb8
  go_wp2_with fail
  obtain ⟨w9, hw9⟩ : ∃ W, w8.alloc (.cells #[.int .i64 x, .int .i64 y, .int .i64 z, .int .i64 t, .int .i64 l] 29) = W := ⟨_, rfl⟩
  have hb9 : Below w8.heap.size w8 w9 := by rw [← hw9]; exact below_alloc _ _
  have kb9 : Blk w9 w8.heap.size 29 #[.int .i64 x, .int .i64 y, .int .i64 z, .int .i64 t, .int .i64 l] := by rw [← hw9]; exact Blk.new _ _ _
  rw [hw9]
  clear hw9
  have HW_9 := Lib.hid (bl_call HW_8.out hb9)
  have U_9 := Lib.hid (U_8.out.call hb9)
  have E_9 := Lib.hid (E_8.out.call hb9)
  clear HW_8 U_8 E_8
  have Z9 := Lib.hid hb9.size
  clear hb9
  have X_9 := Lib.hid (kb9)
  clear kb9
  clear U_9
  refine (IB.out _ _ _ E_9.out).mono ?_
  rintro e w10 ⟨rfl, hb10⟩
  have HW_10 := Lib.hid (bl_call HW_9.out hb10)
  have E_10 := Lib.hid (E_9.out.call hb10)
  have X_10 := Lib.hid (X_9.out.call hb10)
  clear HW_9 E_9 X_9
  have Z10 := Lib.hid hb10.size
  clear hb10
  clear E_10
  obtain ⟨u0, u1, u2, u3, u4, -, -, -, -, -⟩ := X_10.out.five
  have gl := X_10.out.lt
  have gl1 := Nat.ne_of_lt gl
  have gl2 := Nat.ne_of_gt gl
  have hw := HW_10.out
  cases fine
  · go_wp2
    go_ret
    refine ret_eq (by simp) ?_
    repeat (first | (with_reducible exact Below.refl _ _) | (with_reducible assumption) | (with_reducible refine bl_alloc ?_ _) | (with_reducible refine bl_drew ?_) | (with_reducible refine bl_set ?_ (by simp <;> omega) _) | (with_reducible refine bl_call ?_ (by assumption)))
  cases k1
  · go_wp2
    go_ret
    refine ret_eq (by simp) ?_
    repeat (first | (with_reducible exact Below.refl _ _) | (with_reducible assumption) | (with_reducible refine bl_alloc ?_ _) | (with_reducible refine bl_drew ?_) | (with_reducible refine bl_set ?_ (by simp <;> omega) _) | (with_reducible refine bl_call ?_ (by assumption)))
  cases k2
  · go_wp2
    go_ret
    refine ret_eq (by simp) ?_
    repeat (first | (with_reducible exact Below.refl _ _) | (with_reducible assumption) | (with_reducible refine bl_alloc ?_ _) | (with_reducible refine bl_drew ?_) | (with_reducible refine bl_set ?_ (by simp <;> omega) _) | (with_reducible refine bl_call ?_ (by assumption)))
  have hee := HE.out rfl rfl rfl
  go_wp2
  go_ret
  refine ret_eq (by simp) ?_
  repeat (first | (with_reducible exact Below.refl _ _) | (with_reducible assumption) | (with_reducible refine bl_alloc ?_ _) | (with_reducible refine bl_drew ?_) | (with_reducible refine bl_set ?_ (by simp <;> omega) _) | (with_reducible refine bl_call ?_ (by assumption)))

set_option maxRecDepth 100000 in
theorem lifted (os : Os) (started : os.Started) (H : Type) (enc : TypeId × Value → H) :
    ReturnsInHanded {} Try.checked os 9 .any (Rows.fnScaledSpec.pre6 enc Try.prog Try.f9 Rows.fnScaledRow.domain false) (Rows.fnScaledSpec.post enc Try.prog Try.f9 false true false false) := by
  refine returnsInHanded_of_change (C := Try.checked) own started (by kernel_rfl) Try.func9
    (ChangeSpec.witness6 (enc := enc) (C := Try.checked) false ⟨#[], #[.slice none 0 0], []⟩ 8 (by kernel_rfl) (by kernel_rfl) (by kernel_rfl) (by kernel_rfl)) ?_
  intro W base args ds gs before hval0 hW hcnd _
  have hval : ∀ (j : Nat) t v, Try.f9.params[j]? = some t → args[j]? = some v → Value.okWide Try.prog W .any base t v := hval0
  have hW' := hW
  obtain ⟨p, q, hA0, hV, rfl, hfz, hnd⟩ := hW
  have hA : DataW.TrodAll enc Try.prog W 0 (fun _ => true) true Try.f9.params.toList args.toList ds p := hA0
  rw [Try.params9] at hA hval
  obtain ⟨v0, vs0, d0, ds0, p0, q0, hargs, rfl, rfl, h0, r0⟩ := trodAll_cons hA
  obtain ⟨rfl, rfl, rfl⟩ := trodAll_nil r0
  obtain rfl : args = #[v0] := by cases args; simp_all
  obtain ⟨rfl, rfl⟩ := trodVars_none hV
  have kk0 := h0
  have lt0 : ∀ x ∈ p0, x.block < W.heap.size := by obtain ⟨m, hm⟩ := kk0; exact DataW.trod_lt m _ _ _ hm
  obtain ⟨A0, n0, cp0, rfl, hR0, hn0, hc0⟩ := open_B (hval 0 22 v0 rfl rfl) h0
  clear hA0 hval0
  refine (walk A0 n0 cp0 W hR0 hn0 hc0).mono fun e W' ⟨he, bel⟩ => ?_
  subst he
  exact ⟨_, rfl, _, _, _, [], _, [], hW', trodAll_mk1 (shut_bool Try.underlying4 _), (trodAll_cons_mk (Below.trod laidOut (by kernel_rfl) (of_decide_eq_true (by kernel_rfl)) kk0 bel lt0) trodAll_mk0), rfl, bel.frame _, fun h => by cases h⟩

theorem over : Rows.fnScaledRow.holds Try.pinned (OpenSpec.ofChange Rows.fnScaledSpec) :=
  OpenClaim.holds_of_wide 9 Try.f9 rfl rfl rfl rfl rfl rfl rfl ⟨rfl, rfl, rfl, rfl, rfl⟩ rfl rfl rfl rfl rfl (by kernel_rfl) Try.func9 (by kernel_rfl)
    (of_decide_eq_true (by kernel_rfl)) (by unfold Func.isWrapper; first | (rw [if_pos (by decide +kernel)]; kernel_rfl) | (rw [if_neg (by decide +kernel)]; exact ⟨rfl, rfl⟩))
    (fun os started H enc _ => lifted os started H enc)

theorem proved : Rows.FnScaledSaid := over
end Go.Proofs.Ytaokfppadfoniaa.fnScaled
