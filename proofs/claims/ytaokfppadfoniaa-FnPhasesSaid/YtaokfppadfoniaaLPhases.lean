/-
  Proved: for every input the Go function FnPhases returns true (the program's function returns what the reference's returns), and its arguments read as before.
  Conditions: none beyond the given statement.
-/
import Derived.Test.YtaokfppadfoniaaCloseB
import Derived.Deep.RegionHeld3
import Derived.Test.YtaokfppadfoniaaPf
import Derived.Test.YtaokfppadfoniaaDr4
import Derived.Test.YtaokfppadfoniaaEq
import Derived.Test.YtaokfppadfoniaaOwn
namespace Go.Proofs.Ytaokfppadfoniaa.fnPhases
open Go.Proofs.Ytaokfppadfoniaa
open Go.ChangeShapes Go.WideShapes Go.ChangeAt Go.RowKit
set_option linter.unusedVariables false
attribute [local go_sem ↓ high] eqlD neqD eqlZ neqZ
set_option maxRecDepth 20000

set_option maxHeartbeats 2000000 in
theorem walk (A0 : Option Addr) (n0 cp0 : Nat) (w : World) (hR0 : RB w w.heap.size A0 n0) (hn0 : n0 ≤ 9223372036854775807) (hc0 : n0 ≤ cp0) :
    Calls Try.prog 4 #[.slice A0 n0 cp0] w (Ret (.bool true) w) := by
  by_cases hbig : n0 ≤ 1048576
  rotate_left
  · go_enter Try.func4, Try.ntmps4
    go_wp2_with fail
    refine (l_big_t _ _ _ _ (by omega)).mono ?_
    rintro e w' ⟨rfl, rfl⟩
    go_wp2
    go_ret
    exact ret_mk (Below.refl _ _)
  have HR := Lib.hid hR0
  clear hR0
  go_enter Try.func4, Try.ntmps4
  go_wp2_with fail
  refine (l_big_f _ _ _ _ hbig).mono ?_
  rintro e w' ⟨rfl, rfl⟩
  go_wp2_with fail
  refine (d_DrawPF A0 n0 cp0 _ HR.out hn0).mono ?_
  rintro e w1 ⟨i, rfl, hi, hb⟩
  have T1 : Own w w1 [] := (Own.start w).call hb
  clear hb
  go_wp2_with fail
  refine (l_at0 3 A0 n0 cp0 _ ((HR.out.keep T1.below).more T1.below.size) hbig (by omega)).mono ?_
  rintro e w' ⟨j, rfl, hj, rfl⟩
  obtain ⟨k, hk, hpk, hE⟩ := exp_phase i
  have HE := Lib.hid hE
  clear hE
  go_wp2_with fail
  refine (i_Phase_v i _).mono ?_
  rintro e w2 ⟨rfl, hb⟩
  have T2 : Own w w2 [] := by simpa using (T1).call hb
  clear hb T1
  go_wp2_with fail
  refine (HE.out _).mono ?_
  rintro e w3 ⟨rfl, hb⟩
  have T3 : Own w w3 [(w2.heap.size, 29, #[.int .i64 (phaseZ i).a, .int .i64 (phaseZ i).b, .int .i64 (phaseZ i).c, .int .i64 (phaseZ i).d, .int .i64 0])] := by simpa using ((T2.push 29 #[.int .i64 (phaseZ i).a, .int .i64 (phaseZ i).b, .int .i64 (phaseZ i).c, .int .i64 (phaseZ i).d, .int .i64 0])).call hb
  clear hb T2
  obtain ⟨c3_0_0, c3_0_1, c3_0_2, c3_0_3, c3_0_4, -, -, -, -, -⟩ := T3.head.five
  have l3_0 := T3.head.lt
  have nx3_0 := Nat.ne_of_lt l3_0
  have ny3_0 := Nat.ne_of_gt l3_0
  have le3_0 := Nat.le_of_lt l3_0
  have HM : Hid (mulD ⟨⟨(phaseZ i).a, (phaseZ i).b, (phaseZ i).c, (phaseZ i).d⟩, 0⟩ ⟨⟨(phaseZ j).a, (phaseZ j).b, (phaseZ j).c, (phaseZ j).d⟩, 0⟩ = some ⟨⟨(phaseZ (i + j)).a, (phaseZ (i + j)).b, (phaseZ (i + j)).c, (phaseZ (i + j)).d⟩, 0⟩) := Lib.hid (mulD_phase i j)
  go_upto_region 7 with fail
  obtain ⟨W, hW⟩ : ∃ W, w3 = W := ⟨_, rfl⟩
  have Tz : Own w W [(w2.heap.size, 29, #[.int .i64 (phaseZ i).a, .int .i64 (phaseZ i).b, .int .i64 (phaseZ i).c, .int .i64 (phaseZ i).d, .int .i64 0])] := by rw [← hW]; exact T3
  have T : Own w W [(w2.heap.size, 29, #[.int .i64 (phaseZ i).a, .int .i64 (phaseZ i).b, .int .i64 (phaseZ i).c, .int .i64 (phaseZ i).d, .int .i64 0])] := (Tz.bare).add Tz.head
  rw [hW]
  clear hW Tz T3 c3_0_0 c3_0_1 c3_0_2 c3_0_3 c3_0_4 nx3_0 ny3_0 le3_0 l3_0
  obtain ⟨c00, c01, c02, c03, c04, -, -, -, -, -⟩ := T.head.five
  have l0 := T.head.lt
  go_cut [8, 9] (fun s8 s9 wx => ∃ g : Nat, s8 = .pointer (some ⟨g, 0, none⟩) ∧ s9 = .bool true ∧ Own w wx ((g, 29, #[.int .i64 (phaseZ (i + j)).a, .int .i64 (phaseZ (i + j)).b, .int .i64 (phaseZ (i + j)).c, .int .i64 (phaseZ (i + j)).d, .int .i64 0]) :: [(w2.heap.size, 29, #[.int .i64 (phaseZ i).a, .int .i64 (phaseZ i).b, .int .i64 (phaseZ i).c, .int .i64 (phaseZ i).d, .int .i64 0])]))
  case first =>
    go_region_held3 (fun w' => w'.cell? ⟨w2.heap.size, 0, none⟩ = some (.int .i64 (phaseZ i).a) ∧ w'.cell? ⟨w2.heap.size, 1, none⟩ = some (.int .i64 (phaseZ i).b) ∧ w'.cell? ⟨w2.heap.size, 2, none⟩ = some (.int .i64 (phaseZ i).c) ∧ w'.cell? ⟨w2.heap.size, 3, none⟩ = some (.int .i64 (phaseZ i).d) ∧ w'.cell? ⟨w2.heap.size, 4, none⟩ = some (.int .i64 0)) (first | (with_reducible exact ⟨c00, c01, c02, c03, c04⟩) | go_keep) (first | (go_at_call 23; refine (i_Phase_v _ _).mono ?_; rintro e w1 ⟨rfl, hb⟩; (first | (have T := T.call hb; (try have kz := kz.call hb)) | (have T := T.drew.call hb; (try have kz := kz.drew.call hb)) | (have kz := Blk.new_call hb; have n0 := Nat.ne_of_lt l0; have m0 := Nat.ne_of_gt l0; have kg := T.below.size; have KN := T.lts; have T := (T.alloc _).call hb) | (have kz := Blk.new_drew_call hb; have n0 := Nat.ne_of_lt l0; have m0 := Nat.ne_of_gt l0; have kg := T.below.size; have KN := T.lts; have T := (T.alloc _).drew.call hb)); obtain ⟨c00, c01, c02, c03, c04, -, -, -, -, -⟩ := T.head.five; have l0 := T.head.lt; (try obtain ⟨cz0, cz1, cz2, cz3, cz4, fz0, fz1, fz2, fz3, fz4⟩ := kz.five)) | (go_at_call 25; refine (i_MulD_some _ HM.out).mono ?_; rintro e w1 ⟨rfl, hb⟩; (first | (have T := T.call hb; (try have kz := kz.call hb)) | (have T := T.drew.call hb; (try have kz := kz.drew.call hb)) | (have kz := Blk.new_call hb; have n0 := Nat.ne_of_lt l0; have m0 := Nat.ne_of_gt l0; have kg := T.below.size; have KN := T.lts; have T := (T.alloc _).call hb) | (have kz := Blk.new_drew_call hb; have n0 := Nat.ne_of_lt l0; have m0 := Nat.ne_of_gt l0; have kg := T.below.size; have KN := T.lts; have T := (T.alloc _).drew.call hb)); obtain ⟨c00, c01, c02, c03, c04, -, -, -, -, -⟩ := T.head.five; have l0 := T.head.lt; (try obtain ⟨cz0, cz1, cz2, cz3, cz4, fz0, fz1, fz2, fz3, fz4⟩ := kz.five)))
    all_goals
      go_wp2_with fail
      go_meet
      first | (with_reducible exact ⟨_, rfl, rfl, T.push _ _⟩) | (with_reducible exact ⟨_, rfl, rfl, (T.add kz).put5 kg KN.out _ _ _ _ _⟩)
  case rest =>
    obtain ⟨g4, rfl, rfl, T4⟩ := hcut
    clear T c00 c01 c02 c03 c04 l0
    obtain ⟨v4, rfl⟩ : ∃ v4, v4 = wc := ⟨_, rfl⟩
    obtain ⟨c4_0_0, c4_0_1, c4_0_2, c4_0_3, c4_0_4, -, -, -, -, -⟩ := T4.head.five
    have l4_0 := T4.head.lt
    have nx4_0 := Nat.ne_of_lt l4_0
    have ny4_0 := Nat.ne_of_gt l4_0
    have le4_0 := Nat.le_of_lt l4_0
    obtain ⟨c4_1_0, c4_1_1, c4_1_2, c4_1_3, c4_1_4, -, -, -, -, -⟩ := T4.tail.head.five
    have l4_1 := T4.tail.head.lt
    have nx4_1 := Nat.ne_of_lt l4_1
    have ny4_1 := Nat.ne_of_gt l4_1
    have le4_1 := Nat.le_of_lt l4_1
    have RR := Lib.hid ((HR.out.keep T4.below).more T4.below.size)
    go_wp2_with fail
    refine (d_DrawPE A0 n0 cp0 _ RR.out hn0).mono ?_
    rintro e w5 ⟨p, q, r, s, l, rfl, hb⟩
    have T5 : Own w w5 [(g4, 29, #[.int .i64 (phaseZ (i + j)).a, .int .i64 (phaseZ (i + j)).b, .int .i64 (phaseZ (i + j)).c, .int .i64 (phaseZ (i + j)).d, .int .i64 0]), (w2.heap.size, 29, #[.int .i64 (phaseZ i).a, .int .i64 (phaseZ i).b, .int .i64 (phaseZ i).c, .int .i64 (phaseZ i).d, .int .i64 0])] := by simpa using (T4).call hb
    clear hb T4
    clear c4_0_0 c4_0_1 c4_0_2 c4_0_3 c4_0_4 c4_1_0 c4_1_1 c4_1_2 c4_1_3 c4_1_4 nx4_0 ny4_0 le4_0 l4_0 nx4_1 ny4_1 le4_1 l4_1
    obtain ⟨c5_0_0, c5_0_1, c5_0_2, c5_0_3, c5_0_4, -, -, -, -, -⟩ := T5.head.five
    have l5_0 := T5.head.lt
    have nx5_0 := Nat.ne_of_lt l5_0
    have ny5_0 := Nat.ne_of_gt l5_0
    have le5_0 := Nat.le_of_lt l5_0
    obtain ⟨c5_1_0, c5_1_1, c5_1_2, c5_1_3, c5_1_4, -, -, -, -, -⟩ := T5.tail.head.five
    have l5_1 := T5.tail.head.lt
    have nx5_1 := Nat.ne_of_lt l5_1
    have ny5_1 := Nat.ne_of_gt l5_1
    have le5_1 := Nat.le_of_lt l5_1
    obtain ⟨n2, ok2, hI2, hS2⟩ := exp_any p q r s l
    have HI2 := Lib.hid hI2
    have HS2 := Lib.hid hS2
    clear hI2 hS2
    go_wp2_with fail
    refine (HI2.out _).mono ?_
    rintro e w6 ⟨rfl, hb⟩
    have T6 : Own w w6 [(w5.heap.size, 29, #[.int .i64 p, .int .i64 q, .int .i64 r, .int .i64 s, .int .i64 l]), (g4, 29, #[.int .i64 (phaseZ (i + j)).a, .int .i64 (phaseZ (i + j)).b, .int .i64 (phaseZ (i + j)).c, .int .i64 (phaseZ (i + j)).d, .int .i64 0]), (w2.heap.size, 29, #[.int .i64 (phaseZ i).a, .int .i64 (phaseZ i).b, .int .i64 (phaseZ i).c, .int .i64 (phaseZ i).d, .int .i64 0])] := by simpa using ((T5.push 29 #[.int .i64 p, .int .i64 q, .int .i64 r, .int .i64 s, .int .i64 l])).call hb
    clear hb T5
    clear c5_0_0 c5_0_1 c5_0_2 c5_0_3 c5_0_4 c5_1_0 c5_1_1 c5_1_2 c5_1_3 c5_1_4 nx5_0 ny5_0 le5_0 l5_0 nx5_1 ny5_1 le5_1 l5_1
    obtain ⟨c6_0_0, c6_0_1, c6_0_2, c6_0_3, c6_0_4, -, -, -, -, -⟩ := T6.head.five
    have l6_0 := T6.head.lt
    have nx6_0 := Nat.ne_of_lt l6_0
    have ny6_0 := Nat.ne_of_gt l6_0
    have le6_0 := Nat.le_of_lt l6_0
    obtain ⟨c6_1_0, c6_1_1, c6_1_2, c6_1_3, c6_1_4, -, -, -, -, -⟩ := T6.tail.head.five
    have l6_1 := T6.tail.head.lt
    have nx6_1 := Nat.ne_of_lt l6_1
    have ny6_1 := Nat.ne_of_gt l6_1
    have le6_1 := Nat.le_of_lt l6_1
    obtain ⟨c6_2_0, c6_2_1, c6_2_2, c6_2_3, c6_2_4, -, -, -, -, -⟩ := T6.tail.tail.head.five
    have l6_2 := T6.tail.tail.head.lt
    have nx6_2 := Nat.ne_of_lt l6_2
    have ny6_2 := Nat.ne_of_gt l6_2
    have le6_2 := Nat.le_of_lt l6_2
    go_wp2_with fail
    refine (HS2.out _).mono ?_
    rintro e w7 ⟨rfl, hb⟩
    have T7 : Own w w7 [(w5.heap.size, 29, #[.int .i64 p, .int .i64 q, .int .i64 r, .int .i64 s, .int .i64 l]), (g4, 29, #[.int .i64 (phaseZ (i + j)).a, .int .i64 (phaseZ (i + j)).b, .int .i64 (phaseZ (i + j)).c, .int .i64 (phaseZ (i + j)).d, .int .i64 0]), (w2.heap.size, 29, #[.int .i64 (phaseZ i).a, .int .i64 (phaseZ i).b, .int .i64 (phaseZ i).c, .int .i64 (phaseZ i).d, .int .i64 0])] := by simpa using (T6).call hb
    clear hb T6
    clear c6_0_0 c6_0_1 c6_0_2 c6_0_3 c6_0_4 c6_1_0 c6_1_1 c6_1_2 c6_1_3 c6_1_4 c6_2_0 c6_2_1 c6_2_2 c6_2_3 c6_2_4 nx6_0 ny6_0 le6_0 l6_0 nx6_1 ny6_1 le6_1 l6_1 nx6_2 ny6_2 le6_2 l6_2
    obtain ⟨c7_0_0, c7_0_1, c7_0_2, c7_0_3, c7_0_4, -, -, -, -, -⟩ := T7.head.five
    have l7_0 := T7.head.lt
    have nx7_0 := Nat.ne_of_lt l7_0
    have ny7_0 := Nat.ne_of_gt l7_0
    have le7_0 := Nat.le_of_lt l7_0
    obtain ⟨c7_1_0, c7_1_1, c7_1_2, c7_1_3, c7_1_4, -, -, -, -, -⟩ := T7.tail.head.five
    have l7_1 := T7.tail.head.lt
    have nx7_1 := Nat.ne_of_lt l7_1
    have ny7_1 := Nat.ne_of_gt l7_1
    have le7_1 := Nat.le_of_lt l7_1
    obtain ⟨c7_2_0, c7_2_1, c7_2_2, c7_2_3, c7_2_4, -, -, -, -, -⟩ := T7.tail.tail.head.five
    have l7_2 := T7.tail.tail.head.lt
    have nx7_2 := Nat.ne_of_lt l7_2
    have ny7_2 := Nat.ne_of_gt l7_2
    have le7_2 := Nat.le_of_lt l7_2
    have HPK := Lib.hid hpk
    clear hpk
    have e1 : eqDb (phaseZ k).a (phaseZ k).b (phaseZ k).c (phaseZ k).d 0 (phaseZ i).a (phaseZ i).b (phaseZ i).c (phaseZ i).d 0 = true := by rw [HPK.out]; exact eqDb_self _ _ _ _ _
    have hs : phaseZ (k + j) = phaseZ (i + j) := by rw [← phaseZ_mod (k + j), ← phaseZ_mod (i + j)]; congr 1; omega
    have HS := Lib.hid hs
    clear hs
    have e2 : eqDb (phaseZ (i + j)).a (phaseZ (i + j)).b (phaseZ (i + j)).c (phaseZ (i + j)).d 0 (phaseZ (k + j)).a (phaseZ (k + j)).b (phaseZ (k + j)).c (phaseZ (k + j)).d 0 = true := by rw [HS.out]; exact eqDb_self _ _ _ _ _
    have h8 : ((i - k).tmod 8 == 0) = true := by rw [beq_iff_eq]; exact Int.tmod_eq_zero_of_dvd (Int.dvd_of_emod_eq_zero hk.2.2)
    have d0 : decide ((0 : Int) ≤ k) = true := by simp; omega
    have d8 : decide (k < (8 : Int)) = true := by simp; omega
    have hik : -9223372036854775808 ≤ i - k ∧ i - k ≤ 9223372036854775807 := by omega
    have hkj : 0 ≤ k + j ∧ k + j ≤ 263 := by omega
    have eb : (ok2 == ok2) = true := by simp
    go_upto_region 11 with fail
    obtain ⟨W, hW⟩ : ∃ W, w7 = W := ⟨_, rfl⟩
    have Tz : Own w W [(w5.heap.size, 29, #[.int .i64 p, .int .i64 q, .int .i64 r, .int .i64 s, .int .i64 l]), (g4, 29, #[.int .i64 (phaseZ (i + j)).a, .int .i64 (phaseZ (i + j)).b, .int .i64 (phaseZ (i + j)).c, .int .i64 (phaseZ (i + j)).d, .int .i64 0]), (w2.heap.size, 29, #[.int .i64 (phaseZ i).a, .int .i64 (phaseZ i).b, .int .i64 (phaseZ i).c, .int .i64 (phaseZ i).d, .int .i64 0])] := by rw [← hW]; exact T7
    have T : Own w W [(g4, 29, #[.int .i64 (phaseZ (i + j)).a, .int .i64 (phaseZ (i + j)).b, .int .i64 (phaseZ (i + j)).c, .int .i64 (phaseZ (i + j)).d, .int .i64 0]), (w2.heap.size, 29, #[.int .i64 (phaseZ i).a, .int .i64 (phaseZ i).b, .int .i64 (phaseZ i).c, .int .i64 (phaseZ i).d, .int .i64 0])] := ((Tz.bare).add Tz.tail.tail.head).add Tz.tail.head
    rw [hW]
    clear hW Tz T7 c7_0_0 c7_0_1 c7_0_2 c7_0_3 c7_0_4 c7_1_0 c7_1_1 c7_1_2 c7_1_3 c7_1_4 c7_2_0 c7_2_1 c7_2_2 c7_2_3 c7_2_4 nx7_0 ny7_0 le7_0 l7_0 nx7_1 ny7_1 le7_1 l7_1 nx7_2 ny7_2 le7_2 l7_2
    obtain ⟨c00, c01, c02, c03, c04, -, -, -, -, -⟩ := T.head.five
    obtain ⟨c10, c11, c12, c13, c14, -, -, -, -, -⟩ := T.tail.head.five
    have l0 := T.head.lt
    have l1 := T.tail.head.lt
    have ht8 : (i - k).tmod 8 = 0 := beq_iff_eq.1 h8
    have wr1 : IntKind.i64.wrap (i - k) = i - k := IntWalk.i64_in _ (by omega)
    have wr2 : IntKind.i64.wrap (k + j) = k + j := IntWalk.i64_in _ (by omega)
    clear hk hik hkj h8
    go_region_held3 (fun w' => w'.cell? ⟨g4, 0, none⟩ = some (.int .i64 (phaseZ (i + j)).a) ∧ w'.cell? ⟨g4, 1, none⟩ = some (.int .i64 (phaseZ (i + j)).b) ∧ w'.cell? ⟨g4, 2, none⟩ = some (.int .i64 (phaseZ (i + j)).c) ∧ w'.cell? ⟨g4, 3, none⟩ = some (.int .i64 (phaseZ (i + j)).d) ∧ w'.cell? ⟨g4, 4, none⟩ = some (.int .i64 0) ∧ w'.cell? ⟨w2.heap.size, 0, none⟩ = some (.int .i64 (phaseZ i).a) ∧ w'.cell? ⟨w2.heap.size, 1, none⟩ = some (.int .i64 (phaseZ i).b) ∧ w'.cell? ⟨w2.heap.size, 2, none⟩ = some (.int .i64 (phaseZ i).c) ∧ w'.cell? ⟨w2.heap.size, 3, none⟩ = some (.int .i64 (phaseZ i).d) ∧ w'.cell? ⟨w2.heap.size, 4, none⟩ = some (.int .i64 0)) (first | (with_reducible exact ⟨c00, c01, c02, c03, c04, c10, c11, c12, c13, c14⟩) | go_keep) (first | (go_at_call 23; refine (i_Phase_v _ _).mono ?_; rintro e w9 ⟨rfl, hb⟩; (first | have T := T.call hb | have T := T.drew.call hb); obtain ⟨c00, c01, c02, c03, c04, -, -, -, -, -⟩ := T.head.five; obtain ⟨c10, c11, c12, c13, c14, -, -, -, -, -⟩ := T.tail.head.five; have l0 := T.head.lt; have l1 := T.tail.head.lt))
    all_goals
      have hw := T.below
      clear wr1 wr2 ht8
      go_wp2
      go_ret
      refine ret_eq (by simp) ?_
      repeat (first | (with_reducible exact Below.refl _ _) | (with_reducible assumption) | (with_reducible refine bl_alloc ?_ _) | (with_reducible refine bl_drew ?_) | (with_reducible refine bl_set ?_ (by simp <;> omega) _) | (with_reducible refine bl_call ?_ (by assumption)))

set_option maxRecDepth 100000 in
theorem lifted (os : Os) (started : os.Started) (H : Type) (enc : TypeId × Value → H) :
    ReturnsInHanded {} Try.checked os 4 .any (Rows.fnPhasesSpec.pre6 enc Try.prog Try.f4 Rows.fnPhasesRow.domain false) (Rows.fnPhasesSpec.post enc Try.prog Try.f4 false true false false) := by
  refine returnsInHanded_of_change (C := Try.checked) own started (by kernel_rfl) Try.func4
    (ChangeSpec.witness6 (enc := enc) (C := Try.checked) false ⟨#[], #[.slice none 0 0], []⟩ 8 (by kernel_rfl) (by kernel_rfl) (by kernel_rfl) (by kernel_rfl)) ?_
  intro W base args ds gs before hval0 hW hcnd _
  have hval : ∀ (j : Nat) t v, Try.f4.params[j]? = some t → args[j]? = some v → Value.okWide Try.prog W .any base t v := hval0
  have hW' := hW
  obtain ⟨p, q, hA0, hV, rfl, hfz, hnd⟩ := hW
  have hA : DataW.TrodAll enc Try.prog W 0 (fun _ => true) true Try.f4.params.toList args.toList ds p := hA0
  rw [Try.params4] at hA hval
  obtain ⟨v0, vs0, d0, ds0, p0, q0, hargs, rfl, rfl, h0, r0⟩ := trodAll_cons hA
  obtain ⟨rfl, rfl, rfl⟩ := trodAll_nil r0
  obtain rfl : args = #[v0] := by cases args; simp_all
  obtain ⟨rfl, rfl⟩ := trodVars_none hV
  have kk0 := h0
  have lt0 : ∀ x ∈ p0, x.block < W.heap.size := by obtain ⟨m, hm⟩ := kk0; exact DataW.trod_lt m _ _ _ hm
  obtain ⟨A0, n0, cp0, rfl, hR0, hn0, hc0⟩ := open_B (hval 0 22 v0 rfl rfl) h0
  clear hA0 hval0
  refine (walk A0 n0 cp0 W hR0 hn0 hc0).mono fun e W' ⟨he, bel⟩ => ?_
  subst he
  exact ⟨_, rfl, _, _, _, [], _, [], hW', trodAll_mk1 (shut_bool Try.underlying4 _), (trodAll_cons_mk (Below.trod laidOut (by kernel_rfl) (of_decide_eq_true (by kernel_rfl)) kk0 bel lt0) trodAll_mk0), rfl, bel.frame _, fun h => by cases h⟩

theorem over : Rows.fnPhasesRow.holds Try.pinned (OpenSpec.ofChange Rows.fnPhasesSpec) :=
  OpenClaim.holds_of_wide 4 Try.f4 rfl rfl rfl rfl rfl rfl rfl ⟨rfl, rfl, rfl, rfl, rfl⟩ rfl rfl rfl rfl rfl (by kernel_rfl) Try.func4 (by kernel_rfl)
    (of_decide_eq_true (by kernel_rfl)) (by unfold Func.isWrapper; first | (rw [if_pos (by decide +kernel)]; kernel_rfl) | (rw [if_neg (by decide +kernel)]; exact ⟨rfl, rfl⟩))
    (fun os started H enc _ => lifted os started H enc)

theorem proved : Rows.FnPhasesSaid := over
end Go.Proofs.Ytaokfppadfoniaa.fnPhases
