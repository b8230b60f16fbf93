/-
  Proved: for every input the Go function FnExactMulZOmega returns true (the program's function returns what the reference's returns), and its arguments read as before.
  Conditions: none beyond the given statement.
-/
import Derived.Test.YtgjpahmbbflhmaaClose
import Derived.Deep.RegionHeld3
import Derived.Test.YtgjpahmbbflhmaaA
import Derived.Test.YtgjpahmbbflhmaaOwn
namespace Go.Proofs.Ytgjpahmbbflhmaa.fnExactMulZOmega
open Go.Proofs.Ytgjpahmbbflhmaa
open Go.ChangeShapes Go.WideShapes Go.ChangeAt Go.RowKit
set_option linter.unusedVariables false

set_option maxHeartbeats 2000000 in
theorem walk (a0 b0 c0 d0 a1 b1 c1 d1 : Int) (w : World) (fa0 : inr a0) (fb0 : inr b0) (fc0 : inr c0) (fd0 : inr d0) (fa1 : inr a1) (fb1 : inr b1) (fc1 : inr c1) (fd1 : inr d1) :
    Calls Try.prog 3 #[.agg #[.int .i64 a0, .int .i64 b0, .int .i64 c0, .int .i64 d0], .agg #[.int .i64 a1, .int .i64 b1, .int .i64 c1, .int .i64 d1]] w (Ret (.bool true) w) := by
  rcases h0 : mulZ ⟨a0, b0, c0, d0⟩ ⟨a1, b1, c1, d1⟩ with _ | ⟨p, q, r, s⟩
  · have H0 := Lib.hid h0
    clear h0
    go_enter Try.func3, Try.ntmps3
    go_upto_region 1 with fail
    obtain ⟨W, hW⟩ : ∃ W, (w.alloc (.cells #[.int .i64 a0, .int .i64 b0, .int .i64 c0, .int .i64 d0] 23)).alloc (.cells #[.int .i64 a1, .int .i64 b1, .int .i64 c1, .int .i64 d1] 23) = W := ⟨_, rfl⟩
    have T : Own w W [(w.heap.size + 1, 23, #[.int .i64 a1, .int .i64 b1, .int .i64 c1, .int .i64 d1]), (w.heap.size, 23, #[.int .i64 a0, .int .i64 b0, .int .i64 c0, .int .i64 d0])] := by rw [← hW]; simpa using ((Own.start w).push 23 #[.int .i64 a0, .int .i64 b0, .int .i64 c0, .int .i64 d0]).push 23 #[.int .i64 a1, .int .i64 b1, .int .i64 c1, .int .i64 d1]
    rw [hW]
    clear hW
    obtain ⟨c00, c01, c02, c03, -, -, -, -⟩ := T.head.four
    obtain ⟨c10, c11, c12, c13, -, -, -, -⟩ := T.tail.head.four
    have l0 := T.head.lt
    have l1 := T.tail.head.lt
    go_cut [5, 6] (fun s5 s6 wx => ∃ g : Nat, s5 = .pointer (some ⟨g, 0, none⟩) ∧ s6 = .bool false ∧ Own w wx ((g, 24, #[.int .i64 0, .int .i64 0, .int .i64 0, .int .i64 0]) :: [(w.heap.size + 1, 23, #[.int .i64 a1, .int .i64 b1, .int .i64 c1, .int .i64 d1]), (w.heap.size, 23, #[.int .i64 a0, .int .i64 b0, .int .i64 c0, .int .i64 d0])]))
    case first =>
      go_region_held3 (fun w' => w'.cell? ⟨w.heap.size + 1, 0, none⟩ = some (.int .i64 a1) ∧ w'.cell? ⟨w.heap.size + 1, 1, none⟩ = some (.int .i64 b1) ∧ w'.cell? ⟨w.heap.size + 1, 2, none⟩ = some (.int .i64 c1) ∧ w'.cell? ⟨w.heap.size + 1, 3, none⟩ = some (.int .i64 d1) ∧ w'.cell? ⟨w.heap.size, 0, none⟩ = some (.int .i64 a0) ∧ w'.cell? ⟨w.heap.size, 1, none⟩ = some (.int .i64 b0) ∧ w'.cell? ⟨w.heap.size, 2, none⟩ = some (.int .i64 c0) ∧ w'.cell? ⟨w.heap.size, 3, none⟩ = some (.int .i64 d0)) (first | (with_reducible exact ⟨c00, c01, c02, c03, c10, c11, c12, c13⟩) | go_keep) (first | (go_at_call 14; refine (toZ _ _ _ _ _).mono ?_; rintro e w1 ⟨rfl, hb⟩; (first | (have T := T.call hb; (try have kz := kz.call hb)) | (have T := T.drew.call hb; (try have kz := kz.drew.call hb)) | (have kz := Blk.new_call hb; have n0 := Nat.ne_of_lt l0; have m0 := Nat.ne_of_gt l0; have n1 := Nat.ne_of_lt l1; have m1 := Nat.ne_of_gt l1; have kg := T.below.size; have KN := T.lts; have T := (T.alloc _).call hb) | (have kz := Blk.new_drew_call hb; have n0 := Nat.ne_of_lt l0; have m0 := Nat.ne_of_gt l0; have n1 := Nat.ne_of_lt l1; have m1 := Nat.ne_of_gt l1; have kg := T.below.size; have KN := T.lts; have T := (T.alloc _).drew.call hb)); obtain ⟨c00, c01, c02, c03, -, -, -, -⟩ := T.head.four; obtain ⟨c10, c11, c12, c13, -, -, -, -⟩ := T.tail.head.four; have l0 := T.head.lt; have l1 := T.tail.head.lt; (try obtain ⟨cz0, cz1, cz2, cz3, fz0, fz1, fz2, fz3⟩ := kz.four)) | (go_at_call 13; refine (s_MulZ_none _ H0.out).mono ?_; rintro e w1 ⟨rfl, hb⟩; (first | (have T := T.call hb; (try have kz := kz.call hb)) | (have T := T.drew.call hb; (try have kz := kz.drew.call hb)) | (have kz := Blk.new_call hb; have n0 := Nat.ne_of_lt l0; have m0 := Nat.ne_of_gt l0; have n1 := Nat.ne_of_lt l1; have m1 := Nat.ne_of_gt l1; have kg := T.below.size; have KN := T.lts; have T := (T.alloc _).call hb) | (have kz := Blk.new_drew_call hb; have n0 := Nat.ne_of_lt l0; have m0 := Nat.ne_of_gt l0; have n1 := Nat.ne_of_lt l1; have m1 := Nat.ne_of_gt l1; have kg := T.below.size; have KN := T.lts; have T := (T.alloc _).drew.call hb)); obtain ⟨c00, c01, c02, c03, -, -, -, -⟩ := T.head.four; obtain ⟨c10, c11, c12, c13, -, -, -, -⟩ := T.tail.head.four; have l0 := T.head.lt; have l1 := T.tail.head.lt; (try obtain ⟨cz0, cz1, cz2, cz3, fz0, fz1, fz2, fz3⟩ := kz.four)))
      all_goals
        go_wp2_with fail
        go_meet
        first | (with_reducible exact ⟨_, rfl, rfl, T.push _ _⟩) | (with_reducible exact ⟨_, rfl, rfl, (T.add kz).put4 kg KN.out _ _ _ _⟩)
    case rest =>
      obtain ⟨g, rfl, rfl, T0⟩ := hcut
      clear T c00 c01 c02 c03 c10 c11 c12 c13 l0 l1
      have T := T0
      clear T0
      go_upto_region 2 with fail
      obtain ⟨c00, c01, c02, c03, -, -, -, -⟩ := T.head.four
      obtain ⟨c10, c11, c12, c13, -, -, -, -⟩ := T.tail.head.four
      obtain ⟨c20, c21, c22, c23, -, -, -, -⟩ := T.tail.tail.head.four
      have l0 := T.head.lt
      have l1 := T.tail.head.lt
      have l2 := T.tail.tail.head.lt
      go_cut [7, 8] (fun s7 s8 wx => ∃ g2 : Nat, s7 = .pointer (some ⟨g2, 0, none⟩) ∧ s8 = .bool false ∧ Own w wx ((g2, 24, #[.int .i64 0, .int .i64 0, .int .i64 0, .int .i64 0]) :: (g, 24, #[.int .i64 0, .int .i64 0, .int .i64 0, .int .i64 0]) :: [(w.heap.size + 1, 23, #[.int .i64 a1, .int .i64 b1, .int .i64 c1, .int .i64 d1]), (w.heap.size, 23, #[.int .i64 a0, .int .i64 b0, .int .i64 c0, .int .i64 d0])]))
      case first =>
        go_region_held3 (fun w' => w'.cell? ⟨g, 0, none⟩ = some (.int .i64 0) ∧ w'.cell? ⟨g, 1, none⟩ = some (.int .i64 0) ∧ w'.cell? ⟨g, 2, none⟩ = some (.int .i64 0) ∧ w'.cell? ⟨g, 3, none⟩ = some (.int .i64 0) ∧ w'.cell? ⟨w.heap.size + 1, 0, none⟩ = some (.int .i64 a1) ∧ w'.cell? ⟨w.heap.size + 1, 1, none⟩ = some (.int .i64 b1) ∧ w'.cell? ⟨w.heap.size + 1, 2, none⟩ = some (.int .i64 c1) ∧ w'.cell? ⟨w.heap.size + 1, 3, none⟩ = some (.int .i64 d1) ∧ w'.cell? ⟨w.heap.size, 0, none⟩ = some (.int .i64 a0) ∧ w'.cell? ⟨w.heap.size, 1, none⟩ = some (.int .i64 b0) ∧ w'.cell? ⟨w.heap.size, 2, none⟩ = some (.int .i64 c0) ∧ w'.cell? ⟨w.heap.size, 3, none⟩ = some (.int .i64 d0)) (first | (with_reducible exact ⟨c00, c01, c02, c03, c10, c11, c12, c13, c20, c21, c22, c23⟩) | go_keep) (first | (go_at_call 14; refine (toZ _ _ _ _ _).mono ?_; rintro e w1 ⟨rfl, hb⟩; (first | (have T := T.call hb; (try have kz := kz.call hb)) | (have T := T.drew.call hb; (try have kz := kz.drew.call hb)) | (have kz := Blk.new_call hb; have n0 := Nat.ne_of_lt l0; have m0 := Nat.ne_of_gt l0; have n1 := Nat.ne_of_lt l1; have m1 := Nat.ne_of_gt l1; have n2 := Nat.ne_of_lt l2; have m2 := Nat.ne_of_gt l2; have kg := T.below.size; have KN := T.lts; have T := (T.alloc _).call hb) | (have kz := Blk.new_drew_call hb; have n0 := Nat.ne_of_lt l0; have m0 := Nat.ne_of_gt l0; have n1 := Nat.ne_of_lt l1; have m1 := Nat.ne_of_gt l1; have n2 := Nat.ne_of_lt l2; have m2 := Nat.ne_of_gt l2; have kg := T.below.size; have KN := T.lts; have T := (T.alloc _).drew.call hb)); obtain ⟨c00, c01, c02, c03, -, -, -, -⟩ := T.head.four; obtain ⟨c10, c11, c12, c13, -, -, -, -⟩ := T.tail.head.four; obtain ⟨c20, c21, c22, c23, -, -, -, -⟩ := T.tail.tail.head.four; have l0 := T.head.lt; have l1 := T.tail.head.lt; have l2 := T.tail.tail.head.lt; (try obtain ⟨cz0, cz1, cz2, cz3, fz0, fz1, fz2, fz3⟩ := kz.four)) | (go_at_call 15; refine (i_MulZ_none _ H0.out).mono ?_; rintro e w1 ⟨rfl, hb⟩; (first | (have T := T.call hb; (try have kz := kz.call hb)) | (have T := T.drew.call hb; (try have kz := kz.drew.call hb)) | (have kz := Blk.new_call hb; have n0 := Nat.ne_of_lt l0; have m0 := Nat.ne_of_gt l0; have n1 := Nat.ne_of_lt l1; have m1 := Nat.ne_of_gt l1; have n2 := Nat.ne_of_lt l2; have m2 := Nat.ne_of_gt l2; have kg := T.below.size; have KN := T.lts; have T := (T.alloc _).call hb) | (have kz := Blk.new_drew_call hb; have n0 := Nat.ne_of_lt l0; have m0 := Nat.ne_of_gt l0; have n1 := Nat.ne_of_lt l1; have m1 := Nat.ne_of_gt l1; have n2 := Nat.ne_of_lt l2; have m2 := Nat.ne_of_gt l2; have kg := T.below.size; have KN := T.lts; have T := (T.alloc _).drew.call hb)); obtain ⟨c00, c01, c02, c03, -, -, -, -⟩ := T.head.four; obtain ⟨c10, c11, c12, c13, -, -, -, -⟩ := T.tail.head.four; obtain ⟨c20, c21, c22, c23, -, -, -, -⟩ := T.tail.tail.head.four; have l0 := T.head.lt; have l1 := T.tail.head.lt; have l2 := T.tail.tail.head.lt; (try obtain ⟨cz0, cz1, cz2, cz3, fz0, fz1, fz2, fz3⟩ := kz.four)))
        all_goals
          go_wp2_with fail
          go_meet
          first | (with_reducible exact ⟨_, rfl, rfl, T.push _ _⟩) | (with_reducible exact ⟨_, rfl, rfl, (T.add kz).put4 kg KN.out _ _ _ _⟩)
      case rest =>
        obtain ⟨g2, rfl, rfl, T0⟩ := hcut
        clear T c00 c01 c02 c03 c10 c11 c12 c13 c20 c21 c22 c23 l0 l1 l2
        obtain ⟨c00, c01, c02, c03, -, -, -, -⟩ := T0.head.four
        obtain ⟨c10, c11, c12, c13, -, -, -, -⟩ := T0.tail.head.four
        go_wp2_with fail
        refine (eqZ _ _ _ _ _).mono ?_
        rintro e w3 ⟨rfl, hb3⟩
        go_wp2
        go_ret
        exact ret_mk (bl_call T0.below hb3)
  · have H0 := Lib.hid h0
    clear h0
    go_enter Try.func3, Try.ntmps3
    go_upto_region 1 with fail
    obtain ⟨W, hW⟩ : ∃ W, (w.alloc (.cells #[.int .i64 a0, .int .i64 b0, .int .i64 c0, .int .i64 d0] 23)).alloc (.cells #[.int .i64 a1, .int .i64 b1, .int .i64 c1, .int .i64 d1] 23) = W := ⟨_, rfl⟩
    have T : Own w W [(w.heap.size + 1, 23, #[.int .i64 a1, .int .i64 b1, .int .i64 c1, .int .i64 d1]), (w.heap.size, 23, #[.int .i64 a0, .int .i64 b0, .int .i64 c0, .int .i64 d0])] := by rw [← hW]; simpa using ((Own.start w).push 23 #[.int .i64 a0, .int .i64 b0, .int .i64 c0, .int .i64 d0]).push 23 #[.int .i64 a1, .int .i64 b1, .int .i64 c1, .int .i64 d1]
    rw [hW]
    clear hW
    obtain ⟨c00, c01, c02, c03, -, -, -, -⟩ := T.head.four
    obtain ⟨c10, c11, c12, c13, -, -, -, -⟩ := T.tail.head.four
    have l0 := T.head.lt
    have l1 := T.tail.head.lt
    go_cut [5, 6] (fun s5 s6 wx => ∃ g : Nat, s5 = .pointer (some ⟨g, 0, none⟩) ∧ s6 = .bool true ∧ Own w wx ((g, 24, #[.int .i64 p, .int .i64 q, .int .i64 r, .int .i64 s]) :: [(w.heap.size + 1, 23, #[.int .i64 a1, .int .i64 b1, .int .i64 c1, .int .i64 d1]), (w.heap.size, 23, #[.int .i64 a0, .int .i64 b0, .int .i64 c0, .int .i64 d0])]))
    case first =>
      go_region_held3 (fun w' => w'.cell? ⟨w.heap.size + 1, 0, none⟩ = some (.int .i64 a1) ∧ w'.cell? ⟨w.heap.size + 1, 1, none⟩ = some (.int .i64 b1) ∧ w'.cell? ⟨w.heap.size + 1, 2, none⟩ = some (.int .i64 c1) ∧ w'.cell? ⟨w.heap.size + 1, 3, none⟩ = some (.int .i64 d1) ∧ w'.cell? ⟨w.heap.size, 0, none⟩ = some (.int .i64 a0) ∧ w'.cell? ⟨w.heap.size, 1, none⟩ = some (.int .i64 b0) ∧ w'.cell? ⟨w.heap.size, 2, none⟩ = some (.int .i64 c0) ∧ w'.cell? ⟨w.heap.size, 3, none⟩ = some (.int .i64 d0)) (first | (with_reducible exact ⟨c00, c01, c02, c03, c10, c11, c12, c13⟩) | go_keep) (first | (go_at_call 14; refine (toZ _ _ _ _ _).mono ?_; rintro e w1 ⟨rfl, hb⟩; (first | (have T := T.call hb; (try have kz := kz.call hb)) | (have T := T.drew.call hb; (try have kz := kz.drew.call hb)) | (have kz := Blk.new_call hb; have n0 := Nat.ne_of_lt l0; have m0 := Nat.ne_of_gt l0; have n1 := Nat.ne_of_lt l1; have m1 := Nat.ne_of_gt l1; have kg := T.below.size; have KN := T.lts; have T := (T.alloc _).call hb) | (have kz := Blk.new_drew_call hb; have n0 := Nat.ne_of_lt l0; have m0 := Nat.ne_of_gt l0; have n1 := Nat.ne_of_lt l1; have m1 := Nat.ne_of_gt l1; have kg := T.below.size; have KN := T.lts; have T := (T.alloc _).drew.call hb)); obtain ⟨c00, c01, c02, c03, -, -, -, -⟩ := T.head.four; obtain ⟨c10, c11, c12, c13, -, -, -, -⟩ := T.tail.head.four; have l0 := T.head.lt; have l1 := T.tail.head.lt; (try obtain ⟨cz0, cz1, cz2, cz3, fz0, fz1, fz2, fz3⟩ := kz.four)) | (go_at_call 13; refine (s_MulZ_some _ H0.out).mono ?_; rintro e w1 ⟨rfl, hb⟩; (first | (have T := T.call hb; (try have kz := kz.call hb)) | (have T := T.drew.call hb; (try have kz := kz.drew.call hb)) | (have kz := Blk.new_call hb; have n0 := Nat.ne_of_lt l0; have m0 := Nat.ne_of_gt l0; have n1 := Nat.ne_of_lt l1; have m1 := Nat.ne_of_gt l1; have kg := T.below.size; have KN := T.lts; have T := (T.alloc _).call hb) | (have kz := Blk.new_drew_call hb; have n0 := Nat.ne_of_lt l0; have m0 := Nat.ne_of_gt l0; have n1 := Nat.ne_of_lt l1; have m1 := Nat.ne_of_gt l1; have kg := T.below.size; have KN := T.lts; have T := (T.alloc _).drew.call hb)); obtain ⟨c00, c01, c02, c03, -, -, -, -⟩ := T.head.four; obtain ⟨c10, c11, c12, c13, -, -, -, -⟩ := T.tail.head.four; have l0 := T.head.lt; have l1 := T.tail.head.lt; (try obtain ⟨cz0, cz1, cz2, cz3, fz0, fz1, fz2, fz3⟩ := kz.four)))
      all_goals
        go_wp2_with fail
        go_meet
        first | (with_reducible exact ⟨_, rfl, rfl, T.push _ _⟩) | (with_reducible exact ⟨_, rfl, rfl, (T.add kz).put4 kg KN.out _ _ _ _⟩)
    case rest =>
      obtain ⟨g, rfl, rfl, T0⟩ := hcut
      clear T c00 c01 c02 c03 c10 c11 c12 c13 l0 l1
      have T := T0
      clear T0
      go_upto_region 2 with fail
      obtain ⟨c00, c01, c02, c03, -, -, -, -⟩ := T.head.four
      obtain ⟨c10, c11, c12, c13, -, -, -, -⟩ := T.tail.head.four
      obtain ⟨c20, c21, c22, c23, -, -, -, -⟩ := T.tail.tail.head.four
      have l0 := T.head.lt
      have l1 := T.tail.head.lt
      have l2 := T.tail.tail.head.lt
      go_cut [7, 8] (fun s7 s8 wx => ∃ g2 : Nat, s7 = .pointer (some ⟨g2, 0, none⟩) ∧ s8 = .bool true ∧ Own w wx ((g2, 24, #[.int .i64 p, .int .i64 q, .int .i64 r, .int .i64 s]) :: (g, 24, #[.int .i64 p, .int .i64 q, .int .i64 r, .int .i64 s]) :: [(w.heap.size + 1, 23, #[.int .i64 a1, .int .i64 b1, .int .i64 c1, .int .i64 d1]), (w.heap.size, 23, #[.int .i64 a0, .int .i64 b0, .int .i64 c0, .int .i64 d0])]))
      case first =>
        go_region_held3 (fun w' => w'.cell? ⟨g, 0, none⟩ = some (.int .i64 p) ∧ w'.cell? ⟨g, 1, none⟩ = some (.int .i64 q) ∧ w'.cell? ⟨g, 2, none⟩ = some (.int .i64 r) ∧ w'.cell? ⟨g, 3, none⟩ = some (.int .i64 s) ∧ w'.cell? ⟨w.heap.size + 1, 0, none⟩ = some (.int .i64 a1) ∧ w'.cell? ⟨w.heap.size + 1, 1, none⟩ = some (.int .i64 b1) ∧ w'.cell? ⟨w.heap.size + 1, 2, none⟩ = some (.int .i64 c1) ∧ w'.cell? ⟨w.heap.size + 1, 3, none⟩ = some (.int .i64 d1) ∧ w'.cell? ⟨w.heap.size, 0, none⟩ = some (.int .i64 a0) ∧ w'.cell? ⟨w.heap.size, 1, none⟩ = some (.int .i64 b0) ∧ w'.cell? ⟨w.heap.size, 2, none⟩ = some (.int .i64 c0) ∧ w'.cell? ⟨w.heap.size, 3, none⟩ = some (.int .i64 d0)) (first | (with_reducible exact ⟨c00, c01, c02, c03, c10, c11, c12, c13, c20, c21, c22, c23⟩) | go_keep) (first | (go_at_call 14; refine (toZ _ _ _ _ _).mono ?_; rintro e w1 ⟨rfl, hb⟩; (first | (have T := T.call hb; (try have kz := kz.call hb)) | (have T := T.drew.call hb; (try have kz := kz.drew.call hb)) | (have kz := Blk.new_call hb; have n0 := Nat.ne_of_lt l0; have m0 := Nat.ne_of_gt l0; have n1 := Nat.ne_of_lt l1; have m1 := Nat.ne_of_gt l1; have n2 := Nat.ne_of_lt l2; have m2 := Nat.ne_of_gt l2; have kg := T.below.size; have KN := T.lts; have T := (T.alloc _).call hb) | (have kz := Blk.new_drew_call hb; have n0 := Nat.ne_of_lt l0; have m0 := Nat.ne_of_gt l0; have n1 := Nat.ne_of_lt l1; have m1 := Nat.ne_of_gt l1; have n2 := Nat.ne_of_lt l2; have m2 := Nat.ne_of_gt l2; have kg := T.below.size; have KN := T.lts; have T := (T.alloc _).drew.call hb)); obtain ⟨c00, c01, c02, c03, -, -, -, -⟩ := T.head.four; obtain ⟨c10, c11, c12, c13, -, -, -, -⟩ := T.tail.head.four; obtain ⟨c20, c21, c22, c23, -, -, -, -⟩ := T.tail.tail.head.four; have l0 := T.head.lt; have l1 := T.tail.head.lt; have l2 := T.tail.tail.head.lt; (try obtain ⟨cz0, cz1, cz2, cz3, fz0, fz1, fz2, fz3⟩ := kz.four)) | (go_at_call 15; refine (i_MulZ_some _ H0.out).mono ?_; rintro e w1 ⟨rfl, hb⟩; (first | (have T := T.call hb; (try have kz := kz.call hb)) | (have T := T.drew.call hb; (try have kz := kz.drew.call hb)) | (have kz := Blk.new_call hb; have n0 := Nat.ne_of_lt l0; have m0 := Nat.ne_of_gt l0; have n1 := Nat.ne_of_lt l1; have m1 := Nat.ne_of_gt l1; have n2 := Nat.ne_of_lt l2; have m2 := Nat.ne_of_gt l2; have kg := T.below.size; have KN := T.lts; have T := (T.alloc _).call hb) | (have kz := Blk.new_drew_call hb; have n0 := Nat.ne_of_lt l0; have m0 := Nat.ne_of_gt l0; have n1 := Nat.ne_of_lt l1; have m1 := Nat.ne_of_gt l1; have n2 := Nat.ne_of_lt l2; have m2 := Nat.ne_of_gt l2; have kg := T.below.size; have KN := T.lts; have T := (T.alloc _).drew.call hb)); obtain ⟨c00, c01, c02, c03, -, -, -, -⟩ := T.head.four; obtain ⟨c10, c11, c12, c13, -, -, -, -⟩ := T.tail.head.four; obtain ⟨c20, c21, c22, c23, -, -, -, -⟩ := T.tail.tail.head.four; have l0 := T.head.lt; have l1 := T.tail.head.lt; have l2 := T.tail.tail.head.lt; (try obtain ⟨cz0, cz1, cz2, cz3, fz0, fz1, fz2, fz3⟩ := kz.four)))
        all_goals
          go_wp2_with fail
          go_meet
          first | (with_reducible exact ⟨_, rfl, rfl, T.push _ _⟩) | (with_reducible exact ⟨_, rfl, rfl, (T.add kz).put4 kg KN.out _ _ _ _⟩)
      case rest =>
        obtain ⟨g2, rfl, rfl, T0⟩ := hcut
        clear T c00 c01 c02 c03 c10 c11 c12 c13 c20 c21 c22 c23 l0 l1 l2
        obtain ⟨c00, c01, c02, c03, -, -, -, -⟩ := T0.head.four
        obtain ⟨c10, c11, c12, c13, -, -, -, -⟩ := T0.tail.head.four
        go_wp2_with fail
        refine (eqZ _ _ _ _ _).mono ?_
        rintro e w3 ⟨rfl, hb3⟩
        go_wp2
        go_ret
        exact ret_mk (bl_call T0.below hb3)

set_option maxRecDepth 100000 in
theorem lifted (os : Os) (started : os.Started) (H : Type) (enc : TypeId × Value → H) :
    ReturnsInHanded {} Try.checked os 3 .any (Rows.fnExactMulZOmegaSpec.pre6 enc Try.prog Try.f3 Rows.fnExactMulZOmegaRow.domain false) (Rows.fnExactMulZOmegaSpec.post enc Try.prog Try.f3 false true false false) := by
  refine returnsInHanded_of_change (C := Try.checked) own started (by kernel_rfl) Try.func3
    (ChangeSpec.witness6 (enc := enc) (C := Try.checked) false ⟨#[], #[.agg #[.int .i64 0, .int .i64 0, .int .i64 0, .int .i64 0], .agg #[.int .i64 0, .int .i64 0, .int .i64 0, .int .i64 0]], []⟩ 8 (by kernel_rfl) (by kernel_rfl) (by kernel_rfl) (by kernel_rfl)) ?_
  intro W base args ds gs before hval0 hW hcnd _
  have hval : ∀ (j : Nat) t v, Try.f3.params[j]? = some t → args[j]? = some v → Value.okWide Try.prog W .any base t v := hval0
  have hW' := hW
  obtain ⟨p, q, hA0, hV, rfl, hfz, hnd⟩ := hW
  have hA : DataW.TrodAll enc Try.prog W 0 (fun _ => true) true Try.f3.params.toList args.toList ds p := hA0
  rw [Try.params3] at hA hval
  obtain ⟨v0, vs0, d0, ds0, p0, q0, hargs, rfl, rfl, h0, r0⟩ := trodAll_cons hA
  obtain ⟨v1, vs1, d1, ds1, p1, q1, rfl, rfl, rfl, h1, r1⟩ := trodAll_cons r0
  obtain ⟨rfl, rfl, rfl⟩ := trodAll_nil r1
  obtain rfl : args = #[v0, v1] := by cases args; simp_all
  obtain ⟨rfl, rfl⟩ := trodVars_none hV
  have kk0 := h0
  have lt0 : ∀ x ∈ p0, x.block < W.heap.size := by obtain ⟨m, hm⟩ := kk0; exact DataW.trod_lt m _ _ _ hm
  obtain ⟨a0, b0, c0, d0, rfl, fa0, fb0, fc0, fd0⟩ := open_Z (hval 0 23 v0 rfl rfl) h0
  have kk1 := h1
  have lt1 : ∀ x ∈ p1, x.block < W.heap.size := by obtain ⟨m, hm⟩ := kk1; exact DataW.trod_lt m _ _ _ hm
  obtain ⟨a1, b1, c1, d1, rfl, fa1, fb1, fc1, fd1⟩ := open_Z (hval 1 23 v1 rfl rfl) h1
  clear hA0 hval0
  refine (walk a0 b0 c0 d0 a1 b1 c1 d1 W fa0 fb0 fc0 fd0 fa1 fb1 fc1 fd1).mono fun e W' ⟨he, bel⟩ => ?_
  subst he
  exact ⟨_, rfl, _, _, _, [], _, [], hW', trodAll_mk1 (shut_bool Try.underlying4 _), (trodAll_cons_mk (Below.trod laidOut (by kernel_rfl) (of_decide_eq_true (by kernel_rfl)) kk0 bel lt0) (trodAll_cons_mk (Below.trod laidOut (by kernel_rfl) (of_decide_eq_true (by kernel_rfl)) kk1 bel lt1) trodAll_mk0)), rfl, bel.frame _, fun h => by cases h⟩

theorem over : Rows.fnExactMulZOmegaRow.holds Try.pinned (OpenSpec.ofChange Rows.fnExactMulZOmegaSpec) :=
  OpenClaim.holds_of_wide 3 Try.f3 rfl rfl rfl rfl rfl rfl rfl ⟨rfl, rfl, rfl, rfl, rfl⟩ rfl rfl rfl rfl rfl (by kernel_rfl) Try.func3 (by kernel_rfl)
    (of_decide_eq_true (by kernel_rfl)) (by unfold Func.isWrapper; first | (rw [if_pos (by decide +kernel)]; kernel_rfl) | (rw [if_neg (by decide +kernel)]; exact ⟨rfl, rfl⟩))
    (fun os started H enc _ => lifted os started H enc)

theorem proved : Rows.FnExactMulZOmegaSaid := over
end Go.Proofs.Ytgjpahmbbflhmaa.fnExactMulZOmega
