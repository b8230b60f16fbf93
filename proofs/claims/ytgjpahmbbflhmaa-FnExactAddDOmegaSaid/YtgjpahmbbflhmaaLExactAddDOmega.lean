/-
  Proved: for every input the Go function FnExactAddDOmega returns true (the program's function returns what the reference's returns), and its arguments read as before.
  Conditions: none beyond the given statement.
-/
import Derived.Test.YtgjpahmbbflhmaaClose
import Derived.Deep.RegionHeld3
import Derived.Test.YtgjpahmbbflhmaaAD
import Derived.Test.YtgjpahmbbflhmaaOwn
namespace Go.Proofs.Ytgjpahmbbflhmaa.fnExactAddDOmega
open Go.Proofs.Ytgjpahmbbflhmaa
open Go.ChangeShapes Go.WideShapes Go.ChangeAt Go.RowKit
set_option linter.unusedVariables false

set_option maxHeartbeats 2000000 in
theorem walk (a0 b0 c0 d0 k0 a1 b1 c1 d1 k1 : Int) (w : World) (fa0 : inr a0) (fb0 : inr b0) (fc0 : inr c0) (fd0 : inr d0) (fk0 : inr k0) (fa1 : inr a1) (fb1 : inr b1) (fc1 : inr c1) (fd1 : inr d1) (fk1 : inr k1) :
    Calls Try.prog 6 #[.agg #[.int .i64 a0, .int .i64 b0, .int .i64 c0, .int .i64 d0, .int .i64 k0], .agg #[.int .i64 a1, .int .i64 b1, .int .i64 c1, .int .i64 d1, .int .i64 k1]] w (Ret (.bool true) w) := by
  rcases h0 : addD ⟨⟨a0, b0, c0, d0⟩, k0⟩ ⟨⟨a1, b1, c1, d1⟩, k1⟩ with _ | ⟨⟨p, q, r, s⟩, m⟩
  · have H0 := Lib.hid h0
    clear h0
    go_enter Try.func6, Try.ntmps6
    go_upto_region 1 with fail
    obtain ⟨W, hW⟩ : ∃ W, (w.alloc (.cells #[.int .i64 a0, .int .i64 b0, .int .i64 c0, .int .i64 d0, .int .i64 k0] 31)).alloc (.cells #[.int .i64 a1, .int .i64 b1, .int .i64 c1, .int .i64 d1, .int .i64 k1] 31) = W := ⟨_, rfl⟩
    have T : Own w W [(w.heap.size + 1, 31, #[.int .i64 a1, .int .i64 b1, .int .i64 c1, .int .i64 d1, .int .i64 k1]), (w.heap.size, 31, #[.int .i64 a0, .int .i64 b0, .int .i64 c0, .int .i64 d0, .int .i64 k0])] := by rw [← hW]; simpa using ((Own.start w).push 31 #[.int .i64 a0, .int .i64 b0, .int .i64 c0, .int .i64 d0, .int .i64 k0]).push 31 #[.int .i64 a1, .int .i64 b1, .int .i64 c1, .int .i64 d1, .int .i64 k1]
    rw [hW]
    clear hW
    obtain ⟨c00, c01, c02, c03, c04, -, -, -, -, -⟩ := T.head.five
    obtain ⟨c10, c11, c12, c13, c14, -, -, -, -, -⟩ := T.tail.head.five
    have l0 := T.head.lt
    have l1 := T.tail.head.lt
    go_cut [5, 6] (fun s5 s6 wx => ∃ g : Nat, s5 = .pointer (some ⟨g, 0, none⟩) ∧ s6 = .bool false ∧ Own w wx ((g, 33, #[.int .i64 0, .int .i64 0, .int .i64 0, .int .i64 0, .int .i64 0]) :: [(w.heap.size + 1, 31, #[.int .i64 a1, .int .i64 b1, .int .i64 c1, .int .i64 d1, .int .i64 k1]), (w.heap.size, 31, #[.int .i64 a0, .int .i64 b0, .int .i64 c0, .int .i64 d0, .int .i64 k0])]))
    case first =>
      go_region_held3 (fun w' => w'.cell? ⟨w.heap.size + 1, 0, none⟩ = some (.int .i64 a1) ∧ w'.cell? ⟨w.heap.size + 1, 1, none⟩ = some (.int .i64 b1) ∧ w'.cell? ⟨w.heap.size + 1, 2, none⟩ = some (.int .i64 c1) ∧ w'.cell? ⟨w.heap.size + 1, 3, none⟩ = some (.int .i64 d1) ∧ w'.cell? ⟨w.heap.size + 1, 4, none⟩ = some (.int .i64 k1) ∧ w'.cell? ⟨w.heap.size, 0, none⟩ = some (.int .i64 a0) ∧ w'.cell? ⟨w.heap.size, 1, none⟩ = some (.int .i64 b0) ∧ w'.cell? ⟨w.heap.size, 2, none⟩ = some (.int .i64 c0) ∧ w'.cell? ⟨w.heap.size, 3, none⟩ = some (.int .i64 d0) ∧ w'.cell? ⟨w.heap.size, 4, none⟩ = some (.int .i64 k0)) (first | (with_reducible exact ⟨c00, c01, c02, c03, c04, c10, c11, c12, c13, c14⟩) | go_keep) (first | (go_at_call 18; refine (toD _ _ _ _ _ _).mono ?_; rintro e w1 ⟨rfl, hb⟩; (first | (have T := T.call hb; (try have kz := kz.call hb)) | (have T := T.drew.call hb; (try have kz := kz.drew.call hb)) | (have kz := Blk.new_call hb; have n0 := Nat.ne_of_lt l0; have m0 := Nat.ne_of_gt l0; have n1 := Nat.ne_of_lt l1; have m1 := Nat.ne_of_gt l1; have kg := T.below.size; have KN := T.lts; have T := (T.alloc _).call hb) | (have kz := Blk.new_drew_call hb; have n0 := Nat.ne_of_lt l0; have m0 := Nat.ne_of_gt l0; have n1 := Nat.ne_of_lt l1; have m1 := Nat.ne_of_gt l1; have kg := T.below.size; have KN := T.lts; have T := (T.alloc _).drew.call hb)); obtain ⟨c00, c01, c02, c03, c04, -, -, -, -, -⟩ := T.head.five; obtain ⟨c10, c11, c12, c13, c14, -, -, -, -, -⟩ := T.tail.head.five; have l0 := T.head.lt; have l1 := T.tail.head.lt; (try obtain ⟨cz0, cz1, cz2, cz3, cz4, fz0, fz1, fz2, fz3, fz4⟩ := kz.five)) | (go_at_call 23; refine (s_AddD_none _ H0.out).mono ?_; rintro e w1 ⟨rfl, hb⟩; (first | (have T := T.call hb; (try have kz := kz.call hb)) | (have T := T.drew.call hb; (try have kz := kz.drew.call hb)) | (have kz := Blk.new_call hb; have n0 := Nat.ne_of_lt l0; have m0 := Nat.ne_of_gt l0; have n1 := Nat.ne_of_lt l1; have m1 := Nat.ne_of_gt l1; have kg := T.below.size; have KN := T.lts; have T := (T.alloc _).call hb) | (have kz := Blk.new_drew_call hb; have n0 := Nat.ne_of_lt l0; have m0 := Nat.ne_of_gt l0; have n1 := Nat.ne_of_lt l1; have m1 := Nat.ne_of_gt l1; have kg := T.below.size; have KN := T.lts; have T := (T.alloc _).drew.call hb)); obtain ⟨c00, c01, c02, c03, c04, -, -, -, -, -⟩ := T.head.five; obtain ⟨c10, c11, c12, c13, c14, -, -, -, -, -⟩ := T.tail.head.five; have l0 := T.head.lt; have l1 := T.tail.head.lt; (try obtain ⟨cz0, cz1, cz2, cz3, cz4, fz0, fz1, fz2, fz3, fz4⟩ := kz.five)))
      all_goals
        go_wp2_with fail
        go_meet
        first | (with_reducible exact ⟨_, rfl, rfl, T.push _ _⟩) | (with_reducible exact ⟨_, rfl, rfl, (T.add kz).put5 kg KN.out _ _ _ _ _⟩)
    case rest =>
      obtain ⟨g, rfl, rfl, T0⟩ := hcut
      clear T c00 c01 c02 c03 c04 c10 c11 c12 c13 c14 l0 l1
      have T := T0
      clear T0
      go_upto_region 2 with fail
      obtain ⟨c00, c01, c02, c03, c04, -, -, -, -, -⟩ := T.head.five
      obtain ⟨c10, c11, c12, c13, c14, -, -, -, -, -⟩ := T.tail.head.five
      obtain ⟨c20, c21, c22, c23, c24, -, -, -, -, -⟩ := T.tail.tail.head.five
      have l0 := T.head.lt
      have l1 := T.tail.head.lt
      have l2 := T.tail.tail.head.lt
      go_cut [7, 8] (fun s7 s8 wx => ∃ g2 : Nat, s7 = .pointer (some ⟨g2, 0, none⟩) ∧ s8 = .bool false ∧ Own w wx ((g2, 33, #[.int .i64 0, .int .i64 0, .int .i64 0, .int .i64 0, .int .i64 0]) :: (g, 33, #[.int .i64 0, .int .i64 0, .int .i64 0, .int .i64 0, .int .i64 0]) :: [(w.heap.size + 1, 31, #[.int .i64 a1, .int .i64 b1, .int .i64 c1, .int .i64 d1, .int .i64 k1]), (w.heap.size, 31, #[.int .i64 a0, .int .i64 b0, .int .i64 c0, .int .i64 d0, .int .i64 k0])]))
      case first =>
        go_region_held3 (fun w' => w'.cell? ⟨g, 0, none⟩ = some (.int .i64 0) ∧ w'.cell? ⟨g, 1, none⟩ = some (.int .i64 0) ∧ w'.cell? ⟨g, 2, none⟩ = some (.int .i64 0) ∧ w'.cell? ⟨g, 3, none⟩ = some (.int .i64 0) ∧ w'.cell? ⟨g, 4, none⟩ = some (.int .i64 0) ∧ w'.cell? ⟨w.heap.size + 1, 0, none⟩ = some (.int .i64 a1) ∧ w'.cell? ⟨w.heap.size + 1, 1, none⟩ = some (.int .i64 b1) ∧ w'.cell? ⟨w.heap.size + 1, 2, none⟩ = some (.int .i64 c1) ∧ w'.cell? ⟨w.heap.size + 1, 3, none⟩ = some (.int .i64 d1) ∧ w'.cell? ⟨w.heap.size + 1, 4, none⟩ = some (.int .i64 k1) ∧ w'.cell? ⟨w.heap.size, 0, none⟩ = some (.int .i64 a0) ∧ w'.cell? ⟨w.heap.size, 1, none⟩ = some (.int .i64 b0) ∧ w'.cell? ⟨w.heap.size, 2, none⟩ = some (.int .i64 c0) ∧ w'.cell? ⟨w.heap.size, 3, none⟩ = some (.int .i64 d0) ∧ w'.cell? ⟨w.heap.size, 4, none⟩ = some (.int .i64 k0)) (first | (with_reducible exact ⟨c00, c01, c02, c03, c04, c10, c11, c12, c13, c14, c20, c21, c22, c23, c24⟩) | go_keep) (first | (go_at_call 18; refine (toD _ _ _ _ _ _).mono ?_; rintro e w1 ⟨rfl, hb⟩; (first | (have T := T.call hb; (try have kz := kz.call hb)) | (have T := T.drew.call hb; (try have kz := kz.drew.call hb)) | (have kz := Blk.new_call hb; have n0 := Nat.ne_of_lt l0; have m0 := Nat.ne_of_gt l0; have n1 := Nat.ne_of_lt l1; have m1 := Nat.ne_of_gt l1; have n2 := Nat.ne_of_lt l2; have m2 := Nat.ne_of_gt l2; have kg := T.below.size; have KN := T.lts; have T := (T.alloc _).call hb) | (have kz := Blk.new_drew_call hb; have n0 := Nat.ne_of_lt l0; have m0 := Nat.ne_of_gt l0; have n1 := Nat.ne_of_lt l1; have m1 := Nat.ne_of_gt l1; have n2 := Nat.ne_of_lt l2; have m2 := Nat.ne_of_gt l2; have kg := T.below.size; have KN := T.lts; have T := (T.alloc _).drew.call hb)); obtain ⟨c00, c01, c02, c03, c04, -, -, -, -, -⟩ := T.head.five; obtain ⟨c10, c11, c12, c13, c14, -, -, -, -, -⟩ := T.tail.head.five; obtain ⟨c20, c21, c22, c23, c24, -, -, -, -, -⟩ := T.tail.tail.head.five; have l0 := T.head.lt; have l1 := T.tail.head.lt; have l2 := T.tail.tail.head.lt; (try obtain ⟨cz0, cz1, cz2, cz3, cz4, fz0, fz1, fz2, fz3, fz4⟩ := kz.five)) | (go_at_call 24; refine (i_AddD_none _ H0.out).mono ?_; rintro e w1 ⟨rfl, hb⟩; (first | (have T := T.call hb; (try have kz := kz.call hb)) | (have T := T.drew.call hb; (try have kz := kz.drew.call hb)) | (have kz := Blk.new_call hb; have n0 := Nat.ne_of_lt l0; have m0 := Nat.ne_of_gt l0; have n1 := Nat.ne_of_lt l1; have m1 := Nat.ne_of_gt l1; have n2 := Nat.ne_of_lt l2; have m2 := Nat.ne_of_gt l2; have kg := T.below.size; have KN := T.lts; have T := (T.alloc _).call hb) | (have kz := Blk.new_drew_call hb; have n0 := Nat.ne_of_lt l0; have m0 := Nat.ne_of_gt l0; have n1 := Nat.ne_of_lt l1; have m1 := Nat.ne_of_gt l1; have n2 := Nat.ne_of_lt l2; have m2 := Nat.ne_of_gt l2; have kg := T.below.size; have KN := T.lts; have T := (T.alloc _).drew.call hb)); obtain ⟨c00, c01, c02, c03, c04, -, -, -, -, -⟩ := T.head.five; obtain ⟨c10, c11, c12, c13, c14, -, -, -, -, -⟩ := T.tail.head.five; obtain ⟨c20, c21, c22, c23, c24, -, -, -, -, -⟩ := T.tail.tail.head.five; have l0 := T.head.lt; have l1 := T.tail.head.lt; have l2 := T.tail.tail.head.lt; (try obtain ⟨cz0, cz1, cz2, cz3, cz4, fz0, fz1, fz2, fz3, fz4⟩ := kz.five)))
        all_goals
          go_wp2_with fail
          go_meet
          first | (with_reducible exact ⟨_, rfl, rfl, T.push _ _⟩) | (with_reducible exact ⟨_, rfl, rfl, (T.add kz).put5 kg KN.out _ _ _ _ _⟩)
      case rest =>
        obtain ⟨g2, rfl, rfl, T0⟩ := hcut
        clear T c00 c01 c02 c03 c04 c10 c11 c12 c13 c14 c20 c21 c22 c23 c24 l0 l1 l2
        obtain ⟨c00, c01, c02, c03, c04, -, -, -, -, -⟩ := T0.head.five
        obtain ⟨c10, c11, c12, c13, c14, -, -, -, -, -⟩ := T0.tail.head.five
        go_wp2_with fail
        refine (eqD _ _ _ _ _ _).mono ?_
        rintro e w3 ⟨rfl, hb3⟩
        go_wp2
        go_ret
        exact ret_mk (bl_call T0.below hb3)
  · have H0 := Lib.hid h0
    clear h0
    go_enter Try.func6, Try.ntmps6
    go_upto_region 1 with fail
    obtain ⟨W, hW⟩ : ∃ W, (w.alloc (.cells #[.int .i64 a0, .int .i64 b0, .int .i64 c0, .int .i64 d0, .int .i64 k0] 31)).alloc (.cells #[.int .i64 a1, .int .i64 b1, .int .i64 c1, .int .i64 d1, .int .i64 k1] 31) = W := ⟨_, rfl⟩
    have T : Own w W [(w.heap.size + 1, 31, #[.int .i64 a1, .int .i64 b1, .int .i64 c1, .int .i64 d1, .int .i64 k1]), (w.heap.size, 31, #[.int .i64 a0, .int .i64 b0, .int .i64 c0, .int .i64 d0, .int .i64 k0])] := by rw [← hW]; simpa using ((Own.start w).push 31 #[.int .i64 a0, .int .i64 b0, .int .i64 c0, .int .i64 d0, .int .i64 k0]).push 31 #[.int .i64 a1, .int .i64 b1, .int .i64 c1, .int .i64 d1, .int .i64 k1]
    rw [hW]
    clear hW
    obtain ⟨c00, c01, c02, c03, c04, -, -, -, -, -⟩ := T.head.five
    obtain ⟨c10, c11, c12, c13, c14, -, -, -, -, -⟩ := T.tail.head.five
    have l0 := T.head.lt
    have l1 := T.tail.head.lt
    go_cut [5, 6] (fun s5 s6 wx => ∃ g : Nat, s5 = .pointer (some ⟨g, 0, none⟩) ∧ s6 = .bool true ∧ Own w wx ((g, 33, #[.int .i64 p, .int .i64 q, .int .i64 r, .int .i64 s, .int .i64 m]) :: [(w.heap.size + 1, 31, #[.int .i64 a1, .int .i64 b1, .int .i64 c1, .int .i64 d1, .int .i64 k1]), (w.heap.size, 31, #[.int .i64 a0, .int .i64 b0, .int .i64 c0, .int .i64 d0, .int .i64 k0])]))
    case first =>
      go_region_held3 (fun w' => w'.cell? ⟨w.heap.size + 1, 0, none⟩ = some (.int .i64 a1) ∧ w'.cell? ⟨w.heap.size + 1, 1, none⟩ = some (.int .i64 b1) ∧ w'.cell? ⟨w.heap.size + 1, 2, none⟩ = some (.int .i64 c1) ∧ w'.cell? ⟨w.heap.size + 1, 3, none⟩ = some (.int .i64 d1) ∧ w'.cell? ⟨w.heap.size + 1, 4, none⟩ = some (.int .i64 k1) ∧ w'.cell? ⟨w.heap.size, 0, none⟩ = some (.int .i64 a0) ∧ w'.cell? ⟨w.heap.size, 1, none⟩ = some (.int .i64 b0) ∧ w'.cell? ⟨w.heap.size, 2, none⟩ = some (.int .i64 c0) ∧ w'.cell? ⟨w.heap.size, 3, none⟩ = some (.int .i64 d0) ∧ w'.cell? ⟨w.heap.size, 4, none⟩ = some (.int .i64 k0)) (first | (with_reducible exact ⟨c00, c01, c02, c03, c04, c10, c11, c12, c13, c14⟩) | go_keep) (first | (go_at_call 18; refine (toD _ _ _ _ _ _).mono ?_; rintro e w1 ⟨rfl, hb⟩; (first | (have T := T.call hb; (try have kz := kz.call hb)) | (have T := T.drew.call hb; (try have kz := kz.drew.call hb)) | (have kz := Blk.new_call hb; have n0 := Nat.ne_of_lt l0; have m0 := Nat.ne_of_gt l0; have n1 := Nat.ne_of_lt l1; have m1 := Nat.ne_of_gt l1; have kg := T.below.size; have KN := T.lts; have T := (T.alloc _).call hb) | (have kz := Blk.new_drew_call hb; have n0 := Nat.ne_of_lt l0; have m0 := Nat.ne_of_gt l0; have n1 := Nat.ne_of_lt l1; have m1 := Nat.ne_of_gt l1; have kg := T.below.size; have KN := T.lts; have T := (T.alloc _).drew.call hb)); obtain ⟨c00, c01, c02, c03, c04, -, -, -, -, -⟩ := T.head.five; obtain ⟨c10, c11, c12, c13, c14, -, -, -, -, -⟩ := T.tail.head.five; have l0 := T.head.lt; have l1 := T.tail.head.lt; (try obtain ⟨cz0, cz1, cz2, cz3, cz4, fz0, fz1, fz2, fz3, fz4⟩ := kz.five)) | (go_at_call 23; refine (s_AddD_some _ H0.out).mono ?_; rintro e w1 ⟨rfl, hb⟩; (first | (have T := T.call hb; (try have kz := kz.call hb)) | (have T := T.drew.call hb; (try have kz := kz.drew.call hb)) | (have kz := Blk.new_call hb; have n0 := Nat.ne_of_lt l0; have m0 := Nat.ne_of_gt l0; have n1 := Nat.ne_of_lt l1; have m1 := Nat.ne_of_gt l1; have kg := T.below.size; have KN := T.lts; have T := (T.alloc _).call hb) | (have kz := Blk.new_drew_call hb; have n0 := Nat.ne_of_lt l0; have m0 := Nat.ne_of_gt l0; have n1 := Nat.ne_of_lt l1; have m1 := Nat.ne_of_gt l1; have kg := T.below.size; have KN := T.lts; have T := (T.alloc _).drew.call hb)); obtain ⟨c00, c01, c02, c03, c04, -, -, -, -, -⟩ := T.head.five; obtain ⟨c10, c11, c12, c13, c14, -, -, -, -, -⟩ := T.tail.head.five; have l0 := T.head.lt; have l1 := T.tail.head.lt; (try obtain ⟨cz0, cz1, cz2, cz3, cz4, fz0, fz1, fz2, fz3, fz4⟩ := kz.five)))
      all_goals
        go_wp2_with fail
        go_meet
        first | (with_reducible exact ⟨_, rfl, rfl, T.push _ _⟩) | (with_reducible exact ⟨_, rfl, rfl, (T.add kz).put5 kg KN.out _ _ _ _ _⟩)
    case rest =>
      obtain ⟨g, rfl, rfl, T0⟩ := hcut
      clear T c00 c01 c02 c03 c04 c10 c11 c12 c13 c14 l0 l1
      have T := T0
      clear T0
      go_upto_region 2 with fail
      obtain ⟨c00, c01, c02, c03, c04, -, -, -, -, -⟩ := T.head.five
      obtain ⟨c10, c11, c12, c13, c14, -, -, -, -, -⟩ := T.tail.head.five
      obtain ⟨c20, c21, c22, c23, c24, -, -, -, -, -⟩ := T.tail.tail.head.five
      have l0 := T.head.lt
      have l1 := T.tail.head.lt
      have l2 := T.tail.tail.head.lt
      go_cut [7, 8] (fun s7 s8 wx => ∃ g2 : Nat, s7 = .pointer (some ⟨g2, 0, none⟩) ∧ s8 = .bool true ∧ Own w wx ((g2, 33, #[.int .i64 p, .int .i64 q, .int .i64 r, .int .i64 s, .int .i64 m]) :: (g, 33, #[.int .i64 p, .int .i64 q, .int .i64 r, .int .i64 s, .int .i64 m]) :: [(w.heap.size + 1, 31, #[.int .i64 a1, .int .i64 b1, .int .i64 c1, .int .i64 d1, .int .i64 k1]), (w.heap.size, 31, #[.int .i64 a0, .int .i64 b0, .int .i64 c0, .int .i64 d0, .int .i64 k0])]))
      case first =>
        go_region_held3 (fun w' => w'.cell? ⟨g, 0, none⟩ = some (.int .i64 p) ∧ w'.cell? ⟨g, 1, none⟩ = some (.int .i64 q) ∧ w'.cell? ⟨g, 2, none⟩ = some (.int .i64 r) ∧ w'.cell? ⟨g, 3, none⟩ = some (.int .i64 s) ∧ w'.cell? ⟨g, 4, none⟩ = some (.int .i64 m) ∧ w'.cell? ⟨w.heap.size + 1, 0, none⟩ = some (.int .i64 a1) ∧ w'.cell? ⟨w.heap.size + 1, 1, none⟩ = some (.int .i64 b1) ∧ w'.cell? ⟨w.heap.size + 1, 2, none⟩ = some (.int .i64 c1) ∧ w'.cell? ⟨w.heap.size + 1, 3, none⟩ = some (.int .i64 d1) ∧ w'.cell? ⟨w.heap.size + 1, 4, none⟩ = some (.int .i64 k1) ∧ w'.cell? ⟨w.heap.size, 0, none⟩ = some (.int .i64 a0) ∧ w'.cell? ⟨w.heap.size, 1, none⟩ = some (.int .i64 b0) ∧ w'.cell? ⟨w.heap.size, 2, none⟩ = some (.int .i64 c0) ∧ w'.cell? ⟨w.heap.size, 3, none⟩ = some (.int .i64 d0) ∧ w'.cell? ⟨w.heap.size, 4, none⟩ = some (.int .i64 k0)) (first | (with_reducible exact ⟨c00, c01, c02, c03, c04, c10, c11, c12, c13, c14, c20, c21, c22, c23, c24⟩) | go_keep) (first | (go_at_call 18; refine (toD _ _ _ _ _ _).mono ?_; rintro e w1 ⟨rfl, hb⟩; (first | (have T := T.call hb; (try have kz := kz.call hb)) | (have T := T.drew.call hb; (try have kz := kz.drew.call hb)) | (have kz := Blk.new_call hb; have n0 := Nat.ne_of_lt l0; have m0 := Nat.ne_of_gt l0; have n1 := Nat.ne_of_lt l1; have m1 := Nat.ne_of_gt l1; have n2 := Nat.ne_of_lt l2; have m2 := Nat.ne_of_gt l2; have kg := T.below.size; have KN := T.lts; have T := (T.alloc _).call hb) | (have kz := Blk.new_drew_call hb; have n0 := Nat.ne_of_lt l0; have m0 := Nat.ne_of_gt l0; have n1 := Nat.ne_of_lt l1; have m1 := Nat.ne_of_gt l1; have n2 := Nat.ne_of_lt l2; have m2 := Nat.ne_of_gt l2; have kg := T.below.size; have KN := T.lts; have T := (T.alloc _).drew.call hb)); obtain ⟨c00, c01, c02, c03, c04, -, -, -, -, -⟩ := T.head.five; obtain ⟨c10, c11, c12, c13, c14, -, -, -, -, -⟩ := T.tail.head.five; obtain ⟨c20, c21, c22, c23, c24, -, -, -, -, -⟩ := T.tail.tail.head.five; have l0 := T.head.lt; have l1 := T.tail.head.lt; have l2 := T.tail.tail.head.lt; (try obtain ⟨cz0, cz1, cz2, cz3, cz4, fz0, fz1, fz2, fz3, fz4⟩ := kz.five)) | (go_at_call 24; refine (i_AddD_some _ H0.out).mono ?_; rintro e w1 ⟨rfl, hb⟩; (first | (have T := T.call hb; (try have kz := kz.call hb)) | (have T := T.drew.call hb; (try have kz := kz.drew.call hb)) | (have kz := Blk.new_call hb; have n0 := Nat.ne_of_lt l0; have m0 := Nat.ne_of_gt l0; have n1 := Nat.ne_of_lt l1; have m1 := Nat.ne_of_gt l1; have n2 := Nat.ne_of_lt l2; have m2 := Nat.ne_of_gt l2; have kg := T.below.size; have KN := T.lts; have T := (T.alloc _).call hb) | (have kz := Blk.new_drew_call hb; have n0 := Nat.ne_of_lt l0; have m0 := Nat.ne_of_gt l0; have n1 := Nat.ne_of_lt l1; have m1 := Nat.ne_of_gt l1; have n2 := Nat.ne_of_lt l2; have m2 := Nat.ne_of_gt l2; have kg := T.below.size; have KN := T.lts; have T := (T.alloc _).drew.call hb)); obtain ⟨c00, c01, c02, c03, c04, -, -, -, -, -⟩ := T.head.five; obtain ⟨c10, c11, c12, c13, c14, -, -, -, -, -⟩ := T.tail.head.five; obtain ⟨c20, c21, c22, c23, c24, -, -, -, -, -⟩ := T.tail.tail.head.five; have l0 := T.head.lt; have l1 := T.tail.head.lt; have l2 := T.tail.tail.head.lt; (try obtain ⟨cz0, cz1, cz2, cz3, cz4, fz0, fz1, fz2, fz3, fz4⟩ := kz.five)))
        all_goals
          go_wp2_with fail
          go_meet
          first | (with_reducible exact ⟨_, rfl, rfl, T.push _ _⟩) | (with_reducible exact ⟨_, rfl, rfl, (T.add kz).put5 kg KN.out _ _ _ _ _⟩)
      case rest =>
        obtain ⟨g2, rfl, rfl, T0⟩ := hcut
        clear T c00 c01 c02 c03 c04 c10 c11 c12 c13 c14 c20 c21 c22 c23 c24 l0 l1 l2
        obtain ⟨c00, c01, c02, c03, c04, -, -, -, -, -⟩ := T0.head.five
        obtain ⟨c10, c11, c12, c13, c14, -, -, -, -, -⟩ := T0.tail.head.five
        go_wp2_with fail
        refine (eqD _ _ _ _ _ _).mono ?_
        rintro e w3 ⟨rfl, hb3⟩
        go_wp2
        go_ret
        exact ret_mk (bl_call T0.below hb3)

set_option maxRecDepth 100000 in
theorem lifted (os : Os) (started : os.Started) (H : Type) (enc : TypeId × Value → H) :
    ReturnsInHanded {} Try.checked os 6 .any (Rows.fnExactAddDOmegaSpec.pre6 enc Try.prog Try.f6 Rows.fnExactAddDOmegaRow.domain false) (Rows.fnExactAddDOmegaSpec.post enc Try.prog Try.f6 false true false false) := by
  refine returnsInHanded_of_change (C := Try.checked) own started (by kernel_rfl) Try.func6
    (ChangeSpec.witness6 (enc := enc) (C := Try.checked) false ⟨#[], #[.agg #[.int .i64 0, .int .i64 0, .int .i64 0, .int .i64 0, .int .i64 0], .agg #[.int .i64 0, .int .i64 0, .int .i64 0, .int .i64 0, .int .i64 0]], []⟩ 8 (by kernel_rfl) (by kernel_rfl) (by kernel_rfl) (by kernel_rfl)) ?_
  intro W base args ds gs before hval0 hW hcnd _
  have hval : ∀ (j : Nat) t v, Try.f6.params[j]? = some t → args[j]? = some v → Value.okWide Try.prog W .any base t v := hval0
  have hW' := hW
  obtain ⟨p, q, hA0, hV, rfl, hfz, hnd⟩ := hW
  have hA : DataW.TrodAll enc Try.prog W 0 (fun _ => true) true Try.f6.params.toList args.toList ds p := hA0
  rw [Try.params6] at hA hval
  obtain ⟨v0, vs0, d0, ds0, p0, q0, hargs, rfl, rfl, h0, r0⟩ := trodAll_cons hA
  obtain ⟨v1, vs1, d1, ds1, p1, q1, rfl, rfl, rfl, h1, r1⟩ := trodAll_cons r0
  obtain ⟨rfl, rfl, rfl⟩ := trodAll_nil r1
  obtain rfl : args = #[v0, v1] := by cases args; simp_all
  obtain ⟨rfl, rfl⟩ := trodVars_none hV
  have kk0 := h0
  have lt0 : ∀ x ∈ p0, x.block < W.heap.size := by obtain ⟨m, hm⟩ := kk0; exact DataW.trod_lt m _ _ _ hm
  obtain ⟨a0, b0, c0, d0, k0, rfl, fa0, fb0, fc0, fd0, fk0⟩ := open_D (hval 0 31 v0 rfl rfl) h0
  have kk1 := h1
  have lt1 : ∀ x ∈ p1, x.block < W.heap.size := by obtain ⟨m, hm⟩ := kk1; exact DataW.trod_lt m _ _ _ hm
  obtain ⟨a1, b1, c1, d1, k1, rfl, fa1, fb1, fc1, fd1, fk1⟩ := open_D (hval 1 31 v1 rfl rfl) h1
  clear hA0 hval0
  refine (walk a0 b0 c0 d0 k0 a1 b1 c1 d1 k1 W fa0 fb0 fc0 fd0 fk0 fa1 fb1 fc1 fd1 fk1).mono fun e W' ⟨he, bel⟩ => ?_
  subst he
  exact ⟨_, rfl, _, _, _, [], _, [], hW', trodAll_mk1 (shut_bool Try.underlying4 _), (trodAll_cons_mk (Below.trod laidOut (by kernel_rfl) (of_decide_eq_true (by kernel_rfl)) kk0 bel lt0) (trodAll_cons_mk (Below.trod laidOut (by kernel_rfl) (of_decide_eq_true (by kernel_rfl)) kk1 bel lt1) trodAll_mk0)), rfl, bel.frame _, fun h => by cases h⟩

theorem over : Rows.fnExactAddDOmegaRow.holds Try.pinned (OpenSpec.ofChange Rows.fnExactAddDOmegaSpec) :=
  OpenClaim.holds_of_wide 6 Try.f6 rfl rfl rfl rfl rfl rfl rfl ⟨rfl, rfl, rfl, rfl, rfl⟩ rfl rfl rfl rfl rfl (by kernel_rfl) Try.func6 (by kernel_rfl)
    (of_decide_eq_true (by kernel_rfl)) (by unfold Func.isWrapper; first | (rw [if_pos (by decide +kernel)]; kernel_rfl) | (rw [if_neg (by decide +kernel)]; exact ⟨rfl, rfl⟩))
    (fun os started H enc _ => lifted os started H enc)

theorem proved : Rows.FnExactAddDOmegaSaid := over
end Go.Proofs.Ytgjpahmbbflhmaa.fnExactAddDOmega
