/- Contracts: the norm squared. -/
import Derived.Test.YtpkbmdlamcgiiaaM
import Derived.Test.YtpkbmdlamcgiiaaOwn
import Derived.Test.YtpkbmdlamcgiiaaD2
import Derived.Deep.RegionHeld3
import Derived.Deep.DeepCutAuto
import Derived.Outline
namespace Go.Proofs.Ytpkbmdlamcgiiaa
open Go.RowKit
set_option linter.unusedVariables false
set_option maxHeartbeats 1000000 in
theorem i_Norm_of {a b c d k p q r s l x y z t m : Int} {ok : Bool} (w : World) (hC : ∀ W, Calls Try.prog 34 #[.agg #[.int .i64 a, .int .i64 b, .int .i64 c, .int .i64 d, .int .i64 k]] W (Ret (.agg #[.int .i64 p, .int .i64 q, .int .i64 r, .int .i64 s, .int .i64 l]) W))
    (hM : ∀ W, Calls Try.prog 32 #[.agg #[.int .i64 a, .int .i64 b, .int .i64 c, .int .i64 d, .int .i64 k], .agg #[.int .i64 p, .int .i64 q, .int .i64 r, .int .i64 s, .int .i64 l]] W (Ret (.tuple #[.agg #[.int .i64 x, .int .i64 y, .int .i64 z, .int .i64 t, .int .i64 m], .bool ok]) W)) : Calls Try.prog 45 #[.agg #[.int .i64 a, .int .i64 b, .int .i64 c, .int .i64 d, .int .i64 k]] w (Ret (.tuple #[.agg #[.int .i64 x, .int .i64 y, .int .i64 z, .int .i64 t, .int .i64 m], .bool ok]) w) := by
  have HC := Lib.hid hC
  have HM := Lib.hid hM
  clear hC hM
  go_enter Try.func45, Try.ntmps45
  go_upto_region 1 with fail
  obtain ⟨W, hW⟩ : ∃ W, (w.alloc (.cells #[.int .i64 a, .int .i64 b, .int .i64 c, .int .i64 d, .int .i64 k] 29)).alloc (.cells #[.int .i64 0, .int .i64 0, .int .i64 0, .int .i64 0, .int .i64 0] 29) = W := ⟨_, rfl⟩
  have T : Own w W [(w.heap.size + 1, 29, #[.int .i64 0, .int .i64 0, .int .i64 0, .int .i64 0, .int .i64 0]), (w.heap.size, 29, #[.int .i64 a, .int .i64 b, .int .i64 c, .int .i64 d, .int .i64 k])] := by rw [← hW]; simpa using ((Own.start w).push 29 #[.int .i64 a, .int .i64 b, .int .i64 c, .int .i64 d, .int .i64 k]).push 29 #[.int .i64 0, .int .i64 0, .int .i64 0, .int .i64 0, .int .i64 0]
  rw [hW]
  clear hW
  obtain ⟨c00, c01, c02, c03, c04, f00, f01, f02, f03, f04⟩ := T.head.five
  obtain ⟨c10, c11, c12, c13, c14, -, -, -, -, -⟩ := T.tail.head.five
  have l0 := T.head.lt
  have l1 := T.tail.head.lt
  go_cut [4, 5] (fun s4 s5 wx => ∃ g : Nat, s4 = .pointer (some ⟨g, 0, none⟩) ∧ s5 = .bool ok ∧ Own w wx ((g, 29, #[.int .i64 x, .int .i64 y, .int .i64 z, .int .i64 t, .int .i64 m]) :: [(w.heap.size + 1, 29, #[.int .i64 0, .int .i64 0, .int .i64 0, .int .i64 0, .int .i64 0]), (w.heap.size, 29, #[.int .i64 a, .int .i64 b, .int .i64 c, .int .i64 d, .int .i64 k])]))
  case first =>
    go_region_held3 (fun w' => w'.cell? ⟨w.heap.size + 1, 0, none⟩ = some (.int .i64 0) ∧ w'.cell? ⟨w.heap.size + 1, 1, none⟩ = some (.int .i64 0) ∧ w'.cell? ⟨w.heap.size + 1, 2, none⟩ = some (.int .i64 0) ∧ w'.cell? ⟨w.heap.size + 1, 3, none⟩ = some (.int .i64 0) ∧ w'.cell? ⟨w.heap.size + 1, 4, none⟩ = some (.int .i64 0) ∧ w'.cell? ⟨w.heap.size, 0, none⟩ = some (.int .i64 a) ∧ w'.cell? ⟨w.heap.size, 1, none⟩ = some (.int .i64 b) ∧ w'.cell? ⟨w.heap.size, 2, none⟩ = some (.int .i64 c) ∧ w'.cell? ⟨w.heap.size, 3, none⟩ = some (.int .i64 d) ∧ w'.cell? ⟨w.heap.size, 4, none⟩ = some (.int .i64 k)) (first | (with_reducible exact ⟨c00, c01, c02, c03, c04, c10, c11, c12, c13, c14⟩) | go_keep) (first | (go_at_call 34; refine (HC.out _).mono ?_; rintro e w1 ⟨rfl, hb⟩; (first | (have T := T.call hb; (try have kz := kz.call hb)) | (have T := T.drew.call hb; (try have kz := kz.drew.call hb)) | (have kz := Blk.new_call hb; have n0 := Nat.ne_of_lt l0; have m0 := Nat.ne_of_gt l0; have n1 := Nat.ne_of_lt l1; have m1 := Nat.ne_of_gt l1; have kg := T.below.size; have KN := T.lts; have T := (T.alloc _).call hb) | (have kz := Blk.new_drew_call hb; have n0 := Nat.ne_of_lt l0; have m0 := Nat.ne_of_gt l0; have n1 := Nat.ne_of_lt l1; have m1 := Nat.ne_of_gt l1; have kg := T.below.size; have KN := T.lts; have T := (T.alloc _).drew.call hb)); obtain ⟨c00, c01, c02, c03, c04, -, -, -, -, -⟩ := T.head.five; obtain ⟨c10, c11, c12, c13, c14, -, -, -, -, -⟩ := T.tail.head.five; have l0 := T.head.lt; have l1 := T.tail.head.lt; (try obtain ⟨cz0, cz1, cz2, cz3, cz4, fz0, fz1, fz2, fz3, fz4⟩ := kz.five)) | (go_at_call 32; refine (HM.out _).mono ?_; rintro e w1 ⟨rfl, hb⟩; (first | (have T := T.call hb; (try have kz := kz.call hb)) | (have T := T.drew.call hb; (try have kz := kz.drew.call hb)) | (have kz := Blk.new_call hb; have n0 := Nat.ne_of_lt l0; have m0 := Nat.ne_of_gt l0; have n1 := Nat.ne_of_lt l1; have m1 := Nat.ne_of_gt l1; have kg := T.below.size; have KN := T.lts; have T := (T.alloc _).call hb) | (have kz := Blk.new_drew_call hb; have n0 := Nat.ne_of_lt l0; have m0 := Nat.ne_of_gt l0; have n1 := Nat.ne_of_lt l1; have m1 := Nat.ne_of_gt l1; have kg := T.below.size; have KN := T.lts; have T := (T.alloc _).drew.call hb)); obtain ⟨c00, c01, c02, c03, c04, -, -, -, -, -⟩ := T.head.five; obtain ⟨c10, c11, c12, c13, c14, -, -, -, -, -⟩ := T.tail.head.five; have l0 := T.head.lt; have l1 := T.tail.head.lt; (try obtain ⟨cz0, cz1, cz2, cz3, cz4, fz0, fz1, fz2, fz3, fz4⟩ := kz.five)))
    all_goals
      go_wp2_with fail
      go_meet
      first | (with_reducible exact ⟨_, rfl, rfl, T.push _ _⟩) | (with_reducible exact ⟨_, rfl, rfl, (T.add kz).put5 kg KN.out _ _ _ _ _⟩)
  case rest =>
    obtain ⟨g, rfl, rfl, T0⟩ := hcut
    clear T c00 c01 c02 c03 c04 c10 c11 c12 c13 c14 f00 f01 f02 f03 f04 l0 l1
    obtain ⟨C0, C1, C2, C3, C4, -, -, -, -, -⟩ := T0.head.five
    obtain ⟨R0, R1, R2, R3, R4, F0, F1, F2, F3, F4⟩ := T0.tail.head.five
    have hw := T0.below
    have L1 := T0.tail.head.lt
    clear T0
    go_wp2
    refine bodyPost_ret (v := .tuple #[.agg #[.int .i64 x, .int .i64 y, .int .i64 z, .int .i64 t, .int .i64 m], .bool ok]) (by simp [results, Try.results45, go_sem, *]) rfl (ret_mk ?_)
    repeat (first | (with_reducible exact Below.refl _ _) | (with_reducible assumption) | (with_reducible refine bl_alloc ?_ _) | (with_reducible refine bl_drew ?_) | (with_reducible refine bl_set ?_ (by simp <;> omega) _) | (with_reducible refine bl_call ?_ (by assumption)))
theorem i_Norm_some {a b c d k x y z t m : Int} (w : World) (h : mulD ⟨⟨a, b, c, d⟩, k⟩ ⟨⟨a, -d, -c, -b⟩, k⟩ = some ⟨⟨x, y, z, t⟩, m⟩) : Calls Try.prog 45 #[.agg #[.int .i64 a, .int .i64 b, .int .i64 c, .int .i64 d, .int .i64 k]] w (Ret (.tuple #[.agg #[.int .i64 x, .int .i64 y, .int .i64 z, .int .i64 t, .int .i64 m], .bool true]) w) := by
  cases h1 : okd ⟨⟨a, b, c, d⟩, k⟩
  · rw [show mulD ⟨⟨a, b, c, d⟩, k⟩ ⟨⟨a, -d, -c, -b⟩, k⟩ = none by simp [mulD, h1]] at h
    cases h
  · exact i_Norm_of w (fun W => i_ConjD_t W h1) (fun W => i_MulD_some W h)
theorem i_Norm_none {a b c d k : Int} (w : World) (h : mulD ⟨⟨a, b, c, d⟩, k⟩ ⟨⟨a, -d, -c, -b⟩, k⟩ = none) : Calls Try.prog 45 #[.agg #[.int .i64 a, .int .i64 b, .int .i64 c, .int .i64 d, .int .i64 k]] w (Ret (.tuple #[.agg #[.int .i64 0, .int .i64 0, .int .i64 0, .int .i64 0, .int .i64 0], .bool false]) w) := by
  cases h1 : okd ⟨⟨a, b, c, d⟩, k⟩
  · exact i_Norm_of w (fun W => i_ConjD_f W h1) (fun W => i_MulD_none W (by simp [mulD, h1]))
  · exact i_Norm_of w (fun W => i_ConjD_t W h1) (fun W => i_MulD_none W h)
set_option maxHeartbeats 1000000 in
theorem s_Norm_of {a b c d k p q r s l x y z t m : Int} {ok : Bool} (w : World) (hC : ∀ W, Calls Try.prog 70 #[.agg #[.int .i64 a, .int .i64 b, .int .i64 c, .int .i64 d, .int .i64 k]] W (Ret (.agg #[.int .i64 p, .int .i64 q, .int .i64 r, .int .i64 s, .int .i64 l]) W))
    (hM : ∀ W, Calls Try.prog 33 #[.agg #[.int .i64 a, .int .i64 b, .int .i64 c, .int .i64 d, .int .i64 k], .agg #[.int .i64 p, .int .i64 q, .int .i64 r, .int .i64 s, .int .i64 l]] W (Ret (.tuple #[.agg #[.int .i64 x, .int .i64 y, .int .i64 z, .int .i64 t, .int .i64 m], .bool ok]) W)) : Calls Try.prog 46 #[.agg #[.int .i64 a, .int .i64 b, .int .i64 c, .int .i64 d, .int .i64 k]] w (Ret (.tuple #[.agg #[.int .i64 x, .int .i64 y, .int .i64 z, .int .i64 t, .int .i64 m], .bool ok]) w) := by
  have HC := Lib.hid hC
  have HM := Lib.hid hM
  clear hC hM
  go_enter Try.func46, Try.ntmps46
  go_upto_region 1 with fail
  obtain ⟨W, hW⟩ : ∃ W, (w.alloc (.cells #[.int .i64 a, .int .i64 b, .int .i64 c, .int .i64 d, .int .i64 k] 29)).alloc (.cells #[.int .i64 0, .int .i64 0, .int .i64 0, .int .i64 0, .int .i64 0] 29) = W := ⟨_, rfl⟩
  have T : Own w W [(w.heap.size + 1, 29, #[.int .i64 0, .int .i64 0, .int .i64 0, .int .i64 0, .int .i64 0]), (w.heap.size, 29, #[.int .i64 a, .int .i64 b, .int .i64 c, .int .i64 d, .int .i64 k])] := by rw [← hW]; simpa using ((Own.start w).push 29 #[.int .i64 a, .int .i64 b, .int .i64 c, .int .i64 d, .int .i64 k]).push 29 #[.int .i64 0, .int .i64 0, .int .i64 0, .int .i64 0, .int .i64 0]
  rw [hW]
  clear hW
  obtain ⟨c00, c01, c02, c03, c04, f00, f01, f02, f03, f04⟩ := T.head.five
  obtain ⟨c10, c11, c12, c13, c14, -, -, -, -, -⟩ := T.tail.head.five
  have l0 := T.head.lt
  have l1 := T.tail.head.lt
  go_region_held3 (fun w' => w'.cell? ⟨w.heap.size, 0, none⟩ = some (.int .i64 a) ∧ w'.cell? ⟨w.heap.size, 1, none⟩ = some (.int .i64 b) ∧ w'.cell? ⟨w.heap.size, 2, none⟩ = some (.int .i64 c) ∧ w'.cell? ⟨w.heap.size, 3, none⟩ = some (.int .i64 d) ∧ w'.cell? ⟨w.heap.size, 4, none⟩ = some (.int .i64 k)) (first | (with_reducible exact ⟨c10, c11, c12, c13, c14⟩) | go_keep) (first | (go_at_call 70; refine (HC.out _).mono ?_; rintro e w1 ⟨rfl, hb⟩; (first | have T := T.call hb | have T := T.drew.call hb); obtain ⟨c00, c01, c02, c03, c04, f00, f01, f02, f03, f04⟩ := T.head.five; obtain ⟨c10, c11, c12, c13, c14, -, -, -, -, -⟩ := T.tail.head.five; have l0 := T.head.lt; have l1 := T.tail.head.lt) | (go_at_call 33; refine (HM.out _).mono ?_; rintro e w1 ⟨rfl, hb⟩; (first | have T := T.call hb | have T := T.drew.call hb); obtain ⟨c00, c01, c02, c03, c04, f00, f01, f02, f03, f04⟩ := T.head.five; obtain ⟨c10, c11, c12, c13, c14, -, -, -, -, -⟩ := T.tail.head.five; have l0 := T.head.lt; have l1 := T.tail.head.lt))
  all_goals
    have hw := T.below
    go_wp2
    refine bodyPost_ret (v := .tuple #[.agg #[.int .i64 x, .int .i64 y, .int .i64 z, .int .i64 t, .int .i64 m], .bool ok]) (by simp [results, Try.results46, go_sem, *]) rfl (ret_mk ?_)
    repeat (first | (with_reducible exact Below.refl _ _) | (with_reducible assumption) | (with_reducible refine bl_alloc ?_ _) | (with_reducible refine bl_drew ?_) | (with_reducible refine bl_set ?_ (by simp <;> omega) _) | (with_reducible refine bl_call ?_ (by assumption)))
theorem s_Norm_some {a b c d k x y z t m : Int} (w : World) (h : mulD ⟨⟨a, b, c, d⟩, k⟩ ⟨⟨a, -d, -c, -b⟩, k⟩ = some ⟨⟨x, y, z, t⟩, m⟩) : Calls Try.prog 46 #[.agg #[.int .i64 a, .int .i64 b, .int .i64 c, .int .i64 d, .int .i64 k]] w (Ret (.tuple #[.agg #[.int .i64 x, .int .i64 y, .int .i64 z, .int .i64 t, .int .i64 m], .bool true]) w) := by
  cases h1 : okd ⟨⟨a, b, c, d⟩, k⟩
  · rw [show mulD ⟨⟨a, b, c, d⟩, k⟩ ⟨⟨a, -d, -c, -b⟩, k⟩ = none by simp [mulD, h1]] at h
    cases h
  · exact s_Norm_of w (fun W => s_ConjD_t W h1) (fun W => s_MulD_some W h)
theorem s_Norm_none {a b c d k : Int} (w : World) (h : mulD ⟨⟨a, b, c, d⟩, k⟩ ⟨⟨a, -d, -c, -b⟩, k⟩ = none) : Calls Try.prog 46 #[.agg #[.int .i64 a, .int .i64 b, .int .i64 c, .int .i64 d, .int .i64 k]] w (Ret (.tuple #[.agg #[.int .i64 0, .int .i64 0, .int .i64 0, .int .i64 0, .int .i64 0], .bool false]) w) := by
  cases h1 : okd ⟨⟨a, b, c, d⟩, k⟩
  · exact s_Norm_of w (fun W => s_ConjD_f W h1) (fun W => s_MulD_none W (by simp [mulD, h1]))
  · exact s_Norm_of w (fun W => s_ConjD_t W h1) (fun W => s_MulD_none W h)
end Go.Proofs.Ytpkbmdlamcgiiaa
