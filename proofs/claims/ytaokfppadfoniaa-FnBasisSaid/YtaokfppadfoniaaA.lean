/- Contracts: sums and products in Z[omega]. -/
import Derived.Test.YtaokfppadfoniaaZ2
import Derived.Test.YtaokfppadfoniaaPure2
namespace Go.Proofs.Ytaokfppadfoniaa
open Go.RowKit

set_option maxHeartbeats 400000 in
theorem i_chk_t {a b c d : Int} (w : World) (h : okz ⟨a, b, c, d⟩ = true) : Calls Try.prog 76 #[.agg #[.int .i64 a, .int .i64 b, .int .i64 c, .int .i64 d]] w (Ret (.tuple #[.agg #[.int .i64 a, .int .i64 b, .int .i64 c, .int .i64 d], .bool true]) w) := by
  go_enter Try.func76, Try.ntmps76
  go_wp2_with fail
  refine (i_valid_t _ h).mono ?_
  rintro e w1 ⟨rfl, hb1⟩
  obtain ⟨hc1, hf1⟩ := bcell hb1
  have hz1 := hb1.size
  (try simp at hz1)
  have l1w0 : w.heap.size < w1.heap.size := by omega
  have m1w0 : w.heap.size ≤ w1.heap.size := by omega
  have x1w0 : ¬ w.heap.size = w1.heap.size := by omega
  have y1w0 : ¬ w1.heap.size = w.heap.size := by omega
  have l1w1 : w.heap.size + 1 < w1.heap.size := by omega
  have m1w1 : w.heap.size + 1 ≤ w1.heap.size := by omega
  have x1w1 : ¬ w.heap.size + 1 = w1.heap.size := by omega
  have y1w1 : ¬ w1.heap.size = w.heap.size + 1 := by omega
  go_wp2
  refine bodyPost_ret (v := .tuple #[.agg #[.int .i64 a, .int .i64 b, .int .i64 c, .int .i64 d], .bool true]) (by simp [results, Try.results76, go_sem, *]) rfl (ret_mk ?_)
  repeat (first | (with_reducible exact Below.refl _ _) | (with_reducible assumption) | (with_reducible refine bl_alloc ?_ _) | (with_reducible refine bl_drew ?_) | (with_reducible refine bl_set ?_ (by simp <;> omega) _) | (with_reducible refine bl_call ?_ (by assumption)))
set_option maxHeartbeats 400000 in
theorem i_chk_f {a b c d : Int} (w : World) (h : okz ⟨a, b, c, d⟩ = false) : Calls Try.prog 76 #[.agg #[.int .i64 a, .int .i64 b, .int .i64 c, .int .i64 d]] w (Ret (.tuple #[.agg #[.int .i64 0, .int .i64 0, .int .i64 0, .int .i64 0], .bool false]) w) := by
  go_enter Try.func76, Try.ntmps76
  go_wp2_with fail
  refine (i_valid_f _ h).mono ?_
  rintro e w1 ⟨rfl, hb1⟩
  obtain ⟨hc1, hf1⟩ := bcell hb1
  have hz1 := hb1.size
  (try simp at hz1)
  have l1w0 : w.heap.size < w1.heap.size := by omega
  have m1w0 : w.heap.size ≤ w1.heap.size := by omega
  have x1w0 : ¬ w.heap.size = w1.heap.size := by omega
  have y1w0 : ¬ w1.heap.size = w.heap.size := by omega
  have l1w1 : w.heap.size + 1 < w1.heap.size := by omega
  have m1w1 : w.heap.size + 1 ≤ w1.heap.size := by omega
  have x1w1 : ¬ w.heap.size + 1 = w1.heap.size := by omega
  have y1w1 : ¬ w1.heap.size = w.heap.size + 1 := by omega
  go_wp2
  refine bodyPost_ret (v := .tuple #[.agg #[.int .i64 0, .int .i64 0, .int .i64 0, .int .i64 0], .bool false]) (by simp [results, Try.results76, go_sem, *]) rfl (ret_mk ?_)
  repeat (first | (with_reducible exact Below.refl _ _) | (with_reducible assumption) | (with_reducible refine bl_alloc ?_ _) | (with_reducible refine bl_drew ?_) | (with_reducible refine bl_set ?_ (by simp <;> omega) _) | (with_reducible refine bl_call ?_ (by assumption)))
set_option maxHeartbeats 4000000 in
theorem i_AddZ_some {a b c d p q r s x y z t : Int} (w : World) (h : addZ ⟨a, b, c, d⟩ ⟨p, q, r, s⟩ = some ⟨x, y, z, t⟩) : Calls Try.prog 107 #[.agg #[.int .i64 a, .int .i64 b, .int .i64 c, .int .i64 d], .agg #[.int .i64 p, .int .i64 q, .int .i64 r, .int .i64 s]] w (Ret (.tuple #[.agg #[.int .i64 x, .int .i64 y, .int .i64 z, .int .i64 t], .bool true]) w) := by
  obtain ⟨h1, h2, h3, e1, e2, e3, e4⟩ := addZ_some h
  obtain ⟨A, B, C, D⟩ := okz_b h1
  obtain ⟨E, F, G, H⟩ := okz_b h2

  obtain ⟨a0, a1⟩ := A
  obtain ⟨b0, b1⟩ := B
  obtain ⟨c0, c1⟩ := C
  obtain ⟨d0, d1⟩ := D
  obtain ⟨p0, p1⟩ := E
  obtain ⟨q0, q1⟩ := F
  obtain ⟨r0, r1⟩ := G
  obtain ⟨s0, s1⟩ := H
  obtain ⟨⟨x0, x1⟩, ⟨y0, y1⟩, ⟨z0, z1⟩, ⟨t0, t1⟩⟩ := okz_b h3
  clear h
  go_enter Try.func107, Try.ntmps107
  go_wp2_with fail
  refine (i_valid_t _ h1).mono ?_
  rintro e w1 ⟨rfl, hb1⟩
  obtain ⟨hc1, hf1⟩ := bcell hb1
  have hz1 := hb1.size
  (try simp at hz1)
  have l1w0 : w.heap.size < w1.heap.size := by omega
  have m1w0 : w.heap.size ≤ w1.heap.size := by omega
  have x1w0 : ¬ w.heap.size = w1.heap.size := by omega
  have y1w0 : ¬ w1.heap.size = w.heap.size := by omega
  have l1w1 : w.heap.size + 1 < w1.heap.size := by omega
  have m1w1 : w.heap.size + 1 ≤ w1.heap.size := by omega
  have x1w1 : ¬ w.heap.size + 1 = w1.heap.size := by omega
  have y1w1 : ¬ w1.heap.size = w.heap.size + 1 := by omega
  have l1w2 : w.heap.size + 1 + 1 < w1.heap.size := by omega
  have m1w2 : w.heap.size + 1 + 1 ≤ w1.heap.size := by omega
  have x1w2 : ¬ w.heap.size + 1 + 1 = w1.heap.size := by omega
  have y1w2 : ¬ w1.heap.size = w.heap.size + 1 + 1 := by omega
  go_wp2_with fail
  refine (i_valid_t _ h2).mono ?_
  rintro e w2 ⟨rfl, hb2⟩
  obtain ⟨hc2, hf2⟩ := bcell hb2
  have hz2 := hb2.size
  (try simp at hz2)
  have l2w0 : w.heap.size < w2.heap.size := by omega
  have m2w0 : w.heap.size ≤ w2.heap.size := by omega
  have x2w0 : ¬ w.heap.size = w2.heap.size := by omega
  have y2w0 : ¬ w2.heap.size = w.heap.size := by omega
  have l2w1 : w.heap.size + 1 < w2.heap.size := by omega
  have m2w1 : w.heap.size + 1 ≤ w2.heap.size := by omega
  have x2w1 : ¬ w.heap.size + 1 = w2.heap.size := by omega
  have y2w1 : ¬ w2.heap.size = w.heap.size + 1 := by omega
  have l2w2 : w.heap.size + 1 + 1 < w2.heap.size := by omega
  have m2w2 : w.heap.size + 1 + 1 ≤ w2.heap.size := by omega
  have x2w2 : ¬ w.heap.size + 1 + 1 = w2.heap.size := by omega
  have y2w2 : ¬ w2.heap.size = w.heap.size + 1 + 1 := by omega
  go_wp2_with fail
  refine (i_chk_t _ h3).mono ?_
  rintro e w3 ⟨rfl, hb3⟩
  obtain ⟨hc3, hf3⟩ := bcell hb3
  have hz3 := hb3.size
  (try simp at hz3)
  have l3w0 : w.heap.size < w3.heap.size := by omega
  have m3w0 : w.heap.size ≤ w3.heap.size := by omega
  have x3w0 : ¬ w.heap.size = w3.heap.size := by omega
  have y3w0 : ¬ w3.heap.size = w.heap.size := by omega
  have l3w1 : w.heap.size + 1 < w3.heap.size := by omega
  have m3w1 : w.heap.size + 1 ≤ w3.heap.size := by omega
  have x3w1 : ¬ w.heap.size + 1 = w3.heap.size := by omega
  have y3w1 : ¬ w3.heap.size = w.heap.size + 1 := by omega
  have l3w2 : w.heap.size + 1 + 1 < w3.heap.size := by omega
  have m3w2 : w.heap.size + 1 + 1 ≤ w3.heap.size := by omega
  have x3w2 : ¬ w.heap.size + 1 + 1 = w3.heap.size := by omega
  have y3w2 : ¬ w3.heap.size = w.heap.size + 1 + 1 := by omega
  go_wp2
  refine bodyPost_ret (v := .tuple #[.agg #[.int .i64 x, .int .i64 y, .int .i64 z, .int .i64 t], .bool true]) (by simp [results, Try.results107, go_sem, *]) rfl (ret_mk ?_)
  repeat (first | (with_reducible exact Below.refl _ _) | (with_reducible assumption) | (with_reducible refine bl_alloc ?_ _) | (with_reducible refine bl_drew ?_) | (with_reducible refine bl_set ?_ (by simp <;> omega) _) | (with_reducible refine bl_call ?_ (by assumption)))
set_option maxHeartbeats 4000000 in
theorem i_AddZ_none {a b c d p q r s : Int} (w : World) (h : addZ ⟨a, b, c, d⟩ ⟨p, q, r, s⟩ = none) : Calls Try.prog 107 #[.agg #[.int .i64 a, .int .i64 b, .int .i64 c, .int .i64 d], .agg #[.int .i64 p, .int .i64 q, .int .i64 r, .int .i64 s]] w (Ret (.tuple #[.agg #[.int .i64 0, .int .i64 0, .int .i64 0, .int .i64 0], .bool false]) w) := by
  rcases addZ_none h with h1 | ⟨h1, h2⟩ | ⟨h1, h2, h3⟩
  · clear h
    go_enter Try.func107, Try.ntmps107
    go_wp2_with fail
    refine (i_valid_f _ h1).mono ?_
    rintro e w1 ⟨rfl, hb1⟩
    obtain ⟨hc1, hf1⟩ := bcell hb1
    have hz1 := hb1.size
    (try simp at hz1)
    have l1w0 : w.heap.size < w1.heap.size := by omega
    have m1w0 : w.heap.size ≤ w1.heap.size := by omega
    have x1w0 : ¬ w.heap.size = w1.heap.size := by omega
    have y1w0 : ¬ w1.heap.size = w.heap.size := by omega
    have l1w1 : w.heap.size + 1 < w1.heap.size := by omega
    have m1w1 : w.heap.size + 1 ≤ w1.heap.size := by omega
    have x1w1 : ¬ w.heap.size + 1 = w1.heap.size := by omega
    have y1w1 : ¬ w1.heap.size = w.heap.size + 1 := by omega
    have l1w2 : w.heap.size + 1 + 1 < w1.heap.size := by omega
    have m1w2 : w.heap.size + 1 + 1 ≤ w1.heap.size := by omega
    have x1w2 : ¬ w.heap.size + 1 + 1 = w1.heap.size := by omega
    have y1w2 : ¬ w1.heap.size = w.heap.size + 1 + 1 := by omega
    go_wp2
    refine bodyPost_ret (v := .tuple #[.agg #[.int .i64 0, .int .i64 0, .int .i64 0, .int .i64 0], .bool false]) (by simp [results, Try.results107, go_sem, *]) rfl (ret_mk ?_)
    repeat (first | (with_reducible exact Below.refl _ _) | (with_reducible assumption) | (with_reducible refine bl_alloc ?_ _) | (with_reducible refine bl_drew ?_) | (with_reducible refine bl_set ?_ (by simp <;> omega) _) | (with_reducible refine bl_call ?_ (by assumption)))
  · clear h
    go_enter Try.func107, Try.ntmps107
    go_wp2_with fail
    refine (i_valid_t _ h1).mono ?_
    rintro e w1 ⟨rfl, hb1⟩
    obtain ⟨hc1, hf1⟩ := bcell hb1
    have hz1 := hb1.size
    (try simp at hz1)
    have l1w0 : w.heap.size < w1.heap.size := by omega
    have m1w0 : w.heap.size ≤ w1.heap.size := by omega
    have x1w0 : ¬ w.heap.size = w1.heap.size := by omega
    have y1w0 : ¬ w1.heap.size = w.heap.size := by omega
    have l1w1 : w.heap.size + 1 < w1.heap.size := by omega
    have m1w1 : w.heap.size + 1 ≤ w1.heap.size := by omega
    have x1w1 : ¬ w.heap.size + 1 = w1.heap.size := by omega
    have y1w1 : ¬ w1.heap.size = w.heap.size + 1 := by omega
    have l1w2 : w.heap.size + 1 + 1 < w1.heap.size := by omega
    have m1w2 : w.heap.size + 1 + 1 ≤ w1.heap.size := by omega
    have x1w2 : ¬ w.heap.size + 1 + 1 = w1.heap.size := by omega
    have y1w2 : ¬ w1.heap.size = w.heap.size + 1 + 1 := by omega
    go_wp2_with fail
    refine (i_valid_f _ h2).mono ?_
    rintro e w2 ⟨rfl, hb2⟩
    obtain ⟨hc2, hf2⟩ := bcell hb2
    have hz2 := hb2.size
    (try simp at hz2)
    have l2w0 : w.heap.size < w2.heap.size := by omega
    have m2w0 : w.heap.size ≤ w2.heap.size := by omega
    have x2w0 : ¬ w.heap.size = w2.heap.size := by omega
    have y2w0 : ¬ w2.heap.size = w.heap.size := by omega
    have l2w1 : w.heap.size + 1 < w2.heap.size := by omega
    have m2w1 : w.heap.size + 1 ≤ w2.heap.size := by omega
    have x2w1 : ¬ w.heap.size + 1 = w2.heap.size := by omega
    have y2w1 : ¬ w2.heap.size = w.heap.size + 1 := by omega
    have l2w2 : w.heap.size + 1 + 1 < w2.heap.size := by omega
    have m2w2 : w.heap.size + 1 + 1 ≤ w2.heap.size := by omega
    have x2w2 : ¬ w.heap.size + 1 + 1 = w2.heap.size := by omega
    have y2w2 : ¬ w2.heap.size = w.heap.size + 1 + 1 := by omega
    go_wp2
    refine bodyPost_ret (v := .tuple #[.agg #[.int .i64 0, .int .i64 0, .int .i64 0, .int .i64 0], .bool false]) (by simp [results, Try.results107, go_sem, *]) rfl (ret_mk ?_)
    repeat (first | (with_reducible exact Below.refl _ _) | (with_reducible assumption) | (with_reducible refine bl_alloc ?_ _) | (with_reducible refine bl_drew ?_) | (with_reducible refine bl_set ?_ (by simp <;> omega) _) | (with_reducible refine bl_call ?_ (by assumption)))
  · obtain ⟨A, B, C, D⟩ := okz_b h1
    obtain ⟨E, F, G, H⟩ := okz_b h2

    obtain ⟨a0, a1⟩ := A
    obtain ⟨b0, b1⟩ := B
    obtain ⟨c0, c1⟩ := C
    obtain ⟨d0, d1⟩ := D
    obtain ⟨p0, p1⟩ := E
    obtain ⟨q0, q1⟩ := F
    obtain ⟨r0, r1⟩ := G
    obtain ⟨s0, s1⟩ := H
    clear h
    go_enter Try.func107, Try.ntmps107
    go_wp2_with fail
    refine (i_valid_t _ h1).mono ?_
    rintro e w1 ⟨rfl, hb1⟩
    obtain ⟨hc1, hf1⟩ := bcell hb1
    have hz1 := hb1.size
    (try simp at hz1)
    have l1w0 : w.heap.size < w1.heap.size := by omega
    have m1w0 : w.heap.size ≤ w1.heap.size := by omega
    have x1w0 : ¬ w.heap.size = w1.heap.size := by omega
    have y1w0 : ¬ w1.heap.size = w.heap.size := by omega
    have l1w1 : w.heap.size + 1 < w1.heap.size := by omega
    have m1w1 : w.heap.size + 1 ≤ w1.heap.size := by omega
    have x1w1 : ¬ w.heap.size + 1 = w1.heap.size := by omega
    have y1w1 : ¬ w1.heap.size = w.heap.size + 1 := by omega
    have l1w2 : w.heap.size + 1 + 1 < w1.heap.size := by omega
    have m1w2 : w.heap.size + 1 + 1 ≤ w1.heap.size := by omega
    have x1w2 : ¬ w.heap.size + 1 + 1 = w1.heap.size := by omega
    have y1w2 : ¬ w1.heap.size = w.heap.size + 1 + 1 := by omega
    go_wp2_with fail
    refine (i_valid_t _ h2).mono ?_
    rintro e w2 ⟨rfl, hb2⟩
    obtain ⟨hc2, hf2⟩ := bcell hb2
    have hz2 := hb2.size
    (try simp at hz2)
    have l2w0 : w.heap.size < w2.heap.size := by omega
    have m2w0 : w.heap.size ≤ w2.heap.size := by omega
    have x2w0 : ¬ w.heap.size = w2.heap.size := by omega
    have y2w0 : ¬ w2.heap.size = w.heap.size := by omega
    have l2w1 : w.heap.size + 1 < w2.heap.size := by omega
    have m2w1 : w.heap.size + 1 ≤ w2.heap.size := by omega
    have x2w1 : ¬ w.heap.size + 1 = w2.heap.size := by omega
    have y2w1 : ¬ w2.heap.size = w.heap.size + 1 := by omega
    have l2w2 : w.heap.size + 1 + 1 < w2.heap.size := by omega
    have m2w2 : w.heap.size + 1 + 1 ≤ w2.heap.size := by omega
    have x2w2 : ¬ w.heap.size + 1 + 1 = w2.heap.size := by omega
    have y2w2 : ¬ w2.heap.size = w.heap.size + 1 + 1 := by omega
    go_wp2_with fail
    refine (i_chk_f _ h3).mono ?_
    rintro e w3 ⟨rfl, hb3⟩
    obtain ⟨hc3, hf3⟩ := bcell hb3
    have hz3 := hb3.size
    (try simp at hz3)
    have l3w0 : w.heap.size < w3.heap.size := by omega
    have m3w0 : w.heap.size ≤ w3.heap.size := by omega
    have x3w0 : ¬ w.heap.size = w3.heap.size := by omega
    have y3w0 : ¬ w3.heap.size = w.heap.size := by omega
    have l3w1 : w.heap.size + 1 < w3.heap.size := by omega
    have m3w1 : w.heap.size + 1 ≤ w3.heap.size := by omega
    have x3w1 : ¬ w.heap.size + 1 = w3.heap.size := by omega
    have y3w1 : ¬ w3.heap.size = w.heap.size + 1 := by omega
    have l3w2 : w.heap.size + 1 + 1 < w3.heap.size := by omega
    have m3w2 : w.heap.size + 1 + 1 ≤ w3.heap.size := by omega
    have x3w2 : ¬ w.heap.size + 1 + 1 = w3.heap.size := by omega
    have y3w2 : ¬ w3.heap.size = w.heap.size + 1 + 1 := by omega
    go_wp2
    refine bodyPost_ret (v := .tuple #[.agg #[.int .i64 0, .int .i64 0, .int .i64 0, .int .i64 0], .bool false]) (by simp [results, Try.results107, go_sem, *]) rfl (ret_mk ?_)
    repeat (first | (with_reducible exact Below.refl _ _) | (with_reducible assumption) | (with_reducible refine bl_alloc ?_ _) | (with_reducible refine bl_drew ?_) | (with_reducible refine bl_set ?_ (by simp <;> omega) _) | (with_reducible refine bl_call ?_ (by assumption)))
set_option maxHeartbeats 4000000 in
theorem i_MulZ_some {a b c d p q r s x y z t : Int} (w : World) (h : mulZ ⟨a, b, c, d⟩ ⟨p, q, r, s⟩ = some ⟨x, y, z, t⟩) : Calls Try.prog 18 #[.agg #[.int .i64 a, .int .i64 b, .int .i64 c, .int .i64 d], .agg #[.int .i64 p, .int .i64 q, .int .i64 r, .int .i64 s]] w (Ret (.tuple #[.agg #[.int .i64 x, .int .i64 y, .int .i64 z, .int .i64 t], .bool true]) w) := by
  obtain ⟨h1, h2, h3, e1, e2, e3, e4⟩ := mulZ_some h
  obtain ⟨A, B, C, D⟩ := okz_b h1
  obtain ⟨E, F, G, H⟩ := okz_b h2
  obtain ⟨lap, uap⟩ := mul_bd A E
  obtain ⟨laq, uaq⟩ := mul_bd A F
  obtain ⟨lar, uar⟩ := mul_bd A G
  obtain ⟨las, uas⟩ := mul_bd A H
  obtain ⟨lbp, ubp⟩ := mul_bd B E
  obtain ⟨lbq, ubq⟩ := mul_bd B F
  obtain ⟨lbr, ubr⟩ := mul_bd B G
  obtain ⟨lbs, ubs⟩ := mul_bd B H
  obtain ⟨lcp, ucp⟩ := mul_bd C E
  obtain ⟨lcq, ucq⟩ := mul_bd C F
  obtain ⟨lcr, ucr⟩ := mul_bd C G
  obtain ⟨lcs, ucs⟩ := mul_bd C H
  obtain ⟨ldp, udp⟩ := mul_bd D E
  obtain ⟨ldq, udq⟩ := mul_bd D F
  obtain ⟨ldr, udr⟩ := mul_bd D G
  obtain ⟨lds, uds⟩ := mul_bd D H
  obtain ⟨a0, a1⟩ := A
  obtain ⟨b0, b1⟩ := B
  obtain ⟨c0, c1⟩ := C
  obtain ⟨d0, d1⟩ := D
  obtain ⟨p0, p1⟩ := E
  obtain ⟨q0, q1⟩ := F
  obtain ⟨r0, r1⟩ := G
  obtain ⟨s0, s1⟩ := H
  obtain ⟨⟨x0, x1⟩, ⟨y0, y1⟩, ⟨z0, z1⟩, ⟨t0, t1⟩⟩ := okz_b h3
  clear h
  go_enter Try.func18, Try.ntmps18
  go_wp2_with fail
  refine (i_valid_t _ h1).mono ?_
  rintro e w1 ⟨rfl, hb1⟩
  obtain ⟨hc1, hf1⟩ := bcell hb1
  have hz1 := hb1.size
  (try simp at hz1)
  have l1w0 : w.heap.size < w1.heap.size := by omega
  have m1w0 : w.heap.size ≤ w1.heap.size := by omega
  have x1w0 : ¬ w.heap.size = w1.heap.size := by omega
  have y1w0 : ¬ w1.heap.size = w.heap.size := by omega
  have l1w1 : w.heap.size + 1 < w1.heap.size := by omega
  have m1w1 : w.heap.size + 1 ≤ w1.heap.size := by omega
  have x1w1 : ¬ w.heap.size + 1 = w1.heap.size := by omega
  have y1w1 : ¬ w1.heap.size = w.heap.size + 1 := by omega
  have l1w2 : w.heap.size + 1 + 1 < w1.heap.size := by omega
  have m1w2 : w.heap.size + 1 + 1 ≤ w1.heap.size := by omega
  have x1w2 : ¬ w.heap.size + 1 + 1 = w1.heap.size := by omega
  have y1w2 : ¬ w1.heap.size = w.heap.size + 1 + 1 := by omega
  go_wp2_with fail
  refine (i_valid_t _ h2).mono ?_
  rintro e w2 ⟨rfl, hb2⟩
  obtain ⟨hc2, hf2⟩ := bcell hb2
  have hz2 := hb2.size
  (try simp at hz2)
  have l2w0 : w.heap.size < w2.heap.size := by omega
  have m2w0 : w.heap.size ≤ w2.heap.size := by omega
  have x2w0 : ¬ w.heap.size = w2.heap.size := by omega
  have y2w0 : ¬ w2.heap.size = w.heap.size := by omega
  have l2w1 : w.heap.size + 1 < w2.heap.size := by omega
  have m2w1 : w.heap.size + 1 ≤ w2.heap.size := by omega
  have x2w1 : ¬ w.heap.size + 1 = w2.heap.size := by omega
  have y2w1 : ¬ w2.heap.size = w.heap.size + 1 := by omega
  have l2w2 : w.heap.size + 1 + 1 < w2.heap.size := by omega
  have m2w2 : w.heap.size + 1 + 1 ≤ w2.heap.size := by omega
  have x2w2 : ¬ w.heap.size + 1 + 1 = w2.heap.size := by omega
  have y2w2 : ¬ w2.heap.size = w.heap.size + 1 + 1 := by omega
  go_wp2_with fail
  refine (i_chk_t _ h3).mono ?_
  rintro e w3 ⟨rfl, hb3⟩
  obtain ⟨hc3, hf3⟩ := bcell hb3
  have hz3 := hb3.size
  (try simp at hz3)
  have l3w0 : w.heap.size < w3.heap.size := by omega
  have m3w0 : w.heap.size ≤ w3.heap.size := by omega
  have x3w0 : ¬ w.heap.size = w3.heap.size := by omega
  have y3w0 : ¬ w3.heap.size = w.heap.size := by omega
  have l3w1 : w.heap.size + 1 < w3.heap.size := by omega
  have m3w1 : w.heap.size + 1 ≤ w3.heap.size := by omega
  have x3w1 : ¬ w.heap.size + 1 = w3.heap.size := by omega
  have y3w1 : ¬ w3.heap.size = w.heap.size + 1 := by omega
  have l3w2 : w.heap.size + 1 + 1 < w3.heap.size := by omega
  have m3w2 : w.heap.size + 1 + 1 ≤ w3.heap.size := by omega
  have x3w2 : ¬ w.heap.size + 1 + 1 = w3.heap.size := by omega
  have y3w2 : ¬ w3.heap.size = w.heap.size + 1 + 1 := by omega
  go_wp2
  refine bodyPost_ret (v := .tuple #[.agg #[.int .i64 x, .int .i64 y, .int .i64 z, .int .i64 t], .bool true]) (by simp [results, Try.results18, go_sem, *]) rfl (ret_mk ?_)
  repeat (first | (with_reducible exact Below.refl _ _) | (with_reducible assumption) | (with_reducible refine bl_alloc ?_ _) | (with_reducible refine bl_drew ?_) | (with_reducible refine bl_set ?_ (by simp <;> omega) _) | (with_reducible refine bl_call ?_ (by assumption)))
set_option maxHeartbeats 4000000 in
theorem i_MulZ_none {a b c d p q r s : Int} (w : World) (h : mulZ ⟨a, b, c, d⟩ ⟨p, q, r, s⟩ = none) : Calls Try.prog 18 #[.agg #[.int .i64 a, .int .i64 b, .int .i64 c, .int .i64 d], .agg #[.int .i64 p, .int .i64 q, .int .i64 r, .int .i64 s]] w (Ret (.tuple #[.agg #[.int .i64 0, .int .i64 0, .int .i64 0, .int .i64 0], .bool false]) w) := by
  rcases mulZ_none h with h1 | ⟨h1, h2⟩ | ⟨h1, h2, h3⟩
  · clear h
    go_enter Try.func18, Try.ntmps18
    go_wp2_with fail
    refine (i_valid_f _ h1).mono ?_
    rintro e w1 ⟨rfl, hb1⟩
    obtain ⟨hc1, hf1⟩ := bcell hb1
    have hz1 := hb1.size
    (try simp at hz1)
    have l1w0 : w.heap.size < w1.heap.size := by omega
    have m1w0 : w.heap.size ≤ w1.heap.size := by omega
    have x1w0 : ¬ w.heap.size = w1.heap.size := by omega
    have y1w0 : ¬ w1.heap.size = w.heap.size := by omega
    have l1w1 : w.heap.size + 1 < w1.heap.size := by omega
    have m1w1 : w.heap.size + 1 ≤ w1.heap.size := by omega
    have x1w1 : ¬ w.heap.size + 1 = w1.heap.size := by omega
    have y1w1 : ¬ w1.heap.size = w.heap.size + 1 := by omega
    have l1w2 : w.heap.size + 1 + 1 < w1.heap.size := by omega
    have m1w2 : w.heap.size + 1 + 1 ≤ w1.heap.size := by omega
    have x1w2 : ¬ w.heap.size + 1 + 1 = w1.heap.size := by omega
    have y1w2 : ¬ w1.heap.size = w.heap.size + 1 + 1 := by omega
    go_wp2
    refine bodyPost_ret (v := .tuple #[.agg #[.int .i64 0, .int .i64 0, .int .i64 0, .int .i64 0], .bool false]) (by simp [results, Try.results18, go_sem, *]) rfl (ret_mk ?_)
    repeat (first | (with_reducible exact Below.refl _ _) | (with_reducible assumption) | (with_reducible refine bl_alloc ?_ _) | (with_reducible refine bl_drew ?_) | (with_reducible refine bl_set ?_ (by simp <;> omega) _) | (with_reducible refine bl_call ?_ (by assumption)))
  · clear h
    go_enter Try.func18, Try.ntmps18
    go_wp2_with fail
    refine (i_valid_t _ h1).mono ?_
    rintro e w1 ⟨rfl, hb1⟩
    obtain ⟨hc1, hf1⟩ := bcell hb1
    have hz1 := hb1.size
    (try simp at hz1)
    have l1w0 : w.heap.size < w1.heap.size := by omega
    have m1w0 : w.heap.size ≤ w1.heap.size := by omega
    have x1w0 : ¬ w.heap.size = w1.heap.size := by omega
    have y1w0 : ¬ w1.heap.size = w.heap.size := by omega
    have l1w1 : w.heap.size + 1 < w1.heap.size := by omega
    have m1w1 : w.heap.size + 1 ≤ w1.heap.size := by omega
    have x1w1 : ¬ w.heap.size + 1 = w1.heap.size := by omega
    have y1w1 : ¬ w1.heap.size = w.heap.size + 1 := by omega
    have l1w2 : w.heap.size + 1 + 1 < w1.heap.size := by omega
    have m1w2 : w.heap.size + 1 + 1 ≤ w1.heap.size := by omega
    have x1w2 : ¬ w.heap.size + 1 + 1 = w1.heap.size := by omega
    have y1w2 : ¬ w1.heap.size = w.heap.size + 1 + 1 := by omega
    go_wp2_with fail
    refine (i_valid_f _ h2).mono ?_
    rintro e w2 ⟨rfl, hb2⟩
    obtain ⟨hc2, hf2⟩ := bcell hb2
    have hz2 := hb2.size
    (try simp at hz2)
    have l2w0 : w.heap.size < w2.heap.size := by omega
    have m2w0 : w.heap.size ≤ w2.heap.size := by omega
    have x2w0 : ¬ w.heap.size = w2.heap.size := by omega
    have y2w0 : ¬ w2.heap.size = w.heap.size := by omega
    have l2w1 : w.heap.size + 1 < w2.heap.size := by omega
    have m2w1 : w.heap.size + 1 ≤ w2.heap.size := by omega
    have x2w1 : ¬ w.heap.size + 1 = w2.heap.size := by omega
    have y2w1 : ¬ w2.heap.size = w.heap.size + 1 := by omega
    have l2w2 : w.heap.size + 1 + 1 < w2.heap.size := by omega
    have m2w2 : w.heap.size + 1 + 1 ≤ w2.heap.size := by omega
    have x2w2 : ¬ w.heap.size + 1 + 1 = w2.heap.size := by omega
    have y2w2 : ¬ w2.heap.size = w.heap.size + 1 + 1 := by omega
    go_wp2
    refine bodyPost_ret (v := .tuple #[.agg #[.int .i64 0, .int .i64 0, .int .i64 0, .int .i64 0], .bool false]) (by simp [results, Try.results18, go_sem, *]) rfl (ret_mk ?_)
    repeat (first | (with_reducible exact Below.refl _ _) | (with_reducible assumption) | (with_reducible refine bl_alloc ?_ _) | (with_reducible refine bl_drew ?_) | (with_reducible refine bl_set ?_ (by simp <;> omega) _) | (with_reducible refine bl_call ?_ (by assumption)))
  · obtain ⟨A, B, C, D⟩ := okz_b h1
    obtain ⟨E, F, G, H⟩ := okz_b h2
    obtain ⟨lap, uap⟩ := mul_bd A E
    obtain ⟨laq, uaq⟩ := mul_bd A F
    obtain ⟨lar, uar⟩ := mul_bd A G
    obtain ⟨las, uas⟩ := mul_bd A H
    obtain ⟨lbp, ubp⟩ := mul_bd B E
    obtain ⟨lbq, ubq⟩ := mul_bd B F
    obtain ⟨lbr, ubr⟩ := mul_bd B G
    obtain ⟨lbs, ubs⟩ := mul_bd B H
    obtain ⟨lcp, ucp⟩ := mul_bd C E
    obtain ⟨lcq, ucq⟩ := mul_bd C F
    obtain ⟨lcr, ucr⟩ := mul_bd C G
    obtain ⟨lcs, ucs⟩ := mul_bd C H
    obtain ⟨ldp, udp⟩ := mul_bd D E
    obtain ⟨ldq, udq⟩ := mul_bd D F
    obtain ⟨ldr, udr⟩ := mul_bd D G
    obtain ⟨lds, uds⟩ := mul_bd D H
    obtain ⟨a0, a1⟩ := A
    obtain ⟨b0, b1⟩ := B
    obtain ⟨c0, c1⟩ := C
    obtain ⟨d0, d1⟩ := D
    obtain ⟨p0, p1⟩ := E
    obtain ⟨q0, q1⟩ := F
    obtain ⟨r0, r1⟩ := G
    obtain ⟨s0, s1⟩ := H
    clear h
    go_enter Try.func18, Try.ntmps18
    go_wp2_with fail
    refine (i_valid_t _ h1).mono ?_
    rintro e w1 ⟨rfl, hb1⟩
    obtain ⟨hc1, hf1⟩ := bcell hb1
    have hz1 := hb1.size
    (try simp at hz1)
    have l1w0 : w.heap.size < w1.heap.size := by omega
    have m1w0 : w.heap.size ≤ w1.heap.size := by omega
    have x1w0 : ¬ w.heap.size = w1.heap.size := by omega
    have y1w0 : ¬ w1.heap.size = w.heap.size := by omega
    have l1w1 : w.heap.size + 1 < w1.heap.size := by omega
    have m1w1 : w.heap.size + 1 ≤ w1.heap.size := by omega
    have x1w1 : ¬ w.heap.size + 1 = w1.heap.size := by omega
    have y1w1 : ¬ w1.heap.size = w.heap.size + 1 := by omega
    have l1w2 : w.heap.size + 1 + 1 < w1.heap.size := by omega
    have m1w2 : w.heap.size + 1 + 1 ≤ w1.heap.size := by omega
    have x1w2 : ¬ w.heap.size + 1 + 1 = w1.heap.size := by omega
    have y1w2 : ¬ w1.heap.size = w.heap.size + 1 + 1 := by omega
    go_wp2_with fail
    refine (i_valid_t _ h2).mono ?_
    rintro e w2 ⟨rfl, hb2⟩
    obtain ⟨hc2, hf2⟩ := bcell hb2
    have hz2 := hb2.size
    (try simp at hz2)
    have l2w0 : w.heap.size < w2.heap.size := by omega
    have m2w0 : w.heap.size ≤ w2.heap.size := by omega
    have x2w0 : ¬ w.heap.size = w2.heap.size := by omega
    have y2w0 : ¬ w2.heap.size = w.heap.size := by omega
    have l2w1 : w.heap.size + 1 < w2.heap.size := by omega
    have m2w1 : w.heap.size + 1 ≤ w2.heap.size := by omega
    have x2w1 : ¬ w.heap.size + 1 = w2.heap.size := by omega
    have y2w1 : ¬ w2.heap.size = w.heap.size + 1 := by omega
    have l2w2 : w.heap.size + 1 + 1 < w2.heap.size := by omega
    have m2w2 : w.heap.size + 1 + 1 ≤ w2.heap.size := by omega
    have x2w2 : ¬ w.heap.size + 1 + 1 = w2.heap.size := by omega
    have y2w2 : ¬ w2.heap.size = w.heap.size + 1 + 1 := by omega
    go_wp2_with fail
    refine (i_chk_f _ h3).mono ?_
    rintro e w3 ⟨rfl, hb3⟩
    obtain ⟨hc3, hf3⟩ := bcell hb3
    have hz3 := hb3.size
    (try simp at hz3)
    have l3w0 : w.heap.size < w3.heap.size := by omega
    have m3w0 : w.heap.size ≤ w3.heap.size := by omega
    have x3w0 : ¬ w.heap.size = w3.heap.size := by omega
    have y3w0 : ¬ w3.heap.size = w.heap.size := by omega
    have l3w1 : w.heap.size + 1 < w3.heap.size := by omega
    have m3w1 : w.heap.size + 1 ≤ w3.heap.size := by omega
    have x3w1 : ¬ w.heap.size + 1 = w3.heap.size := by omega
    have y3w1 : ¬ w3.heap.size = w.heap.size + 1 := by omega
    have l3w2 : w.heap.size + 1 + 1 < w3.heap.size := by omega
    have m3w2 : w.heap.size + 1 + 1 ≤ w3.heap.size := by omega
    have x3w2 : ¬ w.heap.size + 1 + 1 = w3.heap.size := by omega
    have y3w2 : ¬ w3.heap.size = w.heap.size + 1 + 1 := by omega
    go_wp2
    refine bodyPost_ret (v := .tuple #[.agg #[.int .i64 0, .int .i64 0, .int .i64 0, .int .i64 0], .bool false]) (by simp [results, Try.results18, go_sem, *]) rfl (ret_mk ?_)
    repeat (first | (with_reducible exact Below.refl _ _) | (with_reducible assumption) | (with_reducible refine bl_alloc ?_ _) | (with_reducible refine bl_drew ?_) | (with_reducible refine bl_set ?_ (by simp <;> omega) _) | (with_reducible refine bl_call ?_ (by assumption)))
set_option maxHeartbeats 400000 in
theorem s_chk_t {a b c d : Int} (w : World) (h : okz ⟨a, b, c, d⟩ = true) : Calls Try.prog 109 #[.agg #[.int .i64 a, .int .i64 b, .int .i64 c, .int .i64 d]] w (Ret (.tuple #[.agg #[.int .i64 a, .int .i64 b, .int .i64 c, .int .i64 d], .bool true]) w) := by
  go_enter Try.func109, Try.ntmps109
  go_wp2_with fail
  refine (s_valid_t _ h).mono ?_
  rintro e w1 ⟨rfl, hb1⟩
  obtain ⟨hc1, hf1⟩ := bcell hb1
  have hz1 := hb1.size
  (try simp at hz1)
  have l1w0 : w.heap.size < w1.heap.size := by omega
  have m1w0 : w.heap.size ≤ w1.heap.size := by omega
  have x1w0 : ¬ w.heap.size = w1.heap.size := by omega
  have y1w0 : ¬ w1.heap.size = w.heap.size := by omega
  have l1w1 : w.heap.size + 1 < w1.heap.size := by omega
  have m1w1 : w.heap.size + 1 ≤ w1.heap.size := by omega
  have x1w1 : ¬ w.heap.size + 1 = w1.heap.size := by omega
  have y1w1 : ¬ w1.heap.size = w.heap.size + 1 := by omega
  go_wp2
  refine bodyPost_ret (v := .tuple #[.agg #[.int .i64 a, .int .i64 b, .int .i64 c, .int .i64 d], .bool true]) (by simp [results, Try.results109, go_sem, *]) rfl (ret_mk ?_)
  repeat (first | (with_reducible exact Below.refl _ _) | (with_reducible assumption) | (with_reducible refine bl_alloc ?_ _) | (with_reducible refine bl_drew ?_) | (with_reducible refine bl_set ?_ (by simp <;> omega) _) | (with_reducible refine bl_call ?_ (by assumption)))
set_option maxHeartbeats 400000 in
theorem s_chk_f {a b c d : Int} (w : World) (h : okz ⟨a, b, c, d⟩ = false) : Calls Try.prog 109 #[.agg #[.int .i64 a, .int .i64 b, .int .i64 c, .int .i64 d]] w (Ret (.tuple #[.agg #[.int .i64 0, .int .i64 0, .int .i64 0, .int .i64 0], .bool false]) w) := by
  go_enter Try.func109, Try.ntmps109
  go_wp2_with fail
  refine (s_valid_f _ h).mono ?_
  rintro e w1 ⟨rfl, hb1⟩
  obtain ⟨hc1, hf1⟩ := bcell hb1
  have hz1 := hb1.size
  (try simp at hz1)
  have l1w0 : w.heap.size < w1.heap.size := by omega
  have m1w0 : w.heap.size ≤ w1.heap.size := by omega
  have x1w0 : ¬ w.heap.size = w1.heap.size := by omega
  have y1w0 : ¬ w1.heap.size = w.heap.size := by omega
  have l1w1 : w.heap.size + 1 < w1.heap.size := by omega
  have m1w1 : w.heap.size + 1 ≤ w1.heap.size := by omega
  have x1w1 : ¬ w.heap.size + 1 = w1.heap.size := by omega
  have y1w1 : ¬ w1.heap.size = w.heap.size + 1 := by omega
  go_wp2
  refine bodyPost_ret (v := .tuple #[.agg #[.int .i64 0, .int .i64 0, .int .i64 0, .int .i64 0], .bool false]) (by simp [results, Try.results109, go_sem, *]) rfl (ret_mk ?_)
  repeat (first | (with_reducible exact Below.refl _ _) | (with_reducible assumption) | (with_reducible refine bl_alloc ?_ _) | (with_reducible refine bl_drew ?_) | (with_reducible refine bl_set ?_ (by simp <;> omega) _) | (with_reducible refine bl_call ?_ (by assumption)))
set_option maxHeartbeats 4000000 in
theorem s_AddZ_some {a b c d p q r s x y z t : Int} (w : World) (h : addZ ⟨a, b, c, d⟩ ⟨p, q, r, s⟩ = some ⟨x, y, z, t⟩) : Calls Try.prog 105 #[.agg #[.int .i64 a, .int .i64 b, .int .i64 c, .int .i64 d], .agg #[.int .i64 p, .int .i64 q, .int .i64 r, .int .i64 s]] w (Ret (.tuple #[.agg #[.int .i64 x, .int .i64 y, .int .i64 z, .int .i64 t], .bool true]) w) := by
  obtain ⟨h1, h2, h3, e1, e2, e3, e4⟩ := addZ_some h
  obtain ⟨A, B, C, D⟩ := okz_b h1
  obtain ⟨E, F, G, H⟩ := okz_b h2

  obtain ⟨a0, a1⟩ := A
  obtain ⟨b0, b1⟩ := B
  obtain ⟨c0, c1⟩ := C
  obtain ⟨d0, d1⟩ := D
  obtain ⟨p0, p1⟩ := E
  obtain ⟨q0, q1⟩ := F
  obtain ⟨r0, r1⟩ := G
  obtain ⟨s0, s1⟩ := H
  obtain ⟨⟨x0, x1⟩, ⟨y0, y1⟩, ⟨z0, z1⟩, ⟨t0, t1⟩⟩ := okz_b h3
  clear h
  go_enter Try.func105, Try.ntmps105
  go_wp2_with fail
  refine (s_valid_t _ h1).mono ?_
  rintro e w1 ⟨rfl, hb1⟩
  obtain ⟨hc1, hf1⟩ := bcell hb1
  have hz1 := hb1.size
  (try simp at hz1)
  have l1w0 : w.heap.size < w1.heap.size := by omega
  have m1w0 : w.heap.size ≤ w1.heap.size := by omega
  have x1w0 : ¬ w.heap.size = w1.heap.size := by omega
  have y1w0 : ¬ w1.heap.size = w.heap.size := by omega
  have l1w1 : w.heap.size + 1 < w1.heap.size := by omega
  have m1w1 : w.heap.size + 1 ≤ w1.heap.size := by omega
  have x1w1 : ¬ w.heap.size + 1 = w1.heap.size := by omega
  have y1w1 : ¬ w1.heap.size = w.heap.size + 1 := by omega
  have l1w2 : w.heap.size + 1 + 1 < w1.heap.size := by omega
  have m1w2 : w.heap.size + 1 + 1 ≤ w1.heap.size := by omega
  have x1w2 : ¬ w.heap.size + 1 + 1 = w1.heap.size := by omega
  have y1w2 : ¬ w1.heap.size = w.heap.size + 1 + 1 := by omega
  go_wp2_with fail
  refine (s_valid_t _ h2).mono ?_
  rintro e w2 ⟨rfl, hb2⟩
  obtain ⟨hc2, hf2⟩ := bcell hb2
  have hz2 := hb2.size
  (try simp at hz2)
  have l2w0 : w.heap.size < w2.heap.size := by omega
  have m2w0 : w.heap.size ≤ w2.heap.size := by omega
  have x2w0 : ¬ w.heap.size = w2.heap.size := by omega
  have y2w0 : ¬ w2.heap.size = w.heap.size := by omega
  have l2w1 : w.heap.size + 1 < w2.heap.size := by omega
  have m2w1 : w.heap.size + 1 ≤ w2.heap.size := by omega
  have x2w1 : ¬ w.heap.size + 1 = w2.heap.size := by omega
  have y2w1 : ¬ w2.heap.size = w.heap.size + 1 := by omega
  have l2w2 : w.heap.size + 1 + 1 < w2.heap.size := by omega
  have m2w2 : w.heap.size + 1 + 1 ≤ w2.heap.size := by omega
  have x2w2 : ¬ w.heap.size + 1 + 1 = w2.heap.size := by omega
  have y2w2 : ¬ w2.heap.size = w.heap.size + 1 + 1 := by omega
  go_wp2_with fail
  refine (s_chk_t _ h3).mono ?_
  rintro e w3 ⟨rfl, hb3⟩
  obtain ⟨hc3, hf3⟩ := bcell hb3
  have hz3 := hb3.size
  (try simp at hz3)
  have l3w0 : w.heap.size < w3.heap.size := by omega
  have m3w0 : w.heap.size ≤ w3.heap.size := by omega
  have x3w0 : ¬ w.heap.size = w3.heap.size := by omega
  have y3w0 : ¬ w3.heap.size = w.heap.size := by omega
  have l3w1 : w.heap.size + 1 < w3.heap.size := by omega
  have m3w1 : w.heap.size + 1 ≤ w3.heap.size := by omega
  have x3w1 : ¬ w.heap.size + 1 = w3.heap.size := by omega
  have y3w1 : ¬ w3.heap.size = w.heap.size + 1 := by omega
  have l3w2 : w.heap.size + 1 + 1 < w3.heap.size := by omega
  have m3w2 : w.heap.size + 1 + 1 ≤ w3.heap.size := by omega
  have x3w2 : ¬ w.heap.size + 1 + 1 = w3.heap.size := by omega
  have y3w2 : ¬ w3.heap.size = w.heap.size + 1 + 1 := by omega
  go_wp2
  refine bodyPost_ret (v := .tuple #[.agg #[.int .i64 x, .int .i64 y, .int .i64 z, .int .i64 t], .bool true]) (by simp [results, Try.results105, go_sem, *]) rfl (ret_mk ?_)
  repeat (first | (with_reducible exact Below.refl _ _) | (with_reducible assumption) | (with_reducible refine bl_alloc ?_ _) | (with_reducible refine bl_drew ?_) | (with_reducible refine bl_set ?_ (by simp <;> omega) _) | (with_reducible refine bl_call ?_ (by assumption)))
set_option maxHeartbeats 4000000 in
theorem s_AddZ_none {a b c d p q r s : Int} (w : World) (h : addZ ⟨a, b, c, d⟩ ⟨p, q, r, s⟩ = none) : Calls Try.prog 105 #[.agg #[.int .i64 a, .int .i64 b, .int .i64 c, .int .i64 d], .agg #[.int .i64 p, .int .i64 q, .int .i64 r, .int .i64 s]] w (Ret (.tuple #[.agg #[.int .i64 0, .int .i64 0, .int .i64 0, .int .i64 0], .bool false]) w) := by
  rcases addZ_none h with h1 | ⟨h1, h2⟩ | ⟨h1, h2, h3⟩
  · clear h
    go_enter Try.func105, Try.ntmps105
    go_wp2_with fail
    refine (s_valid_f _ h1).mono ?_
    rintro e w1 ⟨rfl, hb1⟩
    obtain ⟨hc1, hf1⟩ := bcell hb1
    have hz1 := hb1.size
    (try simp at hz1)
    have l1w0 : w.heap.size < w1.heap.size := by omega
    have m1w0 : w.heap.size ≤ w1.heap.size := by omega
    have x1w0 : ¬ w.heap.size = w1.heap.size := by omega
    have y1w0 : ¬ w1.heap.size = w.heap.size := by omega
    have l1w1 : w.heap.size + 1 < w1.heap.size := by omega
    have m1w1 : w.heap.size + 1 ≤ w1.heap.size := by omega
    have x1w1 : ¬ w.heap.size + 1 = w1.heap.size := by omega
    have y1w1 : ¬ w1.heap.size = w.heap.size + 1 := by omega
    have l1w2 : w.heap.size + 1 + 1 < w1.heap.size := by omega
    have m1w2 : w.heap.size + 1 + 1 ≤ w1.heap.size := by omega
    have x1w2 : ¬ w.heap.size + 1 + 1 = w1.heap.size := by omega
    have y1w2 : ¬ w1.heap.size = w.heap.size + 1 + 1 := by omega
    go_wp2
    refine bodyPost_ret (v := .tuple #[.agg #[.int .i64 0, .int .i64 0, .int .i64 0, .int .i64 0], .bool false]) (by simp [results, Try.results105, go_sem, *]) rfl (ret_mk ?_)
    repeat (first | (with_reducible exact Below.refl _ _) | (with_reducible assumption) | (with_reducible refine bl_alloc ?_ _) | (with_reducible refine bl_drew ?_) | (with_reducible refine bl_set ?_ (by simp <;> omega) _) | (with_reducible refine bl_call ?_ (by assumption)))
  · clear h
    go_enter Try.func105, Try.ntmps105
    go_wp2_with fail
    refine (s_valid_t _ h1).mono ?_
    rintro e w1 ⟨rfl, hb1⟩
    obtain ⟨hc1, hf1⟩ := bcell hb1
    have hz1 := hb1.size
    (try simp at hz1)
    have l1w0 : w.heap.size < w1.heap.size := by omega
    have m1w0 : w.heap.size ≤ w1.heap.size := by omega
    have x1w0 : ¬ w.heap.size = w1.heap.size := by omega
    have y1w0 : ¬ w1.heap.size = w.heap.size := by omega
    have l1w1 : w.heap.size + 1 < w1.heap.size := by omega
    have m1w1 : w.heap.size + 1 ≤ w1.heap.size := by omega
    have x1w1 : ¬ w.heap.size + 1 = w1.heap.size := by omega
    have y1w1 : ¬ w1.heap.size = w.heap.size + 1 := by omega
    have l1w2 : w.heap.size + 1 + 1 < w1.heap.size := by omega
    have m1w2 : w.heap.size + 1 + 1 ≤ w1.heap.size := by omega
    have x1w2 : ¬ w.heap.size + 1 + 1 = w1.heap.size := by omega
    have y1w2 : ¬ w1.heap.size = w.heap.size + 1 + 1 := by omega
    go_wp2_with fail
    refine (s_valid_f _ h2).mono ?_
    rintro e w2 ⟨rfl, hb2⟩
    obtain ⟨hc2, hf2⟩ := bcell hb2
    have hz2 := hb2.size
    (try simp at hz2)
    have l2w0 : w.heap.size < w2.heap.size := by omega
    have m2w0 : w.heap.size ≤ w2.heap.size := by omega
    have x2w0 : ¬ w.heap.size = w2.heap.size := by omega
    have y2w0 : ¬ w2.heap.size = w.heap.size := by omega
    have l2w1 : w.heap.size + 1 < w2.heap.size := by omega
    have m2w1 : w.heap.size + 1 ≤ w2.heap.size := by omega
    have x2w1 : ¬ w.heap.size + 1 = w2.heap.size := by omega
    have y2w1 : ¬ w2.heap.size = w.heap.size + 1 := by omega
    have l2w2 : w.heap.size + 1 + 1 < w2.heap.size := by omega
    have m2w2 : w.heap.size + 1 + 1 ≤ w2.heap.size := by omega
    have x2w2 : ¬ w.heap.size + 1 + 1 = w2.heap.size := by omega
    have y2w2 : ¬ w2.heap.size = w.heap.size + 1 + 1 := by omega
    go_wp2
    refine bodyPost_ret (v := .tuple #[.agg #[.int .i64 0, .int .i64 0, .int .i64 0, .int .i64 0], .bool false]) (by simp [results, Try.results105, go_sem, *]) rfl (ret_mk ?_)
    repeat (first | (with_reducible exact Below.refl _ _) | (with_reducible assumption) | (with_reducible refine bl_alloc ?_ _) | (with_reducible refine bl_drew ?_) | (with_reducible refine bl_set ?_ (by simp <;> omega) _) | (with_reducible refine bl_call ?_ (by assumption)))
  · obtain ⟨A, B, C, D⟩ := okz_b h1
    obtain ⟨E, F, G, H⟩ := okz_b h2

    obtain ⟨a0, a1⟩ := A
    obtain ⟨b0, b1⟩ := B
    obtain ⟨c0, c1⟩ := C
    obtain ⟨d0, d1⟩ := D
    obtain ⟨p0, p1⟩ := E
    obtain ⟨q0, q1⟩ := F
    obtain ⟨r0, r1⟩ := G
    obtain ⟨s0, s1⟩ := H
    clear h
    go_enter Try.func105, Try.ntmps105
    go_wp2_with fail
    refine (s_valid_t _ h1).mono ?_
    rintro e w1 ⟨rfl, hb1⟩
    obtain ⟨hc1, hf1⟩ := bcell hb1
    have hz1 := hb1.size
    (try simp at hz1)
    have l1w0 : w.heap.size < w1.heap.size := by omega
    have m1w0 : w.heap.size ≤ w1.heap.size := by omega
    have x1w0 : ¬ w.heap.size = w1.heap.size := by omega
    have y1w0 : ¬ w1.heap.size = w.heap.size := by omega
    have l1w1 : w.heap.size + 1 < w1.heap.size := by omega
    have m1w1 : w.heap.size + 1 ≤ w1.heap.size := by omega
    have x1w1 : ¬ w.heap.size + 1 = w1.heap.size := by omega
    have y1w1 : ¬ w1.heap.size = w.heap.size + 1 := by omega
    have l1w2 : w.heap.size + 1 + 1 < w1.heap.size := by omega
    have m1w2 : w.heap.size + 1 + 1 ≤ w1.heap.size := by omega
    have x1w2 : ¬ w.heap.size + 1 + 1 = w1.heap.size := by omega
    have y1w2 : ¬ w1.heap.size = w.heap.size + 1 + 1 := by omega
    go_wp2_with fail
    refine (s_valid_t _ h2).mono ?_
    rintro e w2 ⟨rfl, hb2⟩
    obtain ⟨hc2, hf2⟩ := bcell hb2
    have hz2 := hb2.size
    (try simp at hz2)
    have l2w0 : w.heap.size < w2.heap.size := by omega
    have m2w0 : w.heap.size ≤ w2.heap.size := by omega
    have x2w0 : ¬ w.heap.size = w2.heap.size := by omega
    have y2w0 : ¬ w2.heap.size = w.heap.size := by omega
    have l2w1 : w.heap.size + 1 < w2.heap.size := by omega
    have m2w1 : w.heap.size + 1 ≤ w2.heap.size := by omega
    have x2w1 : ¬ w.heap.size + 1 = w2.heap.size := by omega
    have y2w1 : ¬ w2.heap.size = w.heap.size + 1 := by omega
    have l2w2 : w.heap.size + 1 + 1 < w2.heap.size := by omega
    have m2w2 : w.heap.size + 1 + 1 ≤ w2.heap.size := by omega
    have x2w2 : ¬ w.heap.size + 1 + 1 = w2.heap.size := by omega
    have y2w2 : ¬ w2.heap.size = w.heap.size + 1 + 1 := by omega
    go_wp2_with fail
    refine (s_chk_f _ h3).mono ?_
    rintro e w3 ⟨rfl, hb3⟩
    obtain ⟨hc3, hf3⟩ := bcell hb3
    have hz3 := hb3.size
    (try simp at hz3)
    have l3w0 : w.heap.size < w3.heap.size := by omega
    have m3w0 : w.heap.size ≤ w3.heap.size := by omega
    have x3w0 : ¬ w.heap.size = w3.heap.size := by omega
    have y3w0 : ¬ w3.heap.size = w.heap.size := by omega
    have l3w1 : w.heap.size + 1 < w3.heap.size := by omega
    have m3w1 : w.heap.size + 1 ≤ w3.heap.size := by omega
    have x3w1 : ¬ w.heap.size + 1 = w3.heap.size := by omega
    have y3w1 : ¬ w3.heap.size = w.heap.size + 1 := by omega
    have l3w2 : w.heap.size + 1 + 1 < w3.heap.size := by omega
    have m3w2 : w.heap.size + 1 + 1 ≤ w3.heap.size := by omega
    have x3w2 : ¬ w.heap.size + 1 + 1 = w3.heap.size := by omega
    have y3w2 : ¬ w3.heap.size = w.heap.size + 1 + 1 := by omega
    go_wp2
    refine bodyPost_ret (v := .tuple #[.agg #[.int .i64 0, .int .i64 0, .int .i64 0, .int .i64 0], .bool false]) (by simp [results, Try.results105, go_sem, *]) rfl (ret_mk ?_)
    repeat (first | (with_reducible exact Below.refl _ _) | (with_reducible assumption) | (with_reducible refine bl_alloc ?_ _) | (with_reducible refine bl_drew ?_) | (with_reducible refine bl_set ?_ (by simp <;> omega) _) | (with_reducible refine bl_call ?_ (by assumption)))
set_option maxHeartbeats 4000000 in
theorem s_MulZ_some {a b c d p q r s x y z t : Int} (w : World) (h : mulZ ⟨a, b, c, d⟩ ⟨p, q, r, s⟩ = some ⟨x, y, z, t⟩) : Calls Try.prog 99 #[.agg #[.int .i64 a, .int .i64 b, .int .i64 c, .int .i64 d], .agg #[.int .i64 p, .int .i64 q, .int .i64 r, .int .i64 s]] w (Ret (.tuple #[.agg #[.int .i64 x, .int .i64 y, .int .i64 z, .int .i64 t], .bool true]) w) := by
  obtain ⟨h1, h2, h3, e1, e2, e3, e4⟩ := mulZ_some h
  obtain ⟨A, B, C, D⟩ := okz_b h1
  obtain ⟨E, F, G, H⟩ := okz_b h2
  obtain ⟨lap, uap⟩ := mul_bd A E
  obtain ⟨laq, uaq⟩ := mul_bd A F
  obtain ⟨lar, uar⟩ := mul_bd A G
  obtain ⟨las, uas⟩ := mul_bd A H
  obtain ⟨lbp, ubp⟩ := mul_bd B E
  obtain ⟨lbq, ubq⟩ := mul_bd B F
  obtain ⟨lbr, ubr⟩ := mul_bd B G
  obtain ⟨lbs, ubs⟩ := mul_bd B H
  obtain ⟨lcp, ucp⟩ := mul_bd C E
  obtain ⟨lcq, ucq⟩ := mul_bd C F
  obtain ⟨lcr, ucr⟩ := mul_bd C G
  obtain ⟨lcs, ucs⟩ := mul_bd C H
  obtain ⟨ldp, udp⟩ := mul_bd D E
  obtain ⟨ldq, udq⟩ := mul_bd D F
  obtain ⟨ldr, udr⟩ := mul_bd D G
  obtain ⟨lds, uds⟩ := mul_bd D H
  obtain ⟨a0, a1⟩ := A
  obtain ⟨b0, b1⟩ := B
  obtain ⟨c0, c1⟩ := C
  obtain ⟨d0, d1⟩ := D
  obtain ⟨p0, p1⟩ := E
  obtain ⟨q0, q1⟩ := F
  obtain ⟨r0, r1⟩ := G
  obtain ⟨s0, s1⟩ := H
  obtain ⟨⟨x0, x1⟩, ⟨y0, y1⟩, ⟨z0, z1⟩, ⟨t0, t1⟩⟩ := okz_b h3
  clear h
  go_enter Try.func99, Try.ntmps99
  go_wp2_with fail
  refine (s_valid_t _ h1).mono ?_
  rintro e w1 ⟨rfl, hb1⟩
  obtain ⟨hc1, hf1⟩ := bcell hb1
  have hz1 := hb1.size
  (try simp at hz1)
  have l1w0 : w.heap.size < w1.heap.size := by omega
  have m1w0 : w.heap.size ≤ w1.heap.size := by omega
  have x1w0 : ¬ w.heap.size = w1.heap.size := by omega
  have y1w0 : ¬ w1.heap.size = w.heap.size := by omega
  have l1w1 : w.heap.size + 1 < w1.heap.size := by omega
  have m1w1 : w.heap.size + 1 ≤ w1.heap.size := by omega
  have x1w1 : ¬ w.heap.size + 1 = w1.heap.size := by omega
  have y1w1 : ¬ w1.heap.size = w.heap.size + 1 := by omega
  have l1w2 : w.heap.size + 1 + 1 < w1.heap.size := by omega
  have m1w2 : w.heap.size + 1 + 1 ≤ w1.heap.size := by omega
  have x1w2 : ¬ w.heap.size + 1 + 1 = w1.heap.size := by omega
  have y1w2 : ¬ w1.heap.size = w.heap.size + 1 + 1 := by omega
  go_wp2_with fail
  refine (s_valid_t _ h2).mono ?_
  rintro e w2 ⟨rfl, hb2⟩
  obtain ⟨hc2, hf2⟩ := bcell hb2
  have hz2 := hb2.size
  (try simp at hz2)
  have l2w0 : w.heap.size < w2.heap.size := by omega
  have m2w0 : w.heap.size ≤ w2.heap.size := by omega
  have x2w0 : ¬ w.heap.size = w2.heap.size := by omega
  have y2w0 : ¬ w2.heap.size = w.heap.size := by omega
  have l2w1 : w.heap.size + 1 < w2.heap.size := by omega
  have m2w1 : w.heap.size + 1 ≤ w2.heap.size := by omega
  have x2w1 : ¬ w.heap.size + 1 = w2.heap.size := by omega
  have y2w1 : ¬ w2.heap.size = w.heap.size + 1 := by omega
  have l2w2 : w.heap.size + 1 + 1 < w2.heap.size := by omega
  have m2w2 : w.heap.size + 1 + 1 ≤ w2.heap.size := by omega
  have x2w2 : ¬ w.heap.size + 1 + 1 = w2.heap.size := by omega
  have y2w2 : ¬ w2.heap.size = w.heap.size + 1 + 1 := by omega
  go_wp2_with fail
  refine (s_chk_t _ h3).mono ?_
  rintro e w3 ⟨rfl, hb3⟩
  obtain ⟨hc3, hf3⟩ := bcell hb3
  have hz3 := hb3.size
  (try simp at hz3)
  have l3w0 : w.heap.size < w3.heap.size := by omega
  have m3w0 : w.heap.size ≤ w3.heap.size := by omega
  have x3w0 : ¬ w.heap.size = w3.heap.size := by omega
  have y3w0 : ¬ w3.heap.size = w.heap.size := by omega
  have l3w1 : w.heap.size + 1 < w3.heap.size := by omega
  have m3w1 : w.heap.size + 1 ≤ w3.heap.size := by omega
  have x3w1 : ¬ w.heap.size + 1 = w3.heap.size := by omega
  have y3w1 : ¬ w3.heap.size = w.heap.size + 1 := by omega
  have l3w2 : w.heap.size + 1 + 1 < w3.heap.size := by omega
  have m3w2 : w.heap.size + 1 + 1 ≤ w3.heap.size := by omega
  have x3w2 : ¬ w.heap.size + 1 + 1 = w3.heap.size := by omega
  have y3w2 : ¬ w3.heap.size = w.heap.size + 1 + 1 := by omega
  go_wp2
  refine bodyPost_ret (v := .tuple #[.agg #[.int .i64 x, .int .i64 y, .int .i64 z, .int .i64 t], .bool true]) (by simp [results, Try.results99, go_sem, *]) rfl (ret_mk ?_)
  repeat (first | (with_reducible exact Below.refl _ _) | (with_reducible assumption) | (with_reducible refine bl_alloc ?_ _) | (with_reducible refine bl_drew ?_) | (with_reducible refine bl_set ?_ (by simp <;> omega) _) | (with_reducible refine bl_call ?_ (by assumption)))
set_option maxHeartbeats 4000000 in
theorem s_MulZ_none {a b c d p q r s : Int} (w : World) (h : mulZ ⟨a, b, c, d⟩ ⟨p, q, r, s⟩ = none) : Calls Try.prog 99 #[.agg #[.int .i64 a, .int .i64 b, .int .i64 c, .int .i64 d], .agg #[.int .i64 p, .int .i64 q, .int .i64 r, .int .i64 s]] w (Ret (.tuple #[.agg #[.int .i64 0, .int .i64 0, .int .i64 0, .int .i64 0], .bool false]) w) := by
  rcases mulZ_none h with h1 | ⟨h1, h2⟩ | ⟨h1, h2, h3⟩
  · clear h
    go_enter Try.func99, Try.ntmps99
    go_wp2_with fail
    refine (s_valid_f _ h1).mono ?_
    rintro e w1 ⟨rfl, hb1⟩
    obtain ⟨hc1, hf1⟩ := bcell hb1
    have hz1 := hb1.size
    (try simp at hz1)
    have l1w0 : w.heap.size < w1.heap.size := by omega
    have m1w0 : w.heap.size ≤ w1.heap.size := by omega
    have x1w0 : ¬ w.heap.size = w1.heap.size := by omega
    have y1w0 : ¬ w1.heap.size = w.heap.size := by omega
    have l1w1 : w.heap.size + 1 < w1.heap.size := by omega
    have m1w1 : w.heap.size + 1 ≤ w1.heap.size := by omega
    have x1w1 : ¬ w.heap.size + 1 = w1.heap.size := by omega
    have y1w1 : ¬ w1.heap.size = w.heap.size + 1 := by omega
    have l1w2 : w.heap.size + 1 + 1 < w1.heap.size := by omega
    have m1w2 : w.heap.size + 1 + 1 ≤ w1.heap.size := by omega
    have x1w2 : ¬ w.heap.size + 1 + 1 = w1.heap.size := by omega
    have y1w2 : ¬ w1.heap.size = w.heap.size + 1 + 1 := by omega
    go_wp2
    refine bodyPost_ret (v := .tuple #[.agg #[.int .i64 0, .int .i64 0, .int .i64 0, .int .i64 0], .bool false]) (by simp [results, Try.results99, go_sem, *]) rfl (ret_mk ?_)
    repeat (first | (with_reducible exact Below.refl _ _) | (with_reducible assumption) | (with_reducible refine bl_alloc ?_ _) | (with_reducible refine bl_drew ?_) | (with_reducible refine bl_set ?_ (by simp <;> omega) _) | (with_reducible refine bl_call ?_ (by assumption)))
  · clear h
    go_enter Try.func99, Try.ntmps99
    go_wp2_with fail
    refine (s_valid_t _ h1).mono ?_
    rintro e w1 ⟨rfl, hb1⟩
    obtain ⟨hc1, hf1⟩ := bcell hb1
    have hz1 := hb1.size
    (try simp at hz1)
    have l1w0 : w.heap.size < w1.heap.size := by omega
    have m1w0 : w.heap.size ≤ w1.heap.size := by omega
    have x1w0 : ¬ w.heap.size = w1.heap.size := by omega
    have y1w0 : ¬ w1.heap.size = w.heap.size := by omega
    have l1w1 : w.heap.size + 1 < w1.heap.size := by omega
    have m1w1 : w.heap.size + 1 ≤ w1.heap.size := by omega
    have x1w1 : ¬ w.heap.size + 1 = w1.heap.size := by omega
    have y1w1 : ¬ w1.heap.size = w.heap.size + 1 := by omega
    have l1w2 : w.heap.size + 1 + 1 < w1.heap.size := by omega
    have m1w2 : w.heap.size + 1 + 1 ≤ w1.heap.size := by omega
    have x1w2 : ¬ w.heap.size + 1 + 1 = w1.heap.size := by omega
    have y1w2 : ¬ w1.heap.size = w.heap.size + 1 + 1 := by omega
    go_wp2_with fail
    refine (s_valid_f _ h2).mono ?_
    rintro e w2 ⟨rfl, hb2⟩
    obtain ⟨hc2, hf2⟩ := bcell hb2
    have hz2 := hb2.size
    (try simp at hz2)
    have l2w0 : w.heap.size < w2.heap.size := by omega
    have m2w0 : w.heap.size ≤ w2.heap.size := by omega
    have x2w0 : ¬ w.heap.size = w2.heap.size := by omega
    have y2w0 : ¬ w2.heap.size = w.heap.size := by omega
    have l2w1 : w.heap.size + 1 < w2.heap.size := by omega
    have m2w1 : w.heap.size + 1 ≤ w2.heap.size := by omega
    have x2w1 : ¬ w.heap.size + 1 = w2.heap.size := by omega
    have y2w1 : ¬ w2.heap.size = w.heap.size + 1 := by omega
    have l2w2 : w.heap.size + 1 + 1 < w2.heap.size := by omega
    have m2w2 : w.heap.size + 1 + 1 ≤ w2.heap.size := by omega
    have x2w2 : ¬ w.heap.size + 1 + 1 = w2.heap.size := by omega
    have y2w2 : ¬ w2.heap.size = w.heap.size + 1 + 1 := by omega
    go_wp2
    refine bodyPost_ret (v := .tuple #[.agg #[.int .i64 0, .int .i64 0, .int .i64 0, .int .i64 0], .bool false]) (by simp [results, Try.results99, go_sem, *]) rfl (ret_mk ?_)
    repeat (first | (with_reducible exact Below.refl _ _) | (with_reducible assumption) | (with_reducible refine bl_alloc ?_ _) | (with_reducible refine bl_drew ?_) | (with_reducible refine bl_set ?_ (by simp <;> omega) _) | (with_reducible refine bl_call ?_ (by assumption)))
  · obtain ⟨A, B, C, D⟩ := okz_b h1
    obtain ⟨E, F, G, H⟩ := okz_b h2
    obtain ⟨lap, uap⟩ := mul_bd A E
    obtain ⟨laq, uaq⟩ := mul_bd A F
    obtain ⟨lar, uar⟩ := mul_bd A G
    obtain ⟨las, uas⟩ := mul_bd A H
    obtain ⟨lbp, ubp⟩ := mul_bd B E
    obtain ⟨lbq, ubq⟩ := mul_bd B F
    obtain ⟨lbr, ubr⟩ := mul_bd B G
    obtain ⟨lbs, ubs⟩ := mul_bd B H
    obtain ⟨lcp, ucp⟩ := mul_bd C E
    obtain ⟨lcq, ucq⟩ := mul_bd C F
    obtain ⟨lcr, ucr⟩ := mul_bd C G
    obtain ⟨lcs, ucs⟩ := mul_bd C H
    obtain ⟨ldp, udp⟩ := mul_bd D E
    obtain ⟨ldq, udq⟩ := mul_bd D F
    obtain ⟨ldr, udr⟩ := mul_bd D G
    obtain ⟨lds, uds⟩ := mul_bd D H
    obtain ⟨a0, a1⟩ := A
    obtain ⟨b0, b1⟩ := B
    obtain ⟨c0, c1⟩ := C
    obtain ⟨d0, d1⟩ := D
    obtain ⟨p0, p1⟩ := E
    obtain ⟨q0, q1⟩ := F
    obtain ⟨r0, r1⟩ := G
    obtain ⟨s0, s1⟩ := H
    clear h
    go_enter Try.func99, Try.ntmps99
    go_wp2_with fail
    refine (s_valid_t _ h1).mono ?_
    rintro e w1 ⟨rfl, hb1⟩
    obtain ⟨hc1, hf1⟩ := bcell hb1
    have hz1 := hb1.size
    (try simp at hz1)
    have l1w0 : w.heap.size < w1.heap.size := by omega
    have m1w0 : w.heap.size ≤ w1.heap.size := by omega
    have x1w0 : ¬ w.heap.size = w1.heap.size := by omega
    have y1w0 : ¬ w1.heap.size = w.heap.size := by omega
    have l1w1 : w.heap.size + 1 < w1.heap.size := by omega
    have m1w1 : w.heap.size + 1 ≤ w1.heap.size := by omega
    have x1w1 : ¬ w.heap.size + 1 = w1.heap.size := by omega
    have y1w1 : ¬ w1.heap.size = w.heap.size + 1 := by omega
    have l1w2 : w.heap.size + 1 + 1 < w1.heap.size := by omega
    have m1w2 : w.heap.size + 1 + 1 ≤ w1.heap.size := by omega
    have x1w2 : ¬ w.heap.size + 1 + 1 = w1.heap.size := by omega
    have y1w2 : ¬ w1.heap.size = w.heap.size + 1 + 1 := by omega
    go_wp2_with fail
    refine (s_valid_t _ h2).mono ?_
    rintro e w2 ⟨rfl, hb2⟩
    obtain ⟨hc2, hf2⟩ := bcell hb2
    have hz2 := hb2.size
    (try simp at hz2)
    have l2w0 : w.heap.size < w2.heap.size := by omega
    have m2w0 : w.heap.size ≤ w2.heap.size := by omega
    have x2w0 : ¬ w.heap.size = w2.heap.size := by omega
    have y2w0 : ¬ w2.heap.size = w.heap.size := by omega
    have l2w1 : w.heap.size + 1 < w2.heap.size := by omega
    have m2w1 : w.heap.size + 1 ≤ w2.heap.size := by omega
    have x2w1 : ¬ w.heap.size + 1 = w2.heap.size := by omega
    have y2w1 : ¬ w2.heap.size = w.heap.size + 1 := by omega
    have l2w2 : w.heap.size + 1 + 1 < w2.heap.size := by omega
    have m2w2 : w.heap.size + 1 + 1 ≤ w2.heap.size := by omega
    have x2w2 : ¬ w.heap.size + 1 + 1 = w2.heap.size := by omega
    have y2w2 : ¬ w2.heap.size = w.heap.size + 1 + 1 := by omega
    go_wp2_with fail
    refine (s_chk_f _ h3).mono ?_
    rintro e w3 ⟨rfl, hb3⟩
    obtain ⟨hc3, hf3⟩ := bcell hb3
    have hz3 := hb3.size
    (try simp at hz3)
    have l3w0 : w.heap.size < w3.heap.size := by omega
    have m3w0 : w.heap.size ≤ w3.heap.size := by omega
    have x3w0 : ¬ w.heap.size = w3.heap.size := by omega
    have y3w0 : ¬ w3.heap.size = w.heap.size := by omega
    have l3w1 : w.heap.size + 1 < w3.heap.size := by omega
    have m3w1 : w.heap.size + 1 ≤ w3.heap.size := by omega
    have x3w1 : ¬ w.heap.size + 1 = w3.heap.size := by omega
    have y3w1 : ¬ w3.heap.size = w.heap.size + 1 := by omega
    have l3w2 : w.heap.size + 1 + 1 < w3.heap.size := by omega
    have m3w2 : w.heap.size + 1 + 1 ≤ w3.heap.size := by omega
    have x3w2 : ¬ w.heap.size + 1 + 1 = w3.heap.size := by omega
    have y3w2 : ¬ w3.heap.size = w.heap.size + 1 + 1 := by omega
    go_wp2
    refine bodyPost_ret (v := .tuple #[.agg #[.int .i64 0, .int .i64 0, .int .i64 0, .int .i64 0], .bool false]) (by simp [results, Try.results99, go_sem, *]) rfl (ret_mk ?_)
    repeat (first | (with_reducible exact Below.refl _ _) | (with_reducible assumption) | (with_reducible refine bl_alloc ?_ _) | (with_reducible refine bl_drew ?_) | (with_reducible refine bl_set ?_ (by simp <;> omega) _) | (with_reducible refine bl_call ?_ (by assumption)))
end Go.Proofs.Ytaokfppadfoniaa
