/- Contracts: products in D[omega]. -/
import Derived.Test.YtaokfppadfoniaaA
import Derived.Test.YtaokfppadfoniaaN
import Derived.Test.YtaokfppadfoniaaD2
import Derived.Test.YtaokfppadfoniaaOwn
namespace Go.Proofs.Ytaokfppadfoniaa
open Go.RowKit

def mulD (x y : DW) : Option DW := if okd x = true ∧ okd y = true then (mulZ x.n y.n).bind fun n => newD n (x.k + y.k) else none
theorem okd_rng {a b c d k : Int} (h : okd ⟨⟨a, b, c, d⟩, k⟩ = true) : 0 ≤ k ∧ k ≤ 60 := by
  simp [okd, rng] at h; exact h.1.2
set_option maxHeartbeats 1000000 in
theorem i_MulD_new {a b c d k p q r s l x y z t : Int} (w : World) (h1 : okd ⟨⟨a, b, c, d⟩, k⟩ = true) (h2 : okd ⟨⟨p, q, r, s⟩, l⟩ = true) (h3 : mulZ ⟨a, b, c, d⟩ ⟨p, q, r, s⟩ = some ⟨x, y, z, t⟩)
    {x' y' z' t' m : Int} {ok : Bool} (h4 : ∀ W, Calls Try.prog 16 #[.agg #[.int .i64 x, .int .i64 y, .int .i64 z, .int .i64 t], .int .i64 (k + l)] W (Ret (.tuple #[.agg #[.int .i64 x', .int .i64 y', .int .i64 z', .int .i64 t', .int .i64 m], .bool ok]) W)) :
    Calls Try.prog 25 #[.agg #[.int .i64 a, .int .i64 b, .int .i64 c, .int .i64 d, .int .i64 k], .agg #[.int .i64 p, .int .i64 q, .int .i64 r, .int .i64 s, .int .i64 l]] w (Ret (.tuple #[.agg #[.int .i64 x', .int .i64 y', .int .i64 z', .int .i64 t', .int .i64 m], .bool ok]) w) := by
  obtain ⟨k0, k1⟩ := okd_rng h1
  obtain ⟨l0, l1⟩ := okd_rng h2
  have H3 := Lib.hid h3
  have H4 := Lib.hid h4
  clear h3 h4
  go_enter Try.func25, Try.ntmps25
  go_wp2_with fail
  refine (i_okd_t _ h1).mono ?_
  rintro e w1 ⟨rfl, hb1⟩
  obtain ⟨hc1, hf1⟩ := bcell hb1
  have hz1 := hb1.size
  (try simp at hz1)
  have l1w0 : w.heap.size < w1.heap.size := by omega
  have m1w0 : w.heap.size ≤ w1.heap.size := by omega
  have x1w0 : ¬ w.heap.size = w1.heap.size := by omega
  have y1w0 : ¬ w1.heap.size = w.heap.size := by omega
  have l1w1 : w.heap.size + 1 < w1.heap.size := by omega
  have m1w1 : w.heap.size + 1 ≤ w1.heap.size := by omega
  have x1w1 : ¬ w.heap.size + 1 = w1.heap.size := by omega
  have y1w1 : ¬ w1.heap.size = w.heap.size + 1 := by omega
  have l1w2 : w.heap.size + 1 + 1 < w1.heap.size := by omega
  have m1w2 : w.heap.size + 1 + 1 ≤ w1.heap.size := by omega
  have x1w2 : ¬ w.heap.size + 1 + 1 = w1.heap.size := by omega
  have y1w2 : ¬ w1.heap.size = w.heap.size + 1 + 1 := by omega
  go_wp2_with fail
  refine (i_okd_t _ h2).mono ?_
  rintro e w2 ⟨rfl, hb2⟩
  obtain ⟨hc2, hf2⟩ := bcell hb2
  have hz2 := hb2.size
  (try simp at hz2)
  have l2w0 : w.heap.size < w2.heap.size := by omega
  have m2w0 : w.heap.size ≤ w2.heap.size := by omega
  have x2w0 : ¬ w.heap.size = w2.heap.size := by omega
  have y2w0 : ¬ w2.heap.size = w.heap.size := by omega
  have l2w1 : w.heap.size + 1 < w2.heap.size := by omega
  have m2w1 : w.heap.size + 1 ≤ w2.heap.size := by omega
  have x2w1 : ¬ w.heap.size + 1 = w2.heap.size := by omega
  have y2w1 : ¬ w2.heap.size = w.heap.size + 1 := by omega
  have l2w2 : w.heap.size + 1 + 1 < w2.heap.size := by omega
  have m2w2 : w.heap.size + 1 + 1 ≤ w2.heap.size := by omega
  have x2w2 : ¬ w.heap.size + 1 + 1 = w2.heap.size := by omega
  have y2w2 : ¬ w2.heap.size = w.heap.size + 1 + 1 := by omega
  go_wp2_with fail
  refine (i_MulZ_some _ H3.out).mono ?_
  rintro e w3 ⟨rfl, hb3⟩
  obtain ⟨hc3, hf3⟩ := bcell hb3
  have hz3 := hb3.size
  (try simp at hz3)
  have l3w0 : w.heap.size < w3.heap.size := by omega
  have m3w0 : w.heap.size ≤ w3.heap.size := by omega
  have x3w0 : ¬ w.heap.size = w3.heap.size := by omega
  have y3w0 : ¬ w3.heap.size = w.heap.size := by omega
  have l3w1 : w.heap.size + 1 < w3.heap.size := by omega
  have m3w1 : w.heap.size + 1 ≤ w3.heap.size := by omega
  have x3w1 : ¬ w.heap.size + 1 = w3.heap.size := by omega
  have y3w1 : ¬ w3.heap.size = w.heap.size + 1 := by omega
  have l3w2 : w.heap.size + 1 + 1 < w3.heap.size := by omega
  have m3w2 : w.heap.size + 1 + 1 ≤ w3.heap.size := by omega
  have x3w2 : ¬ w.heap.size + 1 + 1 = w3.heap.size := by omega
  have y3w2 : ¬ w3.heap.size = w.heap.size + 1 + 1 := by omega
  go_wp2_with fail
  refine (H4.out _).mono ?_
  rintro e w4 ⟨rfl, hb4⟩
  obtain ⟨hc4, hf4⟩ := bcell hb4
  have hz4 := hb4.size
  (try simp at hz4)
  have l4w0 : w.heap.size < w4.heap.size := by omega
  have m4w0 : w.heap.size ≤ w4.heap.size := by omega
  have x4w0 : ¬ w.heap.size = w4.heap.size := by omega
  have y4w0 : ¬ w4.heap.size = w.heap.size := by omega
  have l4w1 : w.heap.size + 1 < w4.heap.size := by omega
  have m4w1 : w.heap.size + 1 ≤ w4.heap.size := by omega
  have x4w1 : ¬ w.heap.size + 1 = w4.heap.size := by omega
  have y4w1 : ¬ w4.heap.size = w.heap.size + 1 := by omega
  have l4w2 : w.heap.size + 1 + 1 < w4.heap.size := by omega
  have m4w2 : w.heap.size + 1 + 1 ≤ w4.heap.size := by omega
  have x4w2 : ¬ w.heap.size + 1 + 1 = w4.heap.size := by omega
  have y4w2 : ¬ w4.heap.size = w.heap.size + 1 + 1 := by omega
  have l4w30 : w3.heap.size < w4.heap.size := by omega
  have m4w30 : w3.heap.size ≤ w4.heap.size := by omega
  have x4w30 : ¬ w3.heap.size = w4.heap.size := by omega
  have y4w30 : ¬ w4.heap.size = w3.heap.size := by omega
  go_wp2
  refine bodyPost_ret (v := .tuple #[.agg #[.int .i64 x', .int .i64 y', .int .i64 z', .int .i64 t', .int .i64 m], .bool ok]) (by simp [results, Try.results25, go_sem, *]) rfl (ret_mk ?_)
  repeat (first | (with_reducible exact Below.refl _ _) | (with_reducible assumption) | (with_reducible refine bl_alloc ?_ _) | (with_reducible refine bl_drew ?_) | (with_reducible refine bl_set ?_ (by simp <;> omega) _) | (with_reducible refine bl_call ?_ (by assumption)))
set_option maxHeartbeats 1000000 in
theorem i_MulD_z {a b c d k p q r s l : Int} (w : World) (h1 : okd ⟨⟨a, b, c, d⟩, k⟩ = true) (h2 : okd ⟨⟨p, q, r, s⟩, l⟩ = true) (h3 : mulZ ⟨a, b, c, d⟩ ⟨p, q, r, s⟩ = none) :
    Calls Try.prog 25 #[.agg #[.int .i64 a, .int .i64 b, .int .i64 c, .int .i64 d, .int .i64 k], .agg #[.int .i64 p, .int .i64 q, .int .i64 r, .int .i64 s, .int .i64 l]] w (Ret (.tuple #[.agg #[.int .i64 0, .int .i64 0, .int .i64 0, .int .i64 0, .int .i64 0], .bool false]) w) := by
  have H3 := Lib.hid h3
  clear h3
  go_enter Try.func25, Try.ntmps25
  go_wp2_with fail
  refine (i_okd_t _ h1).mono ?_
  rintro e w1 ⟨rfl, hb1⟩
  obtain ⟨hc1, hf1⟩ := bcell hb1
  have hz1 := hb1.size
  (try simp at hz1)
  have l1w0 : w.heap.size < w1.heap.size := by omega
  have m1w0 : w.heap.size ≤ w1.heap.size := by omega
  have x1w0 : ¬ w.heap.size = w1.heap.size := by omega
  have y1w0 : ¬ w1.heap.size = w.heap.size := by omega
  have l1w1 : w.heap.size + 1 < w1.heap.size := by omega
  have m1w1 : w.heap.size + 1 ≤ w1.heap.size := by omega
  have x1w1 : ¬ w.heap.size + 1 = w1.heap.size := by omega
  have y1w1 : ¬ w1.heap.size = w.heap.size + 1 := by omega
  have l1w2 : w.heap.size + 1 + 1 < w1.heap.size := by omega
  have m1w2 : w.heap.size + 1 + 1 ≤ w1.heap.size := by omega
  have x1w2 : ¬ w.heap.size + 1 + 1 = w1.heap.size := by omega
  have y1w2 : ¬ w1.heap.size = w.heap.size + 1 + 1 := by omega
  go_wp2_with fail
  refine (i_okd_t _ h2).mono ?_
  rintro e w2 ⟨rfl, hb2⟩
  obtain ⟨hc2, hf2⟩ := bcell hb2
  have hz2 := hb2.size
  (try simp at hz2)
  have l2w0 : w.heap.size < w2.heap.size := by omega
  have m2w0 : w.heap.size ≤ w2.heap.size := by omega
  have x2w0 : ¬ w.heap.size = w2.heap.size := by omega
  have y2w0 : ¬ w2.heap.size = w.heap.size := by omega
  have l2w1 : w.heap.size + 1 < w2.heap.size := by omega
  have m2w1 : w.heap.size + 1 ≤ w2.heap.size := by omega
  have x2w1 : ¬ w.heap.size + 1 = w2.heap.size := by omega
  have y2w1 : ¬ w2.heap.size = w.heap.size + 1 := by omega
  have l2w2 : w.heap.size + 1 + 1 < w2.heap.size := by omega
  have m2w2 : w.heap.size + 1 + 1 ≤ w2.heap.size := by omega
  have x2w2 : ¬ w.heap.size + 1 + 1 = w2.heap.size := by omega
  have y2w2 : ¬ w2.heap.size = w.heap.size + 1 + 1 := by omega
  go_wp2_with fail
  refine (i_MulZ_none _ H3.out).mono ?_
  rintro e w3 ⟨rfl, hb3⟩
  obtain ⟨hc3, hf3⟩ := bcell hb3
  have hz3 := hb3.size
  (try simp at hz3)
  have l3w0 : w.heap.size < w3.heap.size := by omega
  have m3w0 : w.heap.size ≤ w3.heap.size := by omega
  have x3w0 : ¬ w.heap.size = w3.heap.size := by omega
  have y3w0 : ¬ w3.heap.size = w.heap.size := by omega
  have l3w1 : w.heap.size + 1 < w3.heap.size := by omega
  have m3w1 : w.heap.size + 1 ≤ w3.heap.size := by omega
  have x3w1 : ¬ w.heap.size + 1 = w3.heap.size := by omega
  have y3w1 : ¬ w3.heap.size = w.heap.size + 1 := by omega
  have l3w2 : w.heap.size + 1 + 1 < w3.heap.size := by omega
  have m3w2 : w.heap.size + 1 + 1 ≤ w3.heap.size := by omega
  have x3w2 : ¬ w.heap.size + 1 + 1 = w3.heap.size := by omega
  have y3w2 : ¬ w3.heap.size = w.heap.size + 1 + 1 := by omega
  go_wp2
  refine bodyPost_ret (v := .tuple #[.agg #[.int .i64 0, .int .i64 0, .int .i64 0, .int .i64 0, .int .i64 0], .bool false]) (by simp [results, Try.results25, go_sem, *]) rfl (ret_mk ?_)
  repeat (first | (with_reducible exact Below.refl _ _) | (with_reducible assumption) | (with_reducible refine bl_alloc ?_ _) | (with_reducible refine bl_drew ?_) | (with_reducible refine bl_set ?_ (by simp <;> omega) _) | (with_reducible refine bl_call ?_ (by assumption)))
set_option maxHeartbeats 1000000 in
theorem s_MulD_new {a b c d k p q r s l x y z t : Int} (w : World) (h1 : okd ⟨⟨a, b, c, d⟩, k⟩ = true) (h2 : okd ⟨⟨p, q, r, s⟩, l⟩ = true) (h3 : mulZ ⟨a, b, c, d⟩ ⟨p, q, r, s⟩ = some ⟨x, y, z, t⟩)
    {x' y' z' t' m : Int} {ok : Bool} (h4 : ∀ W, Calls Try.prog 17 #[.agg #[.int .i64 x, .int .i64 y, .int .i64 z, .int .i64 t], .int .i64 (k + l)] W (Ret (.tuple #[.agg #[.int .i64 x', .int .i64 y', .int .i64 z', .int .i64 t', .int .i64 m], .bool ok]) W)) :
    Calls Try.prog 83 #[.agg #[.int .i64 a, .int .i64 b, .int .i64 c, .int .i64 d, .int .i64 k], .agg #[.int .i64 p, .int .i64 q, .int .i64 r, .int .i64 s, .int .i64 l]] w (Ret (.tuple #[.agg #[.int .i64 x', .int .i64 y', .int .i64 z', .int .i64 t', .int .i64 m], .bool ok]) w) := by
  obtain ⟨k0, k1⟩ := okd_rng h1
  obtain ⟨l0, l1⟩ := okd_rng h2
  have H3 := Lib.hid h3
  have H4 := Lib.hid h4
  clear h3 h4
  go_enter Try.func83, Try.ntmps83
  go_wp2_with fail
  refine (s_MulZ_some _ H3.out).mono ?_
  rintro e w1 ⟨rfl, hb1⟩
  obtain ⟨hc1, hf1⟩ := bcell hb1
  have hz1 := hb1.size
  (try simp at hz1)
  have l1w0 : w.heap.size < w1.heap.size := by omega
  have m1w0 : w.heap.size ≤ w1.heap.size := by omega
  have x1w0 : ¬ w.heap.size = w1.heap.size := by omega
  have y1w0 : ¬ w1.heap.size = w.heap.size := by omega
  have l1w1 : w.heap.size + 1 < w1.heap.size := by omega
  have m1w1 : w.heap.size + 1 ≤ w1.heap.size := by omega
  have x1w1 : ¬ w.heap.size + 1 = w1.heap.size := by omega
  have y1w1 : ¬ w1.heap.size = w.heap.size + 1 := by omega
  have l1w2 : w.heap.size + 1 + 1 < w1.heap.size := by omega
  have m1w2 : w.heap.size + 1 + 1 ≤ w1.heap.size := by omega
  have x1w2 : ¬ w.heap.size + 1 + 1 = w1.heap.size := by omega
  have y1w2 : ¬ w1.heap.size = w.heap.size + 1 + 1 := by omega
  go_wp2_with fail
  refine (s_okd_t _ h1).mono ?_
  rintro e w2 ⟨rfl, hb2⟩
  obtain ⟨hc2, hf2⟩ := bcell hb2
  have hz2 := hb2.size
  (try simp at hz2)
  have l2w0 : w.heap.size < w2.heap.size := by omega
  have m2w0 : w.heap.size ≤ w2.heap.size := by omega
  have x2w0 : ¬ w.heap.size = w2.heap.size := by omega
  have y2w0 : ¬ w2.heap.size = w.heap.size := by omega
  have l2w1 : w.heap.size + 1 < w2.heap.size := by omega
  have m2w1 : w.heap.size + 1 ≤ w2.heap.size := by omega
  have x2w1 : ¬ w.heap.size + 1 = w2.heap.size := by omega
  have y2w1 : ¬ w2.heap.size = w.heap.size + 1 := by omega
  have l2w2 : w.heap.size + 1 + 1 < w2.heap.size := by omega
  have m2w2 : w.heap.size + 1 + 1 ≤ w2.heap.size := by omega
  have x2w2 : ¬ w.heap.size + 1 + 1 = w2.heap.size := by omega
  have y2w2 : ¬ w2.heap.size = w.heap.size + 1 + 1 := by omega
  have l2w10 : w1.heap.size < w2.heap.size := by omega
  have m2w10 : w1.heap.size ≤ w2.heap.size := by omega
  have x2w10 : ¬ w1.heap.size = w2.heap.size := by omega
  have y2w10 : ¬ w2.heap.size = w1.heap.size := by omega
  go_wp2_with fail
  refine (s_okd_t _ h2).mono ?_
  rintro e w3 ⟨rfl, hb3⟩
  obtain ⟨hc3, hf3⟩ := bcell hb3
  have hz3 := hb3.size
  (try simp at hz3)
  have l3w0 : w.heap.size < w3.heap.size := by omega
  have m3w0 : w.heap.size ≤ w3.heap.size := by omega
  have x3w0 : ¬ w.heap.size = w3.heap.size := by omega
  have y3w0 : ¬ w3.heap.size = w.heap.size := by omega
  have l3w1 : w.heap.size + 1 < w3.heap.size := by omega
  have m3w1 : w.heap.size + 1 ≤ w3.heap.size := by omega
  have x3w1 : ¬ w.heap.size + 1 = w3.heap.size := by omega
  have y3w1 : ¬ w3.heap.size = w.heap.size + 1 := by omega
  have l3w2 : w.heap.size + 1 + 1 < w3.heap.size := by omega
  have m3w2 : w.heap.size + 1 + 1 ≤ w3.heap.size := by omega
  have x3w2 : ¬ w.heap.size + 1 + 1 = w3.heap.size := by omega
  have y3w2 : ¬ w3.heap.size = w.heap.size + 1 + 1 := by omega
  have l3w10 : w1.heap.size < w3.heap.size := by omega
  have m3w10 : w1.heap.size ≤ w3.heap.size := by omega
  have x3w10 : ¬ w1.heap.size = w3.heap.size := by omega
  have y3w10 : ¬ w3.heap.size = w1.heap.size := by omega
  go_wp2_with fail
  refine (H4.out _).mono ?_
  rintro e w4 ⟨rfl, hb4⟩
  obtain ⟨hc4, hf4⟩ := bcell hb4
  have hz4 := hb4.size
  (try simp at hz4)
  have l4w0 : w.heap.size < w4.heap.size := by omega
  have m4w0 : w.heap.size ≤ w4.heap.size := by omega
  have x4w0 : ¬ w.heap.size = w4.heap.size := by omega
  have y4w0 : ¬ w4.heap.size = w.heap.size := by omega
  have l4w1 : w.heap.size + 1 < w4.heap.size := by omega
  have m4w1 : w.heap.size + 1 ≤ w4.heap.size := by omega
  have x4w1 : ¬ w.heap.size + 1 = w4.heap.size := by omega
  have y4w1 : ¬ w4.heap.size = w.heap.size + 1 := by omega
  have l4w2 : w.heap.size + 1 + 1 < w4.heap.size := by omega
  have m4w2 : w.heap.size + 1 + 1 ≤ w4.heap.size := by omega
  have x4w2 : ¬ w.heap.size + 1 + 1 = w4.heap.size := by omega
  have y4w2 : ¬ w4.heap.size = w.heap.size + 1 + 1 := by omega
  have l4w10 : w1.heap.size < w4.heap.size := by omega
  have m4w10 : w1.heap.size ≤ w4.heap.size := by omega
  have x4w10 : ¬ w1.heap.size = w4.heap.size := by omega
  have y4w10 : ¬ w4.heap.size = w1.heap.size := by omega
  go_wp2
  refine bodyPost_ret (v := .tuple #[.agg #[.int .i64 x', .int .i64 y', .int .i64 z', .int .i64 t', .int .i64 m], .bool ok]) (by simp [results, Try.results83, go_sem, *]) rfl (ret_mk ?_)
  repeat (first | (with_reducible exact Below.refl _ _) | (with_reducible assumption) | (with_reducible refine bl_alloc ?_ _) | (with_reducible refine bl_drew ?_) | (with_reducible refine bl_set ?_ (by simp <;> omega) _) | (with_reducible refine bl_call ?_ (by assumption)))
set_option maxHeartbeats 1000000 in
theorem s_MulD_z {a b c d k p q r s l : Int} (w : World) (h1 : okd ⟨⟨a, b, c, d⟩, k⟩ = true) (h2 : okd ⟨⟨p, q, r, s⟩, l⟩ = true) (h3 : mulZ ⟨a, b, c, d⟩ ⟨p, q, r, s⟩ = none) :
    Calls Try.prog 83 #[.agg #[.int .i64 a, .int .i64 b, .int .i64 c, .int .i64 d, .int .i64 k], .agg #[.int .i64 p, .int .i64 q, .int .i64 r, .int .i64 s, .int .i64 l]] w (Ret (.tuple #[.agg #[.int .i64 0, .int .i64 0, .int .i64 0, .int .i64 0, .int .i64 0], .bool false]) w) := by
  have H3 := Lib.hid h3
  clear h3
  go_enter Try.func83, Try.ntmps83
  go_wp2_with fail
  refine (s_MulZ_none _ H3.out).mono ?_
  rintro e w1 ⟨rfl, hb1⟩
  obtain ⟨hc1, hf1⟩ := bcell hb1
  have hz1 := hb1.size
  (try simp at hz1)
  have l1w0 : w.heap.size < w1.heap.size := by omega
  have m1w0 : w.heap.size ≤ w1.heap.size := by omega
  have x1w0 : ¬ w.heap.size = w1.heap.size := by omega
  have y1w0 : ¬ w1.heap.size = w.heap.size := by omega
  have l1w1 : w.heap.size + 1 < w1.heap.size := by omega
  have m1w1 : w.heap.size + 1 ≤ w1.heap.size := by omega
  have x1w1 : ¬ w.heap.size + 1 = w1.heap.size := by omega
  have y1w1 : ¬ w1.heap.size = w.heap.size + 1 := by omega
  have l1w2 : w.heap.size + 1 + 1 < w1.heap.size := by omega
  have m1w2 : w.heap.size + 1 + 1 ≤ w1.heap.size := by omega
  have x1w2 : ¬ w.heap.size + 1 + 1 = w1.heap.size := by omega
  have y1w2 : ¬ w1.heap.size = w.heap.size + 1 + 1 := by omega
  go_wp2_with fail
  refine (s_okd_t _ h1).mono ?_
  rintro e w2 ⟨rfl, hb2⟩
  obtain ⟨hc2, hf2⟩ := bcell hb2
  have hz2 := hb2.size
  (try simp at hz2)
  have l2w0 : w.heap.size < w2.heap.size := by omega
  have m2w0 : w.heap.size ≤ w2.heap.size := by omega
  have x2w0 : ¬ w.heap.size = w2.heap.size := by omega
  have y2w0 : ¬ w2.heap.size = w.heap.size := by omega
  have l2w1 : w.heap.size + 1 < w2.heap.size := by omega
  have m2w1 : w.heap.size + 1 ≤ w2.heap.size := by omega
  have x2w1 : ¬ w.heap.size + 1 = w2.heap.size := by omega
  have y2w1 : ¬ w2.heap.size = w.heap.size + 1 := by omega
  have l2w2 : w.heap.size + 1 + 1 < w2.heap.size := by omega
  have m2w2 : w.heap.size + 1 + 1 ≤ w2.heap.size := by omega
  have x2w2 : ¬ w.heap.size + 1 + 1 = w2.heap.size := by omega
  have y2w2 : ¬ w2.heap.size = w.heap.size + 1 + 1 := by omega
  have l2w10 : w1.heap.size < w2.heap.size := by omega
  have m2w10 : w1.heap.size ≤ w2.heap.size := by omega
  have x2w10 : ¬ w1.heap.size = w2.heap.size := by omega
  have y2w10 : ¬ w2.heap.size = w1.heap.size := by omega
  go_wp2_with fail
  refine (s_okd_t _ h2).mono ?_
  rintro e w3 ⟨rfl, hb3⟩
  obtain ⟨hc3, hf3⟩ := bcell hb3
  have hz3 := hb3.size
  (try simp at hz3)
  have l3w0 : w.heap.size < w3.heap.size := by omega
  have m3w0 : w.heap.size ≤ w3.heap.size := by omega
  have x3w0 : ¬ w.heap.size = w3.heap.size := by omega
  have y3w0 : ¬ w3.heap.size = w.heap.size := by omega
  have l3w1 : w.heap.size + 1 < w3.heap.size := by omega
  have m3w1 : w.heap.size + 1 ≤ w3.heap.size := by omega
  have x3w1 : ¬ w.heap.size + 1 = w3.heap.size := by omega
  have y3w1 : ¬ w3.heap.size = w.heap.size + 1 := by omega
  have l3w2 : w.heap.size + 1 + 1 < w3.heap.size := by omega
  have m3w2 : w.heap.size + 1 + 1 ≤ w3.heap.size := by omega
  have x3w2 : ¬ w.heap.size + 1 + 1 = w3.heap.size := by omega
  have y3w2 : ¬ w3.heap.size = w.heap.size + 1 + 1 := by omega
  have l3w10 : w1.heap.size < w3.heap.size := by omega
  have m3w10 : w1.heap.size ≤ w3.heap.size := by omega
  have x3w10 : ¬ w1.heap.size = w3.heap.size := by omega
  have y3w10 : ¬ w3.heap.size = w1.heap.size := by omega
  go_wp2
  refine bodyPost_ret (v := .tuple #[.agg #[.int .i64 0, .int .i64 0, .int .i64 0, .int .i64 0, .int .i64 0], .bool false]) (by simp [results, Try.results83, go_sem, *]) rfl (ret_mk ?_)
  repeat (first | (with_reducible exact Below.refl _ _) | (with_reducible assumption) | (with_reducible refine bl_alloc ?_ _) | (with_reducible refine bl_drew ?_) | (with_reducible refine bl_set ?_ (by simp <;> omega) _) | (with_reducible refine bl_call ?_ (by assumption)))
set_option maxHeartbeats 1000000 in
theorem i_MulD_x {a b c d k p q r s l : Int} (w : World) (h1 : okd ⟨⟨a, b, c, d⟩, k⟩ = false) : Calls Try.prog 25 #[.agg #[.int .i64 a, .int .i64 b, .int .i64 c, .int .i64 d, .int .i64 k], .agg #[.int .i64 p, .int .i64 q, .int .i64 r, .int .i64 s, .int .i64 l]] w (Ret (.tuple #[.agg #[.int .i64 0, .int .i64 0, .int .i64 0, .int .i64 0, .int .i64 0], .bool false]) w) := by
  go_enter Try.func25, Try.ntmps25
  go_wp2_with fail
  refine (i_okd_f _ h1).mono ?_
  rintro e w1 ⟨rfl, hb1⟩
  obtain ⟨hc1, hf1⟩ := bcell hb1
  have hz1 := hb1.size
  (try simp at hz1)
  have l1w0 : w.heap.size < w1.heap.size := by omega
  have m1w0 : w.heap.size ≤ w1.heap.size := by omega
  have x1w0 : ¬ w.heap.size = w1.heap.size := by omega
  have y1w0 : ¬ w1.heap.size = w.heap.size := by omega
  have l1w1 : w.heap.size + 1 < w1.heap.size := by omega
  have m1w1 : w.heap.size + 1 ≤ w1.heap.size := by omega
  have x1w1 : ¬ w.heap.size + 1 = w1.heap.size := by omega
  have y1w1 : ¬ w1.heap.size = w.heap.size + 1 := by omega
  have l1w2 : w.heap.size + 1 + 1 < w1.heap.size := by omega
  have m1w2 : w.heap.size + 1 + 1 ≤ w1.heap.size := by omega
  have x1w2 : ¬ w.heap.size + 1 + 1 = w1.heap.size := by omega
  have y1w2 : ¬ w1.heap.size = w.heap.size + 1 + 1 := by omega
  go_wp2
  refine bodyPost_ret (v := .tuple #[.agg #[.int .i64 0, .int .i64 0, .int .i64 0, .int .i64 0, .int .i64 0], .bool false]) (by simp [results, Try.results25, go_sem, *]) rfl (ret_mk ?_)
  repeat (first | (with_reducible exact Below.refl _ _) | (with_reducible assumption) | (with_reducible refine bl_alloc ?_ _) | (with_reducible refine bl_drew ?_) | (with_reducible refine bl_set ?_ (by simp <;> omega) _) | (with_reducible refine bl_call ?_ (by assumption)))
set_option maxHeartbeats 1000000 in
theorem i_MulD_y {a b c d k p q r s l : Int} (w : World) (h1 : okd ⟨⟨a, b, c, d⟩, k⟩ = true) (h2 : okd ⟨⟨p, q, r, s⟩, l⟩ = false) : Calls Try.prog 25 #[.agg #[.int .i64 a, .int .i64 b, .int .i64 c, .int .i64 d, .int .i64 k], .agg #[.int .i64 p, .int .i64 q, .int .i64 r, .int .i64 s, .int .i64 l]] w (Ret (.tuple #[.agg #[.int .i64 0, .int .i64 0, .int .i64 0, .int .i64 0, .int .i64 0], .bool false]) w) := by
  go_enter Try.func25, Try.ntmps25
  go_wp2_with fail
  refine (i_okd_t _ h1).mono ?_
  rintro e w1 ⟨rfl, hb1⟩
  obtain ⟨hc1, hf1⟩ := bcell hb1
  have hz1 := hb1.size
  (try simp at hz1)
  have l1w0 : w.heap.size < w1.heap.size := by omega
  have m1w0 : w.heap.size ≤ w1.heap.size := by omega
  have x1w0 : ¬ w.heap.size = w1.heap.size := by omega
  have y1w0 : ¬ w1.heap.size = w.heap.size := by omega
  have l1w1 : w.heap.size + 1 < w1.heap.size := by omega
  have m1w1 : w.heap.size + 1 ≤ w1.heap.size := by omega
  have x1w1 : ¬ w.heap.size + 1 = w1.heap.size := by omega
  have y1w1 : ¬ w1.heap.size = w.heap.size + 1 := by omega
  have l1w2 : w.heap.size + 1 + 1 < w1.heap.size := by omega
  have m1w2 : w.heap.size + 1 + 1 ≤ w1.heap.size := by omega
  have x1w2 : ¬ w.heap.size + 1 + 1 = w1.heap.size := by omega
  have y1w2 : ¬ w1.heap.size = w.heap.size + 1 + 1 := by omega
  go_wp2_with fail
  refine (i_okd_f _ h2).mono ?_
  rintro e w2 ⟨rfl, hb2⟩
  obtain ⟨hc2, hf2⟩ := bcell hb2
  have hz2 := hb2.size
  (try simp at hz2)
  have l2w0 : w.heap.size < w2.heap.size := by omega
  have m2w0 : w.heap.size ≤ w2.heap.size := by omega
  have x2w0 : ¬ w.heap.size = w2.heap.size := by omega
  have y2w0 : ¬ w2.heap.size = w.heap.size := by omega
  have l2w1 : w.heap.size + 1 < w2.heap.size := by omega
  have m2w1 : w.heap.size + 1 ≤ w2.heap.size := by omega
  have x2w1 : ¬ w.heap.size + 1 = w2.heap.size := by omega
  have y2w1 : ¬ w2.heap.size = w.heap.size + 1 := by omega
  have l2w2 : w.heap.size + 1 + 1 < w2.heap.size := by omega
  have m2w2 : w.heap.size + 1 + 1 ≤ w2.heap.size := by omega
  have x2w2 : ¬ w.heap.size + 1 + 1 = w2.heap.size := by omega
  have y2w2 : ¬ w2.heap.size = w.heap.size + 1 + 1 := by omega
  go_wp2
  refine bodyPost_ret (v := .tuple #[.agg #[.int .i64 0, .int .i64 0, .int .i64 0, .int .i64 0, .int .i64 0], .bool false]) (by simp [results, Try.results25, go_sem, *]) rfl (ret_mk ?_)
  repeat (first | (with_reducible exact Below.refl _ _) | (with_reducible assumption) | (with_reducible refine bl_alloc ?_ _) | (with_reducible refine bl_drew ?_) | (with_reducible refine bl_set ?_ (by simp <;> omega) _) | (with_reducible refine bl_call ?_ (by assumption)))
set_option maxHeartbeats 1000000 in
theorem s_MulD_x {a b c d k p q r s l : Int} (w : World) (h1 : okd ⟨⟨a, b, c, d⟩, k⟩ = false) : Calls Try.prog 83 #[.agg #[.int .i64 a, .int .i64 b, .int .i64 c, .int .i64 d, .int .i64 k], .agg #[.int .i64 p, .int .i64 q, .int .i64 r, .int .i64 s, .int .i64 l]] w (Ret (.tuple #[.agg #[.int .i64 0, .int .i64 0, .int .i64 0, .int .i64 0, .int .i64 0], .bool false]) w) := by
  rcases h3 : mulZ ⟨a, b, c, d⟩ ⟨p, q, r, s⟩ with _ | ⟨x, y, z, t⟩
  · have H3 := Lib.hid h3
    clear h3
    go_enter Try.func83, Try.ntmps83
    go_wp2_with fail
    refine (s_MulZ_none _ H3.out).mono ?_
    rintro e w1 ⟨rfl, hb1⟩
    obtain ⟨hc1, hf1⟩ := bcell hb1
    have hz1 := hb1.size
    (try simp at hz1)
    have l1w0 : w.heap.size < w1.heap.size := by omega
    have m1w0 : w.heap.size ≤ w1.heap.size := by omega
    have x1w0 : ¬ w.heap.size = w1.heap.size := by omega
    have y1w0 : ¬ w1.heap.size = w.heap.size := by omega
    have l1w1 : w.heap.size + 1 < w1.heap.size := by omega
    have m1w1 : w.heap.size + 1 ≤ w1.heap.size := by omega
    have x1w1 : ¬ w.heap.size + 1 = w1.heap.size := by omega
    have y1w1 : ¬ w1.heap.size = w.heap.size + 1 := by omega
    have l1w2 : w.heap.size + 1 + 1 < w1.heap.size := by omega
    have m1w2 : w.heap.size + 1 + 1 ≤ w1.heap.size := by omega
    have x1w2 : ¬ w.heap.size + 1 + 1 = w1.heap.size := by omega
    have y1w2 : ¬ w1.heap.size = w.heap.size + 1 + 1 := by omega
    go_wp2_with fail
    refine (s_okd_f _ h1).mono ?_
    rintro e w2 ⟨rfl, hb2⟩
    obtain ⟨hc2, hf2⟩ := bcell hb2
    have hz2 := hb2.size
    (try simp at hz2)
    have l2w0 : w.heap.size < w2.heap.size := by omega
    have m2w0 : w.heap.size ≤ w2.heap.size := by omega
    have x2w0 : ¬ w.heap.size = w2.heap.size := by omega
    have y2w0 : ¬ w2.heap.size = w.heap.size := by omega
    have l2w1 : w.heap.size + 1 < w2.heap.size := by omega
    have m2w1 : w.heap.size + 1 ≤ w2.heap.size := by omega
    have x2w1 : ¬ w.heap.size + 1 = w2.heap.size := by omega
    have y2w1 : ¬ w2.heap.size = w.heap.size + 1 := by omega
    have l2w2 : w.heap.size + 1 + 1 < w2.heap.size := by omega
    have m2w2 : w.heap.size + 1 + 1 ≤ w2.heap.size := by omega
    have x2w2 : ¬ w.heap.size + 1 + 1 = w2.heap.size := by omega
    have y2w2 : ¬ w2.heap.size = w.heap.size + 1 + 1 := by omega
    have l2w10 : w1.heap.size < w2.heap.size := by omega
    have m2w10 : w1.heap.size ≤ w2.heap.size := by omega
    have x2w10 : ¬ w1.heap.size = w2.heap.size := by omega
    have y2w10 : ¬ w2.heap.size = w1.heap.size := by omega
    go_wp2
    refine bodyPost_ret (v := .tuple #[.agg #[.int .i64 0, .int .i64 0, .int .i64 0, .int .i64 0, .int .i64 0], .bool false]) (by simp [results, Try.results83, go_sem, *]) rfl (ret_mk ?_)
    repeat (first | (with_reducible exact Below.refl _ _) | (with_reducible assumption) | (with_reducible refine bl_alloc ?_ _) | (with_reducible refine bl_drew ?_) | (with_reducible refine bl_set ?_ (by simp <;> omega) _) | (with_reducible refine bl_call ?_ (by assumption)))
  · have H3 := Lib.hid h3
    clear h3
    go_enter Try.func83, Try.ntmps83
    go_wp2_with fail
    refine (s_MulZ_some _ H3.out).mono ?_
    rintro e w1 ⟨rfl, hb1⟩
    obtain ⟨hc1, hf1⟩ := bcell hb1
    have hz1 := hb1.size
    (try simp at hz1)
    have l1w0 : w.heap.size < w1.heap.size := by omega
    have m1w0 : w.heap.size ≤ w1.heap.size := by omega
    have x1w0 : ¬ w.heap.size = w1.heap.size := by omega
    have y1w0 : ¬ w1.heap.size = w.heap.size := by omega
    have l1w1 : w.heap.size + 1 < w1.heap.size := by omega
    have m1w1 : w.heap.size + 1 ≤ w1.heap.size := by omega
    have x1w1 : ¬ w.heap.size + 1 = w1.heap.size := by omega
    have y1w1 : ¬ w1.heap.size = w.heap.size + 1 := by omega
    have l1w2 : w.heap.size + 1 + 1 < w1.heap.size := by omega
    have m1w2 : w.heap.size + 1 + 1 ≤ w1.heap.size := by omega
    have x1w2 : ¬ w.heap.size + 1 + 1 = w1.heap.size := by omega
    have y1w2 : ¬ w1.heap.size = w.heap.size + 1 + 1 := by omega
    go_wp2_with fail
    refine (s_okd_f _ h1).mono ?_
    rintro e w2 ⟨rfl, hb2⟩
    obtain ⟨hc2, hf2⟩ := bcell hb2
    have hz2 := hb2.size
    (try simp at hz2)
    have l2w0 : w.heap.size < w2.heap.size := by omega
    have m2w0 : w.heap.size ≤ w2.heap.size := by omega
    have x2w0 : ¬ w.heap.size = w2.heap.size := by omega
    have y2w0 : ¬ w2.heap.size = w.heap.size := by omega
    have l2w1 : w.heap.size + 1 < w2.heap.size := by omega
    have m2w1 : w.heap.size + 1 ≤ w2.heap.size := by omega
    have x2w1 : ¬ w.heap.size + 1 = w2.heap.size := by omega
    have y2w1 : ¬ w2.heap.size = w.heap.size + 1 := by omega
    have l2w2 : w.heap.size + 1 + 1 < w2.heap.size := by omega
    have m2w2 : w.heap.size + 1 + 1 ≤ w2.heap.size := by omega
    have x2w2 : ¬ w.heap.size + 1 + 1 = w2.heap.size := by omega
    have y2w2 : ¬ w2.heap.size = w.heap.size + 1 + 1 := by omega
    have l2w10 : w1.heap.size < w2.heap.size := by omega
    have m2w10 : w1.heap.size ≤ w2.heap.size := by omega
    have x2w10 : ¬ w1.heap.size = w2.heap.size := by omega
    have y2w10 : ¬ w2.heap.size = w1.heap.size := by omega
    go_wp2
    refine bodyPost_ret (v := .tuple #[.agg #[.int .i64 0, .int .i64 0, .int .i64 0, .int .i64 0, .int .i64 0], .bool false]) (by simp [results, Try.results83, go_sem, *]) rfl (ret_mk ?_)
    repeat (first | (with_reducible exact Below.refl _ _) | (with_reducible assumption) | (with_reducible refine bl_alloc ?_ _) | (with_reducible refine bl_drew ?_) | (with_reducible refine bl_set ?_ (by simp <;> omega) _) | (with_reducible refine bl_call ?_ (by assumption)))
set_option maxHeartbeats 1000000 in
theorem s_MulD_y {a b c d k p q r s l : Int} (w : World) (h1 : okd ⟨⟨a, b, c, d⟩, k⟩ = true) (h2 : okd ⟨⟨p, q, r, s⟩, l⟩ = false) : Calls Try.prog 83 #[.agg #[.int .i64 a, .int .i64 b, .int .i64 c, .int .i64 d, .int .i64 k], .agg #[.int .i64 p, .int .i64 q, .int .i64 r, .int .i64 s, .int .i64 l]] w (Ret (.tuple #[.agg #[.int .i64 0, .int .i64 0, .int .i64 0, .int .i64 0, .int .i64 0], .bool false]) w) := by
  rcases h3 : mulZ ⟨a, b, c, d⟩ ⟨p, q, r, s⟩ with _ | ⟨x, y, z, t⟩
  · have H3 := Lib.hid h3
    clear h3
    go_enter Try.func83, Try.ntmps83
    go_wp2_with fail
    refine (s_MulZ_none _ H3.out).mono ?_
    rintro e w1 ⟨rfl, hb1⟩
    obtain ⟨hc1, hf1⟩ := bcell hb1
    have hz1 := hb1.size
    (try simp at hz1)
    have l1w0 : w.heap.size < w1.heap.size := by omega
    have m1w0 : w.heap.size ≤ w1.heap.size := by omega
    have x1w0 : ¬ w.heap.size = w1.heap.size := by omega
    have y1w0 : ¬ w1.heap.size = w.heap.size := by omega
    have l1w1 : w.heap.size + 1 < w1.heap.size := by omega
    have m1w1 : w.heap.size + 1 ≤ w1.heap.size := by omega
    have x1w1 : ¬ w.heap.size + 1 = w1.heap.size := by omega
    have y1w1 : ¬ w1.heap.size = w.heap.size + 1 := by omega
    have l1w2 : w.heap.size + 1 + 1 < w1.heap.size := by omega
    have m1w2 : w.heap.size + 1 + 1 ≤ w1.heap.size := by omega
    have x1w2 : ¬ w.heap.size + 1 + 1 = w1.heap.size := by omega
    have y1w2 : ¬ w1.heap.size = w.heap.size + 1 + 1 := by omega
    go_wp2_with fail
    refine (s_okd_t _ h1).mono ?_
    rintro e w2 ⟨rfl, hb2⟩
    obtain ⟨hc2, hf2⟩ := bcell hb2
    have hz2 := hb2.size
    (try simp at hz2)
    have l2w0 : w.heap.size < w2.heap.size := by omega
    have m2w0 : w.heap.size ≤ w2.heap.size := by omega
    have x2w0 : ¬ w.heap.size = w2.heap.size := by omega
    have y2w0 : ¬ w2.heap.size = w.heap.size := by omega
    have l2w1 : w.heap.size + 1 < w2.heap.size := by omega
    have m2w1 : w.heap.size + 1 ≤ w2.heap.size := by omega
    have x2w1 : ¬ w.heap.size + 1 = w2.heap.size := by omega
    have y2w1 : ¬ w2.heap.size = w.heap.size + 1 := by omega
    have l2w2 : w.heap.size + 1 + 1 < w2.heap.size := by omega
    have m2w2 : w.heap.size + 1 + 1 ≤ w2.heap.size := by omega
    have x2w2 : ¬ w.heap.size + 1 + 1 = w2.heap.size := by omega
    have y2w2 : ¬ w2.heap.size = w.heap.size + 1 + 1 := by omega
    have l2w10 : w1.heap.size < w2.heap.size := by omega
    have m2w10 : w1.heap.size ≤ w2.heap.size := by omega
    have x2w10 : ¬ w1.heap.size = w2.heap.size := by omega
    have y2w10 : ¬ w2.heap.size = w1.heap.size := by omega
    go_wp2_with fail
    refine (s_okd_f _ h2).mono ?_
    rintro e w3 ⟨rfl, hb3⟩
    obtain ⟨hc3, hf3⟩ := bcell hb3
    have hz3 := hb3.size
    (try simp at hz3)
    have l3w0 : w.heap.size < w3.heap.size := by omega
    have m3w0 : w.heap.size ≤ w3.heap.size := by omega
    have x3w0 : ¬ w.heap.size = w3.heap.size := by omega
    have y3w0 : ¬ w3.heap.size = w.heap.size := by omega
    have l3w1 : w.heap.size + 1 < w3.heap.size := by omega
    have m3w1 : w.heap.size + 1 ≤ w3.heap.size := by omega
    have x3w1 : ¬ w.heap.size + 1 = w3.heap.size := by omega
    have y3w1 : ¬ w3.heap.size = w.heap.size + 1 := by omega
    have l3w2 : w.heap.size + 1 + 1 < w3.heap.size := by omega
    have m3w2 : w.heap.size + 1 + 1 ≤ w3.heap.size := by omega
    have x3w2 : ¬ w.heap.size + 1 + 1 = w3.heap.size := by omega
    have y3w2 : ¬ w3.heap.size = w.heap.size + 1 + 1 := by omega
    have l3w10 : w1.heap.size < w3.heap.size := by omega
    have m3w10 : w1.heap.size ≤ w3.heap.size := by omega
    have x3w10 : ¬ w1.heap.size = w3.heap.size := by omega
    have y3w10 : ¬ w3.heap.size = w1.heap.size := by omega
    go_wp2
    refine bodyPost_ret (v := .tuple #[.agg #[.int .i64 0, .int .i64 0, .int .i64 0, .int .i64 0, .int .i64 0], .bool false]) (by simp [results, Try.results83, go_sem, *]) rfl (ret_mk ?_)
    repeat (first | (with_reducible exact Below.refl _ _) | (with_reducible assumption) | (with_reducible refine bl_alloc ?_ _) | (with_reducible refine bl_drew ?_) | (with_reducible refine bl_set ?_ (by simp <;> omega) _) | (with_reducible refine bl_call ?_ (by assumption)))
  · have H3 := Lib.hid h3
    clear h3
    go_enter Try.func83, Try.ntmps83
    go_wp2_with fail
    refine (s_MulZ_some _ H3.out).mono ?_
    rintro e w1 ⟨rfl, hb1⟩
    obtain ⟨hc1, hf1⟩ := bcell hb1
    have hz1 := hb1.size
    (try simp at hz1)
    have l1w0 : w.heap.size < w1.heap.size := by omega
    have m1w0 : w.heap.size ≤ w1.heap.size := by omega
    have x1w0 : ¬ w.heap.size = w1.heap.size := by omega
    have y1w0 : ¬ w1.heap.size = w.heap.size := by omega
    have l1w1 : w.heap.size + 1 < w1.heap.size := by omega
    have m1w1 : w.heap.size + 1 ≤ w1.heap.size := by omega
    have x1w1 : ¬ w.heap.size + 1 = w1.heap.size := by omega
    have y1w1 : ¬ w1.heap.size = w.heap.size + 1 := by omega
    have l1w2 : w.heap.size + 1 + 1 < w1.heap.size := by omega
    have m1w2 : w.heap.size + 1 + 1 ≤ w1.heap.size := by omega
    have x1w2 : ¬ w.heap.size + 1 + 1 = w1.heap.size := by omega
    have y1w2 : ¬ w1.heap.size = w.heap.size + 1 + 1 := by omega
    go_wp2_with fail
    refine (s_okd_t _ h1).mono ?_
    rintro e w2 ⟨rfl, hb2⟩
    obtain ⟨hc2, hf2⟩ := bcell hb2
    have hz2 := hb2.size
    (try simp at hz2)
    have l2w0 : w.heap.size < w2.heap.size := by omega
    have m2w0 : w.heap.size ≤ w2.heap.size := by omega
    have x2w0 : ¬ w.heap.size = w2.heap.size := by omega
    have y2w0 : ¬ w2.heap.size = w.heap.size := by omega
    have l2w1 : w.heap.size + 1 < w2.heap.size := by omega
    have m2w1 : w.heap.size + 1 ≤ w2.heap.size := by omega
    have x2w1 : ¬ w.heap.size + 1 = w2.heap.size := by omega
    have y2w1 : ¬ w2.heap.size = w.heap.size + 1 := by omega
    have l2w2 : w.heap.size + 1 + 1 < w2.heap.size := by omega
    have m2w2 : w.heap.size + 1 + 1 ≤ w2.heap.size := by omega
    have x2w2 : ¬ w.heap.size + 1 + 1 = w2.heap.size := by omega
    have y2w2 : ¬ w2.heap.size = w.heap.size + 1 + 1 := by omega
    have l2w10 : w1.heap.size < w2.heap.size := by omega
    have m2w10 : w1.heap.size ≤ w2.heap.size := by omega
    have x2w10 : ¬ w1.heap.size = w2.heap.size := by omega
    have y2w10 : ¬ w2.heap.size = w1.heap.size := by omega
    go_wp2_with fail
    refine (s_okd_f _ h2).mono ?_
    rintro e w3 ⟨rfl, hb3⟩
    obtain ⟨hc3, hf3⟩ := bcell hb3
    have hz3 := hb3.size
    (try simp at hz3)
    have l3w0 : w.heap.size < w3.heap.size := by omega
    have m3w0 : w.heap.size ≤ w3.heap.size := by omega
    have x3w0 : ¬ w.heap.size = w3.heap.size := by omega
    have y3w0 : ¬ w3.heap.size = w.heap.size := by omega
    have l3w1 : w.heap.size + 1 < w3.heap.size := by omega
    have m3w1 : w.heap.size + 1 ≤ w3.heap.size := by omega
    have x3w1 : ¬ w.heap.size + 1 = w3.heap.size := by omega
    have y3w1 : ¬ w3.heap.size = w.heap.size + 1 := by omega
    have l3w2 : w.heap.size + 1 + 1 < w3.heap.size := by omega
    have m3w2 : w.heap.size + 1 + 1 ≤ w3.heap.size := by omega
    have x3w2 : ¬ w.heap.size + 1 + 1 = w3.heap.size := by omega
    have y3w2 : ¬ w3.heap.size = w.heap.size + 1 + 1 := by omega
    have l3w10 : w1.heap.size < w3.heap.size := by omega
    have m3w10 : w1.heap.size ≤ w3.heap.size := by omega
    have x3w10 : ¬ w1.heap.size = w3.heap.size := by omega
    have y3w10 : ¬ w3.heap.size = w1.heap.size := by omega
    go_wp2
    refine bodyPost_ret (v := .tuple #[.agg #[.int .i64 0, .int .i64 0, .int .i64 0, .int .i64 0, .int .i64 0], .bool false]) (by simp [results, Try.results83, go_sem, *]) rfl (ret_mk ?_)
    repeat (first | (with_reducible exact Below.refl _ _) | (with_reducible assumption) | (with_reducible refine bl_alloc ?_ _) | (with_reducible refine bl_drew ?_) | (with_reducible refine bl_set ?_ (by simp <;> omega) _) | (with_reducible refine bl_call ?_ (by assumption)))
theorem i_MulD_some {a b c d k p q r s l x y z t m : Int} (w : World) (h : mulD ⟨⟨a, b, c, d⟩, k⟩ ⟨⟨p, q, r, s⟩, l⟩ = some ⟨⟨x, y, z, t⟩, m⟩) : Calls Try.prog 25 #[.agg #[.int .i64 a, .int .i64 b, .int .i64 c, .int .i64 d, .int .i64 k], .agg #[.int .i64 p, .int .i64 q, .int .i64 r, .int .i64 s, .int .i64 l]] w (Ret (.tuple #[.agg #[.int .i64 x, .int .i64 y, .int .i64 z, .int .i64 t, .int .i64 m], .bool true]) w) := by
  unfold mulD at h
  split at h
  · rename_i hc
    obtain ⟨h1, h2⟩ := hc
    simp only at h
    rcases h3 : mulZ ⟨a, b, c, d⟩ ⟨p, q, r, s⟩ with _ | ⟨x', y', z', t'⟩
    · rw [h3] at h; cases h
    · rw [h3] at h
      exact i_MulD_new w h1 h2 h3 (fun W => i_New_some W h)
  · cases h
theorem i_MulD_none {a b c d k p q r s l : Int} (w : World) (h : mulD ⟨⟨a, b, c, d⟩, k⟩ ⟨⟨p, q, r, s⟩, l⟩ = none) : Calls Try.prog 25 #[.agg #[.int .i64 a, .int .i64 b, .int .i64 c, .int .i64 d, .int .i64 k], .agg #[.int .i64 p, .int .i64 q, .int .i64 r, .int .i64 s, .int .i64 l]] w (Ret (.tuple #[.agg #[.int .i64 0, .int .i64 0, .int .i64 0, .int .i64 0, .int .i64 0], .bool false]) w) := by
  cases h1 : okd ⟨⟨a, b, c, d⟩, k⟩
  · exact i_MulD_x w h1
  · cases h2 : okd ⟨⟨p, q, r, s⟩, l⟩
    · exact i_MulD_y w h1 h2
    · unfold mulD at h
      rw [if_pos ⟨h1, h2⟩] at h
      simp only at h
      rcases h3 : mulZ ⟨a, b, c, d⟩ ⟨p, q, r, s⟩ with _ | ⟨x', y', z', t'⟩
      · exact i_MulD_z w h1 h2 h3
      · rw [h3] at h
        exact i_MulD_new w h1 h2 h3 (fun W => i_New_none W h)
theorem s_MulD_some {a b c d k p q r s l x y z t m : Int} (w : World) (h : mulD ⟨⟨a, b, c, d⟩, k⟩ ⟨⟨p, q, r, s⟩, l⟩ = some ⟨⟨x, y, z, t⟩, m⟩) : Calls Try.prog 83 #[.agg #[.int .i64 a, .int .i64 b, .int .i64 c, .int .i64 d, .int .i64 k], .agg #[.int .i64 p, .int .i64 q, .int .i64 r, .int .i64 s, .int .i64 l]] w (Ret (.tuple #[.agg #[.int .i64 x, .int .i64 y, .int .i64 z, .int .i64 t, .int .i64 m], .bool true]) w) := by
  unfold mulD at h
  split at h
  · rename_i hc
    obtain ⟨h1, h2⟩ := hc
    simp only at h
    rcases h3 : mulZ ⟨a, b, c, d⟩ ⟨p, q, r, s⟩ with _ | ⟨x', y', z', t'⟩
    · rw [h3] at h; cases h
    · rw [h3] at h
      exact s_MulD_new w h1 h2 h3 (fun W => s_New_some W h)
  · cases h
theorem s_MulD_none {a b c d k p q r s l : Int} (w : World) (h : mulD ⟨⟨a, b, c, d⟩, k⟩ ⟨⟨p, q, r, s⟩, l⟩ = none) : Calls Try.prog 83 #[.agg #[.int .i64 a, .int .i64 b, .int .i64 c, .int .i64 d, .int .i64 k], .agg #[.int .i64 p, .int .i64 q, .int .i64 r, .int .i64 s, .int .i64 l]] w (Ret (.tuple #[.agg #[.int .i64 0, .int .i64 0, .int .i64 0, .int .i64 0, .int .i64 0], .bool false]) w) := by
  cases h1 : okd ⟨⟨a, b, c, d⟩, k⟩
  · exact s_MulD_x w h1
  · cases h2 : okd ⟨⟨p, q, r, s⟩, l⟩
    · exact s_MulD_y w h1 h2
    · unfold mulD at h
      rw [if_pos ⟨h1, h2⟩] at h
      simp only at h
      rcases h3 : mulZ ⟨a, b, c, d⟩ ⟨p, q, r, s⟩ with _ | ⟨x', y', z', t'⟩
      · exact s_MulD_z w h1 h2 h3
      · rw [h3] at h
        exact s_MulD_new w h1 h2 h3 (fun W => s_New_none W h)
end Go.Proofs.Ytaokfppadfoniaa
