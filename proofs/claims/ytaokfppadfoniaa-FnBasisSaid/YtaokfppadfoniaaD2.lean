/- Contracts: negation and conjugation in D[omega]. -/
import Derived.Test.YtaokfppadfoniaaD
import Derived.Test.YtaokfppadfoniaaBlk
import Derived.Deep.RegionHeld3
import Derived.Outline
namespace Go.Proofs.Ytaokfppadfoniaa
open Go.RowKit

theorem okd_okz {a b c d k : Int} (h : okd ⟨⟨a, b, c, d⟩, k⟩ = true) : okz ⟨a, b, c, d⟩ = true := by
  simp [okd] at h; exact h.1.1

set_option maxHeartbeats 400000 in
theorem i_ConjD_t {a b c d k : Int} (w : World) (h : okd ⟨⟨a, b, c, d⟩, k⟩ = true) : Calls Try.prog 56 #[.agg #[.int .i64 a, .int .i64 b, .int .i64 c, .int .i64 d, .int .i64 k]] w (Ret (.agg #[.int .i64 a, .int .i64 (-d), .int .i64 (-c), .int .i64 (-b), .int .i64 k]) w) := by
  have hz := okd_okz h
  go_enter Try.func56, Try.ntmps56
  go_wp2_with fail
  refine (i_okd_t _ h).mono ?_
  rintro e w1 ⟨rfl, hb1⟩
  have k0 : Blk w1 w.heap.size 29 #[.int .i64 a, .int .i64 b, .int .i64 c, .int .i64 d, .int .i64 k] := ((Blk.new w _ _).alloc _).call hb1
  have k1 : Blk w1 (w.heap.size + 1) 29 #[.int .i64 0, .int .i64 0, .int .i64 0, .int .i64 0, .int .i64 0] := by
    have := (Blk.new (w.alloc (.cells #[.int .i64 a, .int .i64 b, .int .i64 c, .int .i64 d, .int .i64 k] 29)) 29 #[.int .i64 0, .int .i64 0, .int .i64 0, .int .i64 0, .int .i64 0]).call hb1
    simpa using this
  have hw : Below w.heap.size w w1 := by
    repeat (first | (with_reducible exact Below.refl _ _) | (with_reducible assumption) | (with_reducible refine bl_alloc ?_ _) | (with_reducible refine bl_drew ?_) | (with_reducible refine bl_set ?_ (by simp <;> omega) _) | (with_reducible refine bl_call ?_ (by assumption)))
  clear hb1
  have c0 := k0.cell 0
  have c1 := k0.cell 1
  have c2 := k0.cell 2
  have c3 := k0.cell 3
  have c4 := k0.cell 4
  have r0 := k1.cell
  have f0 := k1.free
  have l0 := k0.lt
  have l1 := k1.lt
  simp at c0 c1 c2 c3 c4
  have d0 : w1.drew.cell? ⟨w.heap.size, 0, none⟩ = some (.int .i64 a) := c0
  have d1 : w1.drew.cell? ⟨w.heap.size, 1, none⟩ = some (.int .i64 b) := c1
  have d2 : w1.drew.cell? ⟨w.heap.size, 2, none⟩ = some (.int .i64 c) := c2
  have d3 : w1.drew.cell? ⟨w.heap.size, 3, none⟩ = some (.int .i64 d) := c3
  have d4 : w1.drew.cell? ⟨w.heap.size, 4, none⟩ = some (.int .i64 k) := c4
  have K0 := Lib.hid k0
  have K1 := Lib.hid k1
  clear k0 k1 r0 f0
  go_wp2_with fail
  go_region_held3 (fun w' => w'.cell? ⟨w.heap.size, 0, none⟩ = some (.int .i64 a) ∧ w'.cell? ⟨w.heap.size, 1, none⟩ = some (.int .i64 b) ∧ w'.cell? ⟨w.heap.size, 2, none⟩ = some (.int .i64 c) ∧ w'.cell? ⟨w.heap.size, 3, none⟩ = some (.int .i64 d) ∧ w'.cell? ⟨w.heap.size, 4, none⟩ = some (.int .i64 k)) (first | (with_reducible exact ⟨c0, c1, c2, c3, c4⟩) | (with_reducible exact ⟨d0, d1, d2, d3, d4⟩) | (with_reducible exact ⟨q0, q1, q2, q3, q4⟩) | go_keep) (first | (go_at_call 94; refine (i_ConjZ_t _ hz).mono ?_; rintro e w2 ⟨rfl, hb2⟩; have q0 := (hb2.cell (p := ⟨w.heap.size, 0, none⟩) l0).trans c0; have q1 := (hb2.cell (p := ⟨w.heap.size, 1, none⟩) l0).trans c1; have q2 := (hb2.cell (p := ⟨w.heap.size, 2, none⟩) l0).trans c2; have q3 := (hb2.cell (p := ⟨w.heap.size, 3, none⟩) l0).trans c3; have q4 := (hb2.cell (p := ⟨w.heap.size, 4, none⟩) l0).trans c4; obtain ⟨r0, r1, r2, r3, r4, f0, f1, f2, f3, f4⟩ := (K1.out.drew.call hb2).five))
  go_wp2
  refine bodyPost_ret (v := .agg #[.int .i64 a, .int .i64 (-d), .int .i64 (-c), .int .i64 (-b), .int .i64 k]) (by simp [results, Try.results56, go_sem, *]) rfl (ret_mk ?_)
  repeat (first | (with_reducible exact Below.refl _ _) | (with_reducible assumption) | (with_reducible refine bl_alloc ?_ _) | (with_reducible refine bl_drew ?_) | (with_reducible refine bl_set ?_ (by simp <;> omega) _) | (with_reducible refine bl_call ?_ (by assumption)))
set_option maxHeartbeats 400000 in
theorem i_ConjD_f {a b c d k : Int} (w : World) (h : okd ⟨⟨a, b, c, d⟩, k⟩ = false) : Calls Try.prog 56 #[.agg #[.int .i64 a, .int .i64 b, .int .i64 c, .int .i64 d, .int .i64 k]] w (Ret (.agg #[.int .i64 0, .int .i64 0, .int .i64 0, .int .i64 0, .int .i64 0]) w) := by
  go_enter Try.func56, Try.ntmps56
  go_wp2_with fail
  refine (i_okd_f _ h).mono ?_
  rintro e w1 ⟨rfl, hb1⟩
  obtain ⟨hc1, hf1⟩ := bcell hb1
  have hz1 := hb1.size
  (try simp at hz1)
  have l1w0 : w.heap.size < w1.heap.size := by omega
  have m1w0 : w.heap.size ≤ w1.heap.size := by omega
  have x1w0 : ¬ w.heap.size = w1.heap.size := by omega
  have y1w0 : ¬ w1.heap.size = w.heap.size := by omega
  have l1w1 : w.heap.size + 1 < w1.heap.size := by omega
  have m1w1 : w.heap.size + 1 ≤ w1.heap.size := by omega
  have x1w1 : ¬ w.heap.size + 1 = w1.heap.size := by omega
  have y1w1 : ¬ w1.heap.size = w.heap.size + 1 := by omega
  go_wp2
  refine bodyPost_ret (v := .agg #[.int .i64 0, .int .i64 0, .int .i64 0, .int .i64 0, .int .i64 0]) (by simp [results, Try.results56, go_sem, *]) rfl (ret_mk ?_)
  repeat (first | (with_reducible exact Below.refl _ _) | (with_reducible assumption) | (with_reducible refine bl_alloc ?_ _) | (with_reducible refine bl_drew ?_) | (with_reducible refine bl_set ?_ (by simp <;> omega) _) | (with_reducible refine bl_call ?_ (by assumption)))

set_option maxHeartbeats 400000 in
theorem s_ConjD_t {a b c d k : Int} (w : World) (h : okd ⟨⟨a, b, c, d⟩, k⟩ = true) : Calls Try.prog 88 #[.agg #[.int .i64 a, .int .i64 b, .int .i64 c, .int .i64 d, .int .i64 k]] w (Ret (.agg #[.int .i64 a, .int .i64 (-d), .int .i64 (-c), .int .i64 (-b), .int .i64 k]) w) := by
  have hz := okd_okz h
  go_enter Try.func88, Try.ntmps88
  go_wp2_with fail
  refine (s_okd_t _ h).mono ?_
  rintro e w1 ⟨rfl, hb1⟩
  have k0 : Blk w1 w.heap.size 29 #[.int .i64 a, .int .i64 b, .int .i64 c, .int .i64 d, .int .i64 k] := ((Blk.new w _ _).alloc _).call hb1
  have k1 : Blk w1 (w.heap.size + 1) 29 #[.int .i64 0, .int .i64 0, .int .i64 0, .int .i64 0, .int .i64 0] := by
    have := (Blk.new (w.alloc (.cells #[.int .i64 a, .int .i64 b, .int .i64 c, .int .i64 d, .int .i64 k] 29)) 29 #[.int .i64 0, .int .i64 0, .int .i64 0, .int .i64 0, .int .i64 0]).call hb1
    simpa using this
  have hw : Below w.heap.size w w1 := by
    repeat (first | (with_reducible exact Below.refl _ _) | (with_reducible assumption) | (with_reducible refine bl_alloc ?_ _) | (with_reducible refine bl_drew ?_) | (with_reducible refine bl_set ?_ (by simp <;> omega) _) | (with_reducible refine bl_call ?_ (by assumption)))
  clear hb1
  have c0 := k0.cell 0
  have c1 := k0.cell 1
  have c2 := k0.cell 2
  have c3 := k0.cell 3
  have c4 := k0.cell 4
  have r0 := k1.cell
  have f0 := k1.free
  have l0 := k0.lt
  have l1 := k1.lt
  simp at c0 c1 c2 c3 c4
  have d0 : w1.drew.cell? ⟨w.heap.size, 0, none⟩ = some (.int .i64 a) := c0
  have d1 : w1.drew.cell? ⟨w.heap.size, 1, none⟩ = some (.int .i64 b) := c1
  have d2 : w1.drew.cell? ⟨w.heap.size, 2, none⟩ = some (.int .i64 c) := c2
  have d3 : w1.drew.cell? ⟨w.heap.size, 3, none⟩ = some (.int .i64 d) := c3
  have d4 : w1.drew.cell? ⟨w.heap.size, 4, none⟩ = some (.int .i64 k) := c4
  have K0 := Lib.hid k0
  have K1 := Lib.hid k1
  clear k0 k1 r0 f0
  go_wp2_with fail
  go_region_held3 (fun w' => w'.cell? ⟨w.heap.size, 0, none⟩ = some (.int .i64 a) ∧ w'.cell? ⟨w.heap.size, 1, none⟩ = some (.int .i64 b) ∧ w'.cell? ⟨w.heap.size, 2, none⟩ = some (.int .i64 c) ∧ w'.cell? ⟨w.heap.size, 3, none⟩ = some (.int .i64 d) ∧ w'.cell? ⟨w.heap.size, 4, none⟩ = some (.int .i64 k)) (first | (with_reducible exact ⟨c0, c1, c2, c3, c4⟩) | (with_reducible exact ⟨d0, d1, d2, d3, d4⟩) | (with_reducible exact ⟨q0, q1, q2, q3, q4⟩) | go_keep) (first | (go_at_call 108; refine (s_ConjZ_t _ hz).mono ?_; rintro e w2 ⟨rfl, hb2⟩; have q0 := (hb2.cell (p := ⟨w.heap.size, 0, none⟩) l0).trans c0; have q1 := (hb2.cell (p := ⟨w.heap.size, 1, none⟩) l0).trans c1; have q2 := (hb2.cell (p := ⟨w.heap.size, 2, none⟩) l0).trans c2; have q3 := (hb2.cell (p := ⟨w.heap.size, 3, none⟩) l0).trans c3; have q4 := (hb2.cell (p := ⟨w.heap.size, 4, none⟩) l0).trans c4; obtain ⟨r0, r1, r2, r3, r4, f0, f1, f2, f3, f4⟩ := (K1.out.drew.call hb2).five))
  go_wp2
  refine bodyPost_ret (v := .agg #[.int .i64 a, .int .i64 (-d), .int .i64 (-c), .int .i64 (-b), .int .i64 k]) (by simp [results, Try.results88, go_sem, *]) rfl (ret_mk ?_)
  repeat (first | (with_reducible exact Below.refl _ _) | (with_reducible assumption) | (with_reducible refine bl_alloc ?_ _) | (with_reducible refine bl_drew ?_) | (with_reducible refine bl_set ?_ (by simp <;> omega) _) | (with_reducible refine bl_call ?_ (by assumption)))
set_option maxHeartbeats 400000 in
theorem s_ConjD_f {a b c d k : Int} (w : World) (h : okd ⟨⟨a, b, c, d⟩, k⟩ = false) : Calls Try.prog 88 #[.agg #[.int .i64 a, .int .i64 b, .int .i64 c, .int .i64 d, .int .i64 k]] w (Ret (.agg #[.int .i64 0, .int .i64 0, .int .i64 0, .int .i64 0, .int .i64 0]) w) := by
  go_enter Try.func88, Try.ntmps88
  go_wp2_with fail
  refine (s_okd_f _ h).mono ?_
  rintro e w1 ⟨rfl, hb1⟩
  obtain ⟨hc1, hf1⟩ := bcell hb1
  have hz1 := hb1.size
  (try simp at hz1)
  have l1w0 : w.heap.size < w1.heap.size := by omega
  have m1w0 : w.heap.size ≤ w1.heap.size := by omega
  have x1w0 : ¬ w.heap.size = w1.heap.size := by omega
  have y1w0 : ¬ w1.heap.size = w.heap.size := by omega
  have l1w1 : w.heap.size + 1 < w1.heap.size := by omega
  have m1w1 : w.heap.size + 1 ≤ w1.heap.size := by omega
  have x1w1 : ¬ w.heap.size + 1 = w1.heap.size := by omega
  have y1w1 : ¬ w1.heap.size = w.heap.size + 1 := by omega
  go_wp2
  refine bodyPost_ret (v := .agg #[.int .i64 0, .int .i64 0, .int .i64 0, .int .i64 0, .int .i64 0]) (by simp [results, Try.results88, go_sem, *]) rfl (ret_mk ?_)
  repeat (first | (with_reducible exact Below.refl _ _) | (with_reducible assumption) | (with_reducible refine bl_alloc ?_ _) | (with_reducible refine bl_drew ?_) | (with_reducible refine bl_set ?_ (by simp <;> omega) _) | (with_reducible refine bl_call ?_ (by assumption)))
end Go.Proofs.Ytaokfppadfoniaa
