/- Contracts: more draws of the laws on rings. -/
import Derived.Test.YtpkbmdlamcgiiaaDr3
import Derived.Test.YtpkbmdlamcgiiaaPure4
namespace Go.Proofs.Ytpkbmdlamcgiiaa
open Go.RowKit
set_option linter.unusedVariables false

set_option maxHeartbeats 1000000 in
theorem d_DrawIR (A : Option Addr) (n c : Nat) (w : World) (hR : RB w w.heap.size A n) (hn : n ≤ 9223372036854775807) : Calls Try.prog 74 #[.slice A n c] w (RetD1 w) := by
  have HR := Lib.hid hR
  clear hR
  go_enter Try.func74, Try.ntmps74
  go_wp2_with fail
  have T0 : Own w (w.alloc (.cells #[.int .i64 0, .int .i64 0, .int .i64 0, .int .i64 0, .int .i64 0] 29)) [(w.heap.size, 29, #[.int .i64 0, .int .i64 0, .int .i64 0, .int .i64 0, .int .i64 0])] := by simpa using ((Own.start w).push 29 #[.int .i64 0, .int .i64 0, .int .i64 0, .int .i64 0, .int .i64 0])
  refine (d_newE A n c w _ _ HR.out hn T0).mono ?_
  rintro e w1 ⟨g, rfl, s1⟩
  have S1 := Lib.hid s1
  clear s1 T0
  go_wp2_with fail
  refine (d_once 2 g A n c _ S1.out.cur (by omega)).mono ?_
  rintro e w2 ⟨v, rfl, ⟨o, rfl⟩, hC2, hO2⟩
  have S2 := Lib.hid (S1.out.cret hC2 hO2)
  clear hC2 hO2
  cases o
  · go_wp2_with fail
    refine (d_bent g A n c _ S2.out.cur).mono ?_
    rintro e w3 ⟨v, rfl, ⟨a, b, cc, d, k, rfl⟩, hC3, hO3⟩
    have S3 := Lib.hid (S2.out.cret hC3 hO3)
    clear hC3 hO3
    obtain ⟨k00, k01, k02, k03, k04, f00, f01, f02, f03, f04⟩ := S3.out.own.head.five
    have qr01 := S3.out.own.head.lt
    have qr02 := Nat.ne_of_lt qr01
    have qr03 := Nat.ne_of_gt qr01
    have qr04 := Nat.le_of_lt qr01
    have hbe := S3.out.below
    go_wp2
    refine bodyPost_ret (v := .agg #[.int .i64 a, .int .i64 b, .int .i64 cc, .int .i64 d, .int .i64 k]) (by simp [results, Try.results74, go_sem, *]) rfl ⟨_, _, _, _, _, rfl, ?_⟩
    repeat (first | (with_reducible exact Below.refl _ _) | (with_reducible assumption) | (with_reducible refine bl_alloc ?_ _) | (with_reducible refine bl_drew ?_) | (with_reducible refine bl_set ?_ (by simp <;> omega) _) | (with_reducible refine bl_call ?_ (by assumption)))
  · go_wp2_with fail
    refine (d_real g A n c _ S2.out.cur).mono ?_
    rintro e w3 ⟨v, rfl, ⟨a, b, cc, d, k, rfl⟩, hC3, hO3⟩
    have S3 := Lib.hid (S2.out.cret hC3 hO3)
    clear hC3 hO3
    obtain ⟨k00, k01, k02, k03, k04, f00, f01, f02, f03, f04⟩ := S3.out.own.head.five
    have qr01 := S3.out.own.head.lt
    have qr02 := Nat.ne_of_lt qr01
    have qr03 := Nat.ne_of_gt qr01
    have qr04 := Nat.le_of_lt qr01
    have hbe := S3.out.below
    go_wp2
    refine bodyPost_ret (v := .agg #[.int .i64 a, .int .i64 b, .int .i64 cc, .int .i64 d, .int .i64 k]) (by simp [results, Try.results74, go_sem, *]) rfl ⟨_, _, _, _, _, rfl, ?_⟩
    repeat (first | (with_reducible exact Below.refl _ _) | (with_reducible assumption) | (with_reducible refine bl_alloc ?_ _) | (with_reducible refine bl_drew ?_) | (with_reducible refine bl_set ?_ (by simp <;> omega) _) | (with_reducible refine bl_call ?_ (by assumption)))
set_option maxHeartbeats 1000000 in
theorem d_DrawRS (A : Option Addr) (n c : Nat) (w : World) (hR : RB w w.heap.size A n) (hn : n ≤ 9223372036854775807) : Calls Try.prog 51 #[.slice A n c] w (RetD1 w) := by
  have HR := Lib.hid hR
  clear hR
  go_enter Try.func51, Try.ntmps51
  go_wp2_with fail
  have T0 : Own w (w.alloc (.cells #[.int .i64 0, .int .i64 0, .int .i64 0, .int .i64 0, .int .i64 0] 29)) [(w.heap.size, 29, #[.int .i64 0, .int .i64 0, .int .i64 0, .int .i64 0, .int .i64 0])] := by simpa using ((Own.start w).push 29 #[.int .i64 0, .int .i64 0, .int .i64 0, .int .i64 0, .int .i64 0])
  refine (d_newE A n c w _ _ HR.out hn T0).mono ?_
  rintro e w1 ⟨g, rfl, s1⟩
  have S1 := Lib.hid s1
  clear s1 T0
  go_wp2_with fail
  refine (d_once 10 g A n c _ S1.out.cur (by omega)).mono ?_
  rintro e w2 ⟨v, rfl, ⟨o, rfl⟩, hC2, hO2⟩
  have S2 := Lib.hid (S1.out.cret hC2 hO2)
  clear hC2 hO2
  cases o
  · go_wp2_with fail
    refine (d_DrawIR A n c _ ((HR.out.keep S2.out.below).more S2.out.below.size) hn).mono ?_
    rintro e w3 ⟨a, b, cc, d, k, rfl, hb3⟩
    have S3 := Lib.hid (S2.out.call hb3)
    clear hb3
    obtain ⟨k00, k01, k02, k03, k04, f00, f01, f02, f03, f04⟩ := S3.out.own.head.five
    have qr01 := S3.out.own.head.lt
    have qr02 := Nat.ne_of_lt qr01
    have qr03 := Nat.ne_of_gt qr01
    have qr04 := Nat.le_of_lt qr01
    have hbe := S3.out.below
    go_wp2
    refine bodyPost_ret (v := .agg #[.int .i64 a, .int .i64 b, .int .i64 cc, .int .i64 d, .int .i64 k]) (by simp [results, Try.results51, go_sem, *]) rfl ⟨_, _, _, _, _, rfl, ?_⟩
    repeat (first | (with_reducible exact Below.refl _ _) | (with_reducible assumption) | (with_reducible refine bl_alloc ?_ _) | (with_reducible refine bl_drew ?_) | (with_reducible refine bl_set ?_ (by simp <;> omega) _) | (with_reducible refine bl_call ?_ (by assumption)))
  · go_wp2_with fail
    refine (d_below 2 g A n c _ S2.out.cur (by omega)).mono ?_
    rintro e w3 ⟨v, rfl, ⟨x3, rfl, l3, u3⟩, hC3, hO3⟩
    have S3 := Lib.hid (S2.out.cret hC3 hO3)
    clear hC3 hO3
    obtain ⟨x, y, z, t, m, ok, -, hS, hT, hF⟩ := newD_u 1073741824 (-759250125 + x3) 0 759250125 0
    have hy : -1073741824 ≤ y ∧ y ≤ 1073741824 := by
      cases ok
      · obtain ⟨_, _, hy, _⟩ := hF rfl; omega
      · have hv := (newD_val (hT rfl)).1
        obtain ⟨hz, _⟩ := okd_parts hv
        exact (okz_b hz).2.1
    have HS := Lib.hid hS
    clear hS hT hF
    go_wp2_with fail
    refine (HS.out _).mono ?_
    rintro e w4 ⟨rfl, hb4⟩
    have S4 := Lib.hid (S3.out.call hb4)
    clear hb4
    obtain ⟨k00, k01, k02, k03, k04, f00, f01, f02, f03, f04⟩ := S4.out.own.head.five
    have qr01 := S4.out.own.head.lt
    have qr02 := Nat.ne_of_lt qr01
    have qr03 := Nat.ne_of_gt qr01
    have qr04 := Nat.le_of_lt qr01
    have hbe := S4.out.below
    go_wp2
    refine bodyPost_ret (v := .agg #[.int .i64 x, .int .i64 y, .int .i64 z, .int .i64 (-y), .int .i64 m]) (by simp [results, Try.results51, go_sem, *]) rfl ⟨_, _, _, _, _, rfl, ?_⟩
    repeat (first | (with_reducible exact Below.refl _ _) | (with_reducible assumption) | (with_reducible refine bl_alloc ?_ _) | (with_reducible refine bl_drew ?_) | (with_reducible refine bl_set ?_ (by simp <;> omega) _) | (with_reducible refine bl_call ?_ (by assumption)))
set_option maxHeartbeats 1000000 in
theorem d_DrawPE (A : Option Addr) (n c : Nat) (w : World) (hR : RB w w.heap.size A n) (hn : n ≤ 9223372036854775807) : Calls Try.prog 40 #[.slice A n c] w (RetD1 w) := by
  have HR := Lib.hid hR
  clear hR
  go_enter Try.func40, Try.ntmps40
  go_wp2_with fail
  have T0 : Own w (w.alloc (.cells #[.int .i64 0, .int .i64 0, .int .i64 0, .int .i64 0, .int .i64 0] 29)) [(w.heap.size, 29, #[.int .i64 0, .int .i64 0, .int .i64 0, .int .i64 0, .int .i64 0])] := by simpa using ((Own.start w).push 29 #[.int .i64 0, .int .i64 0, .int .i64 0, .int .i64 0, .int .i64 0])
  refine (d_newE A n c w _ _ HR.out hn T0).mono ?_
  rintro e w1 ⟨g, rfl, s1⟩
  have S1 := Lib.hid s1
  clear s1 T0
  go_wp2_with fail
  refine (d_once 2 g A n c _ S1.out.cur (by omega)).mono ?_
  rintro e w2 ⟨v, rfl, ⟨o, rfl⟩, hC2, hO2⟩
  have S2 := Lib.hid (S1.out.cret hC2 hO2)
  clear hC2 hO2
  cases o
  · go_wp2_with fail
    refine (d_bent g A n c _ S2.out.cur).mono ?_
    rintro e w3 ⟨v, rfl, ⟨a, b, cc, d, k, rfl⟩, hC3, hO3⟩
    have S3 := Lib.hid (S2.out.cret hC3 hO3)
    clear hC3 hO3
    obtain ⟨k00, k01, k02, k03, k04, f00, f01, f02, f03, f04⟩ := S3.out.own.head.five
    have qr01 := S3.out.own.head.lt
    have qr02 := Nat.ne_of_lt qr01
    have qr03 := Nat.ne_of_gt qr01
    have qr04 := Nat.le_of_lt qr01
    have hbe := S3.out.below
    go_wp2
    refine bodyPost_ret (v := .agg #[.int .i64 a, .int .i64 b, .int .i64 cc, .int .i64 d, .int .i64 k]) (by simp [results, Try.results40, go_sem, *]) rfl ⟨_, _, _, _, _, rfl, ?_⟩
    repeat (first | (with_reducible exact Below.refl _ _) | (with_reducible assumption) | (with_reducible refine bl_alloc ?_ _) | (with_reducible refine bl_drew ?_) | (with_reducible refine bl_set ?_ (by simp <;> omega) _) | (with_reducible refine bl_call ?_ (by assumption)))
  · go_wp2_with fail
    refine (d_below 8 g A n c _ S2.out.cur (by omega)).mono ?_
    rintro e w3 ⟨v, rfl, ⟨x3, rfl, l3, u3⟩, hC3, hO3⟩
    have S3 := Lib.hid (S2.out.cret hC3 hO3)
    clear hC3 hO3
    obtain ⟨⟨a, b, cc, d⟩, hp⟩ : ∃ z, phaseZ x3 = z := ⟨_, rfl⟩
    have HP := Lib.hid hp
    clear hp
    go_wp2_with fail
    refine (s_Phase _ HP.out).mono ?_
    rintro e w4 ⟨rfl, hb4⟩
    have S4 := Lib.hid (S3.out.call hb4)
    clear hb4
    obtain ⟨k00, k01, k02, k03, k04, f00, f01, f02, f03, f04⟩ := S4.out.own.head.five
    have qr01 := S4.out.own.head.lt
    have qr02 := Nat.ne_of_lt qr01
    have qr03 := Nat.ne_of_gt qr01
    have qr04 := Nat.le_of_lt qr01
    have hbe := S4.out.below
    go_wp2
    refine bodyPost_ret (v := .agg #[.int .i64 a, .int .i64 b, .int .i64 cc, .int .i64 d, .int .i64 0]) (by simp [results, Try.results40, go_sem, *]) rfl ⟨_, _, _, _, _, rfl, ?_⟩
    repeat (first | (with_reducible exact Below.refl _ _) | (with_reducible assumption) | (with_reducible refine bl_alloc ?_ _) | (with_reducible refine bl_drew ?_) | (with_reducible refine bl_set ?_ (by simp <;> omega) _) | (with_reducible refine bl_call ?_ (by assumption)))
set_option maxHeartbeats 400000 in
theorem d_DrawMulD (A : Option Addr) (n c : Nat) (w : World) (hR : RB w w.heap.size A n) (hn : n ≤ 9223372036854775807) : Calls Try.prog 31 #[.slice A n c] w (Ret2D w) := by
  have HR := Lib.hid hR
  clear hR
  go_enter Try.func31, Try.ntmps31
  go_wp2_with fail
  have T0 : Own w ((w.alloc (.cells #[.int .i64 0, .int .i64 0, .int .i64 0, .int .i64 0, .int .i64 0] 29)).alloc (.cells #[.int .i64 0, .int .i64 0, .int .i64 0, .int .i64 0, .int .i64 0] 29)) [(w.heap.size + 1, 29, #[.int .i64 0, .int .i64 0, .int .i64 0, .int .i64 0, .int .i64 0]), (w.heap.size, 29, #[.int .i64 0, .int .i64 0, .int .i64 0, .int .i64 0, .int .i64 0])] := by simpa using ((Own.start w).push 29 #[.int .i64 0, .int .i64 0, .int .i64 0, .int .i64 0, .int .i64 0]).push 29 #[.int .i64 0, .int .i64 0, .int .i64 0, .int .i64 0, .int .i64 0]
  refine (d_DrawAddD A n c _ ((HR.out.keep T0.below).more T0.below.size) hn).mono ?_
  rintro e w1 ⟨a, b, cc, d, k, p, q, r, s, l, rfl, hb⟩
  have T1 := T0.call hb
  obtain ⟨k0, k1, k2, k3, k4, f0, f1, f2, f3, f4⟩ := T1.head.five
  obtain ⟨m0, m1, m2, m3, m4, g0, g1, g2, g3, g4⟩ := T1.tail.head.five
  have hb3 := T1.below
  clear hb T0 T1
  go_wp2
  refine bodyPost_ret (v := .tuple #[.agg #[.int .i64 a, .int .i64 b, .int .i64 cc, .int .i64 d, .int .i64 k], .agg #[.int .i64 p, .int .i64 q, .int .i64 r, .int .i64 s, .int .i64 l]]) (by simp [results, Try.results31, go_sem, *]) rfl ⟨_, _, _, _, _, _, _, _, _, _, rfl, ?_⟩
  repeat (first | (with_reducible exact Below.refl _ _) | (with_reducible assumption) | (with_reducible refine bl_alloc ?_ _) | (with_reducible refine bl_drew ?_) | (with_reducible refine bl_set ?_ (by simp <;> omega) _) | (with_reducible refine bl_call ?_ (by assumption)))
end Go.Proofs.Ytpkbmdlamcgiiaa
