/- Contracts: more draws of the laws on rings. -/
import Derived.Test.YtaokfppadfoniaaDr3
import Derived.Test.YtaokfppadfoniaaPure4
namespace Go.Proofs.Ytaokfppadfoniaa
open Go.RowKit
set_option linter.unusedVariables false

set_option maxHeartbeats 1000000 in
theorem d_DrawPE (A : Option Addr) (n c : Nat) (w : World) (hR : RB w w.heap.size A n) (hn : n ≤ 9223372036854775807) : Calls Try.prog 26 #[.slice A n c] w (RetD1 w) := by
  have HR := Lib.hid hR
  clear hR
  go_enter Try.func26, Try.ntmps26
  go_wp2_with fail
  have T0 : Own w (w.alloc (.cells #[.int .i64 0, .int .i64 0, .int .i64 0, .int .i64 0, .int .i64 0] 29)) [(w.heap.size, 29, #[.int .i64 0, .int .i64 0, .int .i64 0, .int .i64 0, .int .i64 0])] := by simpa using ((Own.start w).push 29 #[.int .i64 0, .int .i64 0, .int .i64 0, .int .i64 0, .int .i64 0])
  refine (d_newE A n c w _ _ HR.out hn T0).mono ?_
  rintro e w1 ⟨g, rfl, s1⟩
  have S1 := Lib.hid s1
  clear s1 T0
  go_wp2_with fail
  refine (d_once 2 g A n c _ S1.out.cur (by omega)).mono ?_
  rintro e w2 ⟨v, rfl, ⟨o, rfl⟩, hC2, hO2⟩
  have S2 := Lib.hid (S1.out.cret hC2 hO2)
  clear hC2 hO2
  cases o
  · go_wp2_with fail
    refine (d_bent g A n c _ S2.out.cur).mono ?_
    rintro e w3 ⟨v, rfl, ⟨a, b, cc, d, k, rfl⟩, hC3, hO3⟩
    have S3 := Lib.hid (S2.out.cret hC3 hO3)
    clear hC3 hO3
    obtain ⟨k00, k01, k02, k03, k04, f00, f01, f02, f03, f04⟩ := S3.out.own.head.five
    have qr01 := S3.out.own.head.lt
    have qr02 := Nat.ne_of_lt qr01
    have qr03 := Nat.ne_of_gt qr01
    have qr04 := Nat.le_of_lt qr01
    have hbe := S3.out.below
    go_wp2
    refine bodyPost_ret (v := .agg #[.int .i64 a, .int .i64 b, .int .i64 cc, .int .i64 d, .int .i64 k]) (by simp [results, Try.results26, go_sem, *]) rfl ⟨_, _, _, _, _, rfl, ?_⟩
    repeat (first | (with_reducible exact Below.refl _ _) | (with_reducible assumption) | (with_reducible refine bl_alloc ?_ _) | (with_reducible refine bl_drew ?_) | (with_reducible refine bl_set ?_ (by simp <;> omega) _) | (with_reducible refine bl_call ?_ (by assumption)))
  · go_wp2_with fail
    refine (d_below 8 g A n c _ S2.out.cur (by omega)).mono ?_
    rintro e w3 ⟨v, rfl, ⟨x3, rfl, l3, u3⟩, hC3, hO3⟩
    have S3 := Lib.hid (S2.out.cret hC3 hO3)
    clear hC3 hO3
    obtain ⟨⟨a, b, cc, d⟩, hp⟩ : ∃ z, phaseZ x3 = z := ⟨_, rfl⟩
    have HP := Lib.hid hp
    clear hp
    go_wp2_with fail
    refine (s_Phase _ HP.out).mono ?_
    rintro e w4 ⟨rfl, hb4⟩
    have S4 := Lib.hid (S3.out.call hb4)
    clear hb4
    obtain ⟨k00, k01, k02, k03, k04, f00, f01, f02, f03, f04⟩ := S4.out.own.head.five
    have qr01 := S4.out.own.head.lt
    have qr02 := Nat.ne_of_lt qr01
    have qr03 := Nat.ne_of_gt qr01
    have qr04 := Nat.le_of_lt qr01
    have hbe := S4.out.below
    go_wp2
    refine bodyPost_ret (v := .agg #[.int .i64 a, .int .i64 b, .int .i64 cc, .int .i64 d, .int .i64 0]) (by simp [results, Try.results26, go_sem, *]) rfl ⟨_, _, _, _, _, rfl, ?_⟩
    repeat (first | (with_reducible exact Below.refl _ _) | (with_reducible assumption) | (with_reducible refine bl_alloc ?_ _) | (with_reducible refine bl_drew ?_) | (with_reducible refine bl_set ?_ (by simp <;> omega) _) | (with_reducible refine bl_call ?_ (by assumption)))
end Go.Proofs.Ytaokfppadfoniaa
