/- Contracts: the draws of the laws on rings. -/
import Derived.Test.YtpkbmdlamcgiiaaDr2
import Derived.Test.YtpkbmdlamcgiiaaU
import Derived.Test.YtpkbmdlamcgiiaaUp
import Derived.Test.YtpkbmdlamcgiiaaPh
import Derived.Deep.RegionHeld3
namespace Go.Proofs.Ytpkbmdlamcgiiaa
open Go.RowKit
set_option linter.unusedVariables false

def RetZ1 (w : World) (e : Ending) (w' : World) : Prop := ∃ a b c d : Int, e = .returned (.agg #[.int .i64 a, .int .i64 b, .int .i64 c, .int .i64 d]) ∧ Below w.heap.size w w'
def RetD1 (w : World) (e : Ending) (w' : World) : Prop := ∃ a b c d k : Int, e = .returned (.agg #[.int .i64 a, .int .i64 b, .int .i64 c, .int .i64 d, .int .i64 k]) ∧ Below w.heap.size w w'
def Ret2D (w : World) (e : Ending) (w' : World) : Prop := ∃ a b c d k p q r s l : Int, e = .returned (.tuple #[.agg #[.int .i64 a, .int .i64 b, .int .i64 c, .int .i64 d, .int .i64 k], .agg #[.int .i64 p, .int .i64 q, .int .i64 r, .int .i64 s, .int .i64 l]]) ∧ Below w.heap.size w w'
theorem fin_alloc {w X : World} {g n c : Nat} {A : Option Addr} (h : Cur X g A n c ∧ Only g w X) (o : Obj) : Cur (X.alloc o) g A n c ∧ Only g w (X.alloc o) :=
  ⟨h.1.alloc o, h.2.trans (Only.of_below (bl_alloc (Below.refl _ _) o) h.1.lt)⟩
def isB (v : Value) : Prop := ∃ b : Bool, v = .bool b
set_option maxHeartbeats 400000 in
theorem d_once (m : Int) (g : Nat) (A : Option Addr) (n c : Nat) (w : World) (hC : Cur w g A n c) (hm : 0 < m) : Calls Try.prog 55 #[.pointer (some ⟨g, 0, none⟩), .int .i64 m] w (CRet g A n c w isB) := by
  have HC := Lib.hid hC
  clear hC
  go_enter Try.func55, Try.ntmps55
  go_wp2_with fail
  refine (d_below m g A n c _ HC.out hm).mono ?_
  rintro e w1 ⟨v, rfl, ⟨x, rfl, x0, x1⟩, hC1, hO1⟩
  have H1 := Lib.hid hC1
  have H2 := Lib.hid hO1
  clear hC1 hO1
  go_wp2
  go_ret
  exact ⟨_, rfl, ⟨_, rfl⟩, H1.out, H2.out⟩
theorem RB.tail {w : World} {B n : Nat} {b off : Nat} (h : RB w B (some ⟨b, off, none⟩) (n + 1)) : RB w B (some ⟨b, off + 1, none⟩) n := fun i hi => by
  obtain ⟨b', off', x, h1, h2, h3, h4⟩ := h (i + 1) (by omega)
  simp only [Option.some.injEq, Addr.mk.injEq, and_true] at h1
  obtain ⟨rfl, rfl⟩ := h1
  exact ⟨b, off + 1, x, rfl, h2, by rw [show off + 1 + i = off + (i + 1) by omega]; exact h3, h4⟩
def RetT (w : World) (e : Ending) (w' : World) : Prop := ∃ A' n' c', e = .returned (.slice A' n' c') ∧ RB w w.heap.size A' n' ∧ n' ≤ 9223372036854775807 ∧ w = w'
set_option maxHeartbeats 400000 in
theorem l_tail (A : Option Addr) (n c : Nat) (w : World) (hR : RB w w.heap.size A n) (hn : n ≤ 9223372036854775807) (hc : n ≤ c) : Calls Try.prog 21 #[.slice A n c] w (RetT w) := by
  have HR := Lib.hid hR
  clear hR
  by_cases h0 : n = 0
  · subst h0
    go_enter Try.func21, Try.ntmps21
    go_wp2
    go_ret
    exact ⟨_, _, _, rfl, HR.out, by omega, rfl⟩
  · obtain ⟨m, rfl⟩ : ∃ m, n = m + 1 := ⟨n - 1, by omega⟩
    obtain ⟨b, off, y, rfl, -⟩ := HR.out 0 (by omega)
    have e0 : (((m + 1 : Nat) : Int) == 0) = false := by rw [beq_eq_false_iff_ne]; omega
    go_enter Try.func21, Try.ntmps21
    go_wp2
    all_goals go_ret
    · exact ⟨_, _, _, rfl, fun i hi => absurd hi (by omega), by omega, rfl⟩
    · exact ⟨_, _, _, rfl, RB.tail HR.out, by omega, rfl⟩
set_option maxHeartbeats 1000000 in
theorem d_dw (g : Nat) (A : Option Addr) (n c : Nat) (w : World) (hC : Cur w g A n c) : Calls Try.prog 79 #[.pointer (some ⟨g, 0, none⟩)] w (CRet g A n c w isD) := by
  have S0 := Lib.hid ((CS.start hC).push 29 #[.int .i64 0, .int .i64 0, .int .i64 0, .int .i64 0, .int .i64 0])
  clear hC
  go_enter Try.func79, Try.ntmps79
  go_wp2_with fail
  refine (d_small g A n c _ S0.out.cur).mono ?_
  rintro e w1 ⟨v, rfl, ⟨a, b, cc, d, rfl⟩, hC1, hO1⟩
  have S1 := Lib.hid (S0.out.cret hC1 hO1)
  clear hC1 hO1
  go_wp2_with fail
  refine (d_below 6 g A n c _ S1.out.cur (by omega)).mono ?_
  rintro e w2 ⟨v, rfl, ⟨x2, rfl, l2, u2⟩, hC2, hO2⟩
  have S2 := Lib.hid (S1.out.cret hC2 hO2)
  clear hC2 hO2
  obtain ⟨x, y, z, t, m, ok, -, hS, -, -⟩ := newD_u a b cc d x2
  have HS := Lib.hid hS
  clear hS
  go_wp2_with fail
  refine (HS.out _).mono ?_
  rintro e w3 ⟨rfl, hb3⟩
  have S3 := Lib.hid (S2.out.call hb3)
  clear hb3
  obtain ⟨k0, k1, k2, k3, k4, f0, f1, f2, f3, f4⟩ := S3.out.head.five
  have qr1 := S3.out.head.lt
  have qr2 := Nat.ne_of_lt qr1
  have qr3 := Nat.ne_of_gt qr1
  have qr4 := Nat.le_of_lt qr1
  have hz := S3.out.size
  go_wp2
  refine bodyPost_ret (v := .agg #[.int .i64 x, .int .i64 y, .int .i64 z, .int .i64 t, .int .i64 m]) (by simp [results, Try.results79, go_sem, *]) rfl ?_
  exact ⟨_, rfl, ⟨_, _, _, _, _, rfl⟩, fin_alloc (setfin5 S3.out (Nat.le_refl _)) _⟩
set_option maxHeartbeats 1000000 in
theorem d_bent (g : Nat) (A : Option Addr) (n c : Nat) (w : World) (hC : Cur w g A n c) : Calls Try.prog 68 #[.pointer (some ⟨g, 0, none⟩)] w (CRet g A n c w isD) := by
  have S0 := Lib.hid ((CS.start hC).push 29 #[.int .i64 0, .int .i64 0, .int .i64 0, .int .i64 0, .int .i64 0])
  clear hC
  go_enter Try.func68, Try.ntmps68
  go_wp2_with fail
  refine (d_below 6 g A n c _ S0.out.cur (by omega)).mono ?_
  rintro e w1 ⟨v, rfl, ⟨x1, rfl, l1, u1⟩, hC1, hO1⟩
  have S1 := Lib.hid (S0.out.cret hC1 hO1)
  clear hC1 hO1
  rcases (by omega : x1 = 0 ∨ x1 = 1 ∨ 2 ≤ x1) with rfl | rfl | h2
  · go_wp2_with fail
    refine (d_zw g A n c _ S1.out.cur).mono ?_
    rintro e w2 ⟨v, rfl, ⟨a, b, cc, d, rfl⟩, hC2, hO2⟩
    have S2 := Lib.hid (S1.out.cret hC2 hO2)
    clear hC2 hO2
    go_wp2_with fail
    refine (d_pick _ 5 _ _ _ (fun _ => True) g A n c _ (S2.out.push _ _).cur (S2.out.push _ _).head (Nat.ne_of_gt S2.out.cur.lt) (by omega) (by omega) (by intro j hj; (rcases j with _ | j; exact ⟨_, rfl, trivial⟩); (rcases j with _ | j; exact ⟨_, rfl, trivial⟩); (rcases j with _ | j; exact ⟨_, rfl, trivial⟩); (rcases j with _ | j; exact ⟨_, rfl, trivial⟩); (rcases j with _ | j; exact ⟨_, rfl, trivial⟩); omega)).mono ?_
    rintro e w3 ⟨v, rfl, ⟨x3, rfl, l3⟩, hC3, hO3⟩
    have S3 := Lib.hid ((S2.out.push _ _).cret hC3 hO3).tail
    clear hC3 hO3
    obtain ⟨x, y, z, t, m, ok, -, hS, -, -⟩ := newD_u a b cc d x3
    have HS := Lib.hid hS
    clear hS
    go_wp2_with fail
    refine (HS.out _).mono ?_
    rintro e w4 ⟨rfl, hb4⟩
    have S4 := Lib.hid (S3.out.call hb4)
    clear hb4
    obtain ⟨k0, k1, k2, k3, k4, f0, f1, f2, f3, f4⟩ := S4.out.head.five
    have qr1 := S4.out.head.lt
    have qr2 := Nat.ne_of_lt qr1
    have qr3 := Nat.ne_of_gt qr1
    have qr4 := Nat.le_of_lt qr1
    have hz := S4.out.size
    go_wp2
    refine bodyPost_ret (v := .agg #[.int .i64 x, .int .i64 y, .int .i64 z, .int .i64 t, .int .i64 m]) (by simp [results, Try.results68, go_sem, *]) rfl ?_
    exact ⟨_, rfl, ⟨_, _, _, _, _, rfl⟩, fin_alloc (setfin5 S4.out (Nat.le_refl _)) _⟩
  · go_wp2_with fail
    refine (d_zw g A n c _ S1.out.cur).mono ?_
    rintro e w2 ⟨v, rfl, ⟨a, b, cc, d, rfl⟩, hC2, hO2⟩
    have S2 := Lib.hid (S1.out.cret hC2 hO2)
    clear hC2 hO2
    go_wp2_with fail
    refine (d_pick _ 6 _ _ _ (fun _ => True) g A n c _ (S2.out.push _ _).cur (S2.out.push _ _).head (Nat.ne_of_gt S2.out.cur.lt) (by omega) (by omega) (by intro j hj; (rcases j with _ | j; exact ⟨_, rfl, trivial⟩); (rcases j with _ | j; exact ⟨_, rfl, trivial⟩); (rcases j with _ | j; exact ⟨_, rfl, trivial⟩); (rcases j with _ | j; exact ⟨_, rfl, trivial⟩); (rcases j with _ | j; exact ⟨_, rfl, trivial⟩); (rcases j with _ | j; exact ⟨_, rfl, trivial⟩); omega)).mono ?_
    rintro e w3 ⟨v, rfl, ⟨x3, rfl, l3⟩, hC3, hO3⟩
    have S3 := Lib.hid ((S2.out.push _ _).cret hC3 hO3).tail
    clear hC3 hO3
    obtain ⟨k0, k1, k2, k3, k4, f0, f1, f2, f3, f4⟩ := S3.out.head.five
    have qr1 := S3.out.head.lt
    have qr2 := Nat.ne_of_lt qr1
    have qr3 := Nat.ne_of_gt qr1
    have qr4 := Nat.le_of_lt qr1
    have hz := S3.out.size
    go_wp2
    refine bodyPost_ret (v := .agg #[.int .i64 a, .int .i64 b, .int .i64 cc, .int .i64 d, .int .i64 x3]) (by simp [results, Try.results68, go_sem, *]) rfl ?_
    exact ⟨_, rfl, ⟨_, _, _, _, _, rfl⟩, setfin5 S3.out (Nat.le_refl _)⟩
  · have e0 : (x1 == 0) = false := by rw [beq_eq_false_iff_ne]; omega
    have e1 : (x1 == 1) = false := by rw [beq_eq_false_iff_ne]; omega
    go_wp2_with fail
    refine (d_dw g A n c _ S1.out.cur).mono ?_
    rintro e w2 ⟨v, rfl, ⟨a, b, cc, d, k, rfl⟩, hC2, hO2⟩
    have S2 := Lib.hid (S1.out.cret hC2 hO2)
    clear hC2 hO2
    obtain ⟨k0, k1, k2, k3, k4, f0, f1, f2, f3, f4⟩ := S2.out.head.five
    have qr1 := S2.out.head.lt
    have qr2 := Nat.ne_of_lt qr1
    have qr3 := Nat.ne_of_gt qr1
    have qr4 := Nat.le_of_lt qr1
    have hz := S2.out.size
    go_wp2
    refine bodyPost_ret (v := .agg #[.int .i64 a, .int .i64 b, .int .i64 cc, .int .i64 d, .int .i64 k]) (by simp [results, Try.results68, go_sem, *]) rfl ?_
    exact ⟨_, rfl, ⟨_, _, _, _, _, rfl⟩, setfin5 S2.out (Nat.le_refl _)⟩
set_option maxHeartbeats 1000000 in
theorem d_real (g : Nat) (A : Option Addr) (n c : Nat) (w : World) (hC : Cur w g A n c) : Calls Try.prog 81 #[.pointer (some ⟨g, 0, none⟩)] w (CRet g A n c w isD) := by
  have S0 := Lib.hid ((CS.start hC).push 29 #[.int .i64 0, .int .i64 0, .int .i64 0, .int .i64 0, .int .i64 0])
  clear hC
  go_enter Try.func81, Try.ntmps81
  go_wp2_with fail
  refine (d_below 9 g A n c _ S0.out.cur (by omega)).mono ?_
  rintro e w1 ⟨v, rfl, ⟨x1, rfl, l1, u1⟩, hC1, hO1⟩
  have S1 := Lib.hid (S0.out.cret hC1 hO1)
  clear hC1 hO1
  go_wp2_with fail
  refine (d_below 15 g A n c _ S1.out.cur (by omega)).mono ?_
  rintro e w2 ⟨v, rfl, ⟨x2, rfl, l2, u2⟩, hC2, hO2⟩
  have S2 := Lib.hid (S1.out.cret hC2 hO2)
  clear hC2 hO2
  go_wp2_with fail
  refine (d_below 5 g A n c _ S2.out.cur (by omega)).mono ?_
  rintro e w3 ⟨v, rfl, ⟨x3, rfl, l3, u3⟩, hC3, hO3⟩
  have S3 := Lib.hid (S2.out.cret hC3 hO3)
  clear hC3 hO3
  obtain ⟨x, y, z, t, m, ok, -, hS, -, -⟩ := newD_u (x2 - 7) (x1 - 4) 0 (-(x1 - 4)) x3
  have HS := Lib.hid hS
  clear hS
  go_wp2_with fail
  refine (HS.out _).mono ?_
  rintro e w4 ⟨rfl, hb4⟩
  have S4 := Lib.hid (S3.out.call hb4)
  clear hb4
  obtain ⟨k0, k1, k2, k3, k4, f0, f1, f2, f3, f4⟩ := S4.out.head.five
  have qr1 := S4.out.head.lt
  have qr2 := Nat.ne_of_lt qr1
  have qr3 := Nat.ne_of_gt qr1
  have qr4 := Nat.le_of_lt qr1
  have hz := S4.out.size
  go_wp2
  refine bodyPost_ret (v := .agg #[.int .i64 x, .int .i64 y, .int .i64 z, .int .i64 t, .int .i64 m]) (by simp [results, Try.results81, go_sem, *]) rfl ?_
  exact ⟨_, rfl, ⟨_, _, _, _, _, rfl⟩, fin_alloc (setfin5 S4.out (Nat.le_refl _)) _⟩
set_option maxHeartbeats 1000000 in
theorem d_whole (g : Nat) (A : Option Addr) (n c : Nat) (w : World) (hC : Cur w g A n c) : Calls Try.prog 66 #[.pointer (some ⟨g, 0, none⟩)] w (CRet g A n c w (isInt (-9223372036854775808) 9223372036854775807)) := by
  have S0 := Lib.hid (CS.start hC)
  clear hC
  go_enter Try.func66, Try.ntmps66
  go_wp2_with fail
  refine (d_below 3 g A n c _ S0.out.cur (by omega)).mono ?_
  rintro e w1 ⟨v, rfl, ⟨x1, rfl, l1, u1⟩, hC1, hO1⟩
  have S1 := Lib.hid (S0.out.cret hC1 hO1)
  clear hC1 hO1
  rcases (by omega : x1 = 0 ∨ x1 = 1 ∨ 2 ≤ x1) with rfl | rfl | h2
  · go_wp2_with fail
    refine (d_pick _ 12 _ _ _ (fun x => -9223372036854775808 ≤ x ∧ x ≤ 9223372036854775807) g A n c _ (S1.out.push _ _).cur (S1.out.push _ _).head (Nat.ne_of_gt S1.out.cur.lt) (by omega) (by omega) (by intro j hj; (rcases j with _ | j; exact ⟨_, rfl, by omega⟩); (rcases j with _ | j; exact ⟨_, rfl, by omega⟩); (rcases j with _ | j; exact ⟨_, rfl, by omega⟩); (rcases j with _ | j; exact ⟨_, rfl, by omega⟩); (rcases j with _ | j; exact ⟨_, rfl, by omega⟩); (rcases j with _ | j; exact ⟨_, rfl, by omega⟩); (rcases j with _ | j; exact ⟨_, rfl, by omega⟩); (rcases j with _ | j; exact ⟨_, rfl, by omega⟩); (rcases j with _ | j; exact ⟨_, rfl, by omega⟩); (rcases j with _ | j; exact ⟨_, rfl, by omega⟩); (rcases j with _ | j; exact ⟨_, rfl, by omega⟩); (rcases j with _ | j; exact ⟨_, rfl, by omega⟩); omega)).mono ?_
    rintro e w2 ⟨v, rfl, ⟨x2, rfl, l2⟩, hC2, hO2⟩
    have S2 := Lib.hid ((S1.out.push _ _).cret hC2 hO2).tail
    clear hC2 hO2
    go_wp2
    go_ret
    exact ⟨_, rfl, ⟨_, rfl, l2⟩, S2.out.cur, S2.out.2.1⟩
  · go_wp2_with fail
    refine (d_below 1000000 g A n c _ S1.out.cur (by omega)).mono ?_
    rintro e w2 ⟨v, rfl, ⟨x2, rfl, l2, u2⟩, hC2, hO2⟩
    have S2 := Lib.hid (S1.out.cret hC2 hO2)
    clear hC2 hO2
    go_wp2
    go_ret
    exact ⟨_, rfl, ⟨_, rfl, by omega, by omega⟩, S2.out.cur, S2.out.2.1⟩
  · have e0 : (x1 == 0) = false := by rw [beq_eq_false_iff_ne]; omega
    have e1 : (x1 == 1) = false := by rw [beq_eq_false_iff_ne]; omega
    go_wp2_with fail
    refine (d_below 20 g A n c _ S1.out.cur (by omega)).mono ?_
    rintro e w2 ⟨v, rfl, ⟨x2, rfl, l2, u2⟩, hC2, hO2⟩
    have S2 := Lib.hid (S1.out.cret hC2 hO2)
    clear hC2 hO2
    go_wp2
    go_ret
    exact ⟨_, rfl, ⟨_, rfl, by omega, by omega⟩, S2.out.cur, S2.out.2.1⟩
set_option maxHeartbeats 400000 in
theorem d_DrawMulZ (A : Option Addr) (n c : Nat) (w : World) (hR : RB w w.heap.size A n) (hn : n ≤ 9223372036854775807) : Calls Try.prog 24 #[.slice A n c] w (Ret2Z w) := by
  have HR := Lib.hid hR
  clear hR
  go_enter Try.func24, Try.ntmps24
  go_wp2_with fail
  have T0 : Own w ((w.alloc (.cells #[.int .i64 0, .int .i64 0, .int .i64 0, .int .i64 0] 25)).alloc (.cells #[.int .i64 0, .int .i64 0, .int .i64 0, .int .i64 0] 25)) [(w.heap.size + 1, 25, #[.int .i64 0, .int .i64 0, .int .i64 0, .int .i64 0]), (w.heap.size, 25, #[.int .i64 0, .int .i64 0, .int .i64 0, .int .i64 0])] := by simpa using ((Own.start w).push 25 #[.int .i64 0, .int .i64 0, .int .i64 0, .int .i64 0]).push 25 #[.int .i64 0, .int .i64 0, .int .i64 0, .int .i64 0]
  refine (d_DrawAddZ A n c _ ((HR.out.keep T0.below).more T0.below.size) hn).mono ?_
  rintro e w1 ⟨a, b, cc, d, p, q, r, s, rfl, hb⟩
  have T1 := T0.call hb
  obtain ⟨k0, k1, k2, k3, f0, f1, f2, f3⟩ := T1.head.four
  obtain ⟨m0, m1, m2, m3, g0, g1, g2, g3⟩ := T1.tail.head.four
  have hb3 := T1.below
  clear hb T0 T1
  go_wp2
  refine bodyPost_ret (v := .tuple #[.agg #[.int .i64 a, .int .i64 b, .int .i64 cc, .int .i64 d], .agg #[.int .i64 p, .int .i64 q, .int .i64 r, .int .i64 s]]) (by simp [results, Try.results24, go_sem, *]) rfl ⟨_, _, _, _, _, _, _, _, rfl, ?_⟩
  repeat (first | (with_reducible exact Below.refl _ _) | (with_reducible assumption) | (with_reducible refine bl_alloc ?_ _) | (with_reducible refine bl_drew ?_) | (with_reducible refine bl_set ?_ (by simp <;> omega) _) | (with_reducible refine bl_call ?_ (by assumption)))
set_option maxHeartbeats 400000 in
theorem d_DrawVZ (A : Option Addr) (n c : Nat) (w : World) (hR : RB w w.heap.size A n) (hn : n ≤ 9223372036854775807) : Calls Try.prog 30 #[.slice A n c] w (RetZ1 w) := by
  have HR := Lib.hid hR
  clear hR
  go_enter Try.func30, Try.ntmps30
  go_wp2_with fail
  have T0 : Own w (w.alloc (.cells #[.int .i64 0, .int .i64 0, .int .i64 0, .int .i64 0] 25)) [(w.heap.size, 25, #[.int .i64 0, .int .i64 0, .int .i64 0, .int .i64 0])] := by simpa using ((Own.start w).push 25 #[.int .i64 0, .int .i64 0, .int .i64 0, .int .i64 0])
  refine (d_newE A n c w _ _ HR.out hn T0).mono ?_
  rintro e w1 ⟨g, rfl, s1⟩
  have S1 := Lib.hid s1
  clear s1 T0
  go_wp2_with fail
  refine (d_zw g A n c _ S1.out.cur).mono ?_
  rintro e w2 ⟨v, rfl, ⟨a, b, cc, d, rfl⟩, hC2, hO2⟩
  have S2 := Lib.hid (S1.out.cret hC2 hO2)
  clear hC2 hO2
  obtain ⟨k00, k01, k02, k03, f00, f01, f02, f03⟩ := S2.out.own.head.four
  have qr01 := S2.out.own.head.lt
  have qr02 := Nat.ne_of_lt qr01
  have qr03 := Nat.ne_of_gt qr01
  have qr04 := Nat.le_of_lt qr01
  have hbe := S2.out.below
  go_wp2
  refine bodyPost_ret (v := .agg #[.int .i64 a, .int .i64 b, .int .i64 cc, .int .i64 d]) (by simp [results, Try.results30, go_sem, *]) rfl ⟨_, _, _, _, rfl, ?_⟩
  repeat (first | (with_reducible exact Below.refl _ _) | (with_reducible assumption) | (with_reducible refine bl_alloc ?_ _) | (with_reducible refine bl_drew ?_) | (with_reducible refine bl_set ?_ (by simp <;> omega) _) | (with_reducible refine bl_call ?_ (by assumption)))
set_option maxHeartbeats 400000 in
theorem d_DrawNS (A : Option Addr) (n c : Nat) (w : World) (hR : RB w w.heap.size A n) (hn : n ≤ 9223372036854775807) : Calls Try.prog 44 #[.slice A n c] w (RetD1 w) := by
  have HR := Lib.hid hR
  clear hR
  go_enter Try.func44, Try.ntmps44
  go_wp2_with fail
  have T0 : Own w (w.alloc (.cells #[.int .i64 0, .int .i64 0, .int .i64 0, .int .i64 0, .int .i64 0] 29)) [(w.heap.size, 29, #[.int .i64 0, .int .i64 0, .int .i64 0, .int .i64 0, .int .i64 0])] := by simpa using ((Own.start w).push 29 #[.int .i64 0, .int .i64 0, .int .i64 0, .int .i64 0, .int .i64 0])
  refine (d_newE A n c w _ _ HR.out hn T0).mono ?_
  rintro e w1 ⟨g, rfl, s1⟩
  have S1 := Lib.hid s1
  clear s1 T0
  go_wp2_with fail
  refine (d_bent g A n c _ S1.out.cur).mono ?_
  rintro e w2 ⟨v, rfl, ⟨a, b, cc, d, k, rfl⟩, hC2, hO2⟩
  have S2 := Lib.hid (S1.out.cret hC2 hO2)
  clear hC2 hO2
  obtain ⟨k00, k01, k02, k03, k04, f00, f01, f02, f03, f04⟩ := S2.out.own.head.five
  have qr01 := S2.out.own.head.lt
  have qr02 := Nat.ne_of_lt qr01
  have qr03 := Nat.ne_of_gt qr01
  have qr04 := Nat.le_of_lt qr01
  have hbe := S2.out.below
  go_wp2
  refine bodyPost_ret (v := .agg #[.int .i64 a, .int .i64 b, .int .i64 cc, .int .i64 d, .int .i64 k]) (by simp [results, Try.results44, go_sem, *]) rfl ⟨_, _, _, _, _, rfl, ?_⟩
  repeat (first | (with_reducible exact Below.refl _ _) | (with_reducible assumption) | (with_reducible refine bl_alloc ?_ _) | (with_reducible refine bl_drew ?_) | (with_reducible refine bl_set ?_ (by simp <;> omega) _) | (with_reducible refine bl_call ?_ (by assumption)))
set_option maxHeartbeats 1000000 in
theorem d_DrawDiv (A : Option Addr) (n c : Nat) (w : World) (hR : RB w w.heap.size A n) (hn : n ≤ 9223372036854775807) : Calls Try.prog 27 #[.slice A n c] w (RetZ1 w) := by
  have HR := Lib.hid hR
  clear hR
  go_enter Try.func27, Try.ntmps27
  go_wp2_with fail
  have T0 : Own w (w.alloc (.cells #[.int .i64 0, .int .i64 0, .int .i64 0, .int .i64 0] 25)) [(w.heap.size, 25, #[.int .i64 0, .int .i64 0, .int .i64 0, .int .i64 0])] := by simpa using ((Own.start w).push 25 #[.int .i64 0, .int .i64 0, .int .i64 0, .int .i64 0])
  refine (d_newE A n c w _ _ HR.out hn T0).mono ?_
  rintro e w1 ⟨g, rfl, s1⟩
  have S1 := Lib.hid s1
  clear s1 T0
  go_wp2_with fail
  refine (d_zw g A n c _ S1.out.cur).mono ?_
  rintro e w2 ⟨v, rfl, ⟨a, b, cc, d, rfl⟩, hC2, hO2⟩
  have S2 := Lib.hid (S1.out.cret hC2 hO2)
  clear hC2 hO2
  have S2p := Lib.hid (S2.out.push 25 #[.int .i64 a, .int .i64 b, .int .i64 cc, .int .i64 d])
  go_wp2_with fail
  refine (d_once 2 g A n c _ S2p.out.cur (by omega)).mono ?_
  rintro e w3 ⟨v, rfl, ⟨o, rfl⟩, hC3, hO3⟩
  have S3 := Lib.hid (S2p.out.cret hC3 hO3)
  clear hC3 hO3
  cases o
  · obtain ⟨k00, k01, k02, k03, f00, f01, f02, f03⟩ := S3.out.own.head.four
    have qr01 := S3.out.own.head.lt
    have qr02 := Nat.ne_of_lt qr01
    have qr03 := Nat.ne_of_gt qr01
    have qr04 := Nat.le_of_lt qr01
    obtain ⟨k10, k11, k12, k13, f10, f11, f12, f13⟩ := S3.out.own.tail.head.four
    have qr11 := S3.out.own.tail.head.lt
    have qr12 := Nat.ne_of_lt qr11
    have qr13 := Nat.ne_of_gt qr11
    have qr14 := Nat.le_of_lt qr11
    have hbe := S3.out.below
    go_wp2
    refine bodyPost_ret (v := .agg #[.int .i64 a, .int .i64 b, .int .i64 cc, .int .i64 d]) (by simp [results, Try.results27, go_sem, *]) rfl ⟨_, _, _, _, rfl, ?_⟩
    repeat (first | (with_reducible exact Below.refl _ _) | (with_reducible assumption) | (with_reducible refine bl_alloc ?_ _) | (with_reducible refine bl_drew ?_) | (with_reducible refine bl_set ?_ (by simp <;> omega) _) | (with_reducible refine bl_call ?_ (by assumption)))
  · obtain ⟨x, y, z, t, ok, -, hS, -, -⟩ := mulZ_u a b cc d 0 1 0 (-1)
    have HS := Lib.hid hS
    clear hS
    obtain ⟨k0, k1, k2, k3, f0, f1, f2, f3⟩ := S3.out.own.head.four
    go_wp2_with fail
    refine (HS.out _).mono ?_
    rintro e w4 ⟨rfl, hb4⟩
    have S4 := Lib.hid (S3.out.call hb4)
    clear hb4
    clear k0 k1 k2 k3 f0 f1 f2 f3
    cases ok
    · obtain ⟨k00, k01, k02, k03, f00, f01, f02, f03⟩ := S4.out.own.head.four
      have qr01 := S4.out.own.head.lt
      have qr02 := Nat.ne_of_lt qr01
      have qr03 := Nat.ne_of_gt qr01
      have qr04 := Nat.le_of_lt qr01
      obtain ⟨k10, k11, k12, k13, f10, f11, f12, f13⟩ := S4.out.own.tail.head.four
      have qr11 := S4.out.own.tail.head.lt
      have qr12 := Nat.ne_of_lt qr11
      have qr13 := Nat.ne_of_gt qr11
      have qr14 := Nat.le_of_lt qr11
      have hbe := S4.out.below
      go_wp2
      refine bodyPost_ret (v := .agg #[.int .i64 a, .int .i64 b, .int .i64 cc, .int .i64 d]) (by simp [results, Try.results27, go_sem, *]) rfl ⟨_, _, _, _, rfl, ?_⟩
      repeat (first | (with_reducible exact Below.refl _ _) | (with_reducible assumption) | (with_reducible refine bl_alloc ?_ _) | (with_reducible refine bl_drew ?_) | (with_reducible refine bl_set ?_ (by simp <;> omega) _) | (with_reducible refine bl_call ?_ (by assumption)))
    · obtain ⟨k00, k01, k02, k03, f00, f01, f02, f03⟩ := S4.out.own.head.four
      have qr01 := S4.out.own.head.lt
      have qr02 := Nat.ne_of_lt qr01
      have qr03 := Nat.ne_of_gt qr01
      have qr04 := Nat.le_of_lt qr01
      obtain ⟨k10, k11, k12, k13, f10, f11, f12, f13⟩ := S4.out.own.tail.head.four
      have qr11 := S4.out.own.tail.head.lt
      have qr12 := Nat.ne_of_lt qr11
      have qr13 := Nat.ne_of_gt qr11
      have qr14 := Nat.le_of_lt qr11
      have hbe := S4.out.below
      go_wp2
      refine bodyPost_ret (v := .agg #[.int .i64 x, .int .i64 y, .int .i64 z, .int .i64 t]) (by simp [results, Try.results27, go_sem, *]) rfl ⟨_, _, _, _, rfl, ?_⟩
      repeat (first | (with_reducible exact Below.refl _ _) | (with_reducible assumption) | (with_reducible refine bl_alloc ?_ _) | (with_reducible refine bl_drew ?_) | (with_reducible refine bl_set ?_ (by simp <;> omega) _) | (with_reducible refine bl_call ?_ (by assumption)))
set_option maxHeartbeats 1000000 in
theorem d_DrawAddD (A : Option Addr) (n c : Nat) (w : World) (hR : RB w w.heap.size A n) (hn : n ≤ 9223372036854775807) : Calls Try.prog 42 #[.slice A n c] w (Ret2D w) := by
  have HR := Lib.hid hR
  clear hR
  go_enter Try.func42, Try.ntmps42
  go_wp2_with fail
  have T0 : Own w ((w.alloc (.cells #[.int .i64 0, .int .i64 0, .int .i64 0, .int .i64 0, .int .i64 0] 29)).alloc (.cells #[.int .i64 0, .int .i64 0, .int .i64 0, .int .i64 0, .int .i64 0] 29)) [(w.heap.size + 1, 29, #[.int .i64 0, .int .i64 0, .int .i64 0, .int .i64 0, .int .i64 0]), (w.heap.size, 29, #[.int .i64 0, .int .i64 0, .int .i64 0, .int .i64 0, .int .i64 0])] := by simpa using (((Own.start w).push 29 #[.int .i64 0, .int .i64 0, .int .i64 0, .int .i64 0, .int .i64 0]).push 29 #[.int .i64 0, .int .i64 0, .int .i64 0, .int .i64 0, .int .i64 0])
  refine (d_newE A n c w _ _ HR.out hn T0).mono ?_
  rintro e w1 ⟨g, rfl, s1⟩
  have S1 := Lib.hid s1
  clear s1 T0
  go_wp2_with fail
  refine (d_bent g A n c _ S1.out.cur).mono ?_
  rintro e w2 ⟨v, rfl, ⟨a, b, cc, d, k, rfl⟩, hC2, hO2⟩
  have S2 := Lib.hid (S1.out.cret hC2 hO2)
  clear hC2 hO2
  go_wp2_with fail
  refine (d_bent g A n c _ S2.out.cur).mono ?_
  rintro e w3 ⟨v, rfl, ⟨p, q, r, s, l, rfl⟩, hC3, hO3⟩
  have S3 := Lib.hid (S2.out.cret hC3 hO3)
  clear hC3 hO3
  obtain ⟨k00, k01, k02, k03, k04, f00, f01, f02, f03, f04⟩ := S3.out.own.head.five
  have qr01 := S3.out.own.head.lt
  have qr02 := Nat.ne_of_lt qr01
  have qr03 := Nat.ne_of_gt qr01
  have qr04 := Nat.le_of_lt qr01
  obtain ⟨k10, k11, k12, k13, k14, f10, f11, f12, f13, f14⟩ := S3.out.own.tail.head.five
  have qr11 := S3.out.own.tail.head.lt
  have qr12 := Nat.ne_of_lt qr11
  have qr13 := Nat.ne_of_gt qr11
  have qr14 := Nat.le_of_lt qr11
  have hbe := S3.out.below
  go_wp2
  refine bodyPost_ret (v := .tuple #[.agg #[.int .i64 a, .int .i64 b, .int .i64 cc, .int .i64 d, .int .i64 k], .agg #[.int .i64 p, .int .i64 q, .int .i64 r, .int .i64 s, .int .i64 l]]) (by simp [results, Try.results42, go_sem, *]) rfl ⟨_, _, _, _, _, _, _, _, _, _, rfl, ?_⟩
  repeat (first | (with_reducible exact Below.refl _ _) | (with_reducible assumption) | (with_reducible refine bl_alloc ?_ _) | (with_reducible refine bl_drew ?_) | (with_reducible refine bl_set ?_ (by simp <;> omega) _) | (with_reducible refine bl_call ?_ (by assumption)))
set_option maxHeartbeats 400000 in
theorem d_DrawPF (A : Option Addr) (n c : Nat) (w : World) (hR : RB w w.heap.size A n) (hn : n ≤ 9223372036854775807) : Calls Try.prog 36 #[.slice A n c] w fun e w' => ∃ x : Int, e = .returned (.int .i64 x) ∧ (-9223372036854775808 ≤ x ∧ x ≤ 9223372036854775807) ∧ Below w.heap.size w w' := by
  have HR := Lib.hid hR
  clear hR
  go_enter Try.func36, Try.ntmps36
  go_wp2_with fail
  refine (d_newE A n c w _ _ HR.out hn (Own.start w)).mono ?_
  rintro e w1 ⟨g, rfl, s1⟩
  have S1 := Lib.hid s1
  clear s1
  go_wp2_with fail
  refine (d_whole g A n c _ S1.out.cur).mono ?_
  rintro e w2 ⟨v, rfl, ⟨x, rfl, hx⟩, hC2, hO2⟩
  have S2 := Lib.hid (S1.out.cret hC2 hO2)
  clear hC2 hO2
  go_wp2
  go_ret
  exact ⟨_, rfl, hx, S2.out.below⟩
set_option maxHeartbeats 400000 in
theorem l_at0 (i : Nat) (A : Option Addr) (n c : Nat) (w : World) (hR : RB w w.heap.size A n) (hn : n ≤ 1048576) (hi : i ≤ 100) : Calls Try.prog 37 #[.slice A n c, .int .i64 (i : Int)] w fun e w' => ∃ x : Int, e = .returned (.int .i64 x) ∧ (0 ≤ x ∧ x ≤ 255) ∧ w = w' := by
  have HR := Lib.hid hR
  clear hR
  by_cases hlt : i < n
  · have hd : decide ((i : Int) < (n : Int)) = true := by simp; omega
    obtain ⟨b, off, y, rfl, hb, hy, y0, y1⟩ := HR.out i hlt
    have i0 : (0 : Int) ≤ (i : Int) := by omega
    have i1 : (i : Int) < (n : Int) := by omega
    go_enter Try.func37, Try.ntmps37
    go_wp2
    go_ret
    exact ⟨_, rfl, ⟨by omega, by omega⟩, rfl⟩
  · have hd : decide ((i : Int) < (n : Int)) = false := by simp; omega
    go_enter Try.func37, Try.ntmps37
    go_wp2
    go_ret
    exact ⟨_, rfl, ⟨by omega, by omega⟩, rfl⟩
end Go.Proofs.Ytpkbmdlamcgiiaa
