/- Contracts: the draws of the laws on rings. -/
import Derived.Test.YtaokfppadfoniaaDr2
import Derived.Test.YtaokfppadfoniaaU
import Derived.Test.YtaokfppadfoniaaUp
import Derived.Test.YtaokfppadfoniaaPh
import Derived.Deep.RegionHeld3
namespace Go.Proofs.Ytaokfppadfoniaa
open Go.RowKit
set_option linter.unusedVariables false

def RetZ1 (w : World) (e : Ending) (w' : World) : Prop := ∃ a b c d : Int, e = .returned (.agg #[.int .i64 a, .int .i64 b, .int .i64 c, .int .i64 d]) ∧ Below w.heap.size w w'
def RetD1 (w : World) (e : Ending) (w' : World) : Prop := ∃ a b c d k : Int, e = .returned (.agg #[.int .i64 a, .int .i64 b, .int .i64 c, .int .i64 d, .int .i64 k]) ∧ Below w.heap.size w w'
def Ret2D (w : World) (e : Ending) (w' : World) : Prop := ∃ a b c d k p q r s l : Int, e = .returned (.tuple #[.agg #[.int .i64 a, .int .i64 b, .int .i64 c, .int .i64 d, .int .i64 k], .agg #[.int .i64 p, .int .i64 q, .int .i64 r, .int .i64 s, .int .i64 l]]) ∧ Below w.heap.size w w'
theorem fin_alloc {w X : World} {g n c : Nat} {A : Option Addr} (h : Cur X g A n c ∧ Only g w X) (o : Obj) : Cur (X.alloc o) g A n c ∧ Only g w (X.alloc o) :=
  ⟨h.1.alloc o, h.2.trans (Only.of_below (bl_alloc (Below.refl _ _) o) h.1.lt)⟩
def isB (v : Value) : Prop := ∃ b : Bool, v = .bool b
set_option maxHeartbeats 400000 in
theorem d_once (m : Int) (g : Nat) (A : Option Addr) (n c : Nat) (w : World) (hC : Cur w g A n c) (hm : 0 < m) : Calls Try.prog 65 #[.pointer (some ⟨g, 0, none⟩), .int .i64 m] w (CRet g A n c w isB) := by
  have HC := Lib.hid hC
  clear hC
  go_enter Try.func65, Try.ntmps65
  go_wp2_with fail
  refine (d_below m g A n c _ HC.out hm).mono ?_
  rintro e w1 ⟨v, rfl, ⟨x, rfl, x0, x1⟩, hC1, hO1⟩
  have H1 := Lib.hid hC1
  have H2 := Lib.hid hO1
  clear hC1 hO1
  go_wp2
  go_ret
  exact ⟨_, rfl, ⟨_, rfl⟩, H1.out, H2.out⟩
set_option maxHeartbeats 1000000 in
theorem d_dw (g : Nat) (A : Option Addr) (n c : Nat) (w : World) (hC : Cur w g A n c) : Calls Try.prog 102 #[.pointer (some ⟨g, 0, none⟩)] w (CRet g A n c w isD) := by
  have S0 := Lib.hid ((CS.start hC).push 29 #[.int .i64 0, .int .i64 0, .int .i64 0, .int .i64 0, .int .i64 0])
  clear hC
  go_enter Try.func102, Try.ntmps102
  go_wp2_with fail
  refine (d_small g A n c _ S0.out.cur).mono ?_
  rintro e w1 ⟨v, rfl, ⟨a, b, cc, d, rfl⟩, hC1, hO1⟩
  have S1 := Lib.hid (S0.out.cret hC1 hO1)
  clear hC1 hO1
  go_wp2_with fail
  refine (d_below 6 g A n c _ S1.out.cur (by omega)).mono ?_
  rintro e w2 ⟨v, rfl, ⟨x2, rfl, l2, u2⟩, hC2, hO2⟩
  have S2 := Lib.hid (S1.out.cret hC2 hO2)
  clear hC2 hO2
  obtain ⟨x, y, z, t, m, ok, -, hS, -, -⟩ := newD_u a b cc d x2
  have HS := Lib.hid hS
  clear hS
  go_wp2_with fail
  refine (HS.out _).mono ?_
  rintro e w3 ⟨rfl, hb3⟩
  have S3 := Lib.hid (S2.out.call hb3)
  clear hb3
  obtain ⟨k0, k1, k2, k3, k4, f0, f1, f2, f3, f4⟩ := S3.out.head.five
  have qr1 := S3.out.head.lt
  have qr2 := Nat.ne_of_lt qr1
  have qr3 := Nat.ne_of_gt qr1
  have qr4 := Nat.le_of_lt qr1
  have hz := S3.out.size
  go_wp2
  refine bodyPost_ret (v := .agg #[.int .i64 x, .int .i64 y, .int .i64 z, .int .i64 t, .int .i64 m]) (by simp [results, Try.results102, go_sem, *]) rfl ?_
  exact ⟨_, rfl, ⟨_, _, _, _, _, rfl⟩, fin_alloc (setfin5 S3.out (Nat.le_refl _)) _⟩
set_option maxHeartbeats 1000000 in
theorem d_bent (g : Nat) (A : Option Addr) (n c : Nat) (w : World) (hC : Cur w g A n c) : Calls Try.prog 79 #[.pointer (some ⟨g, 0, none⟩)] w (CRet g A n c w isD) := by
  have S0 := Lib.hid ((CS.start hC).push 29 #[.int .i64 0, .int .i64 0, .int .i64 0, .int .i64 0, .int .i64 0])
  clear hC
  go_enter Try.func79, Try.ntmps79
  go_wp2_with fail
  refine (d_below 6 g A n c _ S0.out.cur (by omega)).mono ?_
  rintro e w1 ⟨v, rfl, ⟨x1, rfl, l1, u1⟩, hC1, hO1⟩
  have S1 := Lib.hid (S0.out.cret hC1 hO1)
  clear hC1 hO1
  rcases (by omega : x1 = 0 ∨ x1 = 1 ∨ 2 ≤ x1) with rfl | rfl | h2
  · go_wp2_with fail
    refine (d_zw g A n c _ S1.out.cur).mono ?_
    rintro e w2 ⟨v, rfl, ⟨a, b, cc, d, rfl⟩, hC2, hO2⟩
    have S2 := Lib.hid (S1.out.cret hC2 hO2)
    clear hC2 hO2
    go_wp2_with fail
    refine (d_pick _ 5 _ _ _ (fun _ => True) g A n c _ (S2.out.push _ _).cur (S2.out.push _ _).head (Nat.ne_of_gt S2.out.cur.lt) (by omega) (by omega) (by intro j hj; (rcases j with _ | j; exact ⟨_, rfl, trivial⟩); (rcases j with _ | j; exact ⟨_, rfl, trivial⟩); (rcases j with _ | j; exact ⟨_, rfl, trivial⟩); (rcases j with _ | j; exact ⟨_, rfl, trivial⟩); (rcases j with _ | j; exact ⟨_, rfl, trivial⟩); omega)).mono ?_
    rintro e w3 ⟨v, rfl, ⟨x3, rfl, l3⟩, hC3, hO3⟩
    have S3 := Lib.hid ((S2.out.push _ _).cret hC3 hO3).tail
    clear hC3 hO3
    obtain ⟨x, y, z, t, m, ok, -, hS, -, -⟩ := newD_u a b cc d x3
    have HS := Lib.hid hS
    clear hS
    go_wp2_with fail
    refine (HS.out _).mono ?_
    rintro e w4 ⟨rfl, hb4⟩
    have S4 := Lib.hid (S3.out.call hb4)
    clear hb4
    obtain ⟨k0, k1, k2, k3, k4, f0, f1, f2, f3, f4⟩ := S4.out.head.five
    have qr1 := S4.out.head.lt
    have qr2 := Nat.ne_of_lt qr1
    have qr3 := Nat.ne_of_gt qr1
    have qr4 := Nat.le_of_lt qr1
    have hz := S4.out.size
    go_wp2
    refine bodyPost_ret (v := .agg #[.int .i64 x, .int .i64 y, .int .i64 z, .int .i64 t, .int .i64 m]) (by simp [results, Try.results79, go_sem, *]) rfl ?_
    exact ⟨_, rfl, ⟨_, _, _, _, _, rfl⟩, fin_alloc (setfin5 S4.out (Nat.le_refl _)) _⟩
  · go_wp2_with fail
    refine (d_zw g A n c _ S1.out.cur).mono ?_
    rintro e w2 ⟨v, rfl, ⟨a, b, cc, d, rfl⟩, hC2, hO2⟩
    have S2 := Lib.hid (S1.out.cret hC2 hO2)
    clear hC2 hO2
    go_wp2_with fail
    refine (d_pick _ 6 _ _ _ (fun _ => True) g A n c _ (S2.out.push _ _).cur (S2.out.push _ _).head (Nat.ne_of_gt S2.out.cur.lt) (by omega) (by omega) (by intro j hj; (rcases j with _ | j; exact ⟨_, rfl, trivial⟩); (rcases j with _ | j; exact ⟨_, rfl, trivial⟩); (rcases j with _ | j; exact ⟨_, rfl, trivial⟩); (rcases j with _ | j; exact ⟨_, rfl, trivial⟩); (rcases j with _ | j; exact ⟨_, rfl, trivial⟩); (rcases j with _ | j; exact ⟨_, rfl, trivial⟩); omega)).mono ?_
    rintro e w3 ⟨v, rfl, ⟨x3, rfl, l3⟩, hC3, hO3⟩
    have S3 := Lib.hid ((S2.out.push _ _).cret hC3 hO3).tail
    clear hC3 hO3
    obtain ⟨k0, k1, k2, k3, k4, f0, f1, f2, f3, f4⟩ := S3.out.head.five
    have qr1 := S3.out.head.lt
    have qr2 := Nat.ne_of_lt qr1
    have qr3 := Nat.ne_of_gt qr1
    have qr4 := Nat.le_of_lt qr1
    have hz := S3.out.size
    go_wp2
    refine bodyPost_ret (v := .agg #[.int .i64 a, .int .i64 b, .int .i64 cc, .int .i64 d, .int .i64 x3]) (by simp [results, Try.results79, go_sem, *]) rfl ?_
    exact ⟨_, rfl, ⟨_, _, _, _, _, rfl⟩, setfin5 S3.out (Nat.le_refl _)⟩
  · have e0 : (x1 == 0) = false := by rw [beq_eq_false_iff_ne]; omega
    have e1 : (x1 == 1) = false := by rw [beq_eq_false_iff_ne]; omega
    go_wp2_with fail
    refine (d_dw g A n c _ S1.out.cur).mono ?_
    rintro e w2 ⟨v, rfl, ⟨a, b, cc, d, k, rfl⟩, hC2, hO2⟩
    have S2 := Lib.hid (S1.out.cret hC2 hO2)
    clear hC2 hO2
    obtain ⟨k0, k1, k2, k3, k4, f0, f1, f2, f3, f4⟩ := S2.out.head.five
    have qr1 := S2.out.head.lt
    have qr2 := Nat.ne_of_lt qr1
    have qr3 := Nat.ne_of_gt qr1
    have qr4 := Nat.le_of_lt qr1
    have hz := S2.out.size
    go_wp2
    refine bodyPost_ret (v := .agg #[.int .i64 a, .int .i64 b, .int .i64 cc, .int .i64 d, .int .i64 k]) (by simp [results, Try.results79, go_sem, *]) rfl ?_
    exact ⟨_, rfl, ⟨_, _, _, _, _, rfl⟩, setfin5 S2.out (Nat.le_refl _)⟩
set_option maxHeartbeats 1000000 in
theorem d_whole (g : Nat) (A : Option Addr) (n c : Nat) (w : World) (hC : Cur w g A n c) : Calls Try.prog 77 #[.pointer (some ⟨g, 0, none⟩)] w (CRet g A n c w (isInt (-9223372036854775808) 9223372036854775807)) := by
  have S0 := Lib.hid (CS.start hC)
  clear hC
  go_enter Try.func77, Try.ntmps77
  go_wp2_with fail
  refine (d_below 3 g A n c _ S0.out.cur (by omega)).mono ?_
  rintro e w1 ⟨v, rfl, ⟨x1, rfl, l1, u1⟩, hC1, hO1⟩
  have S1 := Lib.hid (S0.out.cret hC1 hO1)
  clear hC1 hO1
  rcases (by omega : x1 = 0 ∨ x1 = 1 ∨ 2 ≤ x1) with rfl | rfl | h2
  · go_wp2_with fail
    refine (d_pick _ 12 _ _ _ (fun x => -9223372036854775808 ≤ x ∧ x ≤ 9223372036854775807) g A n c _ (S1.out.push _ _).cur (S1.out.push _ _).head (Nat.ne_of_gt S1.out.cur.lt) (by omega) (by omega) (by intro j hj; (rcases j with _ | j; exact ⟨_, rfl, by omega⟩); (rcases j with _ | j; exact ⟨_, rfl, by omega⟩); (rcases j with _ | j; exact ⟨_, rfl, by omega⟩); (rcases j with _ | j; exact ⟨_, rfl, by omega⟩); (rcases j with _ | j; exact ⟨_, rfl, by omega⟩); (rcases j with _ | j; exact ⟨_, rfl, by omega⟩); (rcases j with _ | j; exact ⟨_, rfl, by omega⟩); (rcases j with _ | j; exact ⟨_, rfl, by omega⟩); (rcases j with _ | j; exact ⟨_, rfl, by omega⟩); (rcases j with _ | j; exact ⟨_, rfl, by omega⟩); (rcases j with _ | j; exact ⟨_, rfl, by omega⟩); (rcases j with _ | j; exact ⟨_, rfl, by omega⟩); omega)).mono ?_
    rintro e w2 ⟨v, rfl, ⟨x2, rfl, l2⟩, hC2, hO2⟩
    have S2 := Lib.hid ((S1.out.push _ _).cret hC2 hO2).tail
    clear hC2 hO2
    go_wp2
    go_ret
    exact ⟨_, rfl, ⟨_, rfl, l2⟩, S2.out.cur, S2.out.2.1⟩
  · go_wp2_with fail
    refine (d_below 1000000 g A n c _ S1.out.cur (by omega)).mono ?_
    rintro e w2 ⟨v, rfl, ⟨x2, rfl, l2, u2⟩, hC2, hO2⟩
    have S2 := Lib.hid (S1.out.cret hC2 hO2)
    clear hC2 hO2
    go_wp2
    go_ret
    exact ⟨_, rfl, ⟨_, rfl, by omega, by omega⟩, S2.out.cur, S2.out.2.1⟩
  · have e0 : (x1 == 0) = false := by rw [beq_eq_false_iff_ne]; omega
    have e1 : (x1 == 1) = false := by rw [beq_eq_false_iff_ne]; omega
    go_wp2_with fail
    refine (d_below 20 g A n c _ S1.out.cur (by omega)).mono ?_
    rintro e w2 ⟨v, rfl, ⟨x2, rfl, l2, u2⟩, hC2, hO2⟩
    have S2 := Lib.hid (S1.out.cret hC2 hO2)
    clear hC2 hO2
    go_wp2
    go_ret
    exact ⟨_, rfl, ⟨_, rfl, by omega, by omega⟩, S2.out.cur, S2.out.2.1⟩
set_option maxHeartbeats 400000 in
theorem d_DrawPF (A : Option Addr) (n c : Nat) (w : World) (hR : RB w w.heap.size A n) (hn : n ≤ 9223372036854775807) : Calls Try.prog 21 #[.slice A n c] w fun e w' => ∃ x : Int, e = .returned (.int .i64 x) ∧ (-9223372036854775808 ≤ x ∧ x ≤ 9223372036854775807) ∧ Below w.heap.size w w' := by
  have HR := Lib.hid hR
  clear hR
  go_enter Try.func21, Try.ntmps21
  go_wp2_with fail
  refine (d_newE A n c w _ _ HR.out hn (Own.start w)).mono ?_
  rintro e w1 ⟨g, rfl, s1⟩
  have S1 := Lib.hid s1
  clear s1
  go_wp2_with fail
  refine (d_whole g A n c _ S1.out.cur).mono ?_
  rintro e w2 ⟨v, rfl, ⟨x, rfl, hx⟩, hC2, hO2⟩
  have S2 := Lib.hid (S1.out.cret hC2 hO2)
  clear hC2 hO2
  go_wp2
  go_ret
  exact ⟨_, rfl, hx, S2.out.below⟩
set_option maxHeartbeats 400000 in
theorem l_at0 (i : Nat) (A : Option Addr) (n c : Nat) (w : World) (hR : RB w w.heap.size A n) (hn : n ≤ 1048576) (hi : i ≤ 100) : Calls Try.prog 22 #[.slice A n c, .int .i64 (i : Int)] w fun e w' => ∃ x : Int, e = .returned (.int .i64 x) ∧ (0 ≤ x ∧ x ≤ 255) ∧ w = w' := by
  have HR := Lib.hid hR
  clear hR
  by_cases hlt : i < n
  · have hd : decide ((i : Int) < (n : Int)) = true := by simp; omega
    obtain ⟨b, off, y, rfl, hb, hy, y0, y1⟩ := HR.out i hlt
    have i0 : (0 : Int) ≤ (i : Int) := by omega
    have i1 : (i : Int) < (n : Int) := by omega
    go_enter Try.func22, Try.ntmps22
    go_wp2
    go_ret
    exact ⟨_, rfl, ⟨by omega, by omega⟩, rfl⟩
  · have hd : decide ((i : Int) < (n : Int)) = false := by simp; omega
    go_enter Try.func22, Try.ntmps22
    go_wp2
    go_ret
    exact ⟨_, rfl, ⟨by omega, by omega⟩, rfl⟩
end Go.Proofs.Ytaokfppadfoniaa
