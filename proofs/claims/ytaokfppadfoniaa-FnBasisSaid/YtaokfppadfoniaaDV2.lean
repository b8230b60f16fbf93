/- Contracts: the draws of the laws on states. -/
import Derived.Test.YtaokfppadfoniaaDV
namespace Go.Proofs.Ytaokfppadfoniaa
open Go.RowKit
set_option linter.unusedVariables false
def Ret2S (w : World) (e : Ending) (w' : World) : Prop :=
  ∃ A c us B d vs, e = .returned (.tuple #[.slice A (List.length us) c, .slice B (List.length vs) d]) ∧ us.length ≤ 16 ∧ vs.length ≤ 16 ∧ RD w' w'.heap.size A us.length us ∧ RD w' w'.heap.size B vs.length vs ∧ Below w.heap.size w w'
def RetSD (w : World) (e : Ending) (w' : World) : Prop :=
  ∃ A c us, ∃ p q r s m : Int, e = .returned (.tuple #[.slice A (List.length us) c, .agg #[.int .i64 p, .int .i64 q, .int .i64 r, .int .i64 s, .int .i64 m]]) ∧ us.length ≤ 16 ∧ RD w' w'.heap.size A us.length us ∧ Below w.heap.size w w'
def Ret2I (w : World) (e : Ending) (w' : World) : Prop :=
  ∃ x y : Int, e = .returned (.tuple #[.int .i64 x, .int .i64 y]) ∧ (-1 ≤ x ∧ x ≤ 5) ∧ (-1 ≤ y ∧ y ≤ 16) ∧ Below w.heap.size w w'
set_option maxHeartbeats 1000000 in
theorem d_DrawAddS (A : Option Addr) (n c : Nat) (w : World) (hR : RB w w.heap.size A n) (hn : n ≤ 9223372036854775807) : Calls Try.prog 55 #[.slice A n c] w (Ret2S w) := by
  have HR := Lib.hid hR
  clear hR
  go_enter Try.func55, Try.ntmps55
  go_wp2_with fail
  refine (d_newE A n c w _ _ HR.out hn (Own.start w)).mono ?_
  rintro e w1 ⟨g, rfl, s1⟩
  have S1 := Lib.hid s1
  clear s1
  go_wp2_with fail
  refine (d_below 3 g A n c _ S1.out.cur (by omega)).mono ?_
  rintro e w2 ⟨v, rfl, ⟨x2, rfl, l2, u2⟩, hC2, hO2⟩
  have S2 := Lib.hid (S1.out.cret hC2 hO2)
  clear hC2 hO2
  go_wp2_with fail
  refine (d_once 4 g A n c _ S2.out.cur (by omega)).mono ?_
  rintro e w3 ⟨v, rfl, ⟨o, rfl⟩, hC3, hO3⟩
  have S3 := Lib.hid (S2.out.cret hC3 hO3)
  clear hC3 hO3
  cases o
  · go_wp2_with fail
    refine (d_vec (1 + x2) g A n c _ S3.out.cur (by omega)).mono ?_
    rintro e w4 ⟨A4, c4, us, rfl, hl4, o4, hC4, hO4⟩
    have S4 := Lib.hid (S3.out.cret hC4 hO4)
    have O4 := Lib.hid o4
    have N4 := Lib.hid hO4
    clear hC4 hO4 o4
    have hg4 := S3.out.cur.lt
    go_wp2_with fail
    refine (d_vec (1 + x2) g A n c _ S4.out.cur (by omega)).mono ?_
    rintro e w5 ⟨A5, c5, vs, rfl, hl5, o5, hC5, hO5⟩
    have S5 := Lib.hid (S4.out.cret hC5 hO5)
    have O5 := Lib.hid o5
    have N5 := Lib.hid hO5
    clear hC5 hO5 o5
    have O4' := Lib.hid (O4.out.only N5.out hg4)
    go_wp2
    go_ret2
    exact ⟨A4, c4, us, A5, c5, vs, rfl, hl4.2.1, hl5.2.1, O4'.out.read, O5.out.read, S5.out.below⟩
  · go_wp2_with fail
    refine (d_lbent g A n c _ S3.out.cur).mono ?_
    rintro e w4 ⟨A4, c4, us, rfl, hl4, o4, hC4, hO4⟩
    have S4 := Lib.hid (S3.out.cret hC4 hO4)
    have O4 := Lib.hid o4
    have N4 := Lib.hid hO4
    clear hC4 hO4 o4
    have hg4 := S3.out.cur.lt
    go_wp2_with fail
    refine (d_lbent g A n c _ S4.out.cur).mono ?_
    rintro e w5 ⟨A5, c5, vs, rfl, hl5, o5, hC5, hO5⟩
    have S5 := Lib.hid (S4.out.cret hC5 hO5)
    have O5 := Lib.hid o5
    have N5 := Lib.hid hO5
    clear hC5 hO5 o5
    have O4' := Lib.hid (O4.out.only N5.out hg4)
    go_wp2
    go_ret2
    exact ⟨A4, c4, us, A5, c5, vs, rfl, hl4, hl5, O4'.out.read, O5.out.read, S5.out.below⟩
set_option maxHeartbeats 1000000 in
theorem d_DrawScale (A : Option Addr) (n c : Nat) (w : World) (hR : RB w w.heap.size A n) (hn : n ≤ 9223372036854775807) : Calls Try.prog 49 #[.slice A n c] w (RetSD w) := by
  have HR := Lib.hid hR
  clear hR
  go_enter Try.func49, Try.ntmps49
  go_wp2_with fail
  have T0 : Own w (w.alloc (.cells #[.int .i64 0, .int .i64 0, .int .i64 0, .int .i64 0, .int .i64 0] 29)) [(w.heap.size, 29, #[.int .i64 0, .int .i64 0, .int .i64 0, .int .i64 0, .int .i64 0])] := by simpa using ((Own.start w).push 29 #[.int .i64 0, .int .i64 0, .int .i64 0, .int .i64 0, .int .i64 0])
  refine (d_newE A n c w _ _ HR.out hn T0).mono ?_
  rintro e w1 ⟨g, rfl, s1⟩
  have S1 := Lib.hid s1
  clear s1 T0
  go_wp2_with fail
  refine (d_lbent g A n c _ S1.out.cur).mono ?_
  rintro e w2 ⟨A2, c2, us, rfl, hl2, o2, hC2, hO2⟩
  have S2 := Lib.hid (S1.out.cret hC2 hO2)
  have O2 := Lib.hid o2
  have N2 := Lib.hid hO2
  clear hC2 hO2 o2
  have hg2 := S1.out.cur.lt
  go_wp2_with fail
  refine (d_bent g A n c _ S2.out.cur).mono ?_
  rintro e w3 ⟨v, rfl, ⟨p, q, r, s, m, rfl⟩, hC3, hO3⟩
  have S3 := Lib.hid (S2.out.cret hC3 hO3)
  have O3 := Lib.hid (O2.out.only hO3 hg2)
  clear hC3 hO3 O2
  obtain ⟨k0, k1, k2, k3, k4, f0, f1, f2, f3, f4⟩ := S3.out.own.head.five
  have gl := S3.out.own.head.lt
  have hgw := S3.out.2.2.1
  have hw1 : w.heap.size < w1.heap.size := by omega
  have HB := Lib.hid S3.out.below
  have HF := Lib.hid (((((O3.out.set_far hw1 0 (.int .i64 p)).set_far hw1 1 (.int .i64 q)).set_far hw1 2 (.int .i64 r)).set_far hw1 3 (.int .i64 s)).set_far hw1 4 (.int .i64 m))
  clear O3
  go_wp2
  refine bodyPost_ret (v := .tuple #[.slice A2 us.length c2, .agg #[.int .i64 p, .int .i64 q, .int .i64 r, .int .i64 s, .int .i64 m]]) (by simp [results, Try.results49, go_sem, *]) rfl ⟨A2, c2, us, p, q, r, s, m, rfl, hl2, HF.out.read, ?_⟩
  have hbe := HB.out
  repeat (first | (with_reducible exact Below.refl _ _) | (with_reducible assumption) | (with_reducible refine bl_alloc ?_ _) | (with_reducible refine bl_drew ?_) | (with_reducible refine bl_set ?_ (by simp <;> omega) _) | (with_reducible refine bl_call ?_ (by assumption)))
set_option maxHeartbeats 1000000 in
theorem d_DrawBasis (A : Option Addr) (n c : Nat) (w : World) (hR : RB w w.heap.size A n) (hn : n ≤ 9223372036854775807) : Calls Try.prog 28 #[.slice A n c] w (Ret2I w) := by
  have HR := Lib.hid hR
  clear hR
  go_enter Try.func28, Try.ntmps28
  go_wp2_with fail
  refine (d_newE A n c w _ _ HR.out hn (Own.start w)).mono ?_
  rintro e w1 ⟨g, rfl, s1⟩
  have S1 := Lib.hid s1
  clear s1
  go_wp2_with fail
  refine (d_below 7 g A n c _ S1.out.cur (by omega)).mono ?_
  rintro e w2 ⟨v, rfl, ⟨x2, rfl, l2, u2⟩, hC2, hO2⟩
  have S2 := Lib.hid (S1.out.cret hC2 hO2)
  clear hC2 hO2
  go_wp2_with fail
  refine (d_pick _ 9 _ _ _ (fun x => -1 ≤ x ∧ x ≤ 16) g A n c _ (S2.out.push _ _).cur (S2.out.push _ _).own.head (Nat.ne_of_gt S2.out.cur.lt) (by omega) (by omega) (by intro j hj; (rcases j with _ | j; exact ⟨_, rfl, (by simp)⟩); (rcases j with _ | j; exact ⟨_, rfl, (by simp)⟩); (rcases j with _ | j; exact ⟨_, rfl, (by simp)⟩); (rcases j with _ | j; exact ⟨_, rfl, (by simp)⟩); (rcases j with _ | j; exact ⟨_, rfl, (by simp)⟩); (rcases j with _ | j; exact ⟨_, rfl, (by simp)⟩); (rcases j with _ | j; exact ⟨_, rfl, (by simp)⟩); (rcases j with _ | j; exact ⟨_, rfl, (by simp)⟩); (rcases j with _ | j; exact ⟨_, rfl, (by simp)⟩); omega)).mono ?_
  rintro e w3 ⟨v, rfl, ⟨x3, rfl, l3⟩, hC3, hO3⟩
  have S3 := Lib.hid ((S2.out.push _ _).cret hC3 hO3).tail
  clear hC3 hO3
  go_wp2
  go_ret2
  exact ⟨x2 - 1, x3, rfl, by omega, l3, S3.out.below⟩
end Go.Proofs.Ytaokfppadfoniaa
