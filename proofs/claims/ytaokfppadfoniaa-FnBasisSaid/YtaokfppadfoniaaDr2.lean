/- Contracts: elements of Z[omega] that are drawn. -/
import Derived.Test.YtaokfppadfoniaaDr
namespace Go.Proofs.Ytaokfppadfoniaa
open Go.RowKit
set_option linter.unusedVariables false

section
variable {w X : World} {g n c r : Nat} {A : Option Addr} {L : List (Nat × TypeId × Array Value)}
theorem setfin4 (h : CS w X g A n c L) (hr : w.heap.size ≤ r) {p q s t : Value} : Cur ((((X.setCell ⟨r, 0, none⟩ p).setCell ⟨r, 1, none⟩ q).setCell ⟨r, 2, none⟩ s).setCell ⟨r, 3, none⟩ t) g A n c ∧ Only g w ((((X.setCell ⟨r, 0, none⟩ p).setCell ⟨r, 1, none⟩ q).setCell ⟨r, 2, none⟩ s).setCell ⟨r, 3, none⟩ t) :=
  (((h.base hr 0 p).base hr 1 q).base hr 2 s).set hr 3 t
theorem setfin5 (h : CS w X g A n c L) (hr : w.heap.size ≤ r) {p q s t u : Value} : Cur (((((X.setCell ⟨r, 0, none⟩ p).setCell ⟨r, 1, none⟩ q).setCell ⟨r, 2, none⟩ s).setCell ⟨r, 3, none⟩ t).setCell ⟨r, 4, none⟩ u) g A n c ∧ Only g w (((((X.setCell ⟨r, 0, none⟩ p).setCell ⟨r, 1, none⟩ q).setCell ⟨r, 2, none⟩ s).setCell ⟨r, 3, none⟩ t).setCell ⟨r, 4, none⟩ u) :=
  ((((h.base hr 0 p).base hr 1 q).base hr 2 s).base hr 3 t).set hr 4 u
end
set_option maxHeartbeats 1000000 in
theorem d_small (g : Nat) (A : Option Addr) (n c : Nat) (w : World) (hC : Cur w g A n c) : Calls Try.prog 67 #[.pointer (some ⟨g, 0, none⟩)] w (CRet g A n c w isZ) := by
  have S0 := Lib.hid ((CS.start hC).push 25 #[.int .i64 0, .int .i64 0, .int .i64 0, .int .i64 0])
  clear hC
  go_enter Try.func67, Try.ntmps67
  go_wp2_with fail
  refine (d_below 7 g A n c _ S0.out.cur (by omega)).mono ?_
  rintro e w1 ⟨v, rfl, ⟨x1, rfl, l1, u1⟩, hC1, hO1⟩
  have S1 := Lib.hid (S0.out.cret hC1 hO1)
  clear hC1 hO1
  go_wp2_with fail
  refine (d_below 7 g A n c _ S1.out.cur (by omega)).mono ?_
  rintro e w2 ⟨v, rfl, ⟨x2, rfl, l2, u2⟩, hC2, hO2⟩
  have S2 := Lib.hid (S1.out.cret hC2 hO2)
  clear hC2 hO2
  go_wp2_with fail
  refine (d_below 7 g A n c _ S2.out.cur (by omega)).mono ?_
  rintro e w3 ⟨v, rfl, ⟨x3, rfl, l3, u3⟩, hC3, hO3⟩
  have S3 := Lib.hid (S2.out.cret hC3 hO3)
  clear hC3 hO3
  go_wp2_with fail
  refine (d_below 7 g A n c _ S3.out.cur (by omega)).mono ?_
  rintro e w4 ⟨v, rfl, ⟨x4, rfl, l4, u4⟩, hC4, hO4⟩
  have S4 := Lib.hid (S3.out.cret hC4 hO4)
  clear hC4 hO4
  obtain ⟨k0, k1, k2, k3, f0, f1, f2, f3⟩ := S4.out.head.four
  have hz := S4.out.size
  go_wp2
  refine bodyPost_ret (v := .agg #[.int .i64 (x1 - 3), .int .i64 (x2 - 3), .int .i64 (x3 - 3), .int .i64 (x4 - 3)]) (by simp [results, Try.results67, go_sem, *]) rfl ?_
  exact ⟨_, rfl, ⟨_, _, _, _, rfl⟩, setfin4 S4.out (Nat.le_refl _)⟩
set_option maxHeartbeats 1000000 in
theorem d_zw (g : Nat) (A : Option Addr) (n c : Nat) (w : World) (hC : Cur w g A n c) : Calls Try.prog 64 #[.pointer (some ⟨g, 0, none⟩)] w (CRet g A n c w isZ) := by
  have S0 := Lib.hid ((CS.start hC).push 25 #[.int .i64 0, .int .i64 0, .int .i64 0, .int .i64 0])
  clear hC
  go_enter Try.func64, Try.ntmps64
  go_wp2_with fail
  refine (d_below 4 g A n c _ S0.out.cur (by omega)).mono ?_
  rintro e w1 ⟨v, rfl, ⟨x1, rfl, l1, u1⟩, hC1, hO1⟩
  have S1 := Lib.hid (S0.out.cret hC1 hO1)
  clear hC1 hO1
  rcases (by omega : x1 = 0 ∨ x1 = 1 ∨ 2 ≤ x1) with rfl | rfl | h2
  · go_wp2_with fail
    refine (d_small g A n c _ S1.out.cur).mono ?_
    rintro e w2 ⟨v, rfl, ⟨a, b, cc, d, rfl⟩, hC2, hO2⟩
    have S2 := Lib.hid (S1.out.cret hC2 hO2)
    clear hC2 hO2
    obtain ⟨k0, k1, k2, k3, f0, f1, f2, f3⟩ := S2.out.head.four
    have hz := S2.out.size
    go_wp2
    refine bodyPost_ret (v := .agg #[.int .i64 a, .int .i64 b, .int .i64 cc, .int .i64 d]) (by simp [results, Try.results64, go_sem, *]) rfl ?_
    exact ⟨_, rfl, ⟨_, _, _, _, rfl⟩, setfin4 S2.out (Nat.le_refl _)⟩
  · go_wp2_with fail
    refine (d_pick _ 9 _ _ _ (fun _ => True) g A n c _ (S1.out.push _ _).cur (S1.out.push _ _).head (Nat.ne_of_gt S1.out.cur.lt) (by omega) (by omega) (by intro j hj; (rcases j with _ | j; exact ⟨_, rfl, trivial⟩); (rcases j with _ | j; exact ⟨_, rfl, trivial⟩); (rcases j with _ | j; exact ⟨_, rfl, trivial⟩); (rcases j with _ | j; exact ⟨_, rfl, trivial⟩); (rcases j with _ | j; exact ⟨_, rfl, trivial⟩); (rcases j with _ | j; exact ⟨_, rfl, trivial⟩); (rcases j with _ | j; exact ⟨_, rfl, trivial⟩); (rcases j with _ | j; exact ⟨_, rfl, trivial⟩); (rcases j with _ | j; exact ⟨_, rfl, trivial⟩); omega)).mono ?_
    rintro e w2 ⟨v, rfl, ⟨x2, rfl, l2⟩, hC2, hO2⟩
    have S2 := Lib.hid ((S1.out.push _ _).cret hC2 hO2).tail
    clear hC2 hO2
    go_wp2_with fail
    refine (d_pick _ 4 _ _ _ (fun _ => True) g A n c _ (S2.out.push _ _).cur (S2.out.push _ _).head (Nat.ne_of_gt S2.out.cur.lt) (by omega) (by omega) (by intro j hj; (rcases j with _ | j; exact ⟨_, rfl, trivial⟩); (rcases j with _ | j; exact ⟨_, rfl, trivial⟩); (rcases j with _ | j; exact ⟨_, rfl, trivial⟩); (rcases j with _ | j; exact ⟨_, rfl, trivial⟩); omega)).mono ?_
    rintro e w3 ⟨v, rfl, ⟨x3, rfl, l3⟩, hC3, hO3⟩
    have S3 := Lib.hid ((S2.out.push _ _).cret hC3 hO3).tail
    clear hC3 hO3
    go_wp2_with fail
    refine (d_below 3 g A n c _ S3.out.cur (by omega)).mono ?_
    rintro e w4 ⟨v, rfl, ⟨x4, rfl, l4, u4⟩, hC4, hO4⟩
    have S4 := Lib.hid (S3.out.cret hC4 hO4)
    clear hC4 hO4
    obtain ⟨k0, k1, k2, k3, f0, f1, f2, f3⟩ := S4.out.head.four
    have hz := S4.out.size
    go_wp2
    refine bodyPost_ret (v := .agg #[.int .i64 x2, .int .i64 x3, .int .i64 0, .int .i64 x4]) (by simp [results, Try.results64, go_sem, *]) rfl ?_
    exact ⟨_, rfl, ⟨_, _, _, _, rfl⟩, setfin4 S4.out (Nat.le_refl _)⟩
  · have e0 : (x1 == 0) = false := by rw [beq_eq_false_iff_ne]; omega
    have e1 : (x1 == 1) = false := by rw [beq_eq_false_iff_ne]; omega
    go_wp2_with fail
    refine (d_below 60000 g A n c _ S1.out.cur (by omega)).mono ?_
    rintro e w2 ⟨v, rfl, ⟨x2, rfl, l2, u2⟩, hC2, hO2⟩
    have S2 := Lib.hid (S1.out.cret hC2 hO2)
    clear hC2 hO2
    go_wp2_with fail
    refine (d_below 60000 g A n c _ S2.out.cur (by omega)).mono ?_
    rintro e w3 ⟨v, rfl, ⟨x3, rfl, l3, u3⟩, hC3, hO3⟩
    have S3 := Lib.hid (S2.out.cret hC3 hO3)
    clear hC3 hO3
    go_wp2_with fail
    refine (d_below 300 g A n c _ S3.out.cur (by omega)).mono ?_
    rintro e w4 ⟨v, rfl, ⟨x4, rfl, l4, u4⟩, hC4, hO4⟩
    have S4 := Lib.hid (S3.out.cret hC4 hO4)
    clear hC4 hO4
    go_wp2_with fail
    refine (d_below 300 g A n c _ S4.out.cur (by omega)).mono ?_
    rintro e w5 ⟨v, rfl, ⟨x5, rfl, l5, u5⟩, hC5, hO5⟩
    have S5 := Lib.hid (S4.out.cret hC5 hO5)
    clear hC5 hO5
    obtain ⟨k0, k1, k2, k3, f0, f1, f2, f3⟩ := S5.out.head.four
    have hz := S5.out.size
    go_wp2
    refine bodyPost_ret (v := .agg #[.int .i64 (x2 - 30000), .int .i64 (x3 - 30000), .int .i64 (x4 - 150), .int .i64 (x5 - 150)]) (by simp [results, Try.results64, go_sem, *]) rfl ?_
    exact ⟨_, rfl, ⟨_, _, _, _, rfl⟩, setfin4 S5.out (Nat.le_refl _)⟩
/-- Inside a function that made the cursor itself. -/
def DS (w X : World) (g : Nat) (A : Option Addr) (n c : Nat) (L : List (Nat × TypeId × Array Value)) : Prop := Cur X g A n c ∧ Below w.heap.size w X ∧ w.heap.size ≤ g ∧ ∀ b ∈ L, Blk X b.1 b.2.1 b.2.2 ∧ b.1 ≠ g
section
variable {w X Y : World} {g n c r : Nat} {A : Option Addr} {t : TypeId} {cs : Array Value} {L : List (Nat × TypeId × Array Value)}
theorem DS.new (h : Own w X L) (hg : X.heap.size ≤ g) (hC : Cur Y g A n c) (hb : Below X.heap.size X Y) : DS w Y g A n c L :=
  ⟨hC, bl_call h.1 hb, Nat.le_trans h.1.size hg, fun b hm => ⟨(h.2 b hm).call hb, Nat.ne_of_lt (Nat.lt_of_lt_of_le (h.2 b hm).lt hg)⟩⟩
theorem DS.cur (h : DS w X g A n c L) : Cur X g A n c := h.1
theorem DS.below (h : DS w X g A n c L) : Below w.heap.size w X := h.2.1
theorem DS.own (h : DS w X g A n c L) : Own w X L := ⟨h.2.1, fun b hm => (h.2.2.2 b hm).1⟩
theorem DS.cret (h : DS w X g A n c L) (hC : Cur Y g A n c) (hO : Only g X Y) : DS w Y g A n c L :=
  ⟨hC, hO.below h.2.1 h.2.2.1, h.2.2.1, fun b hm => ⟨hO.blk (h.2.2.2 b hm).1 (h.2.2.2 b hm).2, (h.2.2.2 b hm).2⟩⟩
theorem DS.push (h : DS w X g A n c L) (t : TypeId) (cs : Array Value) : DS w (X.alloc (.cells cs t)) g A n c ((X.heap.size, t, cs) :: L) :=
  ⟨h.1.alloc _, bl_alloc h.2.1 _, h.2.2.1, fun b hm => by
    rcases List.mem_cons.1 hm with e | e
    · rw [e]; exact ⟨Blk.new X t cs, Nat.ne_of_gt h.1.lt⟩
    · exact ⟨(h.2.2.2 b e).1.alloc _, (h.2.2.2 b e).2⟩⟩
theorem DS.call (h : DS w X g A n c L) (hb : Below X.heap.size X Y) : DS w Y g A n c L :=
  h.cret (h.1.call hb) (Only.of_below hb h.1.lt)
theorem DS.drew (h : DS w X g A n c L) : DS w X.drew g A n c L := ⟨h.1, h.2.1.drew, h.2.2⟩
theorem DS.tail {b : Nat × TypeId × Array Value} (h : DS w X g A n c (b :: L)) : DS w X g A n c L := ⟨h.1, h.2.1, h.2.2.1, fun b' hm => h.2.2.2 b' (List.mem_cons_of_mem _ hm)⟩
end
theorem d_newE (A : Option Addr) (n c : Nat) (w X : World) (L : List (Nat × TypeId × Array Value)) (hR : RB w w.heap.size A n) (hn : n ≤ 9223372036854775807) (h : Own w X L) : Calls Try.prog 63 #[.slice A n c] X fun e w' => ∃ g, e = .returned (.pointer (some ⟨g, 0, none⟩)) ∧ DS w w' g A n c L := by
  refine (d_new A n c X ((hR.keep h.below).more h.below.size) hn).mono ?_
  rintro e w' ⟨rfl, hC, hb⟩
  exact ⟨_, rfl, DS.new h (Nat.le_refl _) hC hb⟩
theorem l_big (A : Option Addr) (n c : Nat) (w : World) : Calls Try.prog 14 #[.slice A n c] w fun e w' => e = .returned (.bool (decide ((1048576 : Int) < (n : Int)))) ∧ w = w' := by
  go_enter Try.func14, Try.ntmps14
  go_wp2
  go_ret
  exact ⟨rfl, rfl⟩
theorem l_big_t (A : Option Addr) (n c : Nat) (w : World) (h : 1048576 < n) : Calls Try.prog 14 #[.slice A n c] w fun e w' => e = .returned (.bool true) ∧ w = w' := by
  have := l_big A n c w
  rwa [show decide ((1048576 : Int) < (n : Int)) = true by simp; omega] at this
theorem l_big_f (A : Option Addr) (n c : Nat) (w : World) (h : n ≤ 1048576) : Calls Try.prog 14 #[.slice A n c] w fun e w' => e = .returned (.bool false) ∧ w = w' := by
  have := l_big A n c w
  rwa [show decide ((1048576 : Int) < (n : Int)) = false by simp; omega] at this
theorem Own.bare {w X : World} {L : List (Nat × TypeId × Array Value)} (h : Own w X L) : Own w X [] := ⟨h.1, by simp⟩
end Go.Proofs.Ytaokfppadfoniaa
