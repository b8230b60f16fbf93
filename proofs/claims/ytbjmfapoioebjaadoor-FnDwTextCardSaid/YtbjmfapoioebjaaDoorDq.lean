/- Contracts: the draws of the laws on texts. -/
import Derived.Test.YtbjmfapoioebjaaDoorDr2
import Derived.Test.YtbjmfapoioebjaaDoorSp
import Derived.Test.YtbjmfapoioebjaaDoorJn
import Derived.Lib.ItoaLen
namespace Go.Proofs.YtbjmfapoioebjaaDoor
open Go.RowKit
set_option linter.unusedVariables false
set_option maxRecDepth 20000

def isB (v : Value) : Prop := ∃ b : Bool, v = .bool b
set_option maxHeartbeats 400000 in
theorem d_once (m : Int) (g : Nat) (A : Option Addr) (n c : Nat) (w : World) (hC : Cur w g A n c) (hm : 0 < m) : Calls Tryd.prog 50 #[.pointer (some ⟨g, 0, none⟩), .int .i64 m] w (CRet g A n c w isB) := by
  have HC := Lib.hid hC
  clear hC
  go_enter Tryd.func50, Tryd.ntmps50
  go_wp2_with fail
  refine (d_below m g A n c _ HC.out hm).mono ?_
  rintro e w1 ⟨v, rfl, ⟨x, rfl, x0, x1⟩, hC1, hO1⟩
  have H1 := Lib.hid hC1
  have H2 := Lib.hid hO1
  clear hC1 hO1
  go_wp2
  go_ret
  exact ⟨_, rfl, ⟨_, rfl⟩, H1.out, H2.out⟩
set_option maxHeartbeats 1000000 in
theorem d_whole (g : Nat) (A : Option Addr) (n c : Nat) (w : World) (hC : Cur w g A n c) : Calls Tryd.prog 49 #[.pointer (some ⟨g, 0, none⟩)] w (CRet g A n c w (isInt (-9223372036854775808) 9223372036854775807)) := by
  have S0 := Lib.hid (CS.start hC)
  clear hC
  go_enter Tryd.func49, Tryd.ntmps49
  go_wp2_with fail
  refine (d_below 3 g A n c _ S0.out.cur (by omega)).mono ?_
  rintro e w1 ⟨v, rfl, ⟨x1, rfl, l1, u1⟩, hC1, hO1⟩
  have S1 := Lib.hid (S0.out.cret hC1 hO1)
  clear hC1 hO1
  rcases (by omega : x1 = 0 ∨ x1 = 1 ∨ 2 ≤ x1) with rfl | rfl | h2
  · go_wp2_with fail
    refine (d_pick _ 12 _ _ _ (fun x => -9223372036854775808 ≤ x ∧ x ≤ 9223372036854775807) g A n c _ (S1.out.push _ _).cur (S1.out.push _ _).head (Nat.ne_of_gt S1.out.cur.lt) (by omega) (by omega) (by intro j hj; (rcases j with _ | j; exact ⟨_, rfl, by omega⟩); (rcases j with _ | j; exact ⟨_, rfl, by omega⟩); (rcases j with _ | j; exact ⟨_, rfl, by omega⟩); (rcases j with _ | j; exact ⟨_, rfl, by omega⟩); (rcases j with _ | j; exact ⟨_, rfl, by omega⟩); (rcases j with _ | j; exact ⟨_, rfl, by omega⟩); (rcases j with _ | j; exact ⟨_, rfl, by omega⟩); (rcases j with _ | j; exact ⟨_, rfl, by omega⟩); (rcases j with _ | j; exact ⟨_, rfl, by omega⟩); (rcases j with _ | j; exact ⟨_, rfl, by omega⟩); (rcases j with _ | j; exact ⟨_, rfl, by omega⟩); (rcases j with _ | j; exact ⟨_, rfl, by omega⟩); omega)).mono ?_
    rintro e w2 ⟨v, rfl, ⟨x2, rfl, l2⟩, hC2, hO2⟩
    have S2 := Lib.hid ((S1.out.push _ _).cret hC2 hO2).tail
    clear hC2 hO2
    go_wp2
    go_ret
    exact ⟨_, rfl, ⟨_, rfl, l2⟩, S2.out.cur, S2.out.2.1⟩
  · go_wp2_with fail
    refine (d_below 1000000 g A n c _ S1.out.cur (by omega)).mono ?_
    rintro e w2 ⟨v, rfl, ⟨x2, rfl, l2, u2⟩, hC2, hO2⟩
    have S2 := Lib.hid (S1.out.cret hC2 hO2)
    clear hC2 hO2
    go_wp2
    go_ret
    exact ⟨_, rfl, ⟨_, rfl, by omega, by omega⟩, S2.out.cur, S2.out.2.1⟩
  · have e0 : (x1 == 0) = false := by rw [beq_eq_false_iff_ne]; omega
    have e1 : (x1 == 1) = false := by rw [beq_eq_false_iff_ne]; omega
    go_wp2_with fail
    refine (d_below 20 g A n c _ S1.out.cur (by omega)).mono ?_
    rintro e w2 ⟨v, rfl, ⟨x2, rfl, l2, u2⟩, hC2, hO2⟩
    have S2 := Lib.hid (S1.out.cret hC2 hO2)
    clear hC2 hO2
    go_wp2
    go_ret
    exact ⟨_, rfl, ⟨_, rfl, by omega, by omega⟩, S2.out.cur, S2.out.2.1⟩
/-- A text of at most m bytes. -/
def isT (m : Nat) (v : Value) : Prop := ∃ l : List UInt8, v = .string (str l) ∧ l.length ≤ m
set_option maxHeartbeats 1000000 in
theorem d_pickT (b m c' q : Nat) (t : TypeId) (cs : Array Value) (g : Nat) (A : Option Addr) (n c : Nat) (w : World) (hC : Cur w g A n c) (hB : Blk w b t cs) (hne : b ≠ g) (hm : 0 < m) (hm2 : m ≤ 1000) (hp : ∀ j, j < m → ∃ x : ByteArray, cs[j]? = some (.string x) ∧ x.size ≤ q) :
    Calls Tryd.prog 44 #[.pointer (some ⟨g, 0, none⟩), .slice (some ⟨b, 0, none⟩) m c'] w (CRet g A n c w (isT q)) := by
  have HC := Lib.hid hC
  have HB := Lib.hid hB
  have HP := Lib.hid hp
  have HNE := Lib.hid hne
  clear hC hB hp hne
  go_enter Tryd.func44, Tryd.ntmps44
  go_wp2_with fail
  refine (d_below (m : Int) g A n c _ HC.out (by omega)).mono ?_
  rintro e w1 ⟨v, rfl, ⟨x, rfl, x0, x1⟩, hC1, hO1⟩
  obtain ⟨j, rfl⟩ := Int.eq_ofNat_of_zero_le x0
  have hj : j < m := by omega
  have i1 : (j : Int) < (m : Int) := by omega
  obtain ⟨y, hy, hpy⟩ := HP.out j hj
  have q0 : w1.cell? ⟨b, j, none⟩ = some (.string y) := by rw [(hO1.blk HB.out HNE.out).cell j]; exact hy
  have HY := Lib.hid hpy
  have H1 := Lib.hid hC1
  have H2 := Lib.hid hO1
  clear hC1 hO1 hpy hy
  go_wp2
  go_ret
  exact ⟨_, rfl, ⟨y.data.toList, by rw [str_of]; rfl, by have := HY.out; simpa using this⟩, H1.out, H2.out⟩
set_option maxHeartbeats 400000 in
theorem d_DrawFI (A : Option Addr) (n c : Nat) (w : World) (hR : RB w w.heap.size A n) (hn : n ≤ 9223372036854775807) : Calls Tryd.prog 29 #[.slice A n c] w fun e w' => ∃ x : Int, e = .returned (.int .i64 x) ∧ (-9223372036854775808 ≤ x ∧ x ≤ 9223372036854775807) ∧ Below w.heap.size w w' := by
  have HR := Lib.hid hR
  clear hR
  go_enter Tryd.func29, Tryd.ntmps29
  go_wp2_with fail
  refine (d_newE A n c w _ _ HR.out hn (Own.start w)).mono ?_
  rintro e w1 ⟨g, rfl, s1⟩
  have S1 := Lib.hid s1
  clear s1
  go_wp2_with fail
  refine (d_whole g A n c _ S1.out.cur).mono ?_
  rintro e w2 ⟨v, rfl, ⟨x, rfl, x0, x1⟩, hC2, hO2⟩
  have S2 := Lib.hid (S1.out.cret hC2 hO2)
  clear hC2 hO2
  go_wp2
  go_ret
  exact ⟨_, rfl, ⟨x0, x1⟩, S2.out.below⟩
def RetTx (w : World) (q : Nat) (e : Ending) (w' : World) : Prop := ∃ l : List UInt8, e = .returned (.string (str l)) ∧ l.length ≤ q ∧ Below w.heap.size w w'
set_option maxHeartbeats 1000000 in
theorem d_DrawPN (A : Option Addr) (n c : Nat) (w : World) (hR : RB w w.heap.size A n) (hn : n ≤ 9223372036854775807) : Calls Tryd.prog 30 #[.slice A n c] w (RetTx w 30) := by
  have HR := Lib.hid hR
  clear hR
  go_enter Tryd.func30, Tryd.ntmps30
  go_wp2_with fail
  refine (d_newE A n c w _ _ HR.out hn (Own.start w)).mono ?_
  rintro e w1 ⟨g, rfl, s1⟩
  have S1 := Lib.hid s1
  clear s1
  go_wp2_with fail
  refine (d_once 2 g A n c _ S1.out.cur (by omega)).mono ?_
  rintro e w2 ⟨v, rfl, ⟨b, rfl⟩, hC2, hO2⟩
  have S2 := Lib.hid (S1.out.cret hC2 hO2)
  clear hC2 hO2
  cases b
  · go_wp2_with fail
    refine (d_pickT _ 12 _ 30 _ _ g A n c _ (S2.out.push _ _).cur (S2.out.push _ _).own.head (Nat.ne_of_gt S2.out.cur.lt) (by omega) (by omega) (by intro j hj; (rcases j with _ | j; exact ⟨_, rfl, by decide⟩); (rcases j with _ | j; exact ⟨_, rfl, by decide⟩); (rcases j with _ | j; exact ⟨_, rfl, by decide⟩); (rcases j with _ | j; exact ⟨_, rfl, by decide⟩); (rcases j with _ | j; exact ⟨_, rfl, by decide⟩); (rcases j with _ | j; exact ⟨_, rfl, by decide⟩); (rcases j with _ | j; exact ⟨_, rfl, by decide⟩); (rcases j with _ | j; exact ⟨_, rfl, by decide⟩); (rcases j with _ | j; exact ⟨_, rfl, by decide⟩); (rcases j with _ | j; exact ⟨_, rfl, by decide⟩); (rcases j with _ | j; exact ⟨_, rfl, by decide⟩); (rcases j with _ | j; exact ⟨_, rfl, by decide⟩); omega)).mono ?_
    rintro e w3 ⟨v, rfl, ⟨l, rfl, hl⟩, hC3, hO3⟩
    have S3 := Lib.hid ((S2.out.push _ _).cret hC3 hO3)
    clear hC3 hO3
    go_wp2
    go_ret
    exact ⟨l, rfl, hl, S3.out.below⟩
  · go_wp2_with fail
    refine (d_whole g A n c _ S2.out.cur).mono ?_
    rintro e w3 ⟨v, rfl, ⟨x, rfl, x0, x1⟩, hC3, hO3⟩
    have S3 := Lib.hid (S2.out.cret hC3 hO3)
    clear hC3 hO3
    go_wp2_with fail
    refine (s_Fmt x _ x0 x1).mono ?_
    rintro e w4 ⟨rfl, hb4⟩
    have hw := bl_call S3.out.below hb4
    clear hb4
    go_wp2
    go_ret
    exact ⟨Lib.itoa x, rfl, by have := Lib.itoa_length_le x x0 x1; omega, hw⟩
set_option maxHeartbeats 1000000 in
theorem d_DrawSB (A : Option Addr) (n c : Nat) (w : World) (hR : RB w w.heap.size A n) (hn : n ≤ 9223372036854775807) : Calls Tryd.prog 23 #[.slice A n c] w fun e w' => ∃ (l : List UInt8) (b : UInt8), e = .returned (.tuple #[.string (str l), .int .u8 (b.toNat : Int)]) ∧ l.length ≤ 30 ∧ Below w.heap.size w w' := by
  have HR := Lib.hid hR
  clear hR
  go_enter Tryd.func23, Tryd.ntmps23
  go_wp2_with fail
  refine (d_newE A n c w _ _ HR.out hn (Own.start w)).mono ?_
  rintro e w1 ⟨g, rfl, s1⟩
  have S1 := Lib.hid s1
  clear s1
  go_wp2_with fail
  refine (d_pickT _ 6 _ 30 _ _ g A n c _ (S1.out.push _ _).cur (S1.out.push _ _).own.head (Nat.ne_of_gt S1.out.cur.lt) (by omega) (by omega) (by intro j hj; (rcases j with _ | j; exact ⟨_, rfl, by decide⟩); (rcases j with _ | j; exact ⟨_, rfl, by decide⟩); (rcases j with _ | j; exact ⟨_, rfl, by decide⟩); (rcases j with _ | j; exact ⟨_, rfl, by decide⟩); (rcases j with _ | j; exact ⟨_, rfl, by decide⟩); (rcases j with _ | j; exact ⟨_, rfl, by decide⟩); omega)).mono ?_
  rintro e w2 ⟨v, rfl, ⟨l, rfl, hl⟩, hC2, hO2⟩
  have S2 := Lib.hid ((S1.out.push _ _).cret hC2 hO2)
  clear hC2 hO2
  go_wp2_with fail
  refine (d_pick _ 2 _ _ _ (fun x => x = 44 ∨ x = 10) g A n c _ (S2.out.push _ _).cur (S2.out.push _ _).own.head (Nat.ne_of_gt S2.out.cur.lt) (by omega) (by omega) (by intro j hj; (rcases j with _ | j; exact ⟨_, rfl, .inl rfl⟩); (rcases j with _ | j; exact ⟨_, rfl, .inr rfl⟩); omega)).mono ?_
  rintro e w3 ⟨v, rfl, ⟨x, rfl, hx⟩, hC3, hO3⟩
  have S3 := Lib.hid ((S2.out.push _ _).cret hC3 hO3)
  clear hC3 hO3
  rcases hx with rfl | rfl
  · go_wp2
    go_ret2
    exact ⟨l, 44, rfl, hl, S3.out.below⟩
  · go_wp2
    go_ret2
    exact ⟨l, 10, rfl, hl, S3.out.below⟩
end Go.Proofs.YtbjmfapoioebjaaDoor
