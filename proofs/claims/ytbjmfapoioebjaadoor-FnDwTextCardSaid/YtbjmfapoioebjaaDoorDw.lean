/- Contracts: the draws of the law on the texts of elements. -/
import Derived.Test.YtbjmfapoioebjaaDoorDq
import Derived.Test.YtbjmfapoioebjaaDoorN
import Derived.Test.YtbjmfapoioebjaaDoorFD
import Derived.Deep.RegionHeld3
namespace Go.Proofs.YtbjmfapoioebjaaDoor
open Go.RowKit
set_option linter.unusedVariables false
set_option maxRecDepth 20000

theorem fin_alloc {w X : World} {g n c : Nat} {A : Option Addr} (h : Cur X g A n c ∧ Only g w X) (o : Obj) : Cur (X.alloc o) g A n c ∧ Only g w (X.alloc o) :=
  ⟨h.1.alloc o, h.2.trans (Only.of_below (bl_alloc (Below.refl _ _) o) h.1.lt)⟩
theorem newD_s (a b c d k : Int) : ∃ (x y z t m : Int) (ok : Bool), ∀ W, Calls Tryd.prog 67 #[.agg #[.int .i64 a, .int .i64 b, .int .i64 c, .int .i64 d], .int .i64 k] W (Ret (.tuple #[.agg #[.int .i64 x, .int .i64 y, .int .i64 z, .int .i64 t, .int .i64 m], .bool ok]) W) := by
  rcases h : newD ⟨a, b, c, d⟩ k with _ | ⟨⟨x, y, z, t⟩, m⟩
  · exact ⟨0, 0, 0, 0, 0, false, fun W => s_New_none W h⟩
  · exact ⟨x, y, z, t, m, true, fun W => s_New_some W h⟩
set_option maxHeartbeats 1000000 in
theorem d_dw (g : Nat) (A : Option Addr) (n c : Nat) (w : World) (hC : Cur w g A n c) : Calls Tryd.prog 69 #[.pointer (some ⟨g, 0, none⟩)] w (CRet g A n c w isD) := by
  have S0 := Lib.hid ((CS.start hC).push 36 #[.int .i64 0, .int .i64 0, .int .i64 0, .int .i64 0, .int .i64 0])
  clear hC
  go_enter Tryd.func69, Tryd.ntmps69
  go_wp2_with fail
  refine (d_small g A n c _ S0.out.cur).mono ?_
  rintro e w1 ⟨v, rfl, ⟨a, b, cc, d, rfl⟩, hC1, hO1⟩
  have S1 := Lib.hid (S0.out.cret hC1 hO1)
  clear hC1 hO1
  go_wp2_with fail
  refine (d_below 6 g A n c _ S1.out.cur (by omega)).mono ?_
  rintro e w2 ⟨v, rfl, ⟨x2, rfl, l2, u2⟩, hC2, hO2⟩
  have S2 := Lib.hid (S1.out.cret hC2 hO2)
  clear hC2 hO2
  obtain ⟨x, y, z, t, m, ok, hS⟩ := newD_s a b cc d x2
  have HS := Lib.hid hS
  clear hS
  go_wp2_with fail
  refine (HS.out _).mono ?_
  rintro e w3 ⟨rfl, hb3⟩
  have S3 := Lib.hid (S2.out.call hb3)
  clear hb3
  obtain ⟨k0, k1, k2, k3, k4, f0, f1, f2, f3, f4⟩ := S3.out.head.five
  have qr1 := S3.out.head.lt
  have qr2 := Nat.ne_of_lt qr1
  have qr3 := Nat.ne_of_gt qr1
  have qr4 := Nat.le_of_lt qr1
  have hz := S3.out.size
  go_wp2
  refine bodyPost_ret (v := .agg #[.int .i64 x, .int .i64 y, .int .i64 z, .int .i64 t, .int .i64 m]) (by simp [results, Tryd.results69, go_sem, *]) rfl ?_
  exact ⟨_, rfl, ⟨_, _, _, _, _, rfl⟩, fin_alloc (setfin5 S3.out (Nat.le_refl _)) _⟩
set_option maxHeartbeats 1000000 in
theorem d_bent (g : Nat) (A : Option Addr) (n c : Nat) (w : World) (hC : Cur w g A n c) : Calls Tryd.prog 52 #[.pointer (some ⟨g, 0, none⟩)] w (CRet g A n c w isD) := by
  have S0 := Lib.hid ((CS.start hC).push 36 #[.int .i64 0, .int .i64 0, .int .i64 0, .int .i64 0, .int .i64 0])
  clear hC
  go_enter Tryd.func52, Tryd.ntmps52
  go_wp2_with fail
  refine (d_below 6 g A n c _ S0.out.cur (by omega)).mono ?_
  rintro e w1 ⟨v, rfl, ⟨x1, rfl, l1, u1⟩, hC1, hO1⟩
  have S1 := Lib.hid (S0.out.cret hC1 hO1)
  clear hC1 hO1
  rcases (by omega : x1 = 0 ∨ x1 = 1 ∨ 2 ≤ x1) with rfl | rfl | h2
  · go_wp2_with fail
    refine (d_zw g A n c _ S1.out.cur).mono ?_
    rintro e w2 ⟨v, rfl, ⟨a, b, cc, d, rfl⟩, hC2, hO2⟩
    have S2 := Lib.hid (S1.out.cret hC2 hO2)
    clear hC2 hO2
    go_wp2_with fail
    refine (d_pick _ 5 _ _ _ (fun _ => True) g A n c _ (S2.out.push _ _).cur (S2.out.push _ _).head (Nat.ne_of_gt S2.out.cur.lt) (by omega) (by omega) (by intro j hj; (rcases j with _ | j; exact ⟨_, rfl, trivial⟩); (rcases j with _ | j; exact ⟨_, rfl, trivial⟩); (rcases j with _ | j; exact ⟨_, rfl, trivial⟩); (rcases j with _ | j; exact ⟨_, rfl, trivial⟩); (rcases j with _ | j; exact ⟨_, rfl, trivial⟩); omega)).mono ?_
    rintro e w3 ⟨v, rfl, ⟨x3, rfl, l3⟩, hC3, hO3⟩
    have S3 := Lib.hid ((S2.out.push _ _).cret hC3 hO3).tail
    clear hC3 hO3
    obtain ⟨x, y, z, t, m, ok, hS⟩ := newD_s a b cc d x3
    have HS := Lib.hid hS
    clear hS
    go_wp2_with fail
    refine (HS.out _).mono ?_
    rintro e w4 ⟨rfl, hb4⟩
    have S4 := Lib.hid (S3.out.call hb4)
    clear hb4
    obtain ⟨k0, k1, k2, k3, k4, f0, f1, f2, f3, f4⟩ := S4.out.head.five
    have qr1 := S4.out.head.lt
    have qr2 := Nat.ne_of_lt qr1
    have qr3 := Nat.ne_of_gt qr1
    have qr4 := Nat.le_of_lt qr1
    have hz := S4.out.size
    go_wp2
    refine bodyPost_ret (v := .agg #[.int .i64 x, .int .i64 y, .int .i64 z, .int .i64 t, .int .i64 m]) (by simp [results, Tryd.results52, go_sem, *]) rfl ?_
    exact ⟨_, rfl, ⟨_, _, _, _, _, rfl⟩, fin_alloc (setfin5 S4.out (Nat.le_refl _)) _⟩
  · go_wp2_with fail
    refine (d_zw g A n c _ S1.out.cur).mono ?_
    rintro e w2 ⟨v, rfl, ⟨a, b, cc, d, rfl⟩, hC2, hO2⟩
    have S2 := Lib.hid (S1.out.cret hC2 hO2)
    clear hC2 hO2
    go_wp2_with fail
    refine (d_pick _ 6 _ _ _ (fun _ => True) g A n c _ (S2.out.push _ _).cur (S2.out.push _ _).head (Nat.ne_of_gt S2.out.cur.lt) (by omega) (by omega) (by intro j hj; (rcases j with _ | j; exact ⟨_, rfl, trivial⟩); (rcases j with _ | j; exact ⟨_, rfl, trivial⟩); (rcases j with _ | j; exact ⟨_, rfl, trivial⟩); (rcases j with _ | j; exact ⟨_, rfl, trivial⟩); (rcases j with _ | j; exact ⟨_, rfl, trivial⟩); (rcases j with _ | j; exact ⟨_, rfl, trivial⟩); omega)).mono ?_
    rintro e w3 ⟨v, rfl, ⟨x3, rfl, l3⟩, hC3, hO3⟩
    have S3 := Lib.hid ((S2.out.push _ _).cret hC3 hO3).tail
    clear hC3 hO3
    obtain ⟨k0, k1, k2, k3, k4, f0, f1, f2, f3, f4⟩ := S3.out.head.five
    have qr1 := S3.out.head.lt
    have qr2 := Nat.ne_of_lt qr1
    have qr3 := Nat.ne_of_gt qr1
    have qr4 := Nat.le_of_lt qr1
    have hz := S3.out.size
    go_wp2
    refine bodyPost_ret (v := .agg #[.int .i64 a, .int .i64 b, .int .i64 cc, .int .i64 d, .int .i64 x3]) (by simp [results, Tryd.results52, go_sem, *]) rfl ?_
    exact ⟨_, rfl, ⟨_, _, _, _, _, rfl⟩, setfin5 S3.out (Nat.le_refl _)⟩
  · have e0 : (x1 == 0) = false := by rw [beq_eq_false_iff_ne]; omega
    have e1 : (x1 == 1) = false := by rw [beq_eq_false_iff_ne]; omega
    go_wp2_with fail
    refine (d_dw g A n c _ S1.out.cur).mono ?_
    rintro e w2 ⟨v, rfl, ⟨a, b, cc, d, k, rfl⟩, hC2, hO2⟩
    have S2 := Lib.hid (S1.out.cret hC2 hO2)
    clear hC2 hO2
    obtain ⟨k0, k1, k2, k3, k4, f0, f1, f2, f3, f4⟩ := S2.out.head.five
    have qr1 := S2.out.head.lt
    have qr2 := Nat.ne_of_lt qr1
    have qr3 := Nat.ne_of_gt qr1
    have qr4 := Nat.le_of_lt qr1
    have hz := S2.out.size
    go_wp2
    refine bodyPost_ret (v := .agg #[.int .i64 a, .int .i64 b, .int .i64 cc, .int .i64 d, .int .i64 k]) (by simp [results, Tryd.results52, go_sem, *]) rfl ?_
    exact ⟨_, rfl, ⟨_, _, _, _, _, rfl⟩, setfin5 S2.out (Nat.le_refl _)⟩
def RetD1 (w : World) (e : Ending) (w' : World) : Prop := ∃ a b c d k : Int, e = .returned (.agg #[.int .i64 a, .int .i64 b, .int .i64 c, .int .i64 d, .int .i64 k]) ∧ Below w.heap.size w w'
set_option maxHeartbeats 400000 in
theorem d_DrawFD (A : Option Addr) (n c : Nat) (w : World) (hR : RB w w.heap.size A n) (hn : n ≤ 9223372036854775807) : Calls Tryd.prog 34 #[.slice A n c] w (RetD1 w) := by
  have HR := Lib.hid hR
  clear hR
  go_enter Tryd.func34, Tryd.ntmps34
  go_wp2_with fail
  have T0 : Own w (w.alloc (.cells #[.int .i64 0, .int .i64 0, .int .i64 0, .int .i64 0, .int .i64 0] 36)) [(w.heap.size, 36, #[.int .i64 0, .int .i64 0, .int .i64 0, .int .i64 0, .int .i64 0])] := by simpa using ((Own.start w).push 36 #[.int .i64 0, .int .i64 0, .int .i64 0, .int .i64 0, .int .i64 0])
  refine (d_newE A n c w _ _ HR.out hn T0).mono ?_
  rintro e w1 ⟨g, rfl, s1⟩
  have S1 := Lib.hid s1
  clear s1 T0
  go_wp2_with fail
  refine (d_bent g A n c _ S1.out.cur).mono ?_
  rintro e w2 ⟨v, rfl, ⟨a, b, cc, d, k, rfl⟩, hC2, hO2⟩
  have S2 := Lib.hid (S1.out.cret hC2 hO2)
  clear hC2 hO2
  obtain ⟨k00, k01, k02, k03, k04, f00, f01, f02, f03, f04⟩ := S2.out.own.head.five
  have qr01 := S2.out.own.head.lt
  have qr02 := Nat.ne_of_lt qr01
  have qr03 := Nat.ne_of_gt qr01
  have qr04 := Nat.le_of_lt qr01
  have hbe := S2.out.below
  go_wp2
  refine bodyPost_ret (v := .agg #[.int .i64 a, .int .i64 b, .int .i64 cc, .int .i64 d, .int .i64 k]) (by simp [results, Tryd.results34, go_sem, *]) rfl ⟨a, b, cc, d, k, rfl, ?_⟩
  repeat (first | (with_reducible exact Below.refl _ _) | (with_reducible assumption) | (with_reducible refine bl_alloc ?_ _) | (with_reducible refine bl_drew ?_) | (with_reducible refine bl_set ?_ (by simp <;> omega) _) | (with_reducible refine bl_call ?_ (by assumption)))
theorem fmtD_len (a b c d k : Int) : (fmtD a b c d k).length ≤ 120 := by
  unfold fmtD
  split
  · rename_i h
    obtain ⟨p, q, r, s, t⟩ := okd_bounds h
    have z1 := Lib.itoa_length_le a (by omega) (by omega)
    have z2 := Lib.itoa_length_le b (by omega) (by omega)
    have z3 := Lib.itoa_length_le c (by omega) (by omega)
    have z4 := Lib.itoa_length_le d (by omega) (by omega)
    have z5 := Lib.itoa_length_le k (by omega) (by omega)
    unfold dtext
    simp
    omega
  · simp
set_option maxHeartbeats 1000000 in
theorem d_turned (l : List UInt8) (b : Nat) (t : TypeId) (cs : Array Value) (g : Nat) (A : Option Addr) (n c : Nat) (w : World) (hl : l.length ≤ 120) (hC : Cur w g A n c) (hB : Blk w b t cs) (hne : b ≠ g) (hp : ∀ j, j < 6 → ∃ x : ByteArray, cs[j]? = some (.string x) ∧ x.size ≤ 10) :
    Calls Tryd.prog 53 #[.pointer (some ⟨g, 0, none⟩), .string (str l), .slice (some ⟨b, 0, none⟩) 6 6] w (CRet g A n c w (isT 300)) := by
  have hz : (str l).size ≤ 120 := by rw [str_size]; exact hl
  have HC := Lib.hid hC
  have HB := Lib.hid hB
  have HP := Lib.hid hp
  have HNE := Lib.hid hne
  clear hC hB hp hne
  obtain ⟨S, hS⟩ : ∃ S, str l = S := ⟨_, rfl⟩
  rw [hS] at hz ⊢
  clear hS
  go_enter Tryd.func53, Tryd.ntmps53
  go_wp2_with fail
  refine (d_below ((S.size : Int) + 1) g A n c _ HC.out (by omega)).mono ?_
  rintro e w1 ⟨v, rfl, ⟨x, rfl, x0, x1⟩, hC1, hO1⟩
  obtain ⟨j, rfl⟩ := Int.eq_ofNat_of_zero_le x0
  have hj : j ≤ S.size := by omega
  have H1 := Lib.hid hC1
  have B1 := Lib.hid (hO1.blk HB.out HNE.out)
  have O1 := Lib.hid hO1
  clear hC1 hO1
  go_wp2_with fail
  refine (d_below 6 g A n c _ H1.out (by omega)).mono ?_
  rintro e w2 ⟨v, rfl, ⟨y, rfl, y0, y1⟩, hC2, hO2⟩
  have H2 := Lib.hid hC2
  have B2 := Lib.hid (hO2.blk B1.out HNE.out)
  have O2 := Lib.hid (O1.out.trans hO2)
  clear hC2 hO2
  obtain ⟨X, hX⟩ : ∃ X, S.extract 0 j = X := ⟨_, rfl⟩
  obtain ⟨Y, hY⟩ : ∃ Y, S.extract j S.size = Y := ⟨_, rfl⟩
  have zX : X.size ≤ 120 := by rw [← hX, ByteArray.size_extract]; omega
  have zY : Y.size ≤ 120 := by rw [← hY, ByteArray.size_extract]; omega
  have i0 : (0 : Int) ≤ (j : Int) := by omega
  have i1 : (j : Int) ≤ (S.size : Int) := by omega
  rcases (by omega : y = 0 ∨ y = 1 ∨ 2 ≤ y) with rfl | rfl | h2
  · go_upto_region 4 with fail
    go_region_held3 (fun _ => True) (first | trivial) (first | (go_at_call 44; (first | refine (d_pickT b 6 6 10 t cs g A n c _ H2.out B2.out HNE.out (by omega) (by omega) HP.out).mono ?_ | refine (d_pickT b 6 6 10 t cs g A n c _ H2.out.drew B2.out.drew HNE.out (by omega) (by omega) HP.out).mono ?_); rintro e w3 ⟨v, rfl, ⟨p, rfl, hp3⟩, hC3, hO3⟩; have zp : (str p).size ≤ 10 := (by rw [str_size]; exact hp3); have n1 : X.size + (str p).size ≤ 9223372036854775807 := (by omega); have n2 : X.size + (str p).size + Y.size ≤ 9223372036854775807 := (by omega); have n3 : ¬ 9223372036854775807 < X.size + (str p).size := (by omega); have n4 : ¬ 9223372036854775807 < X.size + (str p).size + Y.size := (by omega); have n5 : X.size + ((str p).size + Y.size) ≤ 9223372036854775807 := (by omega); have n6 : ¬ 9223372036854775807 < X.size + ((str p).size + Y.size) := (by omega); have HC3 := Lib.hid hC3; have HO3 := Lib.hid hO3; clear hC3 hO3))
    all_goals
      go_wp2
      go_ret
      refine ⟨_, rfl, ⟨(X ++ str p ++ Y).data.toList, by rw [str_of]; rfl, ?_⟩, HC3.out, ?_⟩
      · have : (X ++ str p ++ Y).data.toList.length = X.size + ((str p).size + Y.size) := by simp
        rw [this]
        omega
      · first | exact O2.out.trans HO3.out | exact O2.out.drew.trans HO3.out
  · go_wp2
    go_ret
    refine ⟨_, rfl, ⟨X.data.toList, by rw [str_of]; rfl, ?_⟩, H2.out, O2.out⟩
    have : X.data.toList.length = X.size := by simp
    omega
  · have e0 : (y == 0) = false := by rw [beq_eq_false_iff_ne]; omega
    have e1 : (y == 1) = false := by rw [beq_eq_false_iff_ne]; omega
    clear hX hY
    go_wp2
    go_ret
    refine ⟨_, rfl, ⟨S.data.toList, by rw [str_of]; rfl, ?_⟩, H2.out, O2.out⟩
    have : S.data.toList.length = S.size := by simp
    omega
set_option maxHeartbeats 1000000 in
theorem d_DrawPDt (A : Option Addr) (n c : Nat) (w : World) (hR : RB w w.heap.size A n) (hn : n ≤ 9223372036854775807) : Calls Tryd.prog 35 #[.slice A n c] w (RetTx w 300) := by
  have HR := Lib.hid hR
  clear hR
  go_enter Tryd.func35, Tryd.ntmps35
  go_wp2_with fail
  refine (d_newE A n c w _ _ HR.out hn (Own.start w)).mono ?_
  rintro e w1 ⟨g, rfl, s1⟩
  have S1 := Lib.hid s1
  clear s1
  go_wp2_with fail
  refine (d_bent g A n c _ S1.out.cur).mono ?_
  rintro e w2 ⟨v, rfl, ⟨a, b, cc, d, k, rfl⟩, hC2, hO2⟩
  have S2 := Lib.hid (S1.out.cret hC2 hO2)
  clear hC2 hO2
  go_wp2_with fail
  refine (s_FD _).mono ?_
  rintro e w3 ⟨rfl, hb3⟩
  have S3 := Lib.hid (S2.out.call hb3)
  clear hb3
  go_wp2_with fail
  refine (d_turned (fmtD a b cc d k) _ _ _ g A n c _ (fmtD_len _ _ _ _ _) (S3.out.push _ _).cur (S3.out.push _ _).own.head (Nat.ne_of_gt S3.out.cur.lt) (by intro j hj; (rcases j with _ | j; exact ⟨_, rfl, by decide⟩); (rcases j with _ | j; exact ⟨_, rfl, by decide⟩); (rcases j with _ | j; exact ⟨_, rfl, by decide⟩); (rcases j with _ | j; exact ⟨_, rfl, by decide⟩); (rcases j with _ | j; exact ⟨_, rfl, by decide⟩); (rcases j with _ | j; exact ⟨_, rfl, by decide⟩); omega)).mono ?_
  rintro e w4 ⟨v, rfl, ⟨l, rfl, hl⟩, hC4, hO4⟩
  have S4 := Lib.hid ((S3.out.push _ _).cret hC4 hO4)
  clear hC4 hO4
  go_wp2
  go_ret
  exact ⟨l, rfl, hl, S4.out.below⟩
end Go.Proofs.YtbjmfapoioebjaaDoor
