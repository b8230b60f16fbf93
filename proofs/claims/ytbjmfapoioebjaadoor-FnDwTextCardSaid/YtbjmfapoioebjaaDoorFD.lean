/- Contracts: the text of an element. -/
import Derived.Test.YtbjmfapoioebjaaDoorD
import Derived.Test.YtbjmfapoioebjaaDoorOwn
import Derived.Test.YtbjmfapoioebjaaDoorJn
import Derived.Lib.ItoaLen
import Derived.Lib.QuietBelow
import Derived.BigQuiet
namespace Go.Proofs.YtbjmfapoioebjaaDoor
open Go.RowKit
set_option linter.unusedVariables false
set_option maxRecDepth 20000

def dtext (a b c d k : Int) : List UInt8 := Lib.itoa a ++ [44] ++ Lib.itoa b ++ [44] ++ Lib.itoa c ++ [44] ++ Lib.itoa d ++ [47] ++ Lib.itoa k
def fmtD (a b c d k : Int) : List UInt8 := if okd ⟨⟨a, b, c, d⟩, k⟩ = true then dtext a b c d k else []
theorem okd_bounds {a b c d k : Int} (h : okd ⟨⟨a, b, c, d⟩, k⟩ = true) : (-1073741824 ≤ a ∧ a ≤ 1073741824) ∧ (-1073741824 ≤ b ∧ b ≤ 1073741824) ∧ (-1073741824 ≤ c ∧ c ≤ 1073741824) ∧ (-1073741824 ≤ d ∧ d ≤ 1073741824) ∧ (0 ≤ k ∧ k ≤ 60) := by
  unfold okd at h
  rw [Bool.and_eq_true, Bool.and_eq_true] at h
  obtain ⟨⟨h1, h2⟩, _⟩ := h
  obtain ⟨p, q, r, s⟩ := okz_b h1
  refine ⟨p, q, r, s, ?_⟩
  simpa [rng] using h2
theorem itoa_size (n : Int) (h0 : -9223372036854775808 ≤ n) (h1 : n ≤ 9223372036854775807) : (str (Lib.itoa n)).size ≤ 21 := by
  rw [str_size]
  exact Lib.itoa_length_le n h0 h1
theorem add_size (a b : ByteArray) : (a ++ b).size = a.size + b.size := ByteArray.size_append
theorem fmt_text (a b c d k : Int) : str (Lib.itoa a) ++ ⟨#[44]⟩ ++ str (Lib.itoa b) ++ ⟨#[44]⟩ ++ str (Lib.itoa c) ++ ⟨#[44]⟩ ++ str (Lib.itoa d) ++ ⟨#[47]⟩ ++ str (Lib.itoa k) = str (dtext a b c d k) := by
  have e4 : (⟨#[44]⟩ : ByteArray) = str [44] := rfl
  have e7 : (⟨#[47]⟩ : ByteArray) = str [47] := rfl
  unfold dtext
  rw [e4, e7]
  simp only [str_append]
set_option maxHeartbeats 1000000 in
theorem i_FD_t {a b c d k : Int} (w : World) (hI : EnvI w) (h : okd ⟨⟨a, b, c, d⟩, k⟩ = true) : Calls Tryd.prog 21 #[.agg #[.int .i64 a, .int .i64 b, .int .i64 c, .int .i64 d, .int .i64 k]] w (Ret (.string (str (dtext a b c d k))) w) := by
  obtain ⟨⟨a0, a1⟩, ⟨b0, b1⟩, ⟨c0', c1'⟩, ⟨d0, d1⟩, ⟨k0', k1'⟩⟩ := okd_bounds h
  have za := itoa_size a (by omega) (by omega)
  have zb := itoa_size b (by omega) (by omega)
  have zc := itoa_size c (by omega) (by omega)
  have zd := itoa_size d (by omega) (by omega)
  have zk := itoa_size k (by omega) (by omega)
  have HE := Lib.hid hI
  clear hI
  go_enter Tryd.func21, Tryd.ntmps21
  go_wp2_with fail
  refine (i_okd_t _ h).mono ?_
  rintro e w1 ⟨rfl, hb1⟩
  have T : Own w w1 [(w.heap.size, 36, #[.int .i64 a, .int .i64 b, .int .i64 c, .int .i64 d, .int .i64 k])] := by simpa using ((Own.start w).push 36 #[.int .i64 a, .int .i64 b, .int .i64 c, .int .i64 d, .int .i64 k]).call hb1
  clear hb1
  have HT := Lib.hid T
  have EI := Lib.hid (HE.out.call T.below)
  obtain ⟨c0, c1, c2, c3, c4, -, -, -, -, -⟩ := T.head.five
  have l0 := T.head.lt
  clear T
  have hC : ∀ (n : Int) (d : Nat) (os : Array Obj), -9223372036854775808 ≤ n → n ≤ 9223372036854775807 → Calls Tryd.prog 13 #[.int .i64 n] (Sort.grow (redrawn w1 d) os) fun e w'' => e = .returned (.string (str (Lib.itoa n))) ∧ ∃ p : Regrown, w'' = Sort.grow (redrawn w1 p.d) p.os :=
    fun n d os h0 h1 => Calls.regrown_of (i_Fmt n _ h0 h1 (EI.out.call (below_regrown w1 d os)))
  have HFT := Lib.hid (fmt_text a b c d k)
  obtain ⟨SA, eA⟩ : ∃ S, str (Lib.itoa a) = S := ⟨_, rfl⟩
  obtain ⟨SB, eB⟩ : ∃ S, str (Lib.itoa b) = S := ⟨_, rfl⟩
  obtain ⟨SC, eC⟩ : ∃ S, str (Lib.itoa c) = S := ⟨_, rfl⟩
  obtain ⟨SD, eD⟩ : ∃ S, str (Lib.itoa d) = S := ⟨_, rfl⟩
  obtain ⟨SK, eK⟩ : ∃ S, str (Lib.itoa k) = S := ⟨_, rfl⟩
  have cA := fun dd os => hC a dd os (by omega) (by omega)
  have cB := fun dd os => hC b dd os (by omega) (by omega)
  have cC := fun dd os => hC c dd os (by omega) (by omega)
  have cD := fun dd os => hC d dd os (by omega) (by omega)
  have cK := fun dd os => hC k dd os (by omega) (by omega)
  rw [eA] at za cA HFT
  rw [eB] at zb cB HFT
  rw [eC] at zc cC HFT
  rw [eD] at zd cD HFT
  rw [eK] at zk cK HFT
  clear hC eA eB eC eD eK
  have HA := Lib.hid cA
  have HB := Lib.hid cB
  have HC := Lib.hid cC
  have HD := Lib.hid cD
  have HK := Lib.hid cK
  clear cA cB cC cD cK
  have k0 := cell_regrown c0
  have k1 := cell_regrown c1
  have k2 := cell_regrown c2
  have k3 := cell_regrown c3
  have k4 := cell_regrown c4
  have n1 : ¬ 9223372036854775807 < SA.size + 1 := by omega
  have n2 : ¬ 9223372036854775807 < SA.size + 1 + SB.size := by omega
  have n3 : ¬ 9223372036854775807 < SA.size + 1 + SB.size + 1 := by omega
  have n4 : ¬ 9223372036854775807 < SA.size + 1 + SB.size + 1 + SC.size := by omega
  have n5 : ¬ 9223372036854775807 < SA.size + 1 + SB.size + 1 + SC.size + 1 := by omega
  have n6 : ¬ 9223372036854775807 < SA.size + 1 + SB.size + 1 + SC.size + 1 + SD.size := by omega
  have n7 : ¬ 9223372036854775807 < SA.size + 1 + SB.size + 1 + SC.size + 1 + SD.size + 1 := by omega
  have n8 : ¬ 9223372036854775807 < SA.size + 1 + SB.size + 1 + SC.size + 1 + SD.size + 1 + SK.size := by omega
  go_upto_region 3 with fail
  refine wp_region_quiet_below (by kernel_rfl) (by kernel_rfl) ?_
  repeat (quiet_step (first | exact HA.out _ _ | exact HB.out _ _ | exact HC.out _ _ | exact HD.out _ _ | exact HK.out _ _))
  refine wpQuiet_nil ?_
  intro _ hw'
  obtain ⟨⟨dq, osq⟩, hw''⟩ := hw'
  subst hw''
  go_wp2
  go_ret
  refine ret_eq ?_ (bl_call HT.out.below (below_regrown w1 dq osq))
  rw [← HFT.out]
  rfl
theorem i_FD_f {a b c d k : Int} (w : World) (h : okd ⟨⟨a, b, c, d⟩, k⟩ = false) : Calls Tryd.prog 21 #[.agg #[.int .i64 a, .int .i64 b, .int .i64 c, .int .i64 d, .int .i64 k]] w (Ret (.string (str [])) w) := by
  go_enter Tryd.func21, Tryd.ntmps21
  go_wp2_with fail
  refine (i_okd_f _ h).mono ?_
  rintro e w1 ⟨rfl, hb1⟩
  go_wp2
  go_ret
  refine ret_eq rfl ?_
  repeat (first | (with_reducible exact Below.refl _ _) | (with_reducible assumption) | (with_reducible refine bl_alloc ?_ _) | (with_reducible refine bl_drew ?_) | (with_reducible refine bl_set ?_ (by simp <;> omega) _) | (with_reducible refine bl_call ?_ (by assumption)))
theorem RX.four (W : World) (l1 l2 l3 l4 : List UInt8) : RX (W.alloc (.cells #[.string (str l1), .string (str l2), .string (str l3), .string (str l4)] 9)) (W.alloc (.cells #[.string (str l1), .string (str l2), .string (str l3), .string (str l4)] 9)).heap.size (some ⟨W.heap.size, 0, none⟩) 4 [l1, l2, l3, l4] :=
  ⟨rfl, fun i l hl => ⟨W.heap.size, 0, rfl, by simp, by
    match i, hl with
    | 0, hl => simp at hl; subst hl; simp
    | 1, hl => simp at hl; subst hl; simp
    | 2, hl => simp at hl; subst hl; simp
    | 3, hl => simp at hl; subst hl; simp
    | i + 4, hl => simp at hl⟩⟩
theorem join_four (a b c d k : Int) : str (Lib.join [Lib.itoa a, Lib.itoa b, Lib.itoa c, Lib.itoa d] [44]) ++ ⟨#[47]⟩ ++ str (Lib.itoa k) = str (dtext a b c d k) := by
  have e7 : (⟨#[47]⟩ : ByteArray) = str [47] := rfl
  rw [e7, str_append, str_append, Lib.join_cons]
  unfold dtext
  simp [Lib.joinTail]
theorem join_four_size {a b c d : Int} (h : okd ⟨⟨a, b, c, d⟩, 0⟩ = true ∨ ((-1073741824 ≤ a ∧ a ≤ 1073741824) ∧ (-1073741824 ≤ b ∧ b ≤ 1073741824) ∧ (-1073741824 ≤ c ∧ c ≤ 1073741824) ∧ (-1073741824 ≤ d ∧ d ≤ 1073741824))) : (Lib.join [Lib.itoa a, Lib.itoa b, Lib.itoa c, Lib.itoa d] [44]).length ≤ 100 := by
  have hb : ((-1073741824 ≤ a ∧ a ≤ 1073741824) ∧ (-1073741824 ≤ b ∧ b ≤ 1073741824) ∧ (-1073741824 ≤ c ∧ c ≤ 1073741824) ∧ (-1073741824 ≤ d ∧ d ≤ 1073741824)) := by
    rcases h with h | h
    · obtain ⟨p, q, r, s, _⟩ := okd_bounds h
      exact ⟨p, q, r, s⟩
    · exact h
  obtain ⟨p, q, r, s⟩ := hb
  have z1 := Lib.itoa_length_le a (by omega) (by omega)
  have z2 := Lib.itoa_length_le b (by omega) (by omega)
  have z3 := Lib.itoa_length_le c (by omega) (by omega)
  have z4 := Lib.itoa_length_le d (by omega) (by omega)
  rw [Lib.join_cons]
  simp [Lib.joinTail]
  omega
set_option maxHeartbeats 2000000 in
theorem s_FD_t {a b c d k : Int} (w : World) (h : okd ⟨⟨a, b, c, d⟩, k⟩ = true) : Calls Tryd.prog 19 #[.agg #[.int .i64 a, .int .i64 b, .int .i64 c, .int .i64 d, .int .i64 k]] w (Ret (.string (str (dtext a b c d k))) w) := by
  obtain ⟨⟨a0, a1⟩, ⟨b0, b1⟩, ⟨c0', c1'⟩, ⟨d0, d1⟩, ⟨k0', k1'⟩⟩ := okd_bounds h
  have zj := join_four_size (.inr ⟨⟨a0, a1⟩, ⟨b0, b1⟩, ⟨c0', c1'⟩, ⟨d0, d1⟩⟩)
  have zk := itoa_size k (by omega) (by omega)
  have hJ : ∀ W : World, Calls Tryd.prog 40 #[.slice (some ⟨W.heap.size, 0, none⟩) 4 4, .string ⟨#[44]⟩] (W.alloc (.cells #[.string (str (Lib.itoa a)), .string (str (Lib.itoa b)), .string (str (Lib.itoa c)), .string (str (Lib.itoa d))] 9)) (Ret (.string (str (Lib.join [Lib.itoa a, Lib.itoa b, Lib.itoa c, Lib.itoa d] [44]))) (W.alloc (.cells #[.string (str (Lib.itoa a)), .string (str (Lib.itoa b)), .string (str (Lib.itoa c)), .string (str (Lib.itoa d))] 9))) :=
    fun W => s_Join _ 4 4 _ [44] _ (RX.four W _ _ _ _) (by omega) (by omega)
  have hC : ∀ (n : Int) W, -9223372036854775808 ≤ n → n ≤ 9223372036854775807 → Calls Tryd.prog 12 #[.int .i64 n] W (Ret (.string (str (Lib.itoa n))) W) := fun n W h0 h1 => s_Fmt n W h0 h1
  have HFT := Lib.hid (join_four a b c d k)
  have zj' : (str (Lib.join [Lib.itoa a, Lib.itoa b, Lib.itoa c, Lib.itoa d] [44])).size ≤ 100 := by rw [str_size]; exact zj
  have cA := fun W => hC a W (by omega) (by omega)
  have cB := fun W => hC b W (by omega) (by omega)
  have cC := fun W => hC c W (by omega) (by omega)
  have cD := fun W => hC d W (by omega) (by omega)
  have cK := fun W => hC k W (by omega) (by omega)
  obtain ⟨SJ, eJ⟩ : ∃ S, str (Lib.join [Lib.itoa a, Lib.itoa b, Lib.itoa c, Lib.itoa d] [44]) = S := ⟨_, rfl⟩
  rw [eJ] at zj' HFT hJ
  obtain ⟨SA, eA⟩ : ∃ S, str (Lib.itoa a) = S := ⟨_, rfl⟩
  obtain ⟨SB, eB⟩ : ∃ S, str (Lib.itoa b) = S := ⟨_, rfl⟩
  obtain ⟨SC, eC⟩ : ∃ S, str (Lib.itoa c) = S := ⟨_, rfl⟩
  obtain ⟨SD, eD⟩ : ∃ S, str (Lib.itoa d) = S := ⟨_, rfl⟩
  obtain ⟨SK, eK⟩ : ∃ S, str (Lib.itoa k) = S := ⟨_, rfl⟩
  rw [eA, eB, eC, eD] at hJ
  rw [eA] at cA
  rw [eB] at cB
  rw [eC] at cC
  rw [eD] at cD
  rw [eK] at cK zk HFT
  have HA := Lib.hid cA
  have HB := Lib.hid cB
  have HC := Lib.hid cC
  have HD := Lib.hid cD
  have HK := Lib.hid cK
  have HJ := Lib.hid hJ
  clear hC cA cB cC cD cK hJ eA eB eC eD eK eJ zj
  have n1 : ¬ 9223372036854775807 < SJ.size + 1 := by omega
  have n2 : ¬ 9223372036854775807 < SJ.size + 1 + SK.size := by omega
  have m1 : SJ.size + 1 ≤ 9223372036854775807 := by omega
  have m2 : SJ.size + 1 + SK.size ≤ 9223372036854775807 := by omega
  go_enter Tryd.func19, Tryd.ntmps19
  go_wp2_with fail
  refine (s_okd_t _ h).mono ?_
  rintro e w1 ⟨rfl, hb1⟩
  have T : Own w w1 [(w.heap.size, 36, #[.int .i64 a, .int .i64 b, .int .i64 c, .int .i64 d, .int .i64 k])] := by simpa using ((Own.start w).push 36 #[.int .i64 a, .int .i64 b, .int .i64 c, .int .i64 d, .int .i64 k]).call hb1
  clear hb1
  obtain ⟨c0, c1, c2, c3, c4, -, -, -, -, -⟩ := T.head.five
  have l0 := T.head.lt
  have x0 := Nat.ne_of_lt l0
  go_upto_region 3 with fail
  go_region_held3 (fun w' => w'.cell? ⟨w.heap.size, 0, none⟩ = some (.int .i64 a) ∧ w'.cell? ⟨w.heap.size, 1, none⟩ = some (.int .i64 b) ∧ w'.cell? ⟨w.heap.size, 2, none⟩ = some (.int .i64 c) ∧ w'.cell? ⟨w.heap.size, 3, none⟩ = some (.int .i64 d) ∧ w'.cell? ⟨w.heap.size, 4, none⟩ = some (.int .i64 k)) (first | (with_reducible exact ⟨c0, c1, c2, c3, c4⟩) | go_keep) (first | (go_at_call 12; (first | (with_reducible refine (HA.out _).mono ?_) | (with_reducible refine (HB.out _).mono ?_) | (with_reducible refine (HC.out _).mono ?_) | (with_reducible refine (HD.out _).mono ?_) | (with_reducible refine (HK.out _).mono ?_)); rintro e w9 ⟨rfl, hb⟩; (first | (have T := T.call hb) | (have T := T.drew.call hb)); obtain ⟨c0, c1, c2, c3, c4, -, -, -, -, -⟩ := T.head.five; have l0 := T.head.lt; have x0 := Nat.ne_of_lt l0) | (go_at_call 40; refine (HJ.out _).mono ?_; rintro e w9 ⟨rfl, hb⟩; have T := (T.alloc _).call hb; obtain ⟨c0, c1, c2, c3, c4, -, -, -, -, -⟩ := T.head.five; have l0 := T.head.lt; have x0 := Nat.ne_of_lt l0))
  all_goals
    have hw := T.below
    go_wp2
    go_ret
    refine ret_eq ?_ hw
    rw [← HFT.out]
    rfl
theorem s_FD_f {a b c d k : Int} (w : World) (h : okd ⟨⟨a, b, c, d⟩, k⟩ = false) : Calls Tryd.prog 19 #[.agg #[.int .i64 a, .int .i64 b, .int .i64 c, .int .i64 d, .int .i64 k]] w (Ret (.string (str [])) w) := by
  go_enter Tryd.func19, Tryd.ntmps19
  go_wp2_with fail
  refine (s_okd_f _ h).mono ?_
  rintro e w1 ⟨rfl, hb1⟩
  go_wp2
  go_ret
  refine ret_eq rfl ?_
  repeat (first | (with_reducible exact Below.refl _ _) | (with_reducible assumption) | (with_reducible refine bl_alloc ?_ _) | (with_reducible refine bl_drew ?_) | (with_reducible refine bl_set ?_ (by simp <;> omega) _) | (with_reducible refine bl_call ?_ (by assumption)))
theorem i_FD {a b c d k : Int} (w : World) (hI : EnvI w) : Calls Tryd.prog 21 #[.agg #[.int .i64 a, .int .i64 b, .int .i64 c, .int .i64 d, .int .i64 k]] w (Ret (.string (str (fmtD a b c d k))) w) := by
  unfold fmtD
  cases h : okd ⟨⟨a, b, c, d⟩, k⟩
  · exact i_FD_f w h
  · exact i_FD_t w hI h
theorem s_FD {a b c d k : Int} (w : World) : Calls Tryd.prog 19 #[.agg #[.int .i64 a, .int .i64 b, .int .i64 c, .int .i64 d, .int .i64 k]] w (Ret (.string (str (fmtD a b c d k))) w) := by
  unfold fmtD
  cases h : okd ⟨⟨a, b, c, d⟩, k⟩
  · exact s_FD_f w h
  · exact s_FD_t w h
end Go.Proofs.YtbjmfapoioebjaaDoor
