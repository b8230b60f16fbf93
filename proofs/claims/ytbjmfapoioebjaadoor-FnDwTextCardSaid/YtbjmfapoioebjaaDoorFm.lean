/- Contracts: numerals. -/
import Derived.Test.YtbjmfapoioebjaaDoorEn
import Derived.Test.YtbjmfapoioebjaaDoorPs
import Derived.Test.YtbjmfapoioebjaaDoorPsp
import Derived.Test.YtbjmfapoioebjaaDoorShI
import Derived.Laws.IdiomStrings
import Derived.Lib.AppendIntMem
import Derived.Outline
import Derived.Deep.DeepCutAuto
namespace Go.Proofs.YtbjmfapoioebjaaDoor
open Go.RowKit
set_option linter.unusedVariables false

theorem str_append (a b : List UInt8) : str a ++ str b = str (a ++ b) := by
  apply ByteArray.ext
  simp [str]
theorem one_byte (W : World) (c : Int) (h0 : 0 ≤ c) (h1 : c ≤ 255) :
    (convert 39 9 (.slice (some ⟨W.heap.size, 0, none⟩) 1 1)).run Tryd.prog (W.alloc (.cells #[.int .u8 c] 5)) = .ok (.string (str [UInt8.ofNat c.toNat])) (W.alloc (.cells #[.int .u8 c] 5)) := by
  refine run_convert_bytes_back (P := Tryd.prog) (W.alloc (.cells #[.int .u8 c] 5)) 39 9 5 ⟨W.heap.size, 0, none⟩ 1 [UInt8.ofNat c.toNat] Tryd.underlying39 Tryd.underlying5 Tryd.underlying9 ?_
  intro j hj
  have hj0 : j = 0 := by simpa using hj
  subst hj0
  have e : (UInt8.ofNat c.toNat).toNat = c.toNat := by rw [UInt8.toNat_ofNat']; omega
  show (W.alloc (.cells #[.int .u8 c] 5)).cell? ⟨W.heap.size, 0 + 0, none⟩ = _
  simp [e]
  omega
/-- The numeral's tail is written already. -/
def FmtRel (w : World) (u : Nat) (s : Int) (n o : Value) (wr : World) : Prop :=
  ∃ (m : Nat) (l : List UInt8), m ≤ u ∧ n = .int .i64 (s * (m : Int)) ∧ o = .string (str l) ∧ ddg m ++ l = ddg u ∧ Below w.heap.size w wr
theorem digit_step {m u : Nat} {l : List UInt8} (hm : m ≠ 0) (h : ddg m ++ l = ddg u) : ddg (m / 10) ++ (UInt8.ofNat (48 + m % 10) :: l) = ddg u := by
  rw [← h, ddg_step hm, List.append_assoc]
  rfl
theorem ddg_len {m u : Nat} {l : List UInt8} (hu : u ≤ 9223372036854775808) (h : ddg m ++ l = ddg u) : l.length ≤ 19 := by
  have h1 : (ddg u).length ≤ 19 := by
    unfold ddg
    split
    · simp
    · rw [Lib.decDigits_length]
      exact nDigits_le (by omega) (by omega)
  rw [← h, List.length_append] at h1
  omega
set_option maxRecDepth 20000 in
set_option maxHeartbeats 400000 in
theorem s_Fmt_pos (n : Nat) (w : World) (h0 : 0 < n) (h1 : n ≤ 9223372036854775807) : Calls Tryd.prog 12 #[.int .i64 ((n : Int))] w (Ret (.string (str ( ddg n))) w) := by
  have hz : ((n : Int) == 0) = false := by rw [beq_eq_false_iff_ne]; omega
  have hb0 : decide ((n : Int) < 0) = false := by simp
  go_enter Tryd.func12, Tryd.ntmps12
  go_wp2
  go_loopw [0, 4] (fun v o wr => FmtRel w n (1) v o wr) (fun v _ _ => (intOf v).natAbs)
  case atStart => exact ⟨n, [], Nat.le_refl _, by simp, rfl, by simp, Below.refl _ _⟩
  case round =>
    obtain ⟨m, l, hm, rfl, rfl, hd, hb⟩ := hrel
    have hl := ddg_len (by omega) hd
    have em : (1 : Int) * (m : Int) = (m : Int) := by omega
    rw [em]
    clear em
    have HD := Lib.hid hd
    clear hd
    have hls : (str l).size ≤ 19 := by rw [str_size]; exact hl
    by_cases hm0 : m = 0
    · subst hm0
      have hsz : (ByteArray.mk #[45]).size + (str l).size ≤ 9223372036854775807 := by show 1 + _ ≤ _; omega
      skip
      go_wp2
      go_ret
      have e : l = ddg n := by have := HD.out; simpa [ddg] using this
      exact ret_eq (by rw [← e]; rfl) hb
    · have q1 : ((m : Int) != 0) = true := by rw [bne_iff_ne]; omega
      have i0 : (0 : Int) ≤ (m : Int) := by omega
      have i1 : (m : Int) ≤ 9223372036854775807 := by omega
      have i2 : (0 : Int) ≤ (m : Int) % 10 := by omega
      have i3 : (m : Int) % 10 ≤ 9 := by omega
      have i4 : (0 : Int) ≤ 48 + (m : Int) % 10 := by omega
      have i5 : 48 + (m : Int) % 10 ≤ 255 := by omega
      have hk := one_byte wr (48 + (m : Int) % 10) i4 i5
      obtain ⟨S1, hS1⟩ : ∃ s, str [UInt8.ofNat (48 + (m : Int) % 10).toNat] = s := ⟨_, rfl⟩
      rw [hS1] at hk
      have hsz : S1.size + (str l).size ≤ 9223372036854775807 := by rw [← hS1, str_size]; simp; omega
      have HS1 := Lib.hid hS1
      clear hS1
      have q4 : decide ((m : Int) % 10 < 0) = false := by simp; omega
      all_goals
        go_wp2
        go_roundw
        case rel =>
          refine ⟨m / 10, UInt8.ofNat (48 + m % 10) :: l, by omega, ?_, ?_, digit_step hm0 HD.out, bl_alloc hb _⟩
          · congr 1
            omega
          · rw [← HS1.out, str_append]
            have e : (48 + (m : Int) % 10).toNat = 48 + m % 10 := by omega
            rw [e]
            rfl
        case measure => simp [intOf]; omega
set_option maxRecDepth 20000 in
set_option maxHeartbeats 400000 in
theorem s_Fmt_neg (n : Nat) (w : World) (h0 : 0 < n) (h1 : n ≤ 9223372036854775808) : Calls Tryd.prog 12 #[.int .i64 (-(n : Int))] w (Ret (.string (str (45 :: ddg n))) w) := by
  have hz : (-(n : Int) == 0) = false := by rw [beq_eq_false_iff_ne]; omega
  have hb0 : decide (-(n : Int) < 0) = true := by simp; omega
  go_enter Tryd.func12, Tryd.ntmps12
  go_wp2
  go_loopw [0, 4] (fun v o wr => FmtRel w n (-1) v o wr) (fun v _ _ => (intOf v).natAbs)
  case atStart => exact ⟨n, [], Nat.le_refl _, by simp, rfl, by simp, Below.refl _ _⟩
  case round =>
    obtain ⟨m, l, hm, rfl, rfl, hd, hb⟩ := hrel
    have hl := ddg_len (by omega) hd
    have em : (-1 : Int) * (m : Int) = -(m : Int) := by omega
    rw [em]
    clear em
    have HD := Lib.hid hd
    clear hd
    have hls : (str l).size ≤ 19 := by rw [str_size]; exact hl
    by_cases hm0 : m = 0
    · subst hm0
      have hsz : (ByteArray.mk #[45]).size + (str l).size ≤ 9223372036854775807 := by show 1 + _ ≤ _; omega
      skip
      go_wp2
      go_ret
      have e : l = ddg n := by have := HD.out; simpa [ddg] using this
      exact ret_eq (by rw [← e]; rfl) hb
    · have q1 : (-(m : Int) != 0) = true := by rw [bne_iff_ne]; omega
      have i0 : (0 : Int) ≤ (m : Int) := by omega
      have i1 : (m : Int) ≤ 9223372036854775808 := by omega
      have i2 : (0 : Int) ≤ (m : Int) % 10 := by omega
      have i3 : (m : Int) % 10 ≤ 9 := by omega
      have i4 : (0 : Int) ≤ 48 + (m : Int) % 10 := by omega
      have i5 : 48 + (m : Int) % 10 ≤ 255 := by omega
      have hk := one_byte wr (48 + (m : Int) % 10) i4 i5
      obtain ⟨S1, hS1⟩ : ∃ s, str [UInt8.ofNat (48 + (m : Int) % 10).toNat] = s := ⟨_, rfl⟩
      rw [hS1] at hk
      have hsz : S1.size + (str l).size ≤ 9223372036854775807 := by rw [← hS1, str_size]; simp; omega
      have HS1 := Lib.hid hS1
      clear hS1
      have q2 : (-(m : Int)).tmod 10 = -((m : Int) % 10) := by rw [Int.neg_tmod, Int.tmod_eq_emod_of_nonneg i0]
      have q3 : (-(m : Int)).tdiv 10 = -((m : Int) / 10) := by rw [Int.neg_tdiv, Int.tdiv_eq_ediv_of_nonneg i0]
      have hq4 : ∀ b, decide (0 < (m : Int) % 10) = b → decide (-((m : Int) % 10) < 0) = b := by intro b hb; rw [← hb]; congr 1; simp
      by_cases hq : 0 < (m : Int) % 10
      have q4 : decide (-((m : Int) % 10) < 0) = true := by simp; omega
      clear hq4
      rotate_left
      have r0 : (m : Int) % 10 = 0 := by omega
      have hk0 := one_byte wr 48 (by omega) (by omega)
      have e0 : str [UInt8.ofNat (48 : Int).toNat] = S1 := by rw [← HS1.out, r0]; rfl
      rw [e0] at hk0
      clear hk hq4 e0
      all_goals
        go_wp2
        go_roundw
        case rel =>
          refine ⟨m / 10, UInt8.ofNat (48 + m % 10) :: l, by omega, ?_, ?_, digit_step hm0 HD.out, bl_alloc hb _⟩
          · congr 1
            omega
          · rw [← HS1.out, str_append]
            have e : (48 + (m : Int) % 10).toNat = 48 + m % 10 := by omega
            rw [e]
            rfl
        case measure => simp [intOf]; omega
theorem s_Fmt (n : Int) (w : World) (h0 : -9223372036854775808 ≤ n) (h1 : n ≤ 9223372036854775807) : Calls Tryd.prog 12 #[.int .i64 n] w (Ret (.string (str (Lib.itoa n))) w) := by
  by_cases hz : n = 0
  · subst hz
    go_enter Tryd.func12, Tryd.ntmps12
    go_wp2
    go_ret
    refine ret_eq ?_ (Below.refl _ _)
    have e : Lib.itoa 0 = [48] := by show Lib.decDigits 0 = _; rw [Lib.decDigits_one (by omega)]; rfl
    rw [e]
    rfl
  by_cases hn : n < 0
  · obtain ⟨m, rfl⟩ : ∃ m : Nat, n = -(m : Int) := ⟨n.natAbs, by omega⟩
    have := s_Fmt_neg m w (by omega) (by omega)
    unfold ddg at this
    rw [if_neg (by omega)] at this
    unfold Lib.itoa
    rw [if_pos hn]
    have e : (-(m : Int)).natAbs = m := by omega
    rw [e]
    exact this
  · obtain ⟨m, rfl⟩ : ∃ m : Nat, n = (m : Int) := ⟨n.natAbs, by omega⟩
    have := s_Fmt_pos m w (by omega) (by omega)
    unfold ddg at this
    rw [if_neg (by omega)] at this
    unfold Lib.itoa
    rw [if_neg hn]
    exact this
theorem i_Fmt (n : Int) (w : World) (h0 : -9223372036854775808 ≤ n) (h1 : n ≤ 9223372036854775807) (he : EnvI w) : Calls Tryd.prog 13 #[.int .i64 n] w (Ret (.string (str (Lib.itoa n))) w) := by
  go_enter Tryd.func13, Tryd.ntmps13
  go_wp2_with fail
  refine (Tryd.strconv_Itoa n h0 h1 _ he).mono ?_
  rintro e w1 ⟨rfl, k, os, rfl⟩
  have hb := Lib.below_grow w.heap.size w (Nat.le_refl _) k os
  generalize Sort.grow (w.drewN k) os = w1 at hb ⊢
  go_wp2
  go_ret
  exact ret_mk hb
end Go.Proofs.YtbjmfapoioebjaaDoor
