/- Contracts: the reference's reader of numerals. -/
import Derived.Test.YtbjmfapoioebjaaDoorFm
namespace Go.Proofs.YtbjmfapoioebjaaDoor
open Go.RowKit
set_option linter.unusedVariables false
set_option maxRecDepth 20000

/-- A number and whether there is one. -/
def optV (o : Option Int) : Value := .tuple #[.int .i64 (o.getD 0), .bool o.isSome]
def RdRel (tl : List UInt8) (len : Nat) (n i : Value) : Prop := ∃ k m : Nat, k ≤ len ∧ i = .int .i64 (k : Int) ∧ n = .int .i64 (m : Int) ∧ Lib.decFrom 0 (tl.take k) = some m ∧ m < 10 ^ k
theorem rd_bad {tl : List UInt8} {k : Nat} {c : UInt8} (h : tl[k]? = some c) (hc : ¬ (48 ≤ c.toNat ∧ c.toNat ≤ 57)) : Lib.decFrom 0 tl = none := by
  cases hd : Lib.decFrom 0 tl with
  | none => rfl
  | some n =>
    obtain ⟨d, hd'⟩ := Lib.digit_of_decFrom tl 0 n hd k c h
    unfold Lib.digitVal at hd'
    rw [if_neg hc] at hd'
    cases hd'
theorem rd_step {tl : List UInt8} {k m : Nat} {c : UInt8} (h : tl[k]? = some c) (hc : 48 ≤ c.toNat ∧ c.toNat ≤ 57) (hd : Lib.decFrom 0 (tl.take k) = some m) : Lib.decFrom 0 (tl.take (k + 1)) = some (m * 10 + (c.toNat - 48)) :=
  Lib.decFrom_take tl k 0 m c _ hd h (by unfold Lib.digitVal; rw [if_pos hc])
theorem at_of {T : ByteArray} {k : Nat} (h : k < T.size) : T.data.toList[k]? = some T[k] := by
  rw [List.getElem?_eq_getElem (by simpa using h)]
  rfl
theorem tl_eq {a b : ByteArray} (h : a = b) : (a.toList == b.toList) = true := by rw [h]; simp
theorem tl_data (a : ByteArray) : a.toList = a.data.toList := ByteArray.toList_eq a
theorem tl_ne {a b : ByteArray} (h : a ≠ b) : (a.toList == b.toList) = false := by
  rw [beq_eq_false_iff_ne, tl_data, tl_data]
  intro e
  exact h (ByteArray.ext (Array.ext' e))
set_option maxHeartbeats 1000000 in
theorem s_read_pos (s T : ByteArray) (most : Nat) (w : World) (hs : s.size ≤ 1048576) (hm : most ≤ 12) (h0 : 0 < s.size) (hneg : ¬ (s[0]).toNat = 45) (hT : s = T) :
    Calls Tryd.prog 47 #[.string s, .int .i64 (most : Int)] w (Ret (optV (rdI most s.data.toList)) w) := by
  have hN : negB s.data.toList = false := by
    unfold negB
    rw [List.head?_eq_getElem?, at_of h0]
    simp; intro h; rw [h] at hneg; exact hneg rfl
  have hB : bodyL s.data.toList = T.data.toList := by
    unfold bodyL
    rw [hN]
    rw [if_neg (by simp), hT]
  have hsz : T.size ≤ 1048576 := by
    have e := congrArg List.length hB
    unfold bodyL at e
    have : T.data.toList.length = T.size := by simp
    have : s.data.toList.length = s.size := by simp
    split at e <;> simp at e <;> omega
  obtain ⟨V, hV⟩ : ∃ V, rdI most s.data.toList = V := ⟨_, rfl⟩
  rw [hV]
  have HV := Lib.hid hV
  have HN := Lib.hid hN
  have HB := Lib.hid hB
  clear hV hN hB
  have g0 : (0 : Int) < (s.size : Int) := by omega
  have g1 : (1 : Int) ≤ (s.size : Int) := by omega
  have g2 : (((s[0]).toNat : Int) == 45) = false := by rw [beq_eq_false_iff_ne]; omega
  subst hT
  go_enter Tryd.func47, Tryd.ntmps47
  by_cases hlen : 1 ≤ s.size ∧ s.size ≤ most
  rotate_left
  · have hv : V = none := by
      rw [← HV.out]
      unfold rdI
      rw [if_neg]
      rw [HB.out]
      simpa using hlen
    subst hv
    by_cases h1 : 1 ≤ s.size
    · have d1 : decide ((s.size : Int) < 1) = false := by simp; omega
      have d2 : decide ((most : Int) < (s.size : Int)) = true := by simp; omega
      have d3 : decide (most < s.size) = true := by simp; omega
      go_wp2
      go_ret2
      exact ret_mk (Below.refl _ _)
    · have d1 : decide ((s.size : Int) < 1) = true := by simp; omega
      go_wp2
      go_ret2
      exact ret_mk (Below.refl _ _)
  · obtain ⟨hl1, hl2⟩ := hlen
    have d1 : decide ((s.size : Int) < 1) = false := by simp; omega
    have d2 : decide ((most : Int) < (s.size : Int)) = false := by simp; omega
    have d3 : decide (most < s.size) = false := by simp; omega
    go_wp2
    go_loop [8, 9] (fun n i => RdRel s.data.toList s.size n i) (fun _ i => s.size - (intOf i).toNat)
    case atStart => exact ⟨0, 0, by omega, rfl, rfl, rfl, by omega⟩
    case round =>
      obtain ⟨k, m, hk, rfl, rfl, hd, hm10⟩ := hrel
      have HD := Lib.hid hd
      clear hd
      have hp : 10 ^ k ≤ 10 ^ 12 := Nat.pow_le_pow_right (by decide) (by omega)
      have hm12 : m < 1000000000000 := by omega
      have HM := Lib.hid hm10
      clear hm10 hp
      by_cases hlt : k < s.size
      · have hx : decide ((k : Int) < (s.size : Int)) = true := by simp; omega
        have hx' : decide (k < s.size) = true := by simp; omega
        have HC := Lib.hid (at_of hlt)
        have hu : (s[k]).toNat < 256 := UInt8.toNat_lt _
        by_cases hc : 48 ≤ (s[k]).toNat ∧ (s[k]).toNat ≤ 57
        · have c1 : (48 : Int) ≤ ((s[k]).toNat : Int) := by omega
          have c2 : ((s[k]).toNat : Int) ≤ 57 := by omega
          have e1 : decide (((s[k]).toNat : Int) < 48) = false := by simp; omega
          have e2 : decide ((57 : Int) < ((s[k]).toNat : Int)) = false := by simp; omega
          have HS := Lib.hid (rd_step HC.out hc HD.out)
          go_wp2
          go_round
          case rel =>
            refine ⟨k + 1, m * 10 + ((s[k]).toNat - 48), by omega, by go_num, ?_, HS.out, ?_⟩
            · congr 1
              omega
            · have := HM.out
              rw [Nat.pow_succ]
              omega
          case measure => simp [intOf]; omega
        · have hv : V = none := by
            rw [← HV.out]
            unfold rdI
            rw [HB.out, rd_bad HC.out hc]
            split <;> rfl
          subst hv
          by_cases hc1 : (s[k]).toNat < 48
          · have e1 : decide (((s[k]).toNat : Int) < 48) = true := by simp; omega
            go_wp2
            go_ret2
            exact ret_mk (Below.refl _ _)
          · have e1 : decide (((s[k]).toNat : Int) < 48) = false := by simp; omega
            have e2 : decide ((57 : Int) < ((s[k]).toNat : Int)) = true := by simp; omega
            go_wp2
            go_ret2
            exact ret_mk (Below.refl _ _)
      · have hx : decide ((k : Int) < (s.size : Int)) = false := by simp; omega
        have hx' : decide (k < s.size) = false := by simp; omega
        have hval : Lib.decFrom 0 s.data.toList = some m := by
          have := HD.out
          rwa [List.take_of_length_le (by simp; omega)] at this
        have hv : V = if Lib.itoa ((m : Int)) = s.data.toList then some ((m : Int)) else none := by
          rw [← HV.out]
          unfold rdI
          rw [HB.out, if_pos (by simp; omega), hval]
          show (if Lib.itoa (sgnI s.data.toList m) = _ then some (sgnI s.data.toList m) else none) = _
          unfold sgnI
          rw [HN.out]
          rfl
        have HVV := Lib.hid hv
        clear hv hval
        go_wp2_with fail
        refine (s_Fmt ((m : Int)) _ (by omega) (by omega)).mono ?_
        rintro e w1 ⟨rfl, hb1⟩
        by_cases hi : Lib.itoa ((m : Int)) = s.data.toList
        · have es : str (Lib.itoa ((m : Int))) = s := by rw [hi, str_of]
          have HE := Lib.hid es
          have eq := tl_eq es
          have ev := HVV.out
          rw [if_pos hi] at ev
          subst ev
          clear es hi
          go_wp2
          go_ret2
          exact ret_mk hb1
        · have eq := tl_ne (a := str (Lib.itoa ((m : Int)))) (b := s) (fun e => hi (by rw [← e, str_data]))
          have ev := HVV.out
          rw [if_neg hi] at ev
          subst ev
          clear hi
          go_wp2
          go_ret2
          exact ret_mk hb1
set_option maxHeartbeats 1000000 in
theorem s_read_neg (s T : ByteArray) (most : Nat) (w : World) (hs : s.size ≤ 1048576) (hm : most ≤ 12) (h0 : 0 < s.size) (hneg : (s[0]).toNat = 45) (hT : s.extract 1 s.size = T) :
    Calls Tryd.prog 47 #[.string s, .int .i64 (most : Int)] w (Ret (optV (rdI most s.data.toList)) w) := by
  have hN : negB s.data.toList = true := by
    unfold negB
    rw [List.head?_eq_getElem?, at_of h0]
    have : s[0] = 45 := UInt8.toNat_inj.1 hneg
    rw [this]; rfl
  have hB : bodyL s.data.toList = T.data.toList := by
    unfold bodyL
    rw [hN]
    rw [if_pos rfl, ← hT, Lib.extract_to_end]; simp
  have hsz : T.size ≤ 1048576 := by
    have e := congrArg List.length hB
    unfold bodyL at e
    have : T.data.toList.length = T.size := by simp
    have : s.data.toList.length = s.size := by simp
    split at e <;> simp at e <;> omega
  obtain ⟨V, hV⟩ : ∃ V, rdI most s.data.toList = V := ⟨_, rfl⟩
  rw [hV]
  have HV := Lib.hid hV
  have HN := Lib.hid hN
  have HB := Lib.hid hB
  clear hV hN hB
  have g0 : (0 : Int) < (s.size : Int) := by omega
  have g1 : (1 : Int) ≤ (s.size : Int) := by omega
  have g2 : (((s[0]).toNat : Int) == 45) = true := by rw [beq_iff_eq]; omega
  go_enter Tryd.func47, Tryd.ntmps47
  by_cases hlen : 1 ≤ T.size ∧ T.size ≤ most
  rotate_left
  · have hv : V = none := by
      rw [← HV.out]
      unfold rdI
      rw [if_neg]
      rw [HB.out]
      simpa using hlen
    subst hv
    by_cases h1 : 1 ≤ T.size
    · have d1 : decide ((T.size : Int) < 1) = false := by simp; omega
      have d2 : decide ((most : Int) < (T.size : Int)) = true := by simp; omega
      have d3 : decide (most < T.size) = true := by simp; omega
      go_wp2
      go_ret2
      exact ret_mk (Below.refl _ _)
    · have d1 : decide ((T.size : Int) < 1) = true := by simp; omega
      go_wp2
      go_ret2
      exact ret_mk (Below.refl _ _)
  · obtain ⟨hl1, hl2⟩ := hlen
    have d1 : decide ((T.size : Int) < 1) = false := by simp; omega
    have d2 : decide ((most : Int) < (T.size : Int)) = false := by simp; omega
    have d3 : decide (most < T.size) = false := by simp; omega
    go_wp2
    go_loop [8, 9] (fun n i => RdRel T.data.toList T.size n i) (fun _ i => T.size - (intOf i).toNat)
    case atStart => exact ⟨0, 0, by omega, rfl, rfl, rfl, by omega⟩
    case round =>
      obtain ⟨k, m, hk, rfl, rfl, hd, hm10⟩ := hrel
      have HD := Lib.hid hd
      clear hd
      have hp : 10 ^ k ≤ 10 ^ 12 := Nat.pow_le_pow_right (by decide) (by omega)
      have hm12 : m < 1000000000000 := by omega
      have HM := Lib.hid hm10
      clear hm10 hp
      by_cases hlt : k < T.size
      · have hx : decide ((k : Int) < (T.size : Int)) = true := by simp; omega
        have hx' : decide (k < T.size) = true := by simp; omega
        have HC := Lib.hid (at_of hlt)
        have hu : (T[k]).toNat < 256 := UInt8.toNat_lt _
        by_cases hc : 48 ≤ (T[k]).toNat ∧ (T[k]).toNat ≤ 57
        · have c1 : (48 : Int) ≤ ((T[k]).toNat : Int) := by omega
          have c2 : ((T[k]).toNat : Int) ≤ 57 := by omega
          have e1 : decide (((T[k]).toNat : Int) < 48) = false := by simp; omega
          have e2 : decide ((57 : Int) < ((T[k]).toNat : Int)) = false := by simp; omega
          have HS := Lib.hid (rd_step HC.out hc HD.out)
          go_wp2
          go_round
          case rel =>
            refine ⟨k + 1, m * 10 + ((T[k]).toNat - 48), by omega, by go_num, ?_, HS.out, ?_⟩
            · congr 1
              omega
            · have := HM.out
              rw [Nat.pow_succ]
              omega
          case measure => simp [intOf]; omega
        · have hv : V = none := by
            rw [← HV.out]
            unfold rdI
            rw [HB.out, rd_bad HC.out hc]
            split <;> rfl
          subst hv
          by_cases hc1 : (T[k]).toNat < 48
          · have e1 : decide (((T[k]).toNat : Int) < 48) = true := by simp; omega
            go_wp2
            go_ret2
            exact ret_mk (Below.refl _ _)
          · have e1 : decide (((T[k]).toNat : Int) < 48) = false := by simp; omega
            have e2 : decide ((57 : Int) < ((T[k]).toNat : Int)) = true := by simp; omega
            go_wp2
            go_ret2
            exact ret_mk (Below.refl _ _)
      · have hx : decide ((k : Int) < (T.size : Int)) = false := by simp; omega
        have hx' : decide (k < T.size) = false := by simp; omega
        have hval : Lib.decFrom 0 T.data.toList = some m := by
          have := HD.out
          rwa [List.take_of_length_le (by simp; omega)] at this
        have hv : V = if Lib.itoa (-(m : Int)) = s.data.toList then some (-(m : Int)) else none := by
          rw [← HV.out]
          unfold rdI
          rw [HB.out, if_pos (by simp; omega), hval]
          show (if Lib.itoa (sgnI s.data.toList m) = _ then some (sgnI s.data.toList m) else none) = _
          unfold sgnI
          rw [HN.out]
          rfl
        have HVV := Lib.hid hv
        clear hv hval
        go_wp2_with fail
        refine (s_Fmt (-(m : Int)) _ (by omega) (by omega)).mono ?_
        rintro e w1 ⟨rfl, hb1⟩
        by_cases hi : Lib.itoa (-(m : Int)) = s.data.toList
        · have es : str (Lib.itoa (-(m : Int))) = s := by rw [hi, str_of]
          have HE := Lib.hid es
          have eq := tl_eq es
          have ev := HVV.out
          rw [if_pos hi] at ev
          subst ev
          clear es hi
          go_wp2
          go_ret2
          exact ret_mk hb1
        · have eq := tl_ne (a := str (Lib.itoa (-(m : Int)))) (b := s) (fun e => hi (by rw [← e, str_data]))
          have ev := HVV.out
          rw [if_neg hi] at ev
          subst ev
          clear hi
          go_wp2
          go_ret2
          exact ret_mk hb1
theorem s_read_empty (most : Nat) (w : World) : Calls Tryd.prog 47 #[.string ⟨#[]⟩, .int .i64 (most : Int)] w (Ret (optV none) w) := by
  go_enter Tryd.func47, Tryd.ntmps47
  go_wp2
  go_ret2
  exact ret_mk (Below.refl _ _)
theorem s_read (s : ByteArray) (most : Nat) (w : World) (hs : s.size ≤ 1048576) (hm : most ≤ 12) : Calls Tryd.prog 47 #[.string s, .int .i64 (most : Int)] w (Ret (optV (rdI most s.data.toList)) w) := by
  by_cases h0 : 0 < s.size
  · by_cases hn : (s[0]).toNat = 45
    · exact s_read_neg s _ most w hs hm h0 hn rfl
    · exact s_read_pos s _ most w hs hm h0 hn rfl
  · have e : s = ⟨#[]⟩ := by
      apply ByteArray.ext
      apply Array.eq_empty_of_size_eq_zero
      have : s.size = s.data.size := rfl
      omega
    subst e
    exact s_read_empty most w
theorem s_PInt (s : ByteArray) (w : World) (hs : s.size ≤ 1048576) : Calls Tryd.prog 25 #[.string s] w (Ret (optV (pnum (-999999999999) 999999999999 s.data.toList)) w) := by
  rw [← rdI_12]
  go_enter Tryd.func25, Tryd.ntmps25
  go_wp2_with fail
  refine (s_read s 12 _ hs (by omega)).mono ?_
  rintro e w1 ⟨rfl, hb1⟩
  unfold optV
  go_wp2
  go_ret2
  exact ret_mk hb1
theorem s_PNum (s : ByteArray) (w : World) (hs : s.size ≤ 1048576) : Calls Tryd.prog 27 #[.string s] w (Ret (optV (pnum 0 999999 s.data.toList)) w) := by
  rw [← rdI_6]
  have HR := Lib.hid (s_read s 6 w hs (by omega))
  obtain ⟨V, hV⟩ : ∃ V, rdI 6 s.data.toList = V := ⟨_, rfl⟩
  rw [hV] at HR ⊢
  cases V with
  | none =>
    go_enter Tryd.func27, Tryd.ntmps27
    go_wp2_with fail
    refine HR.out.mono ?_
    rintro e w1 ⟨rfl, hb1⟩
    show _
    unfold optV
    go_wp2
    go_ret2
    exact ret_mk hb1
  | some n =>
    by_cases hn : n < 0
    · have d1 : decide (n < 0) = true := by simp; omega
      go_enter Tryd.func27, Tryd.ntmps27
      go_wp2_with fail
      refine HR.out.mono ?_
      rintro e w1 ⟨rfl, hb1⟩
      unfold optV
      go_wp2
      go_ret2
      refine ret_eq ?_ hb1
      simp [optV, hn]
    · have d1 : decide (n < 0) = false := by simp; omega
      go_enter Tryd.func27, Tryd.ntmps27
      go_wp2_with fail
      refine HR.out.mono ?_
      rintro e w1 ⟨rfl, hb1⟩
      unfold optV
      go_wp2
      go_ret2
      refine ret_eq ?_ hb1
      have e : ((some n).bind fun n => if n < 0 then none else some n) = some n := if_neg (by omega)
      rw [e]
      rfl
end Go.Proofs.YtbjmfapoioebjaaDoor
