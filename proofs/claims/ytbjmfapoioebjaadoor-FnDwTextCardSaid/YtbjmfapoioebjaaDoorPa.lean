/- Contracts: the program's reader of numerals. -/
import Derived.Test.YtbjmfapoioebjaaDoorRd
import Derived.Test.YtbjmfapoioebjaaDoorShA
import Derived.Lib.AtoiErrMem
namespace Go.Proofs.YtbjmfapoioebjaaDoor
open Go.RowKit
set_option linter.unusedVariables false
set_option maxRecDepth 20000

theorem atoi_ok (s : ByteArray) (n : Int) (w : World) (hs : s.size ≤ 1048576) (h : Lib.atoiAll s.data.toList = .ok n) : Calls Tryd.prog 66 #[.string s] w (Ret (.tuple #[.int .i64 n, .nilIface]) w) :=
  (Tryd.strconv_Atoi_ok s (by omega) n h w).mono fun e w' ⟨he, hw⟩ => ⟨he, by
    rcases hw with rfl | ⟨t, rfl⟩
    · exact Below.refl _ _
    · exact Lib.bytesWorld_below w _ t⟩
/-- An error came back. -/
def RetErr (w : World) (e : Ending) (w' : World) : Prop := ∃ (n : Int) (T : TypeId) (p : Value), e = .returned (.tuple #[.int .i64 n, .iface T p]) ∧ Below w.heap.size w w'
theorem atoi_bad (s : ByteArray) (w : World) (hs : s.size ≤ 1048576) (he : EnvE w) (h : ∀ n, Lib.atoiAll s.data.toList ≠ .ok n) : Calls Tryd.prog 66 #[.string s] w (RetErr w) := by
  obtain ⟨t1, p1, t2, p2, h1, h2⟩ := he
  cases hc : Lib.atoiAll s.data.toList with
  | ok n => exact absurd hc (h n)
  | «syntax» =>
    refine (Tryd.strconv_Atoi_syntax_var s (by omega) hc t1 p1 w h1).mono ?_
    rintro e w' ⟨N, rfl, _, _, hb⟩
    exact ⟨_, _, _, rfl, hb⟩
  | range =>
    refine (Tryd.strconv_Atoi_range_var s (by omega) hc t2 p2 w h2).mono ?_
    rintro e w' ⟨N, rfl, _, _, hb⟩
    exact ⟨_, _, _, rfl, hb⟩
theorem itoa_ret (n : Int) (w : World) (h0 : -9223372036854775808 ≤ n) (h1 : n ≤ 9223372036854775807) (he : EnvI w) : Calls Tryd.prog 37 #[.int .i64 n] w (Ret (.string (str (Lib.itoa n))) w) :=
  (Tryd.strconv_Itoa n h0 h1 w he).mono fun e w' ⟨he, k, os, hw⟩ => ⟨he, by rw [hw]; exact Lib.below_grow w.heap.size w (Nat.le_refl _) k os⟩
theorem pnum_itoa {lo hi n : Int} (hl : -9223372036854775808 ≤ lo) (hh : hi ≤ 9223372036854775807) (h0 : -9223372036854775808 ≤ n) (h1 : n ≤ 9223372036854775807) : pnum lo hi (Lib.itoa n) = if lo ≤ n ∧ n ≤ hi then some n else none := by
  unfold pnum
  rw [atoi_itoa n h0 h1]
  by_cases h : lo ≤ n ∧ n ≤ hi
  · rw [if_pos h]
    exact if_pos ⟨h.1, h.2, rfl⟩
  · rw [if_neg h]
    exact if_neg fun e => h ⟨e.1, e.2.1⟩
set_option maxHeartbeats 1000000 in
theorem i_parse (s : ByteArray) (l h : Int) (w : World) (hs : s.size ≤ 1048576) (hI : EnvI w) (hE : EnvE w) : Calls Tryd.prog 48 #[.string s, .int .i64 l, .int .i64 h] w (Ret (optV (pnum l h s.data.toList)) w) := by
  cases hc : Lib.atoiAll s.data.toList with
  | ok n =>
    obtain ⟨b0, b1⟩ := Lib.atoiAll_bounds hc
    have HA := Lib.hid (atoi_ok s n w hs hc)
    have hp : pnum l h s.data.toList = if l ≤ n ∧ n ≤ h ∧ Lib.itoa n = s.data.toList then some n else none := by unfold pnum; rw [hc]
    have HP := Lib.hid hp
    have HI := Lib.hid hI
    clear hp hc hI hE
    by_cases c1 : n < l
    · have d1 : decide (n < l) = true := by simp; omega
      go_enter Tryd.func48, Tryd.ntmps48
      go_wp2_with fail
      refine HA.out.mono ?_
      rintro e w1 ⟨rfl, hb1⟩
      go_wp2
      go_ret2
      refine ret_eq ?_ hb1
      rw [HP.out, if_neg (by omega)]
      rfl
    · have d1 : decide (n < l) = false := by simp; omega
      by_cases c2 : h < n
      · have d2 : decide (h < n) = true := by simp; omega
        go_enter Tryd.func48, Tryd.ntmps48
        go_wp2_with fail
        refine HA.out.mono ?_
        rintro e w1 ⟨rfl, hb1⟩
        go_wp2
        go_ret2
        refine ret_eq ?_ hb1
        rw [HP.out, if_neg (by omega)]
        rfl
      · have d2 : decide (h < n) = false := by simp; omega
        by_cases hi : Lib.itoa n = s.data.toList
        · have es : str (Lib.itoa n) = s := by rw [hi, str_of]
          have eq := tl_eq es
          have ev := HP.out
          rw [if_pos ⟨by omega, by omega, hi⟩] at ev
          have HV := Lib.hid ev
          clear es hi ev
          go_enter Tryd.func48, Tryd.ntmps48
          go_wp2_with fail
          refine HA.out.mono ?_
          rintro e w1 ⟨rfl, hb1⟩
          go_wp2_with fail
          refine (itoa_ret n _ b0 b1 (HI.out.call hb1)).mono ?_
          rintro e w2 ⟨rfl, hb2⟩
          go_wp2
          go_ret2
          refine ret_eq ?_ (bl_call hb1 hb2)
          rw [HV.out]
          rfl
        · have eq := tl_ne (a := str (Lib.itoa n)) (b := s) (fun e => hi (by rw [← e, str_data]))
          have ev := HP.out
          rw [if_neg (fun h => hi h.2.2)] at ev
          have HV := Lib.hid ev
          clear hi ev
          go_enter Tryd.func48, Tryd.ntmps48
          go_wp2_with fail
          refine HA.out.mono ?_
          rintro e w1 ⟨rfl, hb1⟩
          go_wp2_with fail
          refine (itoa_ret n _ b0 b1 (HI.out.call hb1)).mono ?_
          rintro e w2 ⟨rfl, hb2⟩
          go_wp2
          go_ret2
          refine ret_eq ?_ (bl_call hb1 hb2)
          rw [HV.out]
          rfl
  | _ =>
    have HA := Lib.hid (atoi_bad s w hs hE (by intro n e; rw [hc] at e; cases e))
    have hp : pnum l h s.data.toList = none := by unfold pnum; rw [hc]
    have HP := Lib.hid hp
    clear hp hc hI hE
    go_enter Tryd.func48, Tryd.ntmps48
    go_wp2_with fail
    refine HA.out.mono ?_
    rintro e w1 ⟨n, T, p, rfl, hb1⟩
    go_wp2
    go_ret2
    refine ret_eq ?_ hb1
    rw [HP.out]
    rfl
theorem i_PInt (s : ByteArray) (w : World) (hs : s.size ≤ 1048576) (hI : EnvI w) (hE : EnvE w) : Calls Tryd.prog 26 #[.string s] w (Ret (optV (pnum (-999999999999) 999999999999 s.data.toList)) w) := by
  have H := Lib.hid (i_parse s (-999999999999) 999999999999 w hs hI hE)
  clear hI hE
  go_enter Tryd.func26, Tryd.ntmps26
  go_wp2_with fail
  refine H.out.mono ?_
  rintro e w1 ⟨rfl, hb1⟩
  unfold optV
  go_wp2
  go_ret2
  exact ret_mk hb1
theorem i_PNum (s : ByteArray) (w : World) (hs : s.size ≤ 1048576) (hI : EnvI w) (hE : EnvE w) : Calls Tryd.prog 28 #[.string s] w (Ret (optV (pnum 0 999999 s.data.toList)) w) := by
  have H := Lib.hid (i_parse s 0 999999 w hs hI hE)
  clear hI hE
  go_enter Tryd.func28, Tryd.ntmps28
  go_wp2_with fail
  refine H.out.mono ?_
  rintro e w1 ⟨rfl, hb1⟩
  unfold optV
  go_wp2
  go_ret2
  exact ret_mk hb1
end Go.Proofs.YtbjmfapoioebjaaDoor
