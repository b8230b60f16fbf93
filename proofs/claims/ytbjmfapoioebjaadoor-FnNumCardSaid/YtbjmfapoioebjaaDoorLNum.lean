/-
  Proved: for every input the Go function FnNum returns true (the program's function returns what the reference's returns), and its arguments read as before.
  Conditions: none beyond the given statement (a tied card: the listed variables of Go's library hold what its text lays).
-/
import Derived.Test.YtbjmfapoioebjaaDoorCloseL
import Derived.Test.YtbjmfapoioebjaaDoorCloseB
import Derived.Test.YtbjmfapoioebjaaDoorDq
import Derived.Test.YtbjmfapoioebjaaDoorPa
import Derived.Deep.RegionHeld3
namespace Go.Proofs.YtbjmfapoioebjaaDoor.fnNum
open Go.Proofs.YtbjmfapoioebjaaDoor
open Go.ChangeShapes Go.WideShapes Go.ChangeAt Go.RowKit
set_option linter.unusedVariables false
set_option maxRecDepth 20000

set_option maxHeartbeats 2000000 in
theorem walk (A0 : Option Addr) (n0 cp0 : Nat) (w : World) (hR0 : RB w w.heap.size A0 n0) (hn0 : n0 ≤ 9223372036854775807) (hc0 : n0 ≤ cp0) (heI : EnvI w) (heE : EnvE w) :
    Calls Tryd.prog 9 #[.slice A0 n0 cp0] w (Ret (.bool true) w) := by
  by_cases hbig : n0 ≤ 1048576
  rotate_left
  · have hb' : 1048576 < n0 := by omega
    clear hR0 heI heE
    go_enter Tryd.func9, Tryd.ntmps9
    go_wp2_with fail
    refine (l_big_t _ _ _ _ hb').mono ?_
    rintro e w' ⟨rfl, rfl⟩
    go_wp2
    go_ret
    exact ret_mk (Below.refl _ _)
  have HR := Lib.hid hR0
  have HI := Lib.hid heI
  have HE := Lib.hid heE
  clear hR0 heI heE
  go_enter Tryd.func9, Tryd.ntmps9
  go_wp2_with fail
  refine (l_big_f _ _ _ _ hbig).mono ?_
  rintro e w' ⟨rfl, rfl⟩
  go_wp2_with fail
  refine (d_DrawFI A0 n0 cp0 _ HR.out hn0).mono ?_
  rintro e w1 ⟨n, rfl, ⟨x0, x1⟩, hb1⟩
  have W1 := Lib.hid hb1
  clear hb1
  have hsz : (str (Lib.itoa n)).size ≤ 1048576 := by rw [str_size]; have := Lib.itoa_length_le n x0 x1; omega
  obtain ⟨S1, hS1⟩ : ∃ S, str (Lib.itoa n) = S := ⟨_, rfl⟩
  have h0 : ∀ W, EnvI W → Calls Tryd.prog 13 #[.int .i64 n] W (Ret (.string S1) W) := fun W a => by rw [← hS1]; exact i_Fmt n W x0 x1 a
  obtain ⟨m, ok, hmok, h1⟩ : ∃ (m : Int) (ok : Bool), ((ok = true ∧ m = n ∧ -999999999999 ≤ n ∧ n ≤ 999999999999) ∨ (ok = false ∧ ¬ (-999999999999 ≤ n ∧ n ≤ 999999999999))) ∧ ∀ W, EnvI W → EnvE W → Calls Tryd.prog 26 #[.string S1] W (Ret (.tuple #[.int .i64 m, .bool ok]) W) := by
    by_cases hr : -999999999999 ≤ n ∧ n ≤ 999999999999
    · refine ⟨n, true, .inl ⟨rfl, rfl, hr.1, hr.2⟩, fun W a b => ?_⟩
      have := i_PInt (str (Lib.itoa n)) W hsz a b
      rw [str_data, pnum_itoa (by omega) (by omega) x0 x1, if_pos hr, hS1] at this
      exact this
    · refine ⟨0, false, .inr ⟨rfl, hr⟩, fun W a b => ?_⟩
      have := i_PInt (str (Lib.itoa n)) W hsz a b
      rw [str_data, pnum_itoa (by omega) (by omega) x0 x1, if_neg hr, hS1] at this
      exact this
  obtain ⟨k, small, hks, h2⟩ : ∃ (k : Int) (small : Bool), ((small = true ∧ k = n ∧ 0 ≤ n ∧ n ≤ 999999) ∨ (small = false ∧ ¬ (0 ≤ n ∧ n ≤ 999999))) ∧ ∀ W, EnvI W → EnvE W → Calls Tryd.prog 28 #[.string S1] W (Ret (.tuple #[.int .i64 k, .bool small]) W) := by
    by_cases hr : 0 ≤ n ∧ n ≤ 999999
    · refine ⟨n, true, .inl ⟨rfl, rfl, hr.1, hr.2⟩, fun W a b => ?_⟩
      have := i_PNum (str (Lib.itoa n)) W hsz a b
      rw [str_data, pnum_itoa (by omega) (by omega) x0 x1, if_pos hr, hS1] at this
      exact this
    · refine ⟨0, false, .inr ⟨rfl, hr⟩, fun W a b => ?_⟩
      have := i_PNum (str (Lib.itoa n)) W hsz a b
      rw [str_data, pnum_itoa (by omega) (by omega) x0 x1, if_neg hr, hS1] at this
      exact this
  have K0 := Lib.hid h0
  have K1 := Lib.hid h1
  have K2 := Lib.hid h2
  clear h0 h1 h2 hS1 hsz
  go_wp2_with fail
  refine (K0.out _ (HI.out.call W1.out)).mono ?_
  rintro e w2 ⟨rfl, hb2⟩
  have W2 := Lib.hid (bl_call W1.out hb2)
  clear hb2
  go_wp2_with fail
  refine (K1.out _ (HI.out.call W2.out) (HE.out.call W2.out)).mono ?_
  rintro e w3 ⟨rfl, hb3⟩
  have W3 := Lib.hid (bl_call W2.out hb3)
  clear hb3
  go_wp2_with fail
  refine (K2.out _ (HI.out.call W3.out) (HE.out.call W3.out)).mono ?_
  rintro e w4 ⟨rfl, hb4⟩
  have W4 := Lib.hid (bl_call W3.out hb4)
  clear hb4
  go_wp2_with fail
  refine (d_DrawPN A0 n0 cp0 _ ((HR.out.keep W4.out).more W4.out.size) hn0).mono ?_
  rintro e w5 ⟨t, rfl, ht, hb5⟩
  have W5 := Lib.hid (bl_call W4.out hb5)
  clear hb5
  have htz : (str t).size ≤ 1048576 := by rw [str_size]; omega
  obtain ⟨V, hV⟩ : ∃ V, pnum 0 999999 t = V := ⟨_, rfl⟩
  have h3 : ∀ W, EnvI W → EnvE W → Calls Tryd.prog 28 #[.string (str t)] W (Ret (optV V) W) := fun W a b => by have := i_PNum (str t) W htz a b; rwa [str_data, hV] at this
  have h4 : ∀ W, Calls Tryd.prog 27 #[.string (str t)] W (Ret (optV V) W) := fun W => by have := s_PNum (str t) W htz; rwa [str_data, hV] at this
  have hfin : V = none ∨ ∃ x, V = some x ∧ -9223372036854775808 ≤ x ∧ x ≤ 9223372036854775807 ∧ str (Lib.itoa x) = str t := by
    cases V with
    | none => exact .inl rfl
    | some x =>
      obtain ⟨a, b, c⟩ := (pnum_iff t (by decide) (by decide)).1 hV
      exact .inr ⟨x, rfl, by omega, by omega, by rw [c]⟩
  have K3 := Lib.hid h3
  have K4 := Lib.hid h4
  clear h3 h4 hV htz ht
  obtain ⟨S2, hS2⟩ : ∃ S, str t = S := ⟨_, rfl⟩
  rw [hS2] at K3 K4 hfin ⊢
  clear hS2
  have eqb : ∀ b : Bool, (b == b) = true := by intro b; simp
  have EQB := Lib.hid eqb
  clear eqb
  rcases hfin with rfl | ⟨x, rfl, y0, y1, hxs⟩
  · skip
    rcases hmok with ⟨hok, hmn, r0, r1⟩ | ⟨hok, r0⟩
    · subst hok
      subst hmn
      have e1 : decide ((-999999999999 : Int) ≤ m) = true := by simp; omega
      have e2 : decide (m ≤ (999999999999 : Int)) = true := by simp; omega
      rcases hks with ⟨hsm, hkn, r2, r3⟩ | ⟨hsm, r2⟩
      · subst hsm
        subst hkn
        have e5 : decide ((0 : Int) ≤ k) = true := by simp; omega
        have e6 : decide (k ≤ (999999 : Int)) = true := by simp; omega
        go_wp2_with fail
        refine (K3.out _ (HI.out.call W5.out) (HE.out.call W5.out)).mono ?_
        rintro e w6 ⟨rfl, hb6⟩
        have W6 := Lib.hid (bl_call W5.out hb6)
        clear hb6
        unfold optV
        go_wp2_with fail
        refine (K4.out _).mono ?_
        rintro e w7 ⟨rfl, hb7⟩
        have W7 := Lib.hid (bl_call W6.out hb7)
        clear hb7
        unfold optV
        have W8 := W7.out
        go_wp2
        go_ret
        refine ret_eq (by simp) W8
      · subst hsm
        by_cases hlo : (0 : Int) ≤ m
        · have e5 : decide ((0 : Int) ≤ m) = true := by simp; omega
          have e6 : decide (m ≤ (999999 : Int)) = false := by simp; omega
          go_wp2_with fail
          refine (K3.out _ (HI.out.call W5.out) (HE.out.call W5.out)).mono ?_
          rintro e w6 ⟨rfl, hb6⟩
          have W6 := Lib.hid (bl_call W5.out hb6)
          clear hb6
          unfold optV
          go_wp2_with fail
          refine (K4.out _).mono ?_
          rintro e w7 ⟨rfl, hb7⟩
          have W7 := Lib.hid (bl_call W6.out hb7)
          clear hb7
          unfold optV
          have W8 := W7.out
          go_wp2
          go_ret
          refine ret_eq (by simp) W8
        · have e5 : decide ((0 : Int) ≤ m) = false := by simp; omega
          go_wp2_with fail
          refine (K3.out _ (HI.out.call W5.out) (HE.out.call W5.out)).mono ?_
          rintro e w6 ⟨rfl, hb6⟩
          have W6 := Lib.hid (bl_call W5.out hb6)
          clear hb6
          unfold optV
          go_wp2_with fail
          refine (K4.out _).mono ?_
          rintro e w7 ⟨rfl, hb7⟩
          have W7 := Lib.hid (bl_call W6.out hb7)
          clear hb7
          unfold optV
          have W8 := W7.out
          go_wp2
          go_ret
          refine ret_eq (by simp) W8
    · subst hok
      have nsm : ¬ (0 ≤ n ∧ n ≤ 999999) := by omega
      obtain ⟨hsm, -⟩ : small = false ∧ True := by rcases hks with ⟨_, _, h2, h3⟩ | ⟨h1, _⟩; exact absurd ⟨h2, h3⟩ nsm; exact ⟨h1, trivial⟩
      subst hsm
      clear hks
      have e4 : (decide ((0 : Int) ≤ n) && decide (n ≤ (999999 : Int))) = false := by simp; omega
      by_cases hlo : (-999999999999 : Int) ≤ n
      · have e1 : decide ((-999999999999 : Int) ≤ n) = true := by simp; omega
        have e2 : decide (n ≤ (999999999999 : Int)) = false := by simp; omega
        have e5 : decide ((0 : Int) ≤ n) = true := by simp; omega
        have e6 : decide (n ≤ (999999 : Int)) = false := by simp; omega
        go_wp2_with fail
        refine (K3.out _ (HI.out.call W5.out) (HE.out.call W5.out)).mono ?_
        rintro e w6 ⟨rfl, hb6⟩
        have W6 := Lib.hid (bl_call W5.out hb6)
        clear hb6
        unfold optV
        go_wp2_with fail
        refine (K4.out _).mono ?_
        rintro e w7 ⟨rfl, hb7⟩
        have W7 := Lib.hid (bl_call W6.out hb7)
        clear hb7
        unfold optV
        have W8 := W7.out
        go_wp2
        go_ret
        refine ret_eq (by simp) W8
      · have e1 : decide ((-999999999999 : Int) ≤ n) = false := by simp; omega
        have e5 : decide ((0 : Int) ≤ n) = false := by simp; omega
        go_wp2_with fail
        refine (K3.out _ (HI.out.call W5.out) (HE.out.call W5.out)).mono ?_
        rintro e w6 ⟨rfl, hb6⟩
        have W6 := Lib.hid (bl_call W5.out hb6)
        clear hb6
        unfold optV
        go_wp2_with fail
        refine (K4.out _).mono ?_
        rintro e w7 ⟨rfl, hb7⟩
        have W7 := Lib.hid (bl_call W6.out hb7)
        clear hb7
        unfold optV
        have W8 := W7.out
        go_wp2
        go_ret
        refine ret_eq (by simp) W8
  · have eq := tl_eq hxs
    rcases hmok with ⟨hok, hmn, r0, r1⟩ | ⟨hok, r0⟩
    · subst hok
      subst hmn
      have e1 : decide ((-999999999999 : Int) ≤ m) = true := by simp; omega
      have e2 : decide (m ≤ (999999999999 : Int)) = true := by simp; omega
      rcases hks with ⟨hsm, hkn, r2, r3⟩ | ⟨hsm, r2⟩
      · subst hsm
        subst hkn
        have e5 : decide ((0 : Int) ≤ k) = true := by simp; omega
        have e6 : decide (k ≤ (999999 : Int)) = true := by simp; omega
        go_wp2_with fail
        refine (K3.out _ (HI.out.call W5.out) (HE.out.call W5.out)).mono ?_
        rintro e w6 ⟨rfl, hb6⟩
        have W6 := Lib.hid (bl_call W5.out hb6)
        clear hb6
        unfold optV
        go_wp2_with fail
        refine (K4.out _).mono ?_
        rintro e w7 ⟨rfl, hb7⟩
        have W7 := Lib.hid (bl_call W6.out hb7)
        clear hb7
        unfold optV
        go_wp2_with fail
        refine (i_Fmt x _ y0 y1 (HI.out.call W7.out)).mono ?_
        rintro e w8 ⟨rfl, hb8⟩
        have W8 := bl_call W7.out hb8
        clear hb8
        go_wp2
        go_ret
        refine ret_eq (by simp) W8
      · subst hsm
        by_cases hlo : (0 : Int) ≤ m
        · have e5 : decide ((0 : Int) ≤ m) = true := by simp; omega
          have e6 : decide (m ≤ (999999 : Int)) = false := by simp; omega
          go_wp2_with fail
          refine (K3.out _ (HI.out.call W5.out) (HE.out.call W5.out)).mono ?_
          rintro e w6 ⟨rfl, hb6⟩
          have W6 := Lib.hid (bl_call W5.out hb6)
          clear hb6
          unfold optV
          go_wp2_with fail
          refine (K4.out _).mono ?_
          rintro e w7 ⟨rfl, hb7⟩
          have W7 := Lib.hid (bl_call W6.out hb7)
          clear hb7
          unfold optV
          go_wp2_with fail
          refine (i_Fmt x _ y0 y1 (HI.out.call W7.out)).mono ?_
          rintro e w8 ⟨rfl, hb8⟩
          have W8 := bl_call W7.out hb8
          clear hb8
          go_wp2
          go_ret
          refine ret_eq (by simp) W8
        · have e5 : decide ((0 : Int) ≤ m) = false := by simp; omega
          go_wp2_with fail
          refine (K3.out _ (HI.out.call W5.out) (HE.out.call W5.out)).mono ?_
          rintro e w6 ⟨rfl, hb6⟩
          have W6 := Lib.hid (bl_call W5.out hb6)
          clear hb6
          unfold optV
          go_wp2_with fail
          refine (K4.out _).mono ?_
          rintro e w7 ⟨rfl, hb7⟩
          have W7 := Lib.hid (bl_call W6.out hb7)
          clear hb7
          unfold optV
          go_wp2_with fail
          refine (i_Fmt x _ y0 y1 (HI.out.call W7.out)).mono ?_
          rintro e w8 ⟨rfl, hb8⟩
          have W8 := bl_call W7.out hb8
          clear hb8
          go_wp2
          go_ret
          refine ret_eq (by simp) W8
    · subst hok
      have nsm : ¬ (0 ≤ n ∧ n ≤ 999999) := by omega
      obtain ⟨hsm, -⟩ : small = false ∧ True := by rcases hks with ⟨_, _, h2, h3⟩ | ⟨h1, _⟩; exact absurd ⟨h2, h3⟩ nsm; exact ⟨h1, trivial⟩
      subst hsm
      clear hks
      have e4 : (decide ((0 : Int) ≤ n) && decide (n ≤ (999999 : Int))) = false := by simp; omega
      by_cases hlo : (-999999999999 : Int) ≤ n
      · have e1 : decide ((-999999999999 : Int) ≤ n) = true := by simp; omega
        have e2 : decide (n ≤ (999999999999 : Int)) = false := by simp; omega
        have e5 : decide ((0 : Int) ≤ n) = true := by simp; omega
        have e6 : decide (n ≤ (999999 : Int)) = false := by simp; omega
        go_wp2_with fail
        refine (K3.out _ (HI.out.call W5.out) (HE.out.call W5.out)).mono ?_
        rintro e w6 ⟨rfl, hb6⟩
        have W6 := Lib.hid (bl_call W5.out hb6)
        clear hb6
        unfold optV
        go_wp2_with fail
        refine (K4.out _).mono ?_
        rintro e w7 ⟨rfl, hb7⟩
        have W7 := Lib.hid (bl_call W6.out hb7)
        clear hb7
        unfold optV
        go_wp2_with fail
        refine (i_Fmt x _ y0 y1 (HI.out.call W7.out)).mono ?_
        rintro e w8 ⟨rfl, hb8⟩
        have W8 := bl_call W7.out hb8
        clear hb8
        go_wp2
        go_ret
        refine ret_eq (by simp) W8
      · have e1 : decide ((-999999999999 : Int) ≤ n) = false := by simp; omega
        have e5 : decide ((0 : Int) ≤ n) = false := by simp; omega
        go_wp2_with fail
        refine (K3.out _ (HI.out.call W5.out) (HE.out.call W5.out)).mono ?_
        rintro e w6 ⟨rfl, hb6⟩
        have W6 := Lib.hid (bl_call W5.out hb6)
        clear hb6
        unfold optV
        go_wp2_with fail
        refine (K4.out _).mono ?_
        rintro e w7 ⟨rfl, hb7⟩
        have W7 := Lib.hid (bl_call W6.out hb7)
        clear hb7
        unfold optV
        go_wp2_with fail
        refine (i_Fmt x _ y0 y1 (HI.out.call W7.out)).mono ?_
        rintro e w8 ⟨rfl, hb8⟩
        have W8 := bl_call W7.out hb8
        clear hb8
        go_wp2
        go_ret
        refine ret_eq (by simp) W8

set_option maxRecDepth 100000 in
theorem lifted (os : Os) (started : os.Started) (H : Type) (enc : TypeId × Value → H) :
    ReturnsInHanded {} Tryd.checked os 9 .any (fun w args => (Rows.fnNumSpec.pre enc Tryd.prog Tryd.f9 [] false w args ∧ laidMetH Tryd.prog Rows.fnNumRow.laid w) ∧ sizedMet enc Tryd.prog Tryd.f9 (OpenSpec.ofChange Rows.fnNumSpec) false w args) (Rows.fnNumSpec.post enc Tryd.prog Tryd.f9 false true false false) := by
  refine handed_laid (C := Tryd.checked) (X := fun w _ => laidMetH Tryd.prog Rows.fnNumRow.laid w) (fun _ _ _ hh h => h.of_heap hh) own started (by kernel_rfl) Tryd.func9
    (ChangeSpec.witness_shaped (enc := enc) (C := Tryd.checked) (os := os) (X := fun w _ => laidMetH Tryd.prog Rows.fnNumRow.laid w) false (World.laidAll Tryd.prog os Rows.fnNumRow.laid) #[.slice none 0 0] 8 (World.laidAll_os _ _ _)
      (World.shaped_of_ZipB (by kernel_rfl) (by kernel_rfl)) (by kernel_rfl) (by kernel_rfl) (by kernel_rfl)
      (by rw [MakeChecks.laidMetH_plain _ _ _ (by kernel_rfl)]; exact laidMet_laidAll _ (by kernel_rfl) (by kernel_rfl))) ?_
  intro W base args ds gs before hval0 hW hL hsh
  rw [MakeChecks.laidMetH_plain _ _ _ (by kernel_rfl)] at hL
  have hval : ∀ (j : Nat) t v, Tryd.f9.params[j]? = some t → args[j]? = some v → Value.okWide Tryd.prog W .any base t v := hval0
  have hW' := hW
  obtain ⟨p, q, hA0, hV, rfl, hfz, hnd⟩ := hW
  have hA : DataW.TrodAll enc Tryd.prog W 0 (fun _ => true) true Tryd.f9.params.toList args.toList ds p := hA0
  rw [Tryd.params9] at hA hval
  obtain ⟨v0, vs0, d0, ds0, p0, q0, hargs, rfl, rfl, h0, r0⟩ := trodAll_cons hA
  obtain ⟨rfl, rfl, rfl⟩ := trodAll_nil r0
  obtain rfl : args = #[v0] := by cases args; simp_all
  obtain ⟨rfl, rfl⟩ := trodVars_none hV
  have kk0 := h0
  have lt0 : ∀ x ∈ p0, x.block < W.heap.size := by obtain ⟨m, hm⟩ := kk0; exact DataW.trod_lt m _ _ _ hm
  obtain ⟨A0, n0, cp0, rfl, hR0, hn0, hc0⟩ := open_B (hval 0 39 v0 rfl rfl) h0
  clear hA0 hval0
  refine (walk A0 n0 cp0 W hR0 hn0 hc0 (envI_of hL.tail.tail) (envE_of hL.tail.tail.tail)).mono fun e W' ⟨he, bel⟩ => ?_
  subst he
  exact ⟨_, rfl, _, _, _, [], _, [], hW', trodAll_mk1 (shut_bool Tryd.underlying4 _), (trodAll_cons_mk (Below.trod laidOut (by kernel_rfl) (of_decide_eq_true (by kernel_rfl)) kk0 bel lt0) trodAll_mk0), rfl, bel.frame _, fun h => by cases h⟩

set_option maxRecDepth 100000 in
theorem over : Rows.fnNumRow.holds Tryd.pinned (OpenSpec.ofChange Rows.fnNumSpec) :=
  OpenClaim.holds_of_wide 9 Tryd.f9 rfl rfl rfl rfl rfl rfl rfl ⟨rfl, rfl, rfl, rfl, rfl⟩ rfl rfl rfl rfl rfl (by kernel_rfl) Tryd.func9 (by kernel_rfl)
    (of_decide_eq_true (by kernel_rfl)) (by unfold Func.isWrapper; first | (rw [if_pos (by decide +kernel)]; kernel_rfl) | (rw [if_neg (by decide +kernel)]; exact ⟨rfl, rfl⟩))
    (fun os started H enc _ => lifted os started H enc)

set_option maxRecDepth 100000 in
theorem proved : Rows.FnNumCardSaid :=
  Claim7.holds_tied_plain_at .later [] [.data, .data, .data, .sentinel, .sentinel] true Rows.fnNumCard.stood.harness true over (fun _ h => by cases h) (by kernel_rfl) (fun _ h => by cases h) fnNum_row_tie rfl ⟨rfl, rfl⟩ (by kernel_rfl) rfl
    (fun f fn hf hfn => by
      obtain rfl : f = 9 := Option.some.inj ((show Tryd.prog.funcNamed "loop.example/g00506/laws.FnNum" = some 9 by kernel_rfl).symm.trans hf) |>.symm
      obtain rfl : fn = Tryd.f9 := (Option.some.inj (Tryd.func9.symm.trans hfn)).symm
      exact ⟨by kernel_rfl, fun j t ht => by
        rw [Tryd.params9] at ht
        have hm : t ∈ [39] := by simpa using Array.mem_of_getElem? ht
        have hall : ([39].all fun u => !Tryd.prog.wantsStandIn u) = true := by kernel_rfl
        exact (show Tryd.prog.wantsStandIn t = false by simpa using List.all_eq_true.1 hall t hm)⟩)
    (by kernel_rfl)
end Go.Proofs.YtbjmfapoioebjaaDoor.fnNum
