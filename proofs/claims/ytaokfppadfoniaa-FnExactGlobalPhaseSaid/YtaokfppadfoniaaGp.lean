/- Contracts: the phase between two matrices. -/
import Derived.Test.YtaokfppadfoniaaVc5
import Derived.Test.YtaokfppadfoniaaAp
namespace Go.Proofs.Ytaokfppadfoniaa
open Go.RowKit
set_option linter.unusedVariables false
def FitRel (w : World) (us vs : List (List DW)) (i n : Nat) (f j : Value) (wr : World) : Prop :=
  ∃ (k : Nat) (b : Bool), k ≤ n ∧ j = .int .i64 (k : Int) ∧ f = .bool b ∧ fitsN us vs i k = b ∧ Below w.heap.size w wr
def PhRel (w : World) (us vs : List (List DW)) (n : Nat) (i : Value) (wr : World) : Prop :=
  ∃ k : Nat, k ≤ 8 ∧ i = .int .i64 (k : Int) ∧ firstP (fun i => fitsN us vs i n) k = none ∧ Below w.heap.size w wr
set_option maxHeartbeats 400000 in
theorem i_GPh_bad (A B : Option Addr) (n m c c' : Nat) (us vs : List (List DW)) (w : World) (hA : RM w w.heap.size A n us) (hB : RM w w.heap.size B m vs) (hn : n ≤ 9223372036854775807) (hm : m ≤ 9223372036854775807) (hr1 : ∀ r ∈ us, r.length ≤ 9223372036854775807) (hr2 : ∀ r ∈ vs, r.length ≤ 9223372036854775807) (hbad : ¬ (okM us = true ∧ okM vs = true ∧ us.length = vs.length)) :
    Calls Try.prog 53 #[.slice A n c, .slice B m c'] w (Ret (.tuple #[.int .i64 0, .bool false]) w) := by
  have HA := Lib.hid hA
  have HB := Lib.hid hB
  clear hA hB
  cases hous : okM us
  · have hvus : ∀ W, RM W W.heap.size A n us → Calls Try.prog 92 #[.slice A n c] W (Ret (.bool false) W) := fun W h => by have := i_VM A n c us W h hn hr1; rwa [hous] at this
    have HVus := Lib.hid hvus
    clear hvus
    clear hbad hous
    go_enter Try.func53, Try.ntmps53
    go_wp2_with fail
    refine (HVus.out _ HA.out).mono ?_
    rintro e w1 ⟨rfl, hb1⟩
    go_wp2
    go_ret2
    refine ret_mk ?_
    repeat (first | (with_reducible exact Below.refl _ _) | (with_reducible assumption) | (with_reducible refine bl_alloc ?_ _) | (with_reducible refine bl_drew ?_) | (with_reducible refine bl_set ?_ (by simp <;> omega) _) | (with_reducible refine bl_call ?_ (by assumption)))
  · have hvus : ∀ W, RM W W.heap.size A n us → Calls Try.prog 92 #[.slice A n c] W (Ret (.bool true) W) := fun W h => by have := i_VM A n c us W h hn hr1; rwa [hous] at this
    have HVus := Lib.hid hvus
    clear hvus
    cases hovs : okM vs
    · have hvvs : ∀ W, RM W W.heap.size B m vs → Calls Try.prog 92 #[.slice B m c'] W (Ret (.bool false) W) := fun W h => by have := i_VM B m c' vs W h hm hr2; rwa [hovs] at this
      have HVvs := Lib.hid hvvs
      clear hvvs
      clear hbad hous hovs
      go_enter Try.func53, Try.ntmps53
      go_wp2_with fail
      refine (HVus.out _ HA.out).mono ?_
      rintro e w1 ⟨rfl, hb1⟩
      have HW1 := Lib.hid (bl_call (Below.refl _ _) hb1)
      have RB1 := Lib.hid (HB.out.call HW1.out)
      clear hb1
      go_wp2_with fail
      refine (HVvs.out _ RB1.out).mono ?_
      rintro e w2 ⟨rfl, hb2⟩
      have hw2 := bl_call HW1.out hb2
      clear hb2
      go_wp2
      go_ret2
      refine ret_mk ?_
      repeat (first | (with_reducible exact Below.refl _ _) | (with_reducible assumption) | (with_reducible refine bl_alloc ?_ _) | (with_reducible refine bl_drew ?_) | (with_reducible refine bl_set ?_ (by simp <;> omega) _) | (with_reducible refine bl_call ?_ (by assumption)))
    · have hvvs : ∀ W, RM W W.heap.size B m vs → Calls Try.prog 92 #[.slice B m c'] W (Ret (.bool true) W) := fun W h => by have := i_VM B m c' vs W h hm hr2; rwa [hovs] at this
      have HVvs := Lib.hid hvvs
      clear hvvs
      have hne : n ≠ m := fun e => hbad ⟨hous, hovs, by rw [← HA.out.1, ← HB.out.1]; exact e⟩
      clear hbad hous hovs
      have hq : ((n : Int) != (m : Int)) = true := by simp; omega
      clear hne
      go_enter Try.func53, Try.ntmps53
      go_wp2_with fail
      refine (HVus.out _ HA.out).mono ?_
      rintro e w1 ⟨rfl, hb1⟩
      have HW1 := Lib.hid (bl_call (Below.refl _ _) hb1)
      have RB1 := Lib.hid (HB.out.call HW1.out)
      clear hb1
      go_wp2_with fail
      refine (HVvs.out _ RB1.out).mono ?_
      rintro e w2 ⟨rfl, hb2⟩
      have hw2 := bl_call HW1.out hb2
      clear hb2
      go_wp2
      go_ret2
      refine ret_mk ?_
      repeat (first | (with_reducible exact Below.refl _ _) | (with_reducible assumption) | (with_reducible refine bl_alloc ?_ _) | (with_reducible refine bl_drew ?_) | (with_reducible refine bl_set ?_ (by simp <;> omega) _) | (with_reducible refine bl_call ?_ (by assumption)))
set_option maxHeartbeats 4000000 in
theorem i_GPh_ok (A B : Option Addr) (n c c' : Nat) (us vs : List (List DW)) (V : Option Nat) (w : World) (hA : RM w w.heap.size A n us) (hB : RM w w.heap.size B n vs) (hous : okM us = true) (hovs : okM vs = true) (hV : firstP (fun i => fitsN us vs i n) 8 = V) :
    Calls Try.prog 53 #[.slice A n c, .slice B n c'] w (Ret (.tuple #[.int .i64 ((V.getD 0 : Nat) : Int), .bool V.isSome]) w) := by
  have HV := Lib.hid hV
  have hl0 : us.length = n := hA.1.symm
  have hl1 : vs.length = n := hB.1.symm
  have hparts := okM_parts hous
  rw [hl0] at hparts
  obtain ⟨hp, h16, hrows⟩ := hparts
  have hparts' := okM_parts hovs
  rw [hl1] at hparts'
  obtain ⟨-, -, hrows'⟩ := hparts'
  have hr1 : ∀ r ∈ us, r.length ≤ 9223372036854775807 := fun r hr => by have := (hrows r hr).1; omega
  have hr2 : ∀ r ∈ vs, r.length ≤ 9223372036854775807 := fun r hr => by have := (hrows' r hr).1; omega
  have HLU := Lib.hid (fun r hr => (hrows r hr).1)
  have HLV := Lib.hid (fun r hr => (hrows' r hr).1)
  clear hV hrows hrows' hl0 hl1
  have hvus : ∀ W, RM W W.heap.size A n us → Calls Try.prog 92 #[.slice A n c] W (Ret (.bool true) W) := fun W h => by have := i_VM A n c us W h (by omega) hr1; rwa [hous] at this
  have HVus := Lib.hid hvus
  clear hvus
  have hvvs : ∀ W, RM W W.heap.size B n vs → Calls Try.prog 92 #[.slice B n c'] W (Ret (.bool true) W) := fun W h => by have := i_VM B n c' vs W h (by omega) hr2; rwa [hovs] at this
  have HVvs := Lib.hid hvvs
  clear hvvs
  have HA := Lib.hid hA
  have HB := Lib.hid hB
  clear hA hB hous hovs
  have hq : ((n : Int) != (n : Int)) = false := by simp
  go_enter Try.func53, Try.ntmps53
  go_wp2_with fail
  refine (HVus.out _ HA.out).mono ?_
  rintro e w1 ⟨rfl, hb1⟩
  have HW1 := Lib.hid (bl_call (Below.refl _ _) hb1)
  have RB1 := Lib.hid (HB.out.call HW1.out)
  clear hb1
  go_wp2_with fail
  refine (HVvs.out _ RB1.out).mono ?_
  rintro e w2 ⟨rfl, hb2⟩
  have HW2 := Lib.hid (bl_call HW1.out hb2)
  clear hb2 HVus HVvs RB1 HW1
  clear hr1 hr2
  go_wp2
  go_loopw [6] (fun i wr => PhRel w us vs n i wr) (fun i _ => 8 - (intOf i).toNat)
  case atStart => exact ⟨0, by omega, rfl, rfl, HW2.out⟩
  case round =>
    obtain ⟨i, hi, rfl, hnone, hb⟩ := hrel
    have HNO := Lib.hid hnone
    clear hnone HW2
    by_cases hlt : i < 8
    · have hd : decide ((i : Int) < 8) = true := by simp; omega
      obtain ⟨⟨p, q, r, s⟩, hph⟩ : ∃ z, phaseZ (i : Int) = z := ⟨_, rfl⟩
      have HPH := Lib.hid (fun W => i_Phase (i := (i : Int)) W hph)
      have HZ := Lib.hid hph
      clear hph
      have hi0 : (0 : Int) ≤ (i : Int) := by omega
      go_wp2
      go_loopw [7, 32] (fun f j wx => FitRel w us vs i n f j wx) (fun _ j _ => n - (intOf j).toNat)
      case atStart => exact ⟨0, true, by omega, rfl, rfl, rfl, hb⟩
      case round =>
        obtain ⟨k, f, hk, rfl, rfl, hf, hbx⟩ := hrel
        obtain ⟨wo, rfl⟩ : ∃ wo : World, wo = wr := ⟨_, rfl⟩
        have hsx := hbx.size
        have HFK := Lib.hid hf
        clear hf
        by_cases hlk : k < n
        · have hdk : decide ((k : Int) < (n : Int)) = true := by simp; omega
          obtain ⟨b0, off, A1, c1, y, rfl, l0, hdy, c0, hRD⟩ := (HB.out.keep hbx).elem hsx hlk
          obtain ⟨b1, off', A2, c2, x, rfl, l1, hdx, d0, hRX⟩ := (HA.out.keep hbx).elem hsx hlk
          rw [HLV.out y (List.mem_of_getElem? hdy)] at c0 hRD
          rw [HLU.out x (List.mem_of_getElem? hdx)] at d0 hRX
          obtain ⟨ds, ok, hds, hok⟩ : ∃ ds ok, (scaleD y ⟨⟨p, q, r, s⟩, 0⟩).getD [] = ds ∧ (scaleD y ⟨⟨p, q, r, s⟩, 0⟩).isSome = ok := ⟨_, _, rfl, rfl⟩
          have hsc : ∀ W, RD W W.heap.size A1 n y → Calls Try.prog 41 #[.slice A1 n c1, .agg #[.int .i64 p, .int .i64 q, .int .i64 r, .int .i64 s, .int .i64 0]] W (RetV W 29 ds ok) := fun W h => by
            have := i_Scale (c := c1) (p := p) (q := q) (r := r) (s := s) (m := 0) W h (by omega)
            rwa [hds, hok] at this
          have hnext : ∀ b : Bool, (b = true ↔ ds = x) → fitsN us vs i (k + 1) = (f && (ok && b)) := fun b hbb => by
            have e1 : vs.getD k [] = y := by rw [List.getD_eq_getElem?_getD, hdy]; rfl
            have e2 : us.getD k [] = x := by rw [List.getD_eq_getElem?_getD, hdx]; rfl
            show (fitsN us vs i k && fitRow (scaleD (vs.getD k []) ⟨phaseZ (i : Int), 0⟩) (us.getD k [])) = _
            rw [HFK.out, e1, e2, HZ.out]
            cases hsd : scaleD y ⟨⟨p, q, r, s⟩, 0⟩ with
            | none =>
              rw [hsd] at hok
              rw [← hok]
              rfl
            | some v =>
              rw [hsd] at hok hds
              have ev : v = ds := hds
              rw [← hok, ev]
              have : b = decide (ds = x) := by
                rw [Bool.eq_iff_iff, hbb, decide_eq_true_iff]
              rw [this]
              rfl
          have hdl : ok = true → ds.length = n := fun e => by
            rw [e] at hok
            obtain ⟨v, hv⟩ := Option.isSome_iff_exists.1 hok
            rw [hv] at hds
            have ev : v = ds := hds
            rw [← ev, scaleD_len hv]
            exact HLV.out y (List.mem_of_getElem? hdy)
          have hdl0 : ds.length ≤ 16 := by rw [← hds]; exact scaleD_le _ _
          have HSC := Lib.hid hsc
          have HNX := Lib.hid hnext
          have HDL := Lib.hid hdl
          have HRD := Lib.hid (show RD wo.drew wo.drew.heap.size A1 n y from hRD)
          have HRX := Lib.hid (show RD wo.drew wo.drew.heap.size A2 n x from hRX)
          have HBX := Lib.hid (show Below w.heap.size w wo.drew from hbx.drew)
          have i0 : (0 : Int) ≤ (k : Int) := by omega
          have i1 : (k : Int) < (n : Int) := by omega
          have HB0 := Lib.hid hbx
          clear hsc hnext hdl hRD hRX hds hok hdx hdy hbx hb
          obtain ⟨b, hbb⟩ : ∃ b : Bool, b = true ↔ ds = x := by
            by_cases h : ds = x
            · exact ⟨true, by simp [h]⟩
            · exact ⟨false, by simp [h]⟩
          have HNB := Lib.hid (HNX.out b hbb)
          have HBB := Lib.hid hbb
          clear hbb HNX
          go_upto_region 10 with fail
          go_region_held3 (fun w' => w'.cell? ⟨b0, off + k, none⟩ = some (.slice A1 n c1)) (first | (with_reducible exact c0) | go_keep) (first | (go_at_call 23; refine (HPH.out _).mono ?_; rintro e w3 ⟨rfl, hb3⟩; have c0 := (hb3.cell (p := ⟨b0, off + k, none⟩) l0).trans c0; have d0 := (hb3.cell (p := ⟨b1, off' + k, none⟩) l1).trans d0; have l0 := Nat.lt_of_lt_of_le l0 hb3.size; have l1 := Nat.lt_of_lt_of_le l1 hb3.size; have HRD := Lib.hid (HRD.out.call hb3); have HRX := Lib.hid (HRX.out.call hb3); have HBX := Lib.hid (bl_call HBX.out hb3); clear hb3) | (go_at_call 41; refine (HSC.out _ HRD.out).mono ?_; rintro e w4 ⟨A4, c4, rfl, O4, hb4⟩; have c0 := (hb4.cell (p := ⟨b0, off + k, none⟩) l0).trans c0; have d0 := (hb4.cell (p := ⟨b1, off' + k, none⟩) l1).trans d0; have HRX := Lib.hid (HRX.out.call hb4); have HBX := Lib.hid (bl_call HBX.out hb4); have RO := Lib.hid O4.read; clear O4 hb4))
          all_goals
            cases f
            · go_wp2
              go_roundw
              case rel => exact ⟨k + 1, _, by omega, by go_num, rfl, HNB.out, HBX.out⟩
              case measure => simp [intOf]; omega
            · cases ok
              · go_wp2
                go_roundw
                case rel => exact ⟨k + 1, _, by omega, by go_num, rfl, HNB.out, HBX.out⟩
                case measure => simp [intOf]; omega
              · cases b
                · have HSM := Lib.hid (i_same A4 A2 ds.length n c4 c2 ds x false _ HBB.out RO.out HRX.out (by omega) (by omega))
                  go_wp2_with fail
                  refine HSM.out.mono ?_
                  rintro e w5 ⟨rfl, hb5⟩
                  have HB5 := Lib.hid (bl_call HBX.out hb5)
                  clear hb5
                  go_wp2
                  go_roundw
                  case rel => exact ⟨k + 1, _, by omega, by go_num, rfl, HNB.out, HB5.out⟩
                  case measure => simp [intOf]; omega
                · have HSM := Lib.hid (i_same A4 A2 ds.length n c4 c2 ds x true _ HBB.out RO.out HRX.out (by omega) (by omega))
                  go_wp2_with fail
                  refine HSM.out.mono ?_
                  rintro e w5 ⟨rfl, hb5⟩
                  have HB5 := Lib.hid (bl_call HBX.out hb5)
                  clear hb5
                  go_wp2
                  go_roundw
                  case rel => exact ⟨k + 1, _, by omega, by go_num, rfl, HNB.out, HB5.out⟩
                  case measure => simp [intOf]; omega
        · have hdk : decide ((k : Int) < (n : Int)) = false := by simp; omega
          have hkn : k = n := by omega
          have HKN := Lib.hid hkn
          clear hkn
          cases f
          · have HNO' := Lib.hid (firstP_none HNO.out (show (fun i => fitsN us vs i n) i = false by have := HFK.out; rw [HKN.out] at this; exact this))
            go_wp2
            go_roundw
            case rel => exact ⟨i + 1, by omega, by go_num, HNO'.out, hbx⟩
            case measure => simp [intOf]; omega
          · have e : V = some i := HV.out.symm.trans (firstP_more (firstP_hit HNO.out (show (fun i => fitsN us vs i n) i = true by have := HFK.out; rw [HKN.out] at this; exact this)) (by omega))
            subst e
            go_wp2
            go_ret2
            exact ret_mk hbx
    · have hd : decide ((i : Int) < 8) = false := by simp; omega
      have e : V = none := HV.out.symm.trans (by rw [show 8 = i by omega]; exact HNO.out)
      subst e
      go_wp2
      go_ret2
      exact ret_mk hb
theorem i_GPh {A B : Option Addr} {n m c c' : Nat} {us vs : List (List DW)} (w : World) (hA : RM w w.heap.size A n us) (hB : RM w w.heap.size B m vs) (hn : n ≤ 9223372036854775807) (hr1 : ∀ r ∈ us, r.length ≤ 9223372036854775807) (hm : m ≤ 9223372036854775807) (hr2 : ∀ r ∈ vs, r.length ≤ 9223372036854775807) :
    Calls Try.prog 53 #[.slice A n c, .slice B m c'] w (Ret (.tuple #[.int .i64 (((gphD us vs).getD 0 : Nat) : Int), .bool (gphD us vs).isSome]) w) := by
  by_cases h : okM us = true ∧ okM vs = true ∧ us.length = vs.length
  · obtain rfl : m = n := by rw [hA.1, hB.1]; exact h.2.2.symm
    have e : gphD us vs = firstP (fun i => fitsN us vs i m) 8 := by unfold gphD; rw [if_pos h, ← hA.1]
    exact i_GPh_ok A B m c c' us vs _ w hA hB h.1 h.2.1 e.symm
  · have e : gphD us vs = none := by unfold gphD; rw [if_neg h]
    rw [e]
    exact i_GPh_bad A B n m c c' us vs w hA hB hn hm hr1 hr2 h
set_option maxHeartbeats 400000 in
theorem s_GPh_bad (A B : Option Addr) (n m c c' : Nat) (us vs : List (List DW)) (w : World) (hA : RM w w.heap.size A n us) (hB : RM w w.heap.size B m vs) (hn : n ≤ 9223372036854775807) (hm : m ≤ 9223372036854775807) (hr1 : ∀ r ∈ us, r.length ≤ 9223372036854775807) (hr2 : ∀ r ∈ vs, r.length ≤ 9223372036854775807) (hbad : ¬ (okM us = true ∧ okM vs = true ∧ us.length = vs.length)) :
    Calls Try.prog 51 #[.slice A n c, .slice B m c'] w (Ret (.tuple #[.int .i64 0, .bool false]) w) := by
  have HA := Lib.hid hA
  have HB := Lib.hid hB
  clear hA hB
  cases hous : okM us
  · have hvus : ∀ W, RM W W.heap.size A n us → Calls Try.prog 91 #[.slice A n c] W (Ret (.bool false) W) := fun W h => by have := s_VM A n c us W h hn hr1; rwa [hous] at this
    have HVus := Lib.hid hvus
    clear hvus
    clear hbad hous
    go_enter Try.func51, Try.ntmps51
    go_wp2_with fail
    refine (HVus.out _ HA.out).mono ?_
    rintro e w1 ⟨rfl, hb1⟩
    go_wp2
    go_ret2
    refine ret_mk ?_
    repeat (first | (with_reducible exact Below.refl _ _) | (with_reducible assumption) | (with_reducible refine bl_alloc ?_ _) | (with_reducible refine bl_drew ?_) | (with_reducible refine bl_set ?_ (by simp <;> omega) _) | (with_reducible refine bl_call ?_ (by assumption)))
  · have hvus : ∀ W, RM W W.heap.size A n us → Calls Try.prog 91 #[.slice A n c] W (Ret (.bool true) W) := fun W h => by have := s_VM A n c us W h hn hr1; rwa [hous] at this
    have HVus := Lib.hid hvus
    clear hvus
    cases hovs : okM vs
    · have hvvs : ∀ W, RM W W.heap.size B m vs → Calls Try.prog 91 #[.slice B m c'] W (Ret (.bool false) W) := fun W h => by have := s_VM B m c' vs W h hm hr2; rwa [hovs] at this
      have HVvs := Lib.hid hvvs
      clear hvvs
      clear hbad hous hovs
      go_enter Try.func51, Try.ntmps51
      go_wp2_with fail
      refine (HVus.out _ HA.out).mono ?_
      rintro e w1 ⟨rfl, hb1⟩
      have HW1 := Lib.hid (bl_call (Below.refl _ _) hb1)
      have RB1 := Lib.hid (HB.out.call HW1.out)
      clear hb1
      go_wp2_with fail
      refine (HVvs.out _ RB1.out).mono ?_
      rintro e w2 ⟨rfl, hb2⟩
      have hw2 := bl_call HW1.out hb2
      clear hb2
      go_wp2
      go_ret2
      refine ret_mk ?_
      repeat (first | (with_reducible exact Below.refl _ _) | (with_reducible assumption) | (with_reducible refine bl_alloc ?_ _) | (with_reducible refine bl_drew ?_) | (with_reducible refine bl_set ?_ (by simp <;> omega) _) | (with_reducible refine bl_call ?_ (by assumption)))
    · have hvvs : ∀ W, RM W W.heap.size B m vs → Calls Try.prog 91 #[.slice B m c'] W (Ret (.bool true) W) := fun W h => by have := s_VM B m c' vs W h hm hr2; rwa [hovs] at this
      have HVvs := Lib.hid hvvs
      clear hvvs
      have hne : n ≠ m := fun e => hbad ⟨hous, hovs, by rw [← HA.out.1, ← HB.out.1]; exact e⟩
      clear hbad hous hovs
      have hq : ((n : Int) != (m : Int)) = true := by simp; omega
      clear hne
      go_enter Try.func51, Try.ntmps51
      go_wp2_with fail
      refine (HVus.out _ HA.out).mono ?_
      rintro e w1 ⟨rfl, hb1⟩
      have HW1 := Lib.hid (bl_call (Below.refl _ _) hb1)
      have RB1 := Lib.hid (HB.out.call HW1.out)
      clear hb1
      go_wp2_with fail
      refine (HVvs.out _ RB1.out).mono ?_
      rintro e w2 ⟨rfl, hb2⟩
      have hw2 := bl_call HW1.out hb2
      clear hb2
      go_wp2
      go_ret2
      refine ret_mk ?_
      repeat (first | (with_reducible exact Below.refl _ _) | (with_reducible assumption) | (with_reducible refine bl_alloc ?_ _) | (with_reducible refine bl_drew ?_) | (with_reducible refine bl_set ?_ (by simp <;> omega) _) | (with_reducible refine bl_call ?_ (by assumption)))
set_option maxHeartbeats 4000000 in
theorem s_GPh_ok (A B : Option Addr) (n c c' : Nat) (us vs : List (List DW)) (V : Option Nat) (w : World) (hA : RM w w.heap.size A n us) (hB : RM w w.heap.size B n vs) (hous : okM us = true) (hovs : okM vs = true) (hV : firstP (fun i => fitsN us vs i n) 8 = V) :
    Calls Try.prog 51 #[.slice A n c, .slice B n c'] w (Ret (.tuple #[.int .i64 ((V.getD 0 : Nat) : Int), .bool V.isSome]) w) := by
  have HV := Lib.hid hV
  have hl0 : us.length = n := hA.1.symm
  have hl1 : vs.length = n := hB.1.symm
  have hparts := okM_parts hous
  rw [hl0] at hparts
  obtain ⟨hp, h16, hrows⟩ := hparts
  have hparts' := okM_parts hovs
  rw [hl1] at hparts'
  obtain ⟨-, -, hrows'⟩ := hparts'
  have hr1 : ∀ r ∈ us, r.length ≤ 9223372036854775807 := fun r hr => by have := (hrows r hr).1; omega
  have hr2 : ∀ r ∈ vs, r.length ≤ 9223372036854775807 := fun r hr => by have := (hrows' r hr).1; omega
  have HLU := Lib.hid (fun r hr => (hrows r hr).1)
  have HLV := Lib.hid (fun r hr => (hrows' r hr).1)
  clear hV hrows hrows' hl0 hl1
  have hvus : ∀ W, RM W W.heap.size A n us → Calls Try.prog 91 #[.slice A n c] W (Ret (.bool true) W) := fun W h => by have := s_VM A n c us W h (by omega) hr1; rwa [hous] at this
  have HVus := Lib.hid hvus
  clear hvus
  have hvvs : ∀ W, RM W W.heap.size B n vs → Calls Try.prog 91 #[.slice B n c'] W (Ret (.bool true) W) := fun W h => by have := s_VM B n c' vs W h (by omega) hr2; rwa [hovs] at this
  have HVvs := Lib.hid hvvs
  clear hvvs
  have HA := Lib.hid hA
  have HB := Lib.hid hB
  clear hA hB hous hovs
  have hq : ((n : Int) != (n : Int)) = false := by simp
  go_enter Try.func51, Try.ntmps51
  go_wp2_with fail
  refine (HVus.out _ HA.out).mono ?_
  rintro e w1 ⟨rfl, hb1⟩
  have HW1 := Lib.hid (bl_call (Below.refl _ _) hb1)
  have RB1 := Lib.hid (HB.out.call HW1.out)
  clear hb1
  go_wp2_with fail
  refine (HVvs.out _ RB1.out).mono ?_
  rintro e w2 ⟨rfl, hb2⟩
  have HW2 := Lib.hid (bl_call HW1.out hb2)
  clear hb2 HVus HVvs RB1 HW1
  clear hr1 hr2
  go_wp2
  go_loopw [6] (fun i wr => PhRel w us vs n i wr) (fun i _ => 8 - (intOf i).toNat)
  case atStart => exact ⟨0, by omega, rfl, rfl, HW2.out⟩
  case round =>
    obtain ⟨i, hi, rfl, hnone, hb⟩ := hrel
    have HNO := Lib.hid hnone
    clear hnone HW2
    by_cases hlt : i < 8
    · have hd : decide ((i : Int) < 8) = true := by simp; omega
      obtain ⟨⟨p, q, r, s⟩, hph⟩ : ∃ z, phaseZ (i : Int) = z := ⟨_, rfl⟩
      have HPH := Lib.hid (fun W => s_Phase (i := (i : Int)) W hph)
      have HZ := Lib.hid hph
      clear hph
      have hi0 : (0 : Int) ≤ (i : Int) := by omega
      go_wp2
      go_loopw [7, 8] (fun f j wx => FitRel w us vs i n f j wx) (fun _ j _ => n - (intOf j).toNat)
      case atStart => exact ⟨0, true, by omega, rfl, rfl, rfl, hb⟩
      case round =>
        obtain ⟨k, f, hk, rfl, rfl, hf, hbx⟩ := hrel
        obtain ⟨wo, rfl⟩ : ∃ wo : World, wo = wr := ⟨_, rfl⟩
        have hsx := hbx.size
        have HFK := Lib.hid hf
        clear hf
        by_cases hlk : k < n
        · have hdk : decide ((k : Int) < (n : Int)) = true := by simp; omega
          obtain ⟨b0, off, A1, c1, y, rfl, l0, hdy, c0, hRD⟩ := (HB.out.keep hbx).elem hsx hlk
          obtain ⟨b1, off', A2, c2, x, rfl, l1, hdx, d0, hRX⟩ := (HA.out.keep hbx).elem hsx hlk
          rw [HLV.out y (List.mem_of_getElem? hdy)] at c0 hRD
          rw [HLU.out x (List.mem_of_getElem? hdx)] at d0 hRX
          obtain ⟨ds, ok, hds, hok⟩ : ∃ ds ok, (scaleD y ⟨⟨p, q, r, s⟩, 0⟩).getD [] = ds ∧ (scaleD y ⟨⟨p, q, r, s⟩, 0⟩).isSome = ok := ⟨_, _, rfl, rfl⟩
          have hsc : ∀ W, RD W W.heap.size A1 n y → Calls Try.prog 38 #[.slice A1 n c1, .agg #[.int .i64 p, .int .i64 q, .int .i64 r, .int .i64 s, .int .i64 0]] W (RetV W 29 ds ok) := fun W h => by
            have := s_Scale (c := c1) (p := p) (q := q) (r := r) (s := s) (m := 0) W h (by omega)
            rwa [hds, hok] at this
          have hnext : ∀ b : Bool, (b = true ↔ ds = x) → fitsN us vs i (k + 1) = (f && (ok && b)) := fun b hbb => by
            have e1 : vs.getD k [] = y := by rw [List.getD_eq_getElem?_getD, hdy]; rfl
            have e2 : us.getD k [] = x := by rw [List.getD_eq_getElem?_getD, hdx]; rfl
            show (fitsN us vs i k && fitRow (scaleD (vs.getD k []) ⟨phaseZ (i : Int), 0⟩) (us.getD k [])) = _
            rw [HFK.out, e1, e2, HZ.out]
            cases hsd : scaleD y ⟨⟨p, q, r, s⟩, 0⟩ with
            | none =>
              rw [hsd] at hok
              rw [← hok]
              rfl
            | some v =>
              rw [hsd] at hok hds
              have ev : v = ds := hds
              rw [← hok, ev]
              have : b = decide (ds = x) := by
                rw [Bool.eq_iff_iff, hbb, decide_eq_true_iff]
              rw [this]
              rfl
          have hdl : ok = true → ds.length = n := fun e => by
            rw [e] at hok
            obtain ⟨v, hv⟩ := Option.isSome_iff_exists.1 hok
            rw [hv] at hds
            have ev : v = ds := hds
            rw [← ev, scaleD_len hv]
            exact HLV.out y (List.mem_of_getElem? hdy)
          have hdl0 : ds.length ≤ 16 := by rw [← hds]; exact scaleD_le _ _
          have HSC := Lib.hid hsc
          have HNX := Lib.hid hnext
          have HDL := Lib.hid hdl
          have HRD := Lib.hid (show RD wo.drew wo.drew.heap.size A1 n y from hRD)
          have HRX := Lib.hid (show RD wo.drew wo.drew.heap.size A2 n x from hRX)
          have HBX := Lib.hid (show Below w.heap.size w wo.drew from hbx.drew)
          have i0 : (0 : Int) ≤ (k : Int) := by omega
          have i1 : (k : Int) < (n : Int) := by omega
          have HB0 := Lib.hid hbx
          clear hsc hnext hdl hRD hRX hds hok hdx hdy hbx hb
          obtain ⟨b, hbb⟩ : ∃ b : Bool, b = true ↔ ds = x := by
            by_cases h : ds = x
            · exact ⟨true, by simp [h]⟩
            · exact ⟨false, by simp [h]⟩
          have HNB := Lib.hid (HNX.out b hbb)
          have HBB := Lib.hid hbb
          clear hbb HNX
          rcases Bool.eq_false_or_eq_true f with rfl | rfl
          · go_upto_region 10 with fail
            go_region_held3 (fun w' => w'.cell? ⟨b0, off + k, none⟩ = some (.slice A1 n c1)) (first | (with_reducible exact c0) | go_keep) (first | (go_at_call 78; refine (HPH.out _).mono ?_; rintro e w3 ⟨rfl, hb3⟩; have c0 := (hb3.cell (p := ⟨b0, off + k, none⟩) l0).trans c0; have d0 := (hb3.cell (p := ⟨b1, off' + k, none⟩) l1).trans d0; have l0 := Nat.lt_of_lt_of_le l0 hb3.size; have l1 := Nat.lt_of_lt_of_le l1 hb3.size; have HRD := Lib.hid (HRD.out.call hb3); have HRX := Lib.hid (HRX.out.call hb3); have HBX := Lib.hid (bl_call HBX.out hb3); clear hb3) | (go_at_call 38; refine (HSC.out _ HRD.out).mono ?_; rintro e w4 ⟨A4, c4, rfl, O4, hb4⟩; have c0 := (hb4.cell (p := ⟨b0, off + k, none⟩) l0).trans c0; have d0 := (hb4.cell (p := ⟨b1, off' + k, none⟩) l1).trans d0; have HRX := Lib.hid (HRX.out.call hb4); have HBX := Lib.hid (bl_call HBX.out hb4); have RO := Lib.hid O4.read; clear O4 hb4))
            all_goals
              cases ok
              · go_wp2
                go_roundw
                case rel => exact ⟨k + 1, _, by omega, by go_num, rfl, HNB.out, HBX.out⟩
                case measure => simp [intOf]; omega
              · cases b
                · have HSM := Lib.hid (s_same A4 A2 ds.length n c4 c2 ds x false _ HBB.out RO.out HRX.out (by omega) (by omega))
                  go_wp2_with fail
                  refine HSM.out.mono ?_
                  rintro e w5 ⟨rfl, hb5⟩
                  have HB5 := Lib.hid (bl_call HBX.out hb5)
                  clear hb5
                  go_wp2
                  go_roundw
                  case rel => exact ⟨k + 1, _, by omega, by go_num, rfl, HNB.out, HB5.out⟩
                  case measure => simp [intOf]; omega
                · have HSM := Lib.hid (s_same A4 A2 ds.length n c4 c2 ds x true _ HBB.out RO.out HRX.out (by omega) (by omega))
                  go_wp2_with fail
                  refine HSM.out.mono ?_
                  rintro e w5 ⟨rfl, hb5⟩
                  have HB5 := Lib.hid (bl_call HBX.out hb5)
                  clear hb5
                  go_wp2
                  go_roundw
                  case rel => exact ⟨k + 1, _, by omega, by go_num, rfl, HNB.out, HB5.out⟩
                  case measure => simp [intOf]; omega
          · have HNO' := Lib.hid (firstP_none HNO.out (show (fun i => fitsN us vs i n) i = false from fitsN_stop HFK.out hk))
            have HBZ := HB0.out
            clear HNB
            go_wp2
            go_roundw
            case rel => exact ⟨i + 1, by omega, by go_num, HNO'.out, HBZ⟩
            case measure => simp [intOf]; omega
        · have hdk : decide ((k : Int) < (n : Int)) = false := by simp; omega
          have hkn : k = n := by omega
          have HKN := Lib.hid hkn
          clear hkn
          cases f
          · have HNO' := Lib.hid (firstP_none HNO.out (show (fun i => fitsN us vs i n) i = false by have := HFK.out; rw [HKN.out] at this; exact this))
            go_wp2
            go_roundw
            case rel => exact ⟨i + 1, by omega, by go_num, HNO'.out, hbx⟩
            case measure => simp [intOf]; omega
          · have e : V = some i := HV.out.symm.trans (firstP_more (firstP_hit HNO.out (show (fun i => fitsN us vs i n) i = true by have := HFK.out; rw [HKN.out] at this; exact this)) (by omega))
            subst e
            go_wp2
            go_ret2
            exact ret_mk hbx
    · have hd : decide ((i : Int) < 8) = false := by simp; omega
      have e : V = none := HV.out.symm.trans (by rw [show 8 = i by omega]; exact HNO.out)
      subst e
      go_wp2
      go_ret2
      exact ret_mk hb
theorem s_GPh {A B : Option Addr} {n m c c' : Nat} {us vs : List (List DW)} (w : World) (hA : RM w w.heap.size A n us) (hB : RM w w.heap.size B m vs) (hn : n ≤ 9223372036854775807) (hr1 : ∀ r ∈ us, r.length ≤ 9223372036854775807) (hm : m ≤ 9223372036854775807) (hr2 : ∀ r ∈ vs, r.length ≤ 9223372036854775807) :
    Calls Try.prog 51 #[.slice A n c, .slice B m c'] w (Ret (.tuple #[.int .i64 (((gphD us vs).getD 0 : Nat) : Int), .bool (gphD us vs).isSome]) w) := by
  by_cases h : okM us = true ∧ okM vs = true ∧ us.length = vs.length
  · obtain rfl : m = n := by rw [hA.1, hB.1]; exact h.2.2.symm
    have e : gphD us vs = firstP (fun i => fitsN us vs i m) 8 := by unfold gphD; rw [if_pos h, ← hA.1]
    exact s_GPh_ok A B m c c' us vs _ w hA hB h.1 h.2.1 e.symm
  · have e : gphD us vs = none := by unfold gphD; rw [if_neg h]
    rw [e]
    exact s_GPh_bad A B n m c c' us vs w hA hB hn hm hr1 hr2 h
end Go.Proofs.Ytaokfppadfoniaa
