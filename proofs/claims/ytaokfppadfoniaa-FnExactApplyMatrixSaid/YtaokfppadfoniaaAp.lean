/- Contracts: matrices applied. -/
import Derived.Test.YtaokfppadfoniaaVc3
import Derived.Test.YtaokfppadfoniaaVec2
namespace Go.Proofs.Ytaokfppadfoniaa
open Go.RowKit
set_option linter.unusedVariables false
theorem RM.elem {w : World} {B : Nat} {A : Option Addr} {n : Nat} {rows : List (List DW)} (h : RM w B A n rows) (hB : B ≤ w.heap.size) {i : Nat} (hi : i < n) :
    ∃ b off A' c' r, A = some ⟨b, off, none⟩ ∧ b < w.heap.size ∧ rows[i]? = some r ∧ w.cell? ⟨b, off + i, none⟩ = some (.slice A' r.length c') ∧ RD w w.heap.size A' r.length r := by
  obtain ⟨b, off, A', c', r, h1, h2, h3, h4, h5⟩ := h.at hi
  exact ⟨b, off, A', c', r, h1, Nat.lt_of_lt_of_le h2 hB, h3, h4, h5.more hB⟩
set_option maxHeartbeats 400000 in
theorem i_Apply_bad (A B : Option Addr) (n m c c' : Nat) (us : List (List DW)) (vs : List DW) (w : World) (hA : RM w w.heap.size A n us) (hB : RD w w.heap.size B m vs) (hn : n ≤ 9223372036854775807) (hm : m ≤ 9223372036854775807) (hr1 : ∀ r ∈ us, r.length ≤ 9223372036854775807) (hbad : ¬ (okM us = true ∧ okS vs = true ∧ us.length = vs.length)) :
    Calls Try.prog 58 #[.slice A n c, .slice B m c'] w (RetV w 29 [] false) := by
  have HA := Lib.hid hA
  have HB := Lib.hid hB
  clear hA hB
  cases hous : okM us
  · have hvus : ∀ W, RM W W.heap.size A n us → Calls Try.prog 92 #[.slice A n c] W (Ret (.bool false) W) := fun W h => by have := i_VM A n c us W h hn hr1; rwa [hous] at this
    have HVus := Lib.hid hvus
    clear hvus
    clear hbad hous
    go_enter Try.func58, Try.ntmps58
    go_wp2_with fail
    refine (HVus.out _ HA.out).mono ?_
    rintro e w1 ⟨rfl, hb1⟩
    go_wp2
    go_ret2
    refine ⟨none, 0, rfl, OwnS.nil, ?_⟩
    repeat (first | (with_reducible exact Below.refl _ _) | (with_reducible assumption) | (with_reducible refine bl_alloc ?_ _) | (with_reducible refine bl_drew ?_) | (with_reducible refine bl_set ?_ (by simp <;> omega) _) | (with_reducible refine bl_call ?_ (by assumption)))
  · have hvus : ∀ W, RM W W.heap.size A n us → Calls Try.prog 92 #[.slice A n c] W (Ret (.bool true) W) := fun W h => by have := i_VM A n c us W h hn hr1; rwa [hous] at this
    have HVus := Lib.hid hvus
    clear hvus
    cases hovs : okS vs
    · have hvvs : ∀ W, RD W W.heap.size B m vs → Calls Try.prog 35 #[.slice B m c'] W (Ret (.bool false) W) := fun W h => by have := i_VS B m c' vs W h hm; rwa [hovs] at this
      have HVvs := Lib.hid hvvs
      clear hvvs
      clear hbad hous hovs
      go_enter Try.func58, Try.ntmps58
      go_wp2_with fail
      refine (HVus.out _ HA.out).mono ?_
      rintro e w1 ⟨rfl, hb1⟩
      have HW1 := Lib.hid (bl_call (Below.refl _ _) hb1)
      have RB1 := Lib.hid (HB.out.call HW1.out)
      clear hb1
      go_wp2_with fail
      refine (HVvs.out _ RB1.out).mono ?_
      rintro e w2 ⟨rfl, hb2⟩
      have hw2 := bl_call HW1.out hb2
      clear hb2
      go_wp2
      go_ret2
      refine ⟨none, 0, rfl, OwnS.nil, ?_⟩
      repeat (first | (with_reducible exact Below.refl _ _) | (with_reducible assumption) | (with_reducible refine bl_alloc ?_ _) | (with_reducible refine bl_drew ?_) | (with_reducible refine bl_set ?_ (by simp <;> omega) _) | (with_reducible refine bl_call ?_ (by assumption)))
    · have hvvs : ∀ W, RD W W.heap.size B m vs → Calls Try.prog 35 #[.slice B m c'] W (Ret (.bool true) W) := fun W h => by have := i_VS B m c' vs W h hm; rwa [hovs] at this
      have HVvs := Lib.hid hvvs
      clear hvvs
      have hne : n ≠ m := fun e => hbad ⟨hous, hovs, by rw [← HA.out.1, ← HB.out.1]; exact e⟩
      clear hbad hous hovs
      have hq : ((n : Int) != (m : Int)) = true := by simp; omega
      clear hne
      go_enter Try.func58, Try.ntmps58
      go_wp2_with fail
      refine (HVus.out _ HA.out).mono ?_
      rintro e w1 ⟨rfl, hb1⟩
      have HW1 := Lib.hid (bl_call (Below.refl _ _) hb1)
      have RB1 := Lib.hid (HB.out.call HW1.out)
      clear hb1
      go_wp2_with fail
      refine (HVvs.out _ RB1.out).mono ?_
      rintro e w2 ⟨rfl, hb2⟩
      have hw2 := bl_call HW1.out hb2
      clear hb2
      go_wp2
      go_ret2
      refine ⟨none, 0, rfl, OwnS.nil, ?_⟩
      repeat (first | (with_reducible exact Below.refl _ _) | (with_reducible assumption) | (with_reducible refine bl_alloc ?_ _) | (with_reducible refine bl_drew ?_) | (with_reducible refine bl_set ?_ (by simp <;> omega) _) | (with_reducible refine bl_call ?_ (by assumption)))
set_option maxHeartbeats 2000000 in
theorem i_Apply_ok (A B : Option Addr) (n c c' : Nat) (us : List (List DW)) (vs : List DW) (V : Option (List DW)) (w : World) (hA : RM w w.heap.size A n us) (hB : RD w w.heap.size B n vs) (hous : okM us = true) (hovs : okS vs = true) (hV : mapAll (fun i => (us[i]?).bind fun r => dotN r vs n) n = V) :
    Calls Try.prog 58 #[.slice A n c, .slice B n c'] w (RetV w 29 (V.getD []) V.isSome) := by
  have HV := Lib.hid hV
  have hl0 : us.length = n := hA.1.symm
  have hparts := okM_parts hous
  rw [hl0] at hparts
  obtain ⟨hp, h16, hrows⟩ := hparts
  have HROW := Lib.hid hrows
  have HOV := Lib.hid (okS_parts hovs).2
  have hr1 : ∀ r ∈ us, r.length ≤ 9223372036854775807 := fun r hr => by have := (hrows r hr).1; omega
  clear hV hrows hl0
  have hvus : ∀ W, RM W W.heap.size A n us → Calls Try.prog 92 #[.slice A n c] W (Ret (.bool true) W) := fun W h => by have := i_VM A n c us W h (by omega) hr1; rwa [hous] at this
  have HVus := Lib.hid hvus
  clear hvus
  have hvvs : ∀ W, RD W W.heap.size B n vs → Calls Try.prog 35 #[.slice B n c'] W (Ret (.bool true) W) := fun W h => by have := i_VS B n c' vs W h (by omega); rwa [hovs] at this
  have HVvs := Lib.hid hvvs
  clear hvvs
  have HA := Lib.hid hA
  have HB := Lib.hid hB
  clear hA hB hous hovs
  have hq : ((n : Int) != (n : Int)) = false := by simp
  go_enter Try.func58, Try.ntmps58
  go_wp2_with fail
  refine (HVus.out _ HA.out).mono ?_
  rintro e w1 ⟨rfl, hb1⟩
  have HW1 := Lib.hid (bl_call (Below.refl _ _) hb1)
  have RB1 := Lib.hid (HB.out.call HW1.out)
  clear hb1
  go_wp2_with fail
  refine (HVvs.out _ RB1.out).mono ?_
  rintro e w2 ⟨rfl, hb2⟩
  have HW2 := Lib.hid (bl_call HW1.out hb2)
  clear hb2 HVus HVvs RB1 HW1
  clear hr1
  go_wp2
  go_loopw [6, 29] (fun v i wr => MapRel w n (fun i => (us[i]?).bind fun r => dotN r vs n) v i wr) (fun _ i _ => n - (intOf i).toNat)
  case atStart => exact ⟨0, [], by omega, rfl, rfl, OutS.start w2 _ _ _ HW2.out.size rfl, bl_alloc HW2.out _, by have := HW2.out.size; simp; omega⟩
  case round =>
    obtain ⟨j, o, hj, rfl, hm, hO, hb, hs⟩ := hrel
    have HO := Lib.hid hO
    have HM := Lib.hid hm
    clear hO hm HW2
    by_cases hlt : j < n
    · have hd : decide ((j : Int) < (n : Int)) = true := by simp; omega
      obtain ⟨b0, off, A1, c1, r, rfl, hl0, hdx, c0, hRD⟩ := (HA.out.keep hb).elem hs hlt
      have HDX := Lib.hid hdx
      have hmem := HROW.out r (List.mem_of_getElem? hdx)
      rw [hmem.1] at c0 hRD
      have HRD := Lib.hid hRD
      have HOKR := Lib.hid hmem.2
      have HRB := Lib.hid ((HB.out.keep hb).more hs)
      clear hdx hmem hRD
      obtain ⟨x, y, z, t, l, ok, hV, hT, hF⟩ := outV_parts (dotN r vs n)
      have HVV := Lib.hid hV.symm
      have HT := Lib.hid (fun (e : ok = true) => show ((us[j]?).bind fun r => dotN r vs n) = some ⟨⟨x, y, z, t⟩, l⟩ by rw [HDX.out]; exact hT e)
      have HF := Lib.hid (fun (e : ok = false) => show ((us[j]?).bind fun r => dotN r vs n) = none by rw [HDX.out]; exact (hF e).1)
      clear hV hT hF
      have i0 : (0 : Int) ≤ (j : Int) := by omega
      have i1 : (j : Int) < (n : Int) := by omega
      go_wp2_with fail
      refine (i_dot A1 B n c1 c' r vs _ _ HRD.out HRB.out h16 HVV.out).mono ?_
      rintro e w3 ⟨rfl, hb3⟩
      have hs3 : wr.heap.size ≤ w3.heap.size := hb3.size
      have HB3 := Lib.hid (bl_call hb hb3)
      have HO3 := Lib.hid (HO.out.call hb3)
      clear hb3
      cases ok
      · have e : V = none := HV.out.symm.trans (mapAll_stop (k := j) (HF.out rfl) hlt)
        subst e
        have HBB := HB3.out
        go_wp2
        go_ret2
        refine ⟨none, 0, rfl, OwnS.nil, ?_⟩
        repeat (first | (with_reducible exact Below.refl _ _) | (with_reducible assumption) | (with_reducible refine bl_alloc ?_ _) | (with_reducible refine bl_drew ?_) | (with_reducible refine bl_set ?_ (by simp <;> omega) _) | (with_reducible refine bl_call ?_ (by assumption)))
      · have HS := Lib.hid (mapAll_succ HM.out (HT.out rfl))
        have hl := mapAll_len HM.out
        have hl' : o.length ≤ 2000000 := by omega
        clear hl
        go_wp2_with (at_builtin; refine app_step _ rfl (.tmp 41) (.tmp 43) rfl w.heap.size _ _ rfl ((HO3.out.alloc _).alloc _) (w3.heap.size + 1) x y z t l rfl (Blk.new2 w3 _ _ _ _) hl' (by simp; omega) ?_; intro v' w' hO' hg' hrow')
        go_roundw
        case rel =>
          have hz := hg'.size
          refine ⟨j + 1, _, by omega, by go_num, HS.out, hO', below_grown (bl_alloc (bl_alloc HB3.out _) _) hg' hrow' (by simp; omega), ?_⟩
          simp at hz
          omega
        case measure => simp [intOf]; omega
    · have hd : decide ((j : Int) < (n : Int)) = false := by simp; omega
      have e : V = some o := HV.out.symm.trans (by rw [show n = j by omega] at HM ⊢; exact HM.out)
      subst e
      go_wp2
      go_ret2
      obtain ⟨A', c', rfl, hA⟩ := HO.out.slice
      exact ⟨A', c', rfl, hA, hb⟩
theorem i_Apply {A B : Option Addr} {n m c c' : Nat} {us : List (List DW)} {vs : List DW} (w : World) (hA : RM w w.heap.size A n us) (hB : RD w w.heap.size B m vs) (hn : n ≤ 9223372036854775807) (hr1 : ∀ r ∈ us, r.length ≤ 9223372036854775807) (hm : m ≤ 9223372036854775807) :
    Calls Try.prog 58 #[.slice A n c, .slice B m c'] w (RetV w 29 ((applyD us vs).getD []) (applyD us vs).isSome) := by
  by_cases h : okM us = true ∧ okS vs = true ∧ us.length = vs.length
  · obtain rfl : m = n := by rw [hA.1, hB.1]; exact h.2.2.symm
    refine i_Apply_ok A B m c c' us vs _ w hA hB h.1 h.2.1 ?_
    rw [applyD_some h, ← hA.1]
  · have e : applyD us vs = none := by unfold applyD; rw [if_neg h]
    rw [e]
    exact i_Apply_bad A B n m c c' us vs w hA hB hn hm hr1 h
set_option maxHeartbeats 400000 in
theorem s_Apply_bad (A B : Option Addr) (n m c c' : Nat) (us : List (List DW)) (vs : List DW) (w : World) (hA : RM w w.heap.size A n us) (hB : RD w w.heap.size B m vs) (hn : n ≤ 9223372036854775807) (hm : m ≤ 9223372036854775807) (hr1 : ∀ r ∈ us, r.length ≤ 9223372036854775807) (hbad : ¬ (okM us = true ∧ okS vs = true ∧ us.length = vs.length)) :
    Calls Try.prog 57 #[.slice A n c, .slice B m c'] w (RetV w 29 [] false) := by
  have HA := Lib.hid hA
  have HB := Lib.hid hB
  clear hA hB
  cases hous : okM us
  · have hvus : ∀ W, RM W W.heap.size A n us → Calls Try.prog 91 #[.slice A n c] W (Ret (.bool false) W) := fun W h => by have := s_VM A n c us W h hn hr1; rwa [hous] at this
    have HVus := Lib.hid hvus
    clear hvus
    clear hbad hous
    go_enter Try.func57, Try.ntmps57
    go_wp2_with fail
    refine (HVus.out _ HA.out).mono ?_
    rintro e w1 ⟨rfl, hb1⟩
    go_wp2
    go_ret2
    refine ⟨_, _, rfl, OwnS.nil, ?_⟩
    repeat (first | (with_reducible exact Below.refl _ _) | (with_reducible assumption) | (with_reducible refine bl_alloc ?_ _) | (with_reducible refine bl_drew ?_) | (with_reducible refine bl_set ?_ (by simp <;> omega) _) | (with_reducible refine bl_call ?_ (by assumption)))
  · have hvus : ∀ W, RM W W.heap.size A n us → Calls Try.prog 91 #[.slice A n c] W (Ret (.bool true) W) := fun W h => by have := s_VM A n c us W h hn hr1; rwa [hous] at this
    have HVus := Lib.hid hvus
    clear hvus
    cases hovs : okS vs
    · have hvvs : ∀ W, RD W W.heap.size B m vs → Calls Try.prog 84 #[.slice B m c'] W (Ret (.bool false) W) := fun W h => by have := s_VS B m c' vs W h hm; rwa [hovs] at this
      have HVvs := Lib.hid hvvs
      clear hvvs
      clear hbad hous hovs
      go_enter Try.func57, Try.ntmps57
      go_wp2_with fail
      refine (HVus.out _ HA.out).mono ?_
      rintro e w1 ⟨rfl, hb1⟩
      have HW1 := Lib.hid (bl_call (Below.refl _ _) hb1)
      have RB1 := Lib.hid (HB.out.call HW1.out)
      clear hb1
      go_wp2_with fail
      refine (HVvs.out _ RB1.out).mono ?_
      rintro e w2 ⟨rfl, hb2⟩
      have hw2 := bl_call HW1.out hb2
      clear hb2
      go_wp2
      go_ret2
      refine ⟨_, _, rfl, OwnS.nil, ?_⟩
      repeat (first | (with_reducible exact Below.refl _ _) | (with_reducible assumption) | (with_reducible refine bl_alloc ?_ _) | (with_reducible refine bl_drew ?_) | (with_reducible refine bl_set ?_ (by simp <;> omega) _) | (with_reducible refine bl_call ?_ (by assumption)))
    · have hvvs : ∀ W, RD W W.heap.size B m vs → Calls Try.prog 84 #[.slice B m c'] W (Ret (.bool true) W) := fun W h => by have := s_VS B m c' vs W h hm; rwa [hovs] at this
      have HVvs := Lib.hid hvvs
      clear hvvs
      have hne : n ≠ m := fun e => hbad ⟨hous, hovs, by rw [← HA.out.1, ← HB.out.1]; exact e⟩
      clear hbad hous hovs
      have hq : ((n : Int) != (m : Int)) = true := by simp; omega
      clear hne
      go_enter Try.func57, Try.ntmps57
      go_wp2_with fail
      refine (HVus.out _ HA.out).mono ?_
      rintro e w1 ⟨rfl, hb1⟩
      have HW1 := Lib.hid (bl_call (Below.refl _ _) hb1)
      have RB1 := Lib.hid (HB.out.call HW1.out)
      clear hb1
      go_wp2_with fail
      refine (HVvs.out _ RB1.out).mono ?_
      rintro e w2 ⟨rfl, hb2⟩
      have hw2 := bl_call HW1.out hb2
      clear hb2
      go_wp2
      go_ret2
      refine ⟨_, _, rfl, OwnS.nil, ?_⟩
      repeat (first | (with_reducible exact Below.refl _ _) | (with_reducible assumption) | (with_reducible refine bl_alloc ?_ _) | (with_reducible refine bl_drew ?_) | (with_reducible refine bl_set ?_ (by simp <;> omega) _) | (with_reducible refine bl_call ?_ (by assumption)))
set_option maxHeartbeats 2000000 in
theorem s_Apply_ok (A B : Option Addr) (n c c' : Nat) (us : List (List DW)) (vs : List DW) (V : Option (List DW)) (w : World) (hA : RM w w.heap.size A n us) (hB : RD w w.heap.size B n vs) (hous : okM us = true) (hovs : okS vs = true) (hV : mapAll (fun i => (us[i]?).bind fun r => dotN r vs n) n = V) :
    Calls Try.prog 57 #[.slice A n c, .slice B n c'] w (RetV w 29 (V.getD []) V.isSome) := by
  have HV := Lib.hid hV
  have hl0 : us.length = n := hA.1.symm
  have hparts := okM_parts hous
  rw [hl0] at hparts
  obtain ⟨hp, h16, hrows⟩ := hparts
  have HROW := Lib.hid hrows
  have HOV := Lib.hid (okS_parts hovs).2
  have hr1 : ∀ r ∈ us, r.length ≤ 9223372036854775807 := fun r hr => by have := (hrows r hr).1; omega
  clear hV hrows hl0
  have hvus : ∀ W, RM W W.heap.size A n us → Calls Try.prog 91 #[.slice A n c] W (Ret (.bool true) W) := fun W h => by have := s_VM A n c us W h (by omega) hr1; rwa [hous] at this
  have HVus := Lib.hid hvus
  clear hvus
  have hvvs : ∀ W, RD W W.heap.size B n vs → Calls Try.prog 84 #[.slice B n c'] W (Ret (.bool true) W) := fun W h => by have := s_VS B n c' vs W h (by omega); rwa [hovs] at this
  have HVvs := Lib.hid hvvs
  clear hvvs
  have HA := Lib.hid hA
  have HB := Lib.hid hB
  clear hA hB hous hovs
  have hq : ((n : Int) != (n : Int)) = false := by simp
  go_enter Try.func57, Try.ntmps57
  go_wp2_with fail
  refine (HVus.out _ HA.out).mono ?_
  rintro e w1 ⟨rfl, hb1⟩
  have HW1 := Lib.hid (bl_call (Below.refl _ _) hb1)
  have RB1 := Lib.hid (HB.out.call HW1.out)
  clear hb1
  go_wp2_with fail
  refine (HVvs.out _ RB1.out).mono ?_
  rintro e w2 ⟨rfl, hb2⟩
  have HW2 := Lib.hid (bl_call HW1.out hb2)
  clear hb2 HVus HVvs RB1 HW1
  clear hr1
  go_wp2
  go_loopw [6, 7] (fun v i wr => MapRel w n (fun i => (us[i]?).bind fun r => dotN r vs n) v i wr) (fun _ i _ => n - (intOf i).toNat)
  case atStart => exact ⟨0, [], by omega, rfl, rfl, OutS.start w2 _ _ _ HW2.out.size rfl, bl_alloc HW2.out _, by have := HW2.out.size; simp; omega⟩
  case round =>
    obtain ⟨j, o, hj, rfl, hm, hO, hb, hs⟩ := hrel
    have HO := Lib.hid hO
    have HM := Lib.hid hm
    clear hO hm HW2
    by_cases hlt : j < n
    · have hd : decide ((j : Int) < (n : Int)) = true := by simp; omega
      obtain ⟨b0, off, A1, c1, r, rfl, hl0, hdx, c0, hRD⟩ := (HA.out.keep hb).elem hs hlt
      have HDX := Lib.hid hdx
      have hmem := HROW.out r (List.mem_of_getElem? hdx)
      rw [hmem.1] at c0 hRD
      have HRD := Lib.hid hRD
      have HOKR := Lib.hid hmem.2
      have HRB := Lib.hid ((HB.out.keep hb).more hs)
      clear hdx hmem hRD
      obtain ⟨x, y, z, t, l, ok, hV, hT, hF⟩ := outV_parts (dotN r vs n)
      have HVV := Lib.hid hV.symm
      have HT := Lib.hid (fun (e : ok = true) => show ((us[j]?).bind fun r => dotN r vs n) = some ⟨⟨x, y, z, t⟩, l⟩ by rw [HDX.out]; exact hT e)
      have HF := Lib.hid (fun (e : ok = false) => show ((us[j]?).bind fun r => dotN r vs n) = none by rw [HDX.out]; exact (hF e).1)
      clear hV hT hF
      have i0 : (0 : Int) ≤ (j : Int) := by omega
      have i1 : (j : Int) < (n : Int) := by omega
      go_wp2_with fail
      refine (s_row A1 B n c1 c' r vs _ _ HRD.out HRB.out h16 HOKR.out HOV.out HVV.out).mono ?_
      rintro e w3 ⟨rfl, hb3⟩
      have hs3 : wr.heap.size ≤ w3.heap.size := hb3.size
      have HB3 := Lib.hid (bl_call hb hb3)
      have HO3 := Lib.hid (HO.out.call hb3)
      clear hb3
      cases ok
      · have e : V = none := HV.out.symm.trans (mapAll_stop (k := j) (HF.out rfl) hlt)
        subst e
        have HBB := HB3.out
        go_wp2
        go_ret2
        refine ⟨_, _, rfl, OwnS.nil, ?_⟩
        repeat (first | (with_reducible exact Below.refl _ _) | (with_reducible assumption) | (with_reducible refine bl_alloc ?_ _) | (with_reducible refine bl_drew ?_) | (with_reducible refine bl_set ?_ (by simp <;> omega) _) | (with_reducible refine bl_call ?_ (by assumption)))
      · have HS := Lib.hid (mapAll_succ HM.out (HT.out rfl))
        have hl := mapAll_len HM.out
        have hl' : o.length ≤ 2000000 := by omega
        clear hl
        go_wp2_with (at_builtin; refine app_step _ rfl (.tmp 45) (.tmp 47) rfl w.heap.size _ _ rfl ((HO3.out.alloc _).alloc _) (w3.heap.size + 1) x y z t l rfl (Blk.new2 w3 _ _ _ _) hl' (by simp; omega) ?_; intro v' w' hO' hg' hrow')
        go_roundw
        case rel =>
          have hz := hg'.size
          refine ⟨j + 1, _, by omega, by go_num, HS.out, hO', below_grown (bl_alloc (bl_alloc HB3.out _) _) hg' hrow' (by simp; omega), ?_⟩
          simp at hz
          omega
        case measure => simp [intOf]; omega
    · have hd : decide ((j : Int) < (n : Int)) = false := by simp; omega
      have e : V = some o := HV.out.symm.trans (by rw [show n = j by omega] at HM ⊢; exact HM.out)
      subst e
      go_wp2
      go_ret2
      obtain ⟨A', c', rfl, hA⟩ := HO.out.slice
      exact ⟨A', c', rfl, hA, hb⟩
theorem s_Apply {A B : Option Addr} {n m c c' : Nat} {us : List (List DW)} {vs : List DW} (w : World) (hA : RM w w.heap.size A n us) (hB : RD w w.heap.size B m vs) (hn : n ≤ 9223372036854775807) (hr1 : ∀ r ∈ us, r.length ≤ 9223372036854775807) (hm : m ≤ 9223372036854775807) :
    Calls Try.prog 57 #[.slice A n c, .slice B m c'] w (RetV w 29 ((applyD us vs).getD []) (applyD us vs).isSome) := by
  by_cases h : okM us = true ∧ okS vs = true ∧ us.length = vs.length
  · obtain rfl : m = n := by rw [hA.1, hB.1]; exact h.2.2.symm
    refine s_Apply_ok A B m c c' us vs _ w hA hB h.1 h.2.1 ?_
    rw [applyD_some h, ← hA.1]
  · have e : applyD us vs = none := by unfold applyD; rw [if_neg h]
    rw [e]
    exact s_Apply_bad A B n m c c' us vs w hA hB hn hm hr1 h
end Go.Proofs.Ytaokfppadfoniaa
