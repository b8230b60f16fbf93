/- Contracts: states added. -/
import Derived.Test.YtaokfppadfoniaaVc0
namespace Go.Proofs.Ytaokfppadfoniaa
open Go.RowKit
set_option linter.unusedVariables false
set_option maxHeartbeats 400000 in
theorem i_AddS_bad (A B : Option Addr) (n m c c' : Nat) (us vs : List DW) (w : World) (hA : RD w w.heap.size A n us) (hB : RD w w.heap.size B m vs) (hn : n ≤ 9223372036854775807) (hm : m ≤ 9223372036854775807) (hbad : ¬ (okS us = true ∧ okS vs = true ∧ us.length = vs.length)) :
    Calls Try.prog 46 #[.slice A n c, .slice B m c'] w (RetV w 29 [] false) := by
  have HA := Lib.hid hA
  have HB := Lib.hid hB
  clear hA hB
  cases hous : okS us
  · have hvus : ∀ W, RD W W.heap.size A n us → Calls Try.prog 35 #[.slice A n c] W (Ret (.bool false) W) := fun W h => by have := i_VS A n c us W h hn; rwa [hous] at this
    have HVus := Lib.hid hvus
    clear hvus
    clear hbad hous
    go_enter Try.func46, Try.ntmps46
    go_wp2_with fail
    refine (HVus.out _ HA.out).mono ?_
    rintro e w1 ⟨rfl, hb1⟩
    go_wp2
    go_ret2
    refine ⟨none, 0, rfl, OwnS.nil, ?_⟩
    repeat (first | (with_reducible exact Below.refl _ _) | (with_reducible assumption) | (with_reducible refine bl_alloc ?_ _) | (with_reducible refine bl_drew ?_) | (with_reducible refine bl_set ?_ (by simp <;> omega) _) | (with_reducible refine bl_call ?_ (by assumption)))
  · have hvus : ∀ W, RD W W.heap.size A n us → Calls Try.prog 35 #[.slice A n c] W (Ret (.bool true) W) := fun W h => by have := i_VS A n c us W h hn; rwa [hous] at this
    have HVus := Lib.hid hvus
    clear hvus
    cases hovs : okS vs
    · have hvvs : ∀ W, RD W W.heap.size B m vs → Calls Try.prog 35 #[.slice B m c'] W (Ret (.bool false) W) := fun W h => by have := i_VS B m c' vs W h hm; rwa [hovs] at this
      have HVvs := Lib.hid hvvs
      clear hvvs
      clear hbad hous hovs
      go_enter Try.func46, Try.ntmps46
      go_wp2_with fail
      refine (HVus.out _ HA.out).mono ?_
      rintro e w1 ⟨rfl, hb1⟩
      have HW1 := Lib.hid (bl_call (Below.refl _ _) hb1)
      have RB1 := Lib.hid (HB.out.call HW1.out)
      clear hb1
      go_wp2_with fail
      refine (HVvs.out _ RB1.out).mono ?_
      rintro e w2 ⟨rfl, hb2⟩
      have hw2 := bl_call HW1.out hb2
      clear hb2
      go_wp2
      go_ret2
      refine ⟨none, 0, rfl, OwnS.nil, ?_⟩
      repeat (first | (with_reducible exact Below.refl _ _) | (with_reducible assumption) | (with_reducible refine bl_alloc ?_ _) | (with_reducible refine bl_drew ?_) | (with_reducible refine bl_set ?_ (by simp <;> omega) _) | (with_reducible refine bl_call ?_ (by assumption)))
    · have hvvs : ∀ W, RD W W.heap.size B m vs → Calls Try.prog 35 #[.slice B m c'] W (Ret (.bool true) W) := fun W h => by have := i_VS B m c' vs W h hm; rwa [hovs] at this
      have HVvs := Lib.hid hvvs
      clear hvvs
      have hne : n ≠ m := fun e => hbad ⟨hous, hovs, by rw [← HA.out.1, ← HB.out.1]; exact e⟩
      clear hbad hous hovs
      have hq : ((n : Int) != (m : Int)) = true := by simp; omega
      clear hne
      go_enter Try.func46, Try.ntmps46
      go_wp2_with fail
      refine (HVus.out _ HA.out).mono ?_
      rintro e w1 ⟨rfl, hb1⟩
      have HW1 := Lib.hid (bl_call (Below.refl _ _) hb1)
      have RB1 := Lib.hid (HB.out.call HW1.out)
      clear hb1
      go_wp2_with fail
      refine (HVvs.out _ RB1.out).mono ?_
      rintro e w2 ⟨rfl, hb2⟩
      have hw2 := bl_call HW1.out hb2
      clear hb2
      go_wp2
      go_ret2
      refine ⟨none, 0, rfl, OwnS.nil, ?_⟩
      repeat (first | (with_reducible exact Below.refl _ _) | (with_reducible assumption) | (with_reducible refine bl_alloc ?_ _) | (with_reducible refine bl_drew ?_) | (with_reducible refine bl_set ?_ (by simp <;> omega) _) | (with_reducible refine bl_call ?_ (by assumption)))
set_option maxHeartbeats 2000000 in
theorem i_AddS_ok (A B : Option Addr) (n c c' : Nat) (us vs : List DW) (V : Option (List DW)) (w : World) (hA : RD w w.heap.size A n us) (hB : RD w w.heap.size B n vs) (h16 : n ≤ 16) (hous : okS us = true) (hovs : okS vs = true) (hV : mapAll (fun i => (us[i]?).bind fun u => (vs[i]?).bind fun v => addD u v) n = V) :
    Calls Try.prog 46 #[.slice A n c, .slice B n c'] w (RetV w 29 (V.getD []) V.isSome) := by
  have HV := Lib.hid hV
  clear hV
  have hvus : ∀ W, RD W W.heap.size A n us → Calls Try.prog 35 #[.slice A n c] W (Ret (.bool true) W) := fun W h => by have := i_VS A n c us W h (by omega); rwa [hous] at this
  have HVus := Lib.hid hvus
  clear hvus
  have hvvs : ∀ W, RD W W.heap.size B n vs → Calls Try.prog 35 #[.slice B n c'] W (Ret (.bool true) W) := fun W h => by have := i_VS B n c' vs W h (by omega); rwa [hovs] at this
  have HVvs := Lib.hid hvvs
  clear hvvs
  have HA := Lib.hid hA
  have HB := Lib.hid hB
  clear hA hB hous hovs
  have hq : ((n : Int) != (n : Int)) = false := by simp
  go_enter Try.func46, Try.ntmps46
  go_wp2_with fail
  refine (HVus.out _ HA.out).mono ?_
  rintro e w1 ⟨rfl, hb1⟩
  have HW1 := Lib.hid (bl_call (Below.refl _ _) hb1)
  have RB1 := Lib.hid (HB.out.call HW1.out)
  clear hb1
  go_wp2_with fail
  refine (HVvs.out _ RB1.out).mono ?_
  rintro e w2 ⟨rfl, hb2⟩
  have HW2 := Lib.hid (bl_call HW1.out hb2)
  clear hb2 HVus HVvs RB1 HW1
  go_wp2
  go_loopw [6, 28] (fun v i wr => MapRel w n (fun i => (us[i]?).bind fun u => (vs[i]?).bind fun v => addD u v) v i wr) (fun _ i _ => n - (intOf i).toNat)
  case atStart => exact ⟨0, [], by omega, rfl, rfl, OutS.start w2 _ _ _ HW2.out.size rfl, bl_alloc HW2.out _, by have := HW2.out.size; simp; omega⟩
  case round =>
    obtain ⟨j, o, hj, rfl, hm, hO, hb, hs⟩ := hrel
    have HO := Lib.hid hO
    have HM := Lib.hid hm
    clear hO hm HW2
    by_cases hlt : j < n
    · have hd : decide ((j : Int) < (n : Int)) = true := by simp; omega
      obtain ⟨b0, off, x, y, z, t, l, rfl, hdx, R0⟩ := (HA.out.keep hb).elem hs hlt
      obtain ⟨b1, off', p, q, r, s, m, rfl, hdy, R1⟩ := (HB.out.keep hb).elem hs hlt
      obtain ⟨x', y', z', t', l', ok, hI, hS, hT, hF⟩ := addD_u x y z t l p q r s m
      have HI := Lib.hid hI
      have HT := Lib.hid (fun (e : ok = true) => show ((us[j]?).bind fun u => (vs[j]?).bind fun v => addD u v) = some ⟨⟨x', y', z', t'⟩, l'⟩ by rw [hdx, hdy]; exact hT e)
      have HF := Lib.hid (fun (e : ok = false) => show ((us[j]?).bind fun u => (vs[j]?).bind fun v => addD u v) = none by rw [hdx, hdy]; exact (hF e).1)
      clear hI hS hT hF hdx hdy
      have T : Own wr wr [] := Own.start wr
      have i0 : (0 : Int) ≤ (j : Int) := by omega
      have i1 : (j : Int) < (n : Int) := by omega
      go_upto_region 7 with fail
      obtain ⟨la0, a00, a01, a02, a03, a04⟩ := R0.parts
      obtain ⟨la1, a10, a11, a12, a13, a14⟩ := R1.parts
      go_cut [8, 9] (fun s8 s9 wx => ∃ g : Nat, s8 = .pointer (some ⟨g, 0, none⟩) ∧ s9 = .bool ok ∧ Own wr wx ((g, 29, #[.int .i64 x', .int .i64 y', .int .i64 z', .int .i64 t', .int .i64 l']) :: []))
      case first =>
        go_region_held3 (fun w' => w'.cell? ⟨b0, off + j * 5, none⟩ = some (.int .i64 x) ∧ w'.cell? ⟨b0, off + j * 5 + 1, none⟩ = some (.int .i64 y) ∧ w'.cell? ⟨b0, off + j * 5 + 2, none⟩ = some (.int .i64 z) ∧ w'.cell? ⟨b0, off + j * 5 + 3, none⟩ = some (.int .i64 t) ∧ w'.cell? ⟨b0, off + j * 5 + 4, none⟩ = some (.int .i64 l) ∧ w'.cell? ⟨b1, off' + j * 5, none⟩ = some (.int .i64 p) ∧ w'.cell? ⟨b1, off' + j * 5 + 1, none⟩ = some (.int .i64 q) ∧ w'.cell? ⟨b1, off' + j * 5 + 2, none⟩ = some (.int .i64 r) ∧ w'.cell? ⟨b1, off' + j * 5 + 3, none⟩ = some (.int .i64 s) ∧ w'.cell? ⟨b1, off' + j * 5 + 4, none⟩ = some (.int .i64 m)) (first | (with_reducible exact ⟨a00, a01, a02, a03, a04, a10, a11, a12, a13, a14⟩) | go_keep) (first | (go_at_call 87; refine (HI.out _).mono ?_; rintro e w1 ⟨rfl, hb⟩; (first | (have T := T.call hb; have R0 := R0.call hb; have R1 := R1.call hb; (try have kz := kz.call hb)) | (have T := T.drew.call hb; have R0 := R0.drew.call hb; have R1 := R1.drew.call hb; (try have kz := kz.drew.call hb)) | (have kz := Blk.new_call hb; have na0 := Nat.ne_of_lt la0; have ma0 := Nat.ne_of_gt la0; have na1 := Nat.ne_of_lt la1; have ma1 := Nat.ne_of_gt la1; have kg := T.below.size; have KN := T.lts; have T := (T.alloc _).call hb; have R0 := (R0.alloc _).call hb; have R1 := (R1.alloc _).call hb) | (have kz := Blk.new_drew_call hb; have na0 := Nat.ne_of_lt la0; have ma0 := Nat.ne_of_gt la0; have na1 := Nat.ne_of_lt la1; have ma1 := Nat.ne_of_gt la1; have kg := T.below.size; have KN := T.lts; have T := (T.alloc _).drew.call hb; have R0 := (R0.alloc _).drew.call hb; have R1 := (R1.alloc _).drew.call hb)); obtain ⟨la0, a00, a01, a02, a03, a04⟩ := R0.parts; obtain ⟨la1, a10, a11, a12, a13, a14⟩ := R1.parts; (try obtain ⟨cz0, cz1, cz2, cz3, cz4, fz0, fz1, fz2, fz3, fz4⟩ := kz.five)))
        all_goals
          go_wp2_with fail
          go_meet
          first | (with_reducible exact ⟨_, rfl, rfl, T.push _ _⟩) | (with_reducible exact ⟨_, rfl, rfl, (T.add kz).put5 kg KN.out _ _ _ _ _⟩)
      case rest =>
        obtain ⟨g, rfl, rfl, T0⟩ := hcut
        clear T la0 la1 a00 a01 a02 a03 a04 a10 a11 a12 a13 a14
        obtain ⟨w3, rfl⟩ : ∃ w3, w3 = wc := ⟨_, rfl⟩
        have hs3 : wr.heap.size ≤ w3.heap.size := T0.below.size
        have HB3 := Lib.hid (bl_call hb T0.below)
        cases ok
        · have e : V = none := HV.out.symm.trans (mapAll_stop (k := j) (HF.out rfl) hlt)
          subst e
          clear T0 R0 R1
          have HBB := HB3.out
          go_wp2
          go_ret2
          refine ⟨none, 0, rfl, OwnS.nil, ?_⟩
          repeat (first | (with_reducible exact Below.refl _ _) | (with_reducible assumption) | (with_reducible refine bl_alloc ?_ _) | (with_reducible refine bl_drew ?_) | (with_reducible refine bl_set ?_ (by simp <;> omega) _) | (with_reducible refine bl_call ?_ (by assumption)))
        · have HS := Lib.hid (mapAll_succ HM.out (HT.out rfl))
          have hl := mapAll_len HM.out
          have hl' : o.length ≤ 2000000 := by omega
          clear hl
          have T3 := Lib.hid T0
          have HO3 := Lib.hid (HO.out.call T0.below)
          clear T0 R0 R1
          obtain ⟨c0, c1, c2, c3, c4, -, -, -, -, -⟩ := T3.out.head.five
          have gl := T3.out.head.lt
          have gn : ¬ g = w3.heap.size := by omega
          go_wp2_with (at_builtin; refine app_step _ rfl (.tmp 45) (.tmp 47) rfl w.heap.size _ _ rfl (HO3.out.alloc _) w3.heap.size x' y' z' t' l' rfl (Blk.new w3 _ _) hl' (by simp; omega) ?_; intro v' w' hO' hg' hrow')
          go_roundw
          case rel =>
            have hz := hg'.size
            refine ⟨j + 1, _, by omega, by go_num, HS.out, hO', below_grown (bl_alloc HB3.out _) hg' hrow' (by simp; omega), ?_⟩
            simp at hz
            omega
          case measure => simp [intOf]; omega
    · have hd : decide ((j : Int) < (n : Int)) = false := by simp; omega
      have e : V = some o := HV.out.symm.trans (by rw [show n = j by omega]; exact HM.out)
      subst e
      go_wp2
      go_ret2
      obtain ⟨A', c', rfl, hA⟩ := HO.out.slice
      exact ⟨A', c', rfl, hA, hb⟩
set_option maxHeartbeats 400000 in
theorem s_AddS_bad (A B : Option Addr) (n m c c' : Nat) (us vs : List DW) (w : World) (hA : RD w w.heap.size A n us) (hB : RD w w.heap.size B m vs) (hn : n ≤ 9223372036854775807) (hm : m ≤ 9223372036854775807) (hbad : ¬ (okS us = true ∧ okS vs = true ∧ us.length = vs.length)) :
    Calls Try.prog 45 #[.slice A n c, .slice B m c'] w (RetV w 29 [] false) := by
  have HA := Lib.hid hA
  have HB := Lib.hid hB
  clear hA hB
  cases hous : okS us
  · have hvus : ∀ W, RD W W.heap.size A n us → Calls Try.prog 84 #[.slice A n c] W (Ret (.bool false) W) := fun W h => by have := s_VS A n c us W h hn; rwa [hous] at this
    have HVus := Lib.hid hvus
    clear hvus
    clear hbad hous
    go_enter Try.func45, Try.ntmps45
    go_wp2_with fail
    refine (HVus.out _ HA.out).mono ?_
    rintro e w1 ⟨rfl, hb1⟩
    go_wp2
    go_ret2
    refine ⟨_, _, rfl, OwnS.nil, ?_⟩
    repeat (first | (with_reducible exact Below.refl _ _) | (with_reducible assumption) | (with_reducible refine bl_alloc ?_ _) | (with_reducible refine bl_drew ?_) | (with_reducible refine bl_set ?_ (by simp <;> omega) _) | (with_reducible refine bl_call ?_ (by assumption)))
  · have hvus : ∀ W, RD W W.heap.size A n us → Calls Try.prog 84 #[.slice A n c] W (Ret (.bool true) W) := fun W h => by have := s_VS A n c us W h hn; rwa [hous] at this
    have HVus := Lib.hid hvus
    clear hvus
    cases hovs : okS vs
    · have hvvs : ∀ W, RD W W.heap.size B m vs → Calls Try.prog 84 #[.slice B m c'] W (Ret (.bool false) W) := fun W h => by have := s_VS B m c' vs W h hm; rwa [hovs] at this
      have HVvs := Lib.hid hvvs
      clear hvvs
      clear hbad hous hovs
      go_enter Try.func45, Try.ntmps45
      go_wp2_with fail
      refine (HVus.out _ HA.out).mono ?_
      rintro e w1 ⟨rfl, hb1⟩
      have HW1 := Lib.hid (bl_call (Below.refl _ _) hb1)
      have RB1 := Lib.hid (HB.out.call HW1.out)
      clear hb1
      go_wp2_with fail
      refine (HVvs.out _ RB1.out).mono ?_
      rintro e w2 ⟨rfl, hb2⟩
      have hw2 := bl_call HW1.out hb2
      clear hb2
      go_wp2
      go_ret2
      refine ⟨_, _, rfl, OwnS.nil, ?_⟩
      repeat (first | (with_reducible exact Below.refl _ _) | (with_reducible assumption) | (with_reducible refine bl_alloc ?_ _) | (with_reducible refine bl_drew ?_) | (with_reducible refine bl_set ?_ (by simp <;> omega) _) | (with_reducible refine bl_call ?_ (by assumption)))
    · have hvvs : ∀ W, RD W W.heap.size B m vs → Calls Try.prog 84 #[.slice B m c'] W (Ret (.bool true) W) := fun W h => by have := s_VS B m c' vs W h hm; rwa [hovs] at this
      have HVvs := Lib.hid hvvs
      clear hvvs
      have hne : n ≠ m := fun e => hbad ⟨hous, hovs, by rw [← HA.out.1, ← HB.out.1]; exact e⟩
      clear hbad hous hovs
      have hq : ((n : Int) != (m : Int)) = true := by simp; omega
      clear hne
      go_enter Try.func45, Try.ntmps45
      go_wp2_with fail
      refine (HVus.out _ HA.out).mono ?_
      rintro e w1 ⟨rfl, hb1⟩
      have HW1 := Lib.hid (bl_call (Below.refl _ _) hb1)
      have RB1 := Lib.hid (HB.out.call HW1.out)
      clear hb1
      go_wp2_with fail
      refine (HVvs.out _ RB1.out).mono ?_
      rintro e w2 ⟨rfl, hb2⟩
      have hw2 := bl_call HW1.out hb2
      clear hb2
      go_wp2
      go_ret2
      refine ⟨_, _, rfl, OwnS.nil, ?_⟩
      repeat (first | (with_reducible exact Below.refl _ _) | (with_reducible assumption) | (with_reducible refine bl_alloc ?_ _) | (with_reducible refine bl_drew ?_) | (with_reducible refine bl_set ?_ (by simp <;> omega) _) | (with_reducible refine bl_call ?_ (by assumption)))
set_option maxHeartbeats 2000000 in
theorem s_AddS_ok (A B : Option Addr) (n c c' : Nat) (us vs : List DW) (V : Option (List DW)) (w : World) (hA : RD w w.heap.size A n us) (hB : RD w w.heap.size B n vs) (h16 : n ≤ 16) (hous : okS us = true) (hovs : okS vs = true) (hV : mapAll (fun i => (us[i]?).bind fun u => (vs[i]?).bind fun v => addD u v) n = V) :
    Calls Try.prog 45 #[.slice A n c, .slice B n c'] w (RetV w 29 (V.getD []) V.isSome) := by
  have HV := Lib.hid hV
  clear hV
  have hvus : ∀ W, RD W W.heap.size A n us → Calls Try.prog 84 #[.slice A n c] W (Ret (.bool true) W) := fun W h => by have := s_VS A n c us W h (by omega); rwa [hous] at this
  have HVus := Lib.hid hvus
  clear hvus
  have hvvs : ∀ W, RD W W.heap.size B n vs → Calls Try.prog 84 #[.slice B n c'] W (Ret (.bool true) W) := fun W h => by have := s_VS B n c' vs W h (by omega); rwa [hovs] at this
  have HVvs := Lib.hid hvvs
  clear hvvs
  have HA := Lib.hid hA
  have HB := Lib.hid hB
  clear hA hB hous hovs
  have hq : ((n : Int) != (n : Int)) = false := by simp
  go_enter Try.func45, Try.ntmps45
  go_wp2_with fail
  refine (HVus.out _ HA.out).mono ?_
  rintro e w1 ⟨rfl, hb1⟩
  have HW1 := Lib.hid (bl_call (Below.refl _ _) hb1)
  have RB1 := Lib.hid (HB.out.call HW1.out)
  clear hb1
  go_wp2_with fail
  refine (HVvs.out _ RB1.out).mono ?_
  rintro e w2 ⟨rfl, hb2⟩
  have HW2 := Lib.hid (bl_call HW1.out hb2)
  clear hb2 HVus HVvs RB1 HW1
  go_wp2
  go_loopw [6, 7] (fun v i wr => MapRel w n (fun i => (us[i]?).bind fun u => (vs[i]?).bind fun v => addD u v) v i wr) (fun _ i _ => n - (intOf i).toNat)
  case atStart => exact ⟨0, [], by omega, rfl, rfl, OutS.start w2 _ _ _ HW2.out.size rfl, bl_alloc HW2.out _, by have := HW2.out.size; simp; omega⟩
  case round =>
    obtain ⟨j, o, hj, rfl, hm, hO, hb, hs⟩ := hrel
    have HO := Lib.hid hO
    have HM := Lib.hid hm
    clear hO hm HW2
    by_cases hlt : j < n
    · have hd : decide ((j : Int) < (n : Int)) = true := by simp; omega
      obtain ⟨b0, off, x, y, z, t, l, rfl, hdx, R0⟩ := (HA.out.keep hb).elem hs hlt
      obtain ⟨b1, off', p, q, r, s, m, rfl, hdy, R1⟩ := (HB.out.keep hb).elem hs hlt
      obtain ⟨x', y', z', t', l', ok, hI, hS, hT, hF⟩ := addD_u x y z t l p q r s m
      have HI := Lib.hid hS
      have HT := Lib.hid (fun (e : ok = true) => show ((us[j]?).bind fun u => (vs[j]?).bind fun v => addD u v) = some ⟨⟨x', y', z', t'⟩, l'⟩ by rw [hdx, hdy]; exact hT e)
      have HF := Lib.hid (fun (e : ok = false) => show ((us[j]?).bind fun u => (vs[j]?).bind fun v => addD u v) = none by rw [hdx, hdy]; exact (hF e).1)
      clear hI hS hT hF hdx hdy
      have T : Own wr wr [] := Own.start wr
      have i0 : (0 : Int) ≤ (j : Int) := by omega
      have i1 : (j : Int) < (n : Int) := by omega
      go_upto_region 7 with fail
      obtain ⟨la0, a00, a01, a02, a03, a04⟩ := R0.parts
      obtain ⟨la1, a10, a11, a12, a13, a14⟩ := R1.parts
      go_cut [8, 9] (fun s8 s9 wx => ∃ g : Nat, s8 = .pointer (some ⟨g, 0, none⟩) ∧ s9 = .bool ok ∧ Own wr wx ((g, 29, #[.int .i64 x', .int .i64 y', .int .i64 z', .int .i64 t', .int .i64 l']) :: []))
      case first =>
        go_region_held3 (fun w' => w'.cell? ⟨b0, off + j * 5, none⟩ = some (.int .i64 x) ∧ w'.cell? ⟨b0, off + j * 5 + 1, none⟩ = some (.int .i64 y) ∧ w'.cell? ⟨b0, off + j * 5 + 2, none⟩ = some (.int .i64 z) ∧ w'.cell? ⟨b0, off + j * 5 + 3, none⟩ = some (.int .i64 t) ∧ w'.cell? ⟨b0, off + j * 5 + 4, none⟩ = some (.int .i64 l) ∧ w'.cell? ⟨b1, off' + j * 5, none⟩ = some (.int .i64 p) ∧ w'.cell? ⟨b1, off' + j * 5 + 1, none⟩ = some (.int .i64 q) ∧ w'.cell? ⟨b1, off' + j * 5 + 2, none⟩ = some (.int .i64 r) ∧ w'.cell? ⟨b1, off' + j * 5 + 3, none⟩ = some (.int .i64 s) ∧ w'.cell? ⟨b1, off' + j * 5 + 4, none⟩ = some (.int .i64 m)) (first | (with_reducible exact ⟨a00, a01, a02, a03, a04, a10, a11, a12, a13, a14⟩) | go_keep) (first | (go_at_call 86; refine (HI.out _).mono ?_; rintro e w1 ⟨rfl, hb⟩; (first | (have T := T.call hb; have R0 := R0.call hb; have R1 := R1.call hb; (try have kz := kz.call hb)) | (have T := T.drew.call hb; have R0 := R0.drew.call hb; have R1 := R1.drew.call hb; (try have kz := kz.drew.call hb)) | (have kz := Blk.new_call hb; have na0 := Nat.ne_of_lt la0; have ma0 := Nat.ne_of_gt la0; have na1 := Nat.ne_of_lt la1; have ma1 := Nat.ne_of_gt la1; have kg := T.below.size; have KN := T.lts; have T := (T.alloc _).call hb; have R0 := (R0.alloc _).call hb; have R1 := (R1.alloc _).call hb) | (have kz := Blk.new_drew_call hb; have na0 := Nat.ne_of_lt la0; have ma0 := Nat.ne_of_gt la0; have na1 := Nat.ne_of_lt la1; have ma1 := Nat.ne_of_gt la1; have kg := T.below.size; have KN := T.lts; have T := (T.alloc _).drew.call hb; have R0 := (R0.alloc _).drew.call hb; have R1 := (R1.alloc _).drew.call hb)); obtain ⟨la0, a00, a01, a02, a03, a04⟩ := R0.parts; obtain ⟨la1, a10, a11, a12, a13, a14⟩ := R1.parts; (try obtain ⟨cz0, cz1, cz2, cz3, cz4, fz0, fz1, fz2, fz3, fz4⟩ := kz.five)))
        all_goals
          go_wp2_with fail
          go_meet
          first | (with_reducible exact ⟨_, rfl, rfl, T.push _ _⟩) | (with_reducible exact ⟨_, rfl, rfl, (T.add kz).put5 kg KN.out _ _ _ _ _⟩)
      case rest =>
        obtain ⟨g, rfl, rfl, T0⟩ := hcut
        clear T la0 la1 a00 a01 a02 a03 a04 a10 a11 a12 a13 a14
        obtain ⟨w3, rfl⟩ : ∃ w3, w3 = wc := ⟨_, rfl⟩
        have hs3 : wr.heap.size ≤ w3.heap.size := T0.below.size
        have HB3 := Lib.hid (bl_call hb T0.below)
        cases ok
        · have e : V = none := HV.out.symm.trans (mapAll_stop (k := j) (HF.out rfl) hlt)
          subst e
          clear T0 R0 R1
          have HBB := HB3.out
          go_wp2
          go_ret2
          refine ⟨_, _, rfl, OwnS.nil, ?_⟩
          repeat (first | (with_reducible exact Below.refl _ _) | (with_reducible assumption) | (with_reducible refine bl_alloc ?_ _) | (with_reducible refine bl_drew ?_) | (with_reducible refine bl_set ?_ (by simp <;> omega) _) | (with_reducible refine bl_call ?_ (by assumption)))
        · have HS := Lib.hid (mapAll_succ HM.out (HT.out rfl))
          have hl := mapAll_len HM.out
          have hl' : o.length ≤ 2000000 := by omega
          clear hl
          have T3 := Lib.hid T0
          have HO3 := Lib.hid (HO.out.call T0.below)
          clear T0 R0 R1
          obtain ⟨c0, c1, c2, c3, c4, -, -, -, -, -⟩ := T3.out.head.five
          have gl := T3.out.head.lt
          have gn : ¬ g = w3.heap.size := by omega
          go_wp2_with (at_builtin; refine app_step _ rfl (.tmp 48) (.tmp 50) rfl w.heap.size _ _ rfl (HO3.out.alloc _) w3.heap.size x' y' z' t' l' rfl (Blk.new w3 _ _) hl' (by simp; omega) ?_; intro v' w' hO' hg' hrow')
          go_roundw
          case rel =>
            have hz := hg'.size
            refine ⟨j + 1, _, by omega, by go_num, HS.out, hO', below_grown (bl_alloc HB3.out _) hg' hrow' (by simp; omega), ?_⟩
            simp at hz
            omega
          case measure => simp [intOf]; omega
    · have hd : decide ((j : Int) < (n : Int)) = false := by simp; omega
      have e : V = some o := HV.out.symm.trans (by rw [show n = j by omega]; exact HM.out)
      subst e
      go_wp2
      go_ret2
      obtain ⟨A', c', rfl, hA⟩ := HO.out.slice
      exact ⟨A', c', rfl, hA, hb⟩
end Go.Proofs.Ytaokfppadfoniaa
