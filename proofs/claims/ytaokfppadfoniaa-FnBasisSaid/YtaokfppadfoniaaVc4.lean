/- Contracts: inner products. -/
import Derived.Test.YtaokfppadfoniaaVc3
namespace Go.Proofs.Ytaokfppadfoniaa
open Go.RowKit
set_option linter.unusedVariables false
set_option maxHeartbeats 1000000 in
theorem i_Inner_bad (A B : Option Addr) (n m c c' : Nat) (us vs : List DW) (w : World) (hA : RD w w.heap.size A n us) (hB : RD w w.heap.size B m vs) (hn : n ≤ 9223372036854775807) (hm : m ≤ 9223372036854775807) (hbad : ¬ (okS us = true ∧ okS vs = true ∧ us.length = vs.length)) :
    Calls Try.prog 32 #[.slice A n c, .slice B m c'] w (Ret (.tuple #[.agg #[.int .i64 0, .int .i64 0, .int .i64 0, .int .i64 0, .int .i64 0], .bool false]) w) := by
  have HA := Lib.hid hA
  have HB := Lib.hid hB
  clear hA hB
  cases hous : okS us
  · have hvus : ∀ W, RD W W.heap.size A n us → Calls Try.prog 35 #[.slice A n c] W (Ret (.bool false) W) := fun W h => by have := i_VS A n c us W h hn; rwa [hous] at this
    have HVus := Lib.hid hvus
    clear hvus
    clear hbad hous
    go_enter Try.func32, Try.ntmps32
    go_wp2_with fail
    refine (HVus.out _ (HA.out.call (below_alloc w _))).mono ?_
    rintro e w1 ⟨rfl, hb1⟩
    have K := (Blk.new w 29 #[.int .i64 0, .int .i64 0, .int .i64 0, .int .i64 0, .int .i64 0]).call hb1
    obtain ⟨k0, k1, k2, k3, k4, f0, f1, f2, f3, f4⟩ := K.five
    have gl := K.lt
    clear K
    go_wp2
    refine bodyPost_ret (v := .tuple #[.agg #[.int .i64 0, .int .i64 0, .int .i64 0, .int .i64 0, .int .i64 0], .bool false]) (by simp [results, Try.results32, go_sem, *]) rfl (ret_mk ?_)
    repeat (first | (with_reducible exact Below.refl _ _) | (with_reducible assumption) | (with_reducible refine bl_alloc ?_ _) | (with_reducible refine bl_drew ?_) | (with_reducible refine bl_set ?_ (by simp <;> omega) _) | (with_reducible refine bl_call ?_ (by assumption)))
  · have hvus : ∀ W, RD W W.heap.size A n us → Calls Try.prog 35 #[.slice A n c] W (Ret (.bool true) W) := fun W h => by have := i_VS A n c us W h hn; rwa [hous] at this
    have HVus := Lib.hid hvus
    clear hvus
    cases hovs : okS vs
    · have hvvs : ∀ W, RD W W.heap.size B m vs → Calls Try.prog 35 #[.slice B m c'] W (Ret (.bool false) W) := fun W h => by have := i_VS B m c' vs W h hm; rwa [hovs] at this
      have HVvs := Lib.hid hvvs
      clear hvvs
      clear hbad hous hovs
      go_enter Try.func32, Try.ntmps32
      go_wp2_with fail
      refine (HVus.out _ (HA.out.call (below_alloc w _))).mono ?_
      rintro e w1 ⟨rfl, hb1⟩
      have HW1 := Lib.hid (bl_call (below_alloc w _) hb1)
      have RB1 := Lib.hid (HB.out.call HW1.out)
      have K1 := Lib.hid ((Blk.new w 29 #[.int .i64 0, .int .i64 0, .int .i64 0, .int .i64 0, .int .i64 0]).call hb1)
      clear hb1
      go_wp2_with fail
      refine (HVvs.out _ RB1.out).mono ?_
      rintro e w2 ⟨rfl, hb2⟩
      have hw2 := bl_call HW1.out hb2
      have K := K1.out.call hb2
      obtain ⟨k0, k1, k2, k3, k4, f0, f1, f2, f3, f4⟩ := K.five
      have gl := K.lt
      clear K
      clear hb2
      go_wp2
      refine bodyPost_ret (v := .tuple #[.agg #[.int .i64 0, .int .i64 0, .int .i64 0, .int .i64 0, .int .i64 0], .bool false]) (by simp [results, Try.results32, go_sem, *]) rfl (ret_mk ?_)
      repeat (first | (with_reducible exact Below.refl _ _) | (with_reducible assumption) | (with_reducible refine bl_alloc ?_ _) | (with_reducible refine bl_drew ?_) | (with_reducible refine bl_set ?_ (by simp <;> omega) _) | (with_reducible refine bl_call ?_ (by assumption)))
    · have hvvs : ∀ W, RD W W.heap.size B m vs → Calls Try.prog 35 #[.slice B m c'] W (Ret (.bool true) W) := fun W h => by have := i_VS B m c' vs W h hm; rwa [hovs] at this
      have HVvs := Lib.hid hvvs
      clear hvvs
      have hne : n ≠ m := fun e => hbad ⟨hous, hovs, by rw [← HA.out.1, ← HB.out.1]; exact e⟩
      clear hbad hous hovs
      have hq : ((n : Int) != (m : Int)) = true := by simp; omega
      clear hne
      go_enter Try.func32, Try.ntmps32
      go_wp2_with fail
      refine (HVus.out _ (HA.out.call (below_alloc w _))).mono ?_
      rintro e w1 ⟨rfl, hb1⟩
      have HW1 := Lib.hid (bl_call (below_alloc w _) hb1)
      have RB1 := Lib.hid (HB.out.call HW1.out)
      have K1 := Lib.hid ((Blk.new w 29 #[.int .i64 0, .int .i64 0, .int .i64 0, .int .i64 0, .int .i64 0]).call hb1)
      clear hb1
      go_wp2_with fail
      refine (HVvs.out _ RB1.out).mono ?_
      rintro e w2 ⟨rfl, hb2⟩
      have hw2 := bl_call HW1.out hb2
      have K := K1.out.call hb2
      obtain ⟨k0, k1, k2, k3, k4, f0, f1, f2, f3, f4⟩ := K.five
      have gl := K.lt
      clear K
      clear hb2
      go_wp2
      refine bodyPost_ret (v := .tuple #[.agg #[.int .i64 0, .int .i64 0, .int .i64 0, .int .i64 0, .int .i64 0], .bool false]) (by simp [results, Try.results32, go_sem, *]) rfl (ret_mk ?_)
      repeat (first | (with_reducible exact Below.refl _ _) | (with_reducible assumption) | (with_reducible refine bl_alloc ?_ _) | (with_reducible refine bl_drew ?_) | (with_reducible refine bl_set ?_ (by simp <;> omega) _) | (with_reducible refine bl_call ?_ (by assumption)))
set_option maxHeartbeats 1000000 in
theorem s_Inner_bad (A B : Option Addr) (n m c c' : Nat) (us vs : List DW) (w : World) (hA : RD w w.heap.size A n us) (hB : RD w w.heap.size B m vs) (hn : n ≤ 9223372036854775807) (hm : m ≤ 9223372036854775807) (hbad : ¬ (okS us = true ∧ okS vs = true ∧ us.length = vs.length)) :
    Calls Try.prog 47 #[.slice A n c, .slice B m c'] w (Ret (.tuple #[.agg #[.int .i64 0, .int .i64 0, .int .i64 0, .int .i64 0, .int .i64 0], .bool false]) w) := by
  have HA := Lib.hid hA
  have HB := Lib.hid hB
  clear hA hB
  cases hous : okS us
  · have hvus : ∀ W, RD W W.heap.size A n us → Calls Try.prog 84 #[.slice A n c] W (Ret (.bool false) W) := fun W h => by have := s_VS A n c us W h hn; rwa [hous] at this
    have HVus := Lib.hid hvus
    clear hvus
    clear hbad hous
    go_enter Try.func47, Try.ntmps47
    go_wp2_with fail
    refine (HVus.out _ (HA.out.call (below_alloc w _))).mono ?_
    rintro e w1 ⟨rfl, hb1⟩
    have K := (Blk.new w 29 #[.int .i64 0, .int .i64 0, .int .i64 0, .int .i64 0, .int .i64 0]).call hb1
    obtain ⟨k0, k1, k2, k3, k4, f0, f1, f2, f3, f4⟩ := K.five
    have gl := K.lt
    clear K
    go_wp2
    refine bodyPost_ret (v := .tuple #[.agg #[.int .i64 0, .int .i64 0, .int .i64 0, .int .i64 0, .int .i64 0], .bool false]) (by simp [results, Try.results47, go_sem, *]) rfl (ret_mk ?_)
    repeat (first | (with_reducible exact Below.refl _ _) | (with_reducible assumption) | (with_reducible refine bl_alloc ?_ _) | (with_reducible refine bl_drew ?_) | (with_reducible refine bl_set ?_ (by simp <;> omega) _) | (with_reducible refine bl_call ?_ (by assumption)))
  · have hvus : ∀ W, RD W W.heap.size A n us → Calls Try.prog 84 #[.slice A n c] W (Ret (.bool true) W) := fun W h => by have := s_VS A n c us W h hn; rwa [hous] at this
    have HVus := Lib.hid hvus
    clear hvus
    cases hovs : okS vs
    · have hvvs : ∀ W, RD W W.heap.size B m vs → Calls Try.prog 84 #[.slice B m c'] W (Ret (.bool false) W) := fun W h => by have := s_VS B m c' vs W h hm; rwa [hovs] at this
      have HVvs := Lib.hid hvvs
      clear hvvs
      clear hbad hous hovs
      go_enter Try.func47, Try.ntmps47
      go_wp2_with fail
      refine (HVus.out _ (HA.out.call (below_alloc w _))).mono ?_
      rintro e w1 ⟨rfl, hb1⟩
      have HW1 := Lib.hid (bl_call (below_alloc w _) hb1)
      have RB1 := Lib.hid (HB.out.call HW1.out)
      have K1 := Lib.hid ((Blk.new w 29 #[.int .i64 0, .int .i64 0, .int .i64 0, .int .i64 0, .int .i64 0]).call hb1)
      clear hb1
      go_wp2_with fail
      refine (HVvs.out _ RB1.out).mono ?_
      rintro e w2 ⟨rfl, hb2⟩
      have hw2 := bl_call HW1.out hb2
      have K := K1.out.call hb2
      obtain ⟨k0, k1, k2, k3, k4, f0, f1, f2, f3, f4⟩ := K.five
      have gl := K.lt
      clear K
      clear hb2
      go_wp2
      refine bodyPost_ret (v := .tuple #[.agg #[.int .i64 0, .int .i64 0, .int .i64 0, .int .i64 0, .int .i64 0], .bool false]) (by simp [results, Try.results47, go_sem, *]) rfl (ret_mk ?_)
      repeat (first | (with_reducible exact Below.refl _ _) | (with_reducible assumption) | (with_reducible refine bl_alloc ?_ _) | (with_reducible refine bl_drew ?_) | (with_reducible refine bl_set ?_ (by simp <;> omega) _) | (with_reducible refine bl_call ?_ (by assumption)))
    · have hvvs : ∀ W, RD W W.heap.size B m vs → Calls Try.prog 84 #[.slice B m c'] W (Ret (.bool true) W) := fun W h => by have := s_VS B m c' vs W h hm; rwa [hovs] at this
      have HVvs := Lib.hid hvvs
      clear hvvs
      have hne : n ≠ m := fun e => hbad ⟨hous, hovs, by rw [← HA.out.1, ← HB.out.1]; exact e⟩
      clear hbad hous hovs
      have hq : ((n : Int) != (m : Int)) = true := by simp; omega
      clear hne
      go_enter Try.func47, Try.ntmps47
      go_wp2_with fail
      refine (HVus.out _ (HA.out.call (below_alloc w _))).mono ?_
      rintro e w1 ⟨rfl, hb1⟩
      have HW1 := Lib.hid (bl_call (below_alloc w _) hb1)
      have RB1 := Lib.hid (HB.out.call HW1.out)
      have K1 := Lib.hid ((Blk.new w 29 #[.int .i64 0, .int .i64 0, .int .i64 0, .int .i64 0, .int .i64 0]).call hb1)
      clear hb1
      go_wp2_with fail
      refine (HVvs.out _ RB1.out).mono ?_
      rintro e w2 ⟨rfl, hb2⟩
      have hw2 := bl_call HW1.out hb2
      have K := K1.out.call hb2
      obtain ⟨k0, k1, k2, k3, k4, f0, f1, f2, f3, f4⟩ := K.five
      have gl := K.lt
      clear K
      clear hb2
      go_wp2
      refine bodyPost_ret (v := .tuple #[.agg #[.int .i64 0, .int .i64 0, .int .i64 0, .int .i64 0, .int .i64 0], .bool false]) (by simp [results, Try.results47, go_sem, *]) rfl (ret_mk ?_)
      repeat (first | (with_reducible exact Below.refl _ _) | (with_reducible assumption) | (with_reducible refine bl_alloc ?_ _) | (with_reducible refine bl_drew ?_) | (with_reducible refine bl_set ?_ (by simp <;> omega) _) | (with_reducible refine bl_call ?_ (by assumption)))
set_option maxHeartbeats 2000000 in
theorem i_Inner_ok (A B : Option Addr) (n c c' : Nat) (us vs : List DW) (V : Value) (w : World) (hA : RD w w.heap.size A n us) (hB : RD w w.heap.size B n vs) (h16 : n ≤ 16) (hous : okS us = true) (hovs : okS vs = true) (hV : V = outV (dotN (us.map dconj) vs n)) :
    Calls Try.prog 32 #[.slice A n c, .slice B n c'] w (Ret V w) := by
  have HV := Lib.hid hV
  have HL := Lib.hid hA.1
  have HOK := Lib.hid (okS_parts hous).2
  clear hV
  have hvus : ∀ W, RD W W.heap.size A n us → Calls Try.prog 35 #[.slice A n c] W (Ret (.bool true) W) := fun W h => by have := i_VS A n c us W h (by omega); rwa [hous] at this
  have HVus := Lib.hid hvus
  clear hvus
  have hvvs : ∀ W, RD W W.heap.size B n vs → Calls Try.prog 35 #[.slice B n c'] W (Ret (.bool true) W) := fun W h => by have := i_VS B n c' vs W h (by omega); rwa [hovs] at this
  have HVvs := Lib.hid hvvs
  clear hvvs
  have HA := Lib.hid hA
  have HB := Lib.hid hB
  clear hA hB hous hovs
  have hq : ((n : Int) != (n : Int)) = false := by simp
  go_enter Try.func32, Try.ntmps32
  go_wp2_with fail
  refine (HVus.out _ (HA.out.call (below_alloc w _))).mono ?_
  rintro e w1 ⟨rfl, hb1⟩
  have HW1 := Lib.hid (bl_call (below_alloc w _) hb1)
  have RB1 := Lib.hid (HB.out.call HW1.out)
  have K1 := Lib.hid ((Blk.new w 29 #[.int .i64 0, .int .i64 0, .int .i64 0, .int .i64 0, .int .i64 0]).call hb1)
  clear hb1
  go_wp2_with fail
  refine (HVvs.out _ RB1.out).mono ?_
  rintro e w2 ⟨rfl, hb2⟩
  have HW2 := Lib.hid (bl_call HW1.out hb2)
  have K2 := Lib.hid (K1.out.call hb2)
  clear hb2 HVus HVvs RB1 HW1
  clear K1
  have hs2 : w.heap.size + 1 ≤ w2.heap.size := K2.out.lt
  go_wp2
  go_loopw [6, 30] (fun v i wr => MapX w n (fun i => (us[i]?).bind fun u => some (dconj u)) #[.int .i64 0, .int .i64 0, .int .i64 0, .int .i64 0, .int .i64 0] v i wr) (fun _ i _ => n - (intOf i).toNat)
  case atStart => exact ⟨0, [], by omega, rfl, rfl, OutS.start w2 _ _ _ hs2 rfl, bl_alloc HW2.out _, by simp; omega, K2.out.alloc _⟩
  case round =>
    obtain ⟨j, o, hj, rfl, hm, hO, hb, hs, hx⟩ := hrel
    have HO := Lib.hid hO
    have HM := Lib.hid hm
    have HX := Lib.hid hx
    clear hO hm hx HW2 K2 hs2
    by_cases hlt : j < n
    · have hd : decide ((j : Int) < (n : Int)) = true := by simp; omega
      obtain ⟨b0, off, x, y, z, t, l, rfl, hB, hdx, c0, c1, c2, c3, c4⟩ := (HA.out.keep hb).at hlt
      have hokx := HOK.out _ (List.mem_of_getElem? hdx)
      have HS := Lib.hid (mapAll_succ HM.out (show (fun i => (us[i]?).bind fun u => some (dconj u)) j = some (dconj ⟨⟨x, y, z, t⟩, l⟩) by simp only [hdx]; rfl))
      have hl := mapAll_len HM.out
      have hl' : o.length ≤ 2000000 := by omega
      clear hl hdx
      have i0 : (0 : Int) ≤ (j : Int) := by omega
      have i1 : (j : Int) < (n : Int) := by omega
      go_wp2_with fail
      refine (i_ConjD_t _ hokx).mono ?_
      rintro e w3 ⟨rfl, hb3⟩
      have hs3 : w.heap.size + 1 < w3.heap.size := by have := hb3.size; simp at this; omega
      have HO3 := Lib.hid ((HO.out.alloc _).call hb3)
      have HX3 := Lib.hid ((HX.out.alloc _).call hb3)
      have HB3 := Lib.hid (bl_call (bl_alloc hb _) hb3)
      clear hb3
      go_wp2_with (at_builtin; refine app_step _ rfl (.tmp 34) (.tmp 37) rfl (w.heap.size + 1) _ _ rfl (HO3.out.alloc _) w3.heap.size x (-t) (-z) (-y) l rfl (Blk.new w3 _ _) hl' (by simp; omega) ?_; intro v' w' hO' hg' hrow')
      go_roundw
      case rel =>
        have hz := hg'.size
        refine ⟨j + 1, _, by omega, by go_num, HS.out, hO', below_grown (bl_alloc HB3.out _) hg' (fun k hk => by have := hrow' k hk; omega) (by simp; omega), ?_, ?_⟩
        · simp at hz
          omega
        · exact (HX3.out.alloc _).grown hg' (fun e => by have := hrow' _ e.symm; omega)
      case measure => simp [intOf]; omega
    · have hd : decide ((j : Int) < (n : Int)) = false := by simp; omega
      have ho : o = us.map dconj := by
        have e := mapAll_map (us := us) (g := dconj) (k := j) (by have := HL.out; omega)
        rw [HM.out] at e
        injection e with e
        rw [e, List.take_of_length_le (by have := HL.out; omega)]
      subst ho
      obtain ⟨A', c1, rfl, hA'⟩ := HO.out.slice
      have hln : (us.map dconj).length = n := by rw [List.length_map]; exact HL.out.symm
      have R1 := hA'.read
      rw [hln] at R1
      have HR1 := Lib.hid R1
      have HR2 := Lib.hid (HB.out.call hb)
      clear R1 hA'
      rw [hln]
      clear hln
      obtain ⟨v0, v1, v2, v3, v4, vok, hVV⟩ : ∃ v0 v1 v2 v3 v4 vok, V = .tuple #[.agg #[.int .i64 v0, .int .i64 v1, .int .i64 v2, .int .i64 v3, .int .i64 v4], .bool vok] := by
        rw [HV.out]
        rcases dotN (us.map dconj) vs n with _ | ⟨⟨x, y, z, t⟩, l⟩
        · exact ⟨_, _, _, _, _, _, rfl⟩
        · exact ⟨_, _, _, _, _, _, rfl⟩
      subst hVV
      go_wp2_with fail
      refine (i_dot A' _ n c1 c' (us.map dconj) vs _ _ HR1.out HR2.out h16 HV.out).mono ?_
      rintro e w3 ⟨rfl, hb3⟩
      have K3 := HX.out.call hb3
      have hw3 : Below w.heap.size w w3 := bl_call hb hb3
      clear hb3
      obtain ⟨k0, k1, k2, k3, k4, h0, h1, h2, h3, h4⟩ := K3.five
      have gr := K3.lt
      have grn : ¬ w.heap.size = w3.heap.size := by omega
      have grn' : ¬ w3.heap.size = w.heap.size := by omega
      clear K3
      go_wp2
      refine bodyPost_ret (v := .tuple #[.agg #[.int .i64 v0, .int .i64 v1, .int .i64 v2, .int .i64 v3, .int .i64 v4], .bool vok]) (by simp [results, Try.results32, go_sem, *]) rfl (ret_mk ?_)
      repeat (first | (with_reducible exact Below.refl _ _) | (with_reducible assumption) | (with_reducible refine bl_alloc ?_ _) | (with_reducible refine bl_drew ?_) | (with_reducible refine bl_set ?_ (by simp <;> omega) _) | (with_reducible refine bl_call ?_ (by assumption)))
set_option maxHeartbeats 4000000 in
theorem s_Inner_ok (A B : Option Addr) (n c c' : Nat) (us vs : List DW) (V : Value) (w : World) (hA : RD w w.heap.size A n us) (hB : RD w w.heap.size B n vs) (h16 : n ≤ 16) (hous : okS us = true) (hovs : okS vs = true) (hV : V = outV (dotN (us.map dconj) vs n)) :
    Calls Try.prog 47 #[.slice A n c, .slice B n c'] w (Ret V w) := by
  obtain ⟨cus, hcu⟩ : ∃ cus, us.map dconj = cus := ⟨_, rfl⟩
  have hcat : ∀ j u, us[j]? = some u → cus[j]? = some (dconj u) := fun j u h => by rw [← hcu, List.getElem?_map, h]; rfl
  rw [hcu] at hV
  have HCU := Lib.hid hcat
  have HV := Lib.hid hV
  have HOK := Lib.hid (okS_parts hous).2
  clear hV hcat hcu
  have hvus : ∀ W, RD W W.heap.size A n us → Calls Try.prog 84 #[.slice A n c] W (Ret (.bool true) W) := fun W h => by have := s_VS A n c us W h (by omega); rwa [hous] at this
  have HVus := Lib.hid hvus
  clear hvus
  have hvvs : ∀ W, RD W W.heap.size B n vs → Calls Try.prog 84 #[.slice B n c'] W (Ret (.bool true) W) := fun W h => by have := s_VS B n c' vs W h (by omega); rwa [hovs] at this
  have HVvs := Lib.hid hvvs
  clear hvvs
  have HA := Lib.hid hA
  have HB := Lib.hid hB
  clear hA hB hous hovs
  have hq : ((n : Int) != (n : Int)) = false := by simp
  go_enter Try.func47, Try.ntmps47
  go_wp2_with fail
  refine (HVus.out _ (HA.out.call (below_alloc w _))).mono ?_
  rintro e w1 ⟨rfl, hb1⟩
  have HW1 := Lib.hid (bl_call (below_alloc w _) hb1)
  have RB1 := Lib.hid (HB.out.call HW1.out)
  have K1 := Lib.hid ((Blk.new w 29 #[.int .i64 0, .int .i64 0, .int .i64 0, .int .i64 0, .int .i64 0]).call hb1)
  clear hb1
  go_wp2_with fail
  refine (HVvs.out _ RB1.out).mono ?_
  rintro e w2 ⟨rfl, hb2⟩
  have HW2 := Lib.hid (bl_call HW1.out hb2)
  have K2 := Lib.hid (K1.out.call hb2)
  clear hb2 HVus HVvs RB1 HW1
  clear K1
  have hs2 : w.heap.size < w2.heap.size := K2.out.lt
  have hn2 : w.heap.size ≠ w2.heap.size := by omega
  have T0 : Own w w2 [(w.heap.size, 29, #[.int .i64 0, .int .i64 0, .int .i64 0, .int .i64 0, .int .i64 0])] := (show Own w w2 [] from ⟨HW2.out, by simp⟩).add K2.out
  have HT0 := Lib.hid (T0.push 29 #[.int .i64 0, .int .i64 0, .int .i64 0, .int .i64 0, .int .i64 0])
  clear T0 K2 HW2
  go_wp2
  go_loopw [7] (fun i wr => DotRel w w2.heap.size n cus vs i wr) (fun i _ => n - (intOf i).toNat)
  case atStart => exact ⟨0, 0, 0, 0, 0, 0, by omega, rfl, rfl, HT0.out⟩
  case round =>
    obtain ⟨j, a, b, c0, d, e0, hj, rfl, hsum, T⟩ := hrel
    have HJ := Lib.hid hsum
    clear hsum HT0
    by_cases hlt : j < n
    · have hd : decide ((j : Int) < (n : Int)) = true := by simp; omega
      obtain ⟨b0, off, x, y, z, t, l, rfl, hdx, R0⟩ := (HA.out.keep T.below).elem T.below.size hlt
      obtain ⟨b1, off', p, q, r, s, m, rfl, hdy, R1⟩ := (HB.out.keep T.below).elem T.below.size hlt
      have hokx := HOK.out _ (List.mem_of_getElem? hdx)
      obtain ⟨x', y', z', t', l', ok, hI, hS, hT, hF⟩ := mulD_u x (-t) (-z) (-y) l p q r s m
      have HI := Lib.hid hS
      have HT := Lib.hid hT
      have HF := Lib.hid hF
      have HX := Lib.hid (show cus[j]? = some ⟨⟨x, -t, -z, -y⟩, l⟩ from HCU.out j _ hdx)
      have HY := Lib.hid hdy
      clear hI hS hT hF hdx hdy
      have i0 : (0 : Int) ≤ (j : Int) := by omega
      have i1 : (j : Int) < (n : Int) := by omega
      go_upto_region 7 with fail
      obtain ⟨la0, a00, a01, a02, a03, a04⟩ := R0.parts
      obtain ⟨la1, a10, a11, a12, a13, a14⟩ := R1.parts
      go_cut [8, 9] (fun s8 s9 wx => ∃ g : Nat, s8 = .pointer (some ⟨g, 0, none⟩) ∧ s9 = .bool ok ∧ Own w wx ((g, 29, #[.int .i64 x', .int .i64 y', .int .i64 z', .int .i64 t', .int .i64 l']) :: [(w2.heap.size, 29, #[.int .i64 a, .int .i64 b, .int .i64 c0, .int .i64 d, .int .i64 e0]), (w.heap.size, 29, #[.int .i64 0, .int .i64 0, .int .i64 0, .int .i64 0, .int .i64 0])]))
      case first =>
        go_region_held3 (fun w' => w'.cell? ⟨b0, off + j * 5, none⟩ = some (.int .i64 x) ∧ w'.cell? ⟨b0, off + j * 5 + 1, none⟩ = some (.int .i64 y) ∧ w'.cell? ⟨b0, off + j * 5 + 2, none⟩ = some (.int .i64 z) ∧ w'.cell? ⟨b0, off + j * 5 + 3, none⟩ = some (.int .i64 t) ∧ w'.cell? ⟨b0, off + j * 5 + 4, none⟩ = some (.int .i64 l) ∧ w'.cell? ⟨b1, off' + j * 5, none⟩ = some (.int .i64 p) ∧ w'.cell? ⟨b1, off' + j * 5 + 1, none⟩ = some (.int .i64 q) ∧ w'.cell? ⟨b1, off' + j * 5 + 2, none⟩ = some (.int .i64 r) ∧ w'.cell? ⟨b1, off' + j * 5 + 3, none⟩ = some (.int .i64 s) ∧ w'.cell? ⟨b1, off' + j * 5 + 4, none⟩ = some (.int .i64 m)) (first | (with_reducible exact ⟨a00, a01, a02, a03, a04, a10, a11, a12, a13, a14⟩) | go_keep) (first | (go_at_call 88; refine (s_ConjD_t _ hokx).mono ?_; rintro e w1 ⟨rfl, hb⟩; (first | (have T := T.call hb; have R0 := R0.call hb; have R1 := R1.call hb; (try have kz := kz.call hb)) | (have T := T.drew.call hb; have R0 := R0.drew.call hb; have R1 := R1.drew.call hb; (try have kz := kz.drew.call hb)) | (have kz := Blk.new_call hb; have na0 := Nat.ne_of_lt la0; have ma0 := Nat.ne_of_gt la0; have na1 := Nat.ne_of_lt la1; have ma1 := Nat.ne_of_gt la1; have kg := T.below.size; have KN := T.lts; have T := (T.alloc _).call hb; have R0 := (R0.alloc _).call hb; have R1 := (R1.alloc _).call hb) | (have kz := Blk.new_drew_call hb; have na0 := Nat.ne_of_lt la0; have ma0 := Nat.ne_of_gt la0; have na1 := Nat.ne_of_lt la1; have ma1 := Nat.ne_of_gt la1; have kg := T.below.size; have KN := T.lts; have T := (T.alloc _).drew.call hb; have R0 := (R0.alloc _).drew.call hb; have R1 := (R1.alloc _).drew.call hb)); obtain ⟨la0, a00, a01, a02, a03, a04⟩ := R0.parts; obtain ⟨la1, a10, a11, a12, a13, a14⟩ := R1.parts; (try obtain ⟨cz0, cz1, cz2, cz3, cz4, fz0, fz1, fz2, fz3, fz4⟩ := kz.five)) | (go_at_call 83; refine (HI.out _).mono ?_; rintro e w1 ⟨rfl, hb⟩; (first | (have T := T.call hb; have R0 := R0.call hb; have R1 := R1.call hb; (try have kz := kz.call hb)) | (have T := T.drew.call hb; have R0 := R0.drew.call hb; have R1 := R1.drew.call hb; (try have kz := kz.drew.call hb)) | (have kz := Blk.new_call hb; have na0 := Nat.ne_of_lt la0; have ma0 := Nat.ne_of_gt la0; have na1 := Nat.ne_of_lt la1; have ma1 := Nat.ne_of_gt la1; have kg := T.below.size; have KN := T.lts; have T := (T.alloc _).call hb; have R0 := (R0.alloc _).call hb; have R1 := (R1.alloc _).call hb) | (have kz := Blk.new_drew_call hb; have na0 := Nat.ne_of_lt la0; have ma0 := Nat.ne_of_gt la0; have na1 := Nat.ne_of_lt la1; have ma1 := Nat.ne_of_gt la1; have kg := T.below.size; have KN := T.lts; have T := (T.alloc _).drew.call hb; have R0 := (R0.alloc _).drew.call hb; have R1 := (R1.alloc _).drew.call hb)); obtain ⟨la0, a00, a01, a02, a03, a04⟩ := R0.parts; obtain ⟨la1, a10, a11, a12, a13, a14⟩ := R1.parts; (try obtain ⟨cz0, cz1, cz2, cz3, cz4, fz0, fz1, fz2, fz3, fz4⟩ := kz.five)))
        all_goals
          go_wp2_with fail
          go_meet
          first | (with_reducible exact ⟨_, rfl, rfl, T.push _ _⟩) | (with_reducible exact ⟨_, rfl, rfl, (T.add kz).put5 kg KN.out _ _ _ _ _⟩)
      case rest =>
        obtain ⟨g, rfl, rfl, T0⟩ := hcut
        clear T la0 la1 a00 a01 a02 a03 a04 a10 a11 a12 a13 a14
        obtain ⟨w3, rfl⟩ : ∃ w3, w3 = wc := ⟨_, rfl⟩
        have T1 := Lib.hid T0
        clear T0 R0 R1
        obtain ⟨x2, y2, z2, t2, l2, ok2, hI2, hS2, hT2, hF2⟩ := addD_u a b c0 d e0 x' y' z' t' l'
        have HI2 := Lib.hid hS2
        have HT2 := Lib.hid hT2
        have HF2 := Lib.hid hF2
        clear hI2 hS2 hT2 hF2
        obtain ⟨c00, c01, c02, c03, c04, -, -, -, -, -⟩ := T1.out.head.five
        obtain ⟨c10, c11, c12, c13, c14, -, -, -, -, -⟩ := T1.out.tail.head.five
        go_wp2_with fail
        refine (HI2.out _).mono ?_
        rintro e w4 ⟨rfl, hb4⟩
        have T4 := Lib.hid (T1.out.call hb4)
        clear hb4 T1 c00 c01 c02 c03 c04 c10 c11 c12 c13 c14
        obtain ⟨d0, d1, d2, d3, d4, f0, f1, f2, f3, f4⟩ := T4.out.tail.head.five
        obtain ⟨k0, k1, k2, k3, k4, h0, h1, h2, h3, h4⟩ := T4.out.tail.tail.head.five
        have gs := T4.out.tail.head.lt
        have gr := T4.out.tail.tail.head.lt
        have gsn : ¬ w2.heap.size = w4.heap.size := by omega
        have grn : ¬ w.heap.size = w4.heap.size := by omega
        have gsn' : ¬ w4.heap.size = w2.heap.size := by omega
        have grn' : ¬ w4.heap.size = w.heap.size := by omega
        have hw4 := T4.out.below
        have hbad : ok = false ∨ ok2 = false → V = .tuple #[.agg #[.int .i64 0, .int .i64 0, .int .i64 0, .int .i64 0, .int .i64 0], .bool false] := fun h => by
          have e : dotN cus vs (j + 1) = none := by
            cases ok
            · exact dotN_stop HX.out HY.out (HF.out rfl).1
            · rw [dotN_succ HJ.out HX.out HY.out (HT.out rfl)]; exact (HF2.out (by simpa using h)).1
          rw [HV.out, dotN_none e (by omega)]
          rfl
        have HBAD := Lib.hid hbad
        clear hbad
        cases ok
        · have ev := HBAD.out (.inl rfl)
          subst ev
          clear HBAD
          go_wp2
          refine bodyPost_ret (v := .tuple #[.agg #[.int .i64 0, .int .i64 0, .int .i64 0, .int .i64 0, .int .i64 0], .bool false]) (by simp [results, Try.results47, go_sem, *]) rfl (ret_mk ?_)
          repeat (first | (with_reducible exact Below.refl _ _) | (with_reducible assumption) | (with_reducible refine bl_alloc ?_ _) | (with_reducible refine bl_drew ?_) | (with_reducible refine bl_set ?_ (by simp <;> omega) _) | (with_reducible refine bl_call ?_ (by assumption)))
        · cases ok2
          · have ev := HBAD.out (.inr rfl)
            subst ev
            clear HBAD
            go_wp2
            refine bodyPost_ret (v := .tuple #[.agg #[.int .i64 0, .int .i64 0, .int .i64 0, .int .i64 0, .int .i64 0], .bool false]) (by simp [results, Try.results47, go_sem, *]) rfl (ret_mk ?_)
            repeat (first | (with_reducible exact Below.refl _ _) | (with_reducible assumption) | (with_reducible refine bl_alloc ?_ _) | (with_reducible refine bl_drew ?_) | (with_reducible refine bl_set ?_ (by simp <;> omega) _) | (with_reducible refine bl_call ?_ (by assumption)))
          · have HN := Lib.hid (show dotN cus vs (j + 1) = some ⟨⟨x2, y2, z2, t2⟩, l2⟩ by rw [dotN_succ HJ.out HX.out HY.out (HT.out rfl)]; exact HT2.out rfl)
            clear HBAD
            go_wp2
            go_roundw
            case rel =>
              have T5 := (T4.out.tail.put5n (by omega) (by first | (simp; done) | (simp; omega)) (.int .i64 x2) (.int .i64 y2) (.int .i64 z2) (.int .i64 t2) (.int .i64 l2)).alloc (.cells #[.int .i64 x2, .int .i64 y2, .int .i64 z2, .int .i64 t2, .int .i64 l2] 29)
              refine ⟨j + 1, x2, y2, z2, t2, l2, by omega, by go_num, HN.out, ?_⟩
              with_reducible exact T5
            case measure => simp [intOf]; omega
    · have hj' := hj
      have hd : decide ((j : Int) < (n : Int)) = false := by simp; omega
      have ev : V = .tuple #[.agg #[.int .i64 a, .int .i64 b, .int .i64 c0, .int .i64 d, .int .i64 e0], .bool true] := by rw [HV.out, show n = j by omega, HJ.out]; rfl
      subst ev
      obtain ⟨d0, d1, d2, d3, d4, f0, f1, f2, f3, f4⟩ := T.head.five
      obtain ⟨k0, k1, k2, k3, k4, h0, h1, h2, h3, h4⟩ := T.tail.head.five
      have gs := T.head.lt
      have gr := T.tail.head.lt
      have hw4 := T.below
      clear T
      go_wp2
      refine bodyPost_ret (v := .tuple #[.agg #[.int .i64 a, .int .i64 b, .int .i64 c0, .int .i64 d, .int .i64 e0], .bool true]) (by simp [results, Try.results47, go_sem, *]) rfl (ret_mk ?_)
      repeat (first | (with_reducible exact Below.refl _ _) | (with_reducible assumption) | (with_reducible refine bl_alloc ?_ _) | (with_reducible refine bl_drew ?_) | (with_reducible refine bl_set ?_ (by simp <;> omega) _) | (with_reducible refine bl_call ?_ (by assumption)))
end Go.Proofs.Ytaokfppadfoniaa
