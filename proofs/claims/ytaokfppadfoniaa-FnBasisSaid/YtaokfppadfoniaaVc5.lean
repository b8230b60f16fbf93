/- Contracts: scaled states that are not valid; the contracts of the states in one form. -/
import Derived.Test.YtaokfppadfoniaaVc
import Derived.Test.YtaokfppadfoniaaVc2
import Derived.Test.YtaokfppadfoniaaVc4
namespace Go.Proofs.Ytaokfppadfoniaa
open Go.RowKit
set_option linter.unusedVariables false
set_option maxHeartbeats 2000000 in
theorem s_Scale_bad (A : Option Addr) (n c : Nat) (ds : List DW) (p q r s m : Int) (w : World) (hR : RD w w.heap.size A n ds) (hn : n ≤ 9223372036854775807) (hok : okS ds = false) :
    Calls Try.prog 38 #[.slice A n c, .agg #[.int .i64 p, .int .i64 q, .int .i64 r, .int .i64 s, .int .i64 m]] w (RetV w 29 [] false) := by
  have HVS : ∀ W, RD W W.heap.size A n ds → Calls Try.prog 84 #[.slice A n c] W (Ret (.bool false) W) := fun W h => by
    have := s_VS A n c ds W h hn
    rwa [hok] at this
  have HVS' := Lib.hid HVS
  have HR := Lib.hid hR
  clear HVS hR hok
  go_enter Try.func38, Try.ntmps38
  go_wp2
  go_loopw [6, 7] (fun v i wr => MapX w n (fun _ => none) #[.int .i64 p, .int .i64 q, .int .i64 r, .int .i64 s, .int .i64 m] v i wr) (fun _ i _ => n - (intOf i).toNat)
  case atStart =>
    have hO := OutS.start (w.alloc (.cells #[.int .i64 p, .int .i64 q, .int .i64 r, .int .i64 s, .int .i64 m] 29)) (w.heap.size + 1) 29 #[] (by simp) rfl
    exact ⟨0, [], by omega, rfl, rfl, by simpa using hO, bl_alloc (below_alloc w _) _, by simp, (Blk.new w _ _).alloc _⟩
  case round =>
    obtain ⟨j, o, hj, rfl, hm, hO, hb, hs, hx⟩ := hrel
    obtain ⟨A9, c9, rfl, hown⟩ := hO.slice
    have ho : o = [] := by
      cases j with
      | zero =>
        have e : some [] = some o := hm
        injection e with e
        exact e.symm
      | succ j =>
        unfold mapAll at hm
        cases h : mapAll (fun _ => (none : Option DW)) j with
        | none => rw [h] at hm; cases hm
        | some v => rw [h] at hm; cases hm
    subst ho
    have HX := Lib.hid hx
    clear hm hx hown
    by_cases hlt : j < n
    · have hd : decide ((j : Int) < (n : Int)) = true := by simp; omega
      obtain ⟨b0, off, x, y, z, t, l, rfl, hdx, R0⟩ := (HR.out.keep hb).elem (by omega) hlt
      obtain ⟨x', y', z', t', l', ok, -, hI, -, -⟩ := mulD_u x y z t l p q r s m
      have HI := Lib.hid hI
      clear hI hdx
      have T : Own wr wr [(w.heap.size, 29, #[.int .i64 p, .int .i64 q, .int .i64 r, .int .i64 s, .int .i64 m])] := (Own.start wr).add HX.out
      have i0 : (0 : Int) ≤ (j : Int) := by omega
      have i1 : (j : Int) < (n : Int) := by omega
      go_upto_region 5 with fail
      obtain ⟨c00, c01, c02, c03, c04, -, -, -, -, -⟩ := T.head.five
      have l0 := T.head.lt
      obtain ⟨la0, a00, a01, a02, a03, a04⟩ := R0.parts
      go_cut [8, 9] (fun s8 s9 wx => ∃ g : Nat, s8 = .pointer (some ⟨g, 0, none⟩) ∧ s9 = .bool ok ∧ Own wr wx ((g, 29, #[.int .i64 x', .int .i64 y', .int .i64 z', .int .i64 t', .int .i64 l']) :: [(w.heap.size, 29, #[.int .i64 p, .int .i64 q, .int .i64 r, .int .i64 s, .int .i64 m])]))
      case first =>
        go_region_held3 (fun w' => w'.cell? ⟨w.heap.size, 0, none⟩ = some (.int .i64 p) ∧ w'.cell? ⟨w.heap.size, 1, none⟩ = some (.int .i64 q) ∧ w'.cell? ⟨w.heap.size, 2, none⟩ = some (.int .i64 r) ∧ w'.cell? ⟨w.heap.size, 3, none⟩ = some (.int .i64 s) ∧ w'.cell? ⟨w.heap.size, 4, none⟩ = some (.int .i64 m) ∧ w'.cell? ⟨b0, off + j * 5, none⟩ = some (.int .i64 x) ∧ w'.cell? ⟨b0, off + j * 5 + 1, none⟩ = some (.int .i64 y) ∧ w'.cell? ⟨b0, off + j * 5 + 2, none⟩ = some (.int .i64 z) ∧ w'.cell? ⟨b0, off + j * 5 + 3, none⟩ = some (.int .i64 t) ∧ w'.cell? ⟨b0, off + j * 5 + 4, none⟩ = some (.int .i64 l)) (first | (with_reducible exact ⟨c00, c01, c02, c03, c04, a00, a01, a02, a03, a04⟩) | go_keep) (first | (go_at_call 83; refine (HI.out _).mono ?_; rintro e w1 ⟨rfl, hb⟩; (first | (have T := T.call hb; have R0 := R0.call hb; (try have kz := kz.call hb)) | (have T := T.drew.call hb; have R0 := R0.drew.call hb; (try have kz := kz.drew.call hb)) | (have kz := Blk.new_call hb; have n0 := Nat.ne_of_lt l0; have m0 := Nat.ne_of_gt l0; have na0 := Nat.ne_of_lt la0; have ma0 := Nat.ne_of_gt la0; have kg := T.below.size; have KN := T.lts; have T := (T.alloc _).call hb; have R0 := (R0.alloc _).call hb) | (have kz := Blk.new_drew_call hb; have n0 := Nat.ne_of_lt l0; have m0 := Nat.ne_of_gt l0; have na0 := Nat.ne_of_lt la0; have ma0 := Nat.ne_of_gt la0; have kg := T.below.size; have KN := T.lts; have T := (T.alloc _).drew.call hb; have R0 := (R0.alloc _).drew.call hb)); obtain ⟨c00, c01, c02, c03, c04, -, -, -, -, -⟩ := T.head.five; have l0 := T.head.lt; obtain ⟨la0, a00, a01, a02, a03, a04⟩ := R0.parts; (try obtain ⟨cz0, cz1, cz2, cz3, cz4, fz0, fz1, fz2, fz3, fz4⟩ := kz.five)))
        all_goals
          go_wp2_with fail
          go_meet
          first | (with_reducible exact ⟨_, rfl, rfl, T.push _ _⟩) | (with_reducible exact ⟨_, rfl, rfl, (T.add kz).put5 kg KN.out _ _ _ _ _⟩)
      case rest =>
        obtain ⟨g, rfl, rfl, T0⟩ := hcut
        clear T c00 c01 c02 c03 c04 l0 la0 a00 a01 a02 a03 a04
        obtain ⟨w2, rfl⟩ : ∃ w2, w2 = wc := ⟨_, rfl⟩
        have hs2 : wr.heap.size ≤ w2.heap.size := T0.below.size
        have HB2 := Lib.hid (bl_call hb T0.below)
        have R2 := Lib.hid (HR.out.call HB2.out)
        cases ok
        · clear T0 R0
          have HBB := HB2.out
          go_wp2
          go_ret2
          refine ⟨_, _, rfl, OwnS.nil, ?_⟩
          repeat (first | (with_reducible exact Below.refl _ _) | (with_reducible assumption) | (with_reducible refine bl_alloc ?_ _) | (with_reducible refine bl_drew ?_) | (with_reducible refine bl_set ?_ (by simp <;> omega) _) | (with_reducible refine bl_call ?_ (by assumption)))
        · clear T0 R0
          go_wp2_with fail
          refine (HVS'.out _ R2.out).mono ?_
          rintro e w3 ⟨rfl, hb3⟩
          have HBB := bl_call HB2.out hb3
          clear hb3
          go_wp2
          go_ret2
          refine ⟨_, _, rfl, OwnS.nil, ?_⟩
          repeat (first | (with_reducible exact Below.refl _ _) | (with_reducible assumption) | (with_reducible refine bl_alloc ?_ _) | (with_reducible refine bl_drew ?_) | (with_reducible refine bl_set ?_ (by simp <;> omega) _) | (with_reducible refine bl_call ?_ (by assumption)))
    · have hd : decide ((j : Int) < (n : Int)) = false := by simp; omega
      have R2 := Lib.hid (HR.out.call hb)
      go_wp2_with fail
      refine (HVS'.out _ R2.out).mono ?_
      rintro e w3 ⟨rfl, hb3⟩
      have HB3 := Lib.hid (bl_call hb hb3)
      clear hb3
      go_wp2
      go_ret2
      exact ⟨A9, c9, rfl, OwnS.nil, HB3.out⟩
theorem i_Scale {A : Option Addr} {n c : Nat} {ds : List DW} {p q r s m : Int} (w : World) (hR : RD w w.heap.size A n ds) (hn : n ≤ 9223372036854775807) :
    Calls Try.prog 41 #[.slice A n c, .agg #[.int .i64 p, .int .i64 q, .int .i64 r, .int .i64 s, .int .i64 m]] w (RetV w 29 ((scaleD ds ⟨⟨p, q, r, s⟩, m⟩).getD []) (scaleD ds ⟨⟨p, q, r, s⟩, m⟩).isSome) := by
  cases h : okS ds
  · have e : scaleD ds ⟨⟨p, q, r, s⟩, m⟩ = none := by unfold scaleD; rw [if_neg (by simp [h])]
    rw [e]
    exact i_Scale_bad A n c ds p q r s m w hR hn h
  · have e : scaleD ds ⟨⟨p, q, r, s⟩, m⟩ = mapAll (fun i => (ds[i]?).bind (mulD · ⟨⟨p, q, r, s⟩, m⟩)) n := by unfold scaleD; rw [if_pos h, ← hR.1]
    have := (okS_len h).2
    exact i_Scale_ok A n c ds p q r s m _ w hR (by rw [hR.1]; exact this) h e.symm
theorem i_AddS {A B : Option Addr} {n m c c' : Nat} {us vs : List DW} (w : World) (hA : RD w w.heap.size A n us) (hB : RD w w.heap.size B m vs) (hn : n ≤ 9223372036854775807) (hm : m ≤ 9223372036854775807) :
    Calls Try.prog 46 #[.slice A n c, .slice B m c'] w (RetV w 29 ((addV us vs).getD []) (addV us vs).isSome) := by
  by_cases h : okS us = true ∧ okS vs = true ∧ us.length = vs.length
  · obtain rfl : m = n := by rw [hA.1, hB.1]; exact h.2.2.symm
    have e : addV us vs = mapAll (fun i => (us[i]?).bind fun u => (vs[i]?).bind fun v => addD u v) m := by unfold addV; rw [if_pos h, ← hA.1]
    have := (okS_len h.1).2
    exact i_AddS_ok A B m c c' us vs _ w hA hB (by rw [hA.1]; exact this) h.1 h.2.1 e.symm
  · have e : addV us vs = none := by unfold addV; rw [if_neg h]
    rw [e]
    exact i_AddS_bad A B n m c c' us vs w hA hB hn hm h
theorem i_Inner {A B : Option Addr} {n m c c' : Nat} {us vs : List DW} (w : World) (hA : RD w w.heap.size A n us) (hB : RD w w.heap.size B m vs) (hn : n ≤ 9223372036854775807) (hm : m ≤ 9223372036854775807) :
    Calls Try.prog 32 #[.slice A n c, .slice B m c'] w (Ret (outV (innerD us vs)) w) := by
  by_cases h : okS us = true ∧ okS vs = true ∧ us.length = vs.length
  · obtain rfl : m = n := by rw [hA.1, hB.1]; exact h.2.2.symm
    have e : innerD us vs = dotN (us.map dconj) vs m := by unfold innerD; rw [if_pos h, ← hA.1]
    have := (okS_len h.1).2
    rw [e]
    exact i_Inner_ok A B m c c' us vs _ w hA hB (by rw [hA.1]; exact this) h.1 h.2.1 rfl
  · have e : innerD us vs = none := by unfold innerD; rw [if_neg h]
    rw [e]
    exact i_Inner_bad A B n m c c' us vs w hA hB hn hm h
theorem s_Scale {A : Option Addr} {n c : Nat} {ds : List DW} {p q r s m : Int} (w : World) (hR : RD w w.heap.size A n ds) (hn : n ≤ 9223372036854775807) :
    Calls Try.prog 38 #[.slice A n c, .agg #[.int .i64 p, .int .i64 q, .int .i64 r, .int .i64 s, .int .i64 m]] w (RetV w 29 ((scaleD ds ⟨⟨p, q, r, s⟩, m⟩).getD []) (scaleD ds ⟨⟨p, q, r, s⟩, m⟩).isSome) := by
  cases h : okS ds
  · have e : scaleD ds ⟨⟨p, q, r, s⟩, m⟩ = none := by unfold scaleD; rw [if_neg (by simp [h])]
    rw [e]
    exact s_Scale_bad A n c ds p q r s m w hR hn h
  · have e : scaleD ds ⟨⟨p, q, r, s⟩, m⟩ = mapAll (fun i => (ds[i]?).bind (mulD · ⟨⟨p, q, r, s⟩, m⟩)) n := by unfold scaleD; rw [if_pos h, ← hR.1]
    have := (okS_len h).2
    exact s_Scale_ok A n c ds p q r s m _ w hR (by rw [hR.1]; exact this) h e.symm
theorem s_AddS {A B : Option Addr} {n m c c' : Nat} {us vs : List DW} (w : World) (hA : RD w w.heap.size A n us) (hB : RD w w.heap.size B m vs) (hn : n ≤ 9223372036854775807) (hm : m ≤ 9223372036854775807) :
    Calls Try.prog 45 #[.slice A n c, .slice B m c'] w (RetV w 29 ((addV us vs).getD []) (addV us vs).isSome) := by
  by_cases h : okS us = true ∧ okS vs = true ∧ us.length = vs.length
  · obtain rfl : m = n := by rw [hA.1, hB.1]; exact h.2.2.symm
    have e : addV us vs = mapAll (fun i => (us[i]?).bind fun u => (vs[i]?).bind fun v => addD u v) m := by unfold addV; rw [if_pos h, ← hA.1]
    have := (okS_len h.1).2
    exact s_AddS_ok A B m c c' us vs _ w hA hB (by rw [hA.1]; exact this) h.1 h.2.1 e.symm
  · have e : addV us vs = none := by unfold addV; rw [if_neg h]
    rw [e]
    exact s_AddS_bad A B n m c c' us vs w hA hB hn hm h
theorem s_Inner {A B : Option Addr} {n m c c' : Nat} {us vs : List DW} (w : World) (hA : RD w w.heap.size A n us) (hB : RD w w.heap.size B m vs) (hn : n ≤ 9223372036854775807) (hm : m ≤ 9223372036854775807) :
    Calls Try.prog 47 #[.slice A n c, .slice B m c'] w (Ret (outV (innerD us vs)) w) := by
  by_cases h : okS us = true ∧ okS vs = true ∧ us.length = vs.length
  · obtain rfl : m = n := by rw [hA.1, hB.1]; exact h.2.2.symm
    have e : innerD us vs = dotN (us.map dconj) vs m := by unfold innerD; rw [if_pos h, ← hA.1]
    have := (okS_len h.1).2
    rw [e]
    exact s_Inner_ok A B m c c' us vs _ w hA hB (by rw [hA.1]; exact this) h.1 h.2.1 rfl
  · have e : innerD us vs = none := by unfold innerD; rw [if_neg h]
    rw [e]
    exact s_Inner_bad A B n m c c' us vs w hA hB hn hm h
end Go.Proofs.Ytaokfppadfoniaa
