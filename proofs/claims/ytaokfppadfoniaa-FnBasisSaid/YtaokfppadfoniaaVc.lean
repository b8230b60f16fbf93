/- Contracts: states scaled. -/
import Derived.Test.YtaokfppadfoniaaVc0
namespace Go.Proofs.Ytaokfppadfoniaa
open Go.RowKit
set_option linter.unusedVariables false
set_option maxHeartbeats 2000000 in
theorem i_Scale_ok (A : Option Addr) (n c : Nat) (ds : List DW) (p q r s m : Int) (V : Option (List DW)) (w : World) (hR : RD w w.heap.size A n ds) (h16 : n ≤ 16) (hok : okS ds = true) (hV : mapAll (fun i => (ds[i]?).bind (mulD · ⟨⟨p, q, r, s⟩, m⟩)) n = V) :
    Calls Try.prog 41 #[.slice A n c, .agg #[.int .i64 p, .int .i64 q, .int .i64 r, .int .i64 s, .int .i64 m]] w (RetV w 29 (V.getD []) V.isSome) := by
  have HVS : ∀ W, RD W W.heap.size A n ds → Calls Try.prog 35 #[.slice A n c] W (Ret (.bool true) W) := fun W h => by
    have := i_VS A n c ds W h (by omega)
    rwa [hok] at this
  have HV := Lib.hid hV
  have HVS' := Lib.hid HVS
  have HR := Lib.hid hR
  clear hV HVS hR hok
  go_enter Try.func41, Try.ntmps41
  go_wp2_with fail
  refine (HVS'.out _ (HR.out.call (below_alloc w _))).mono ?_
  rintro e w1 ⟨rfl, hb1⟩
  have HX1 := Lib.hid ((Blk.new w 29 #[.int .i64 p, .int .i64 q, .int .i64 r, .int .i64 s, .int .i64 m]).call hb1)
  have hw1 : Below w.heap.size w w1 := bl_call (below_alloc w _) hb1
  have hs1 : w.heap.size + 1 ≤ w1.heap.size := by have := hb1.size; simpa using this
  clear hb1
  go_wp2
  go_loopw [6, 17] (fun v i wr => MapX w n (fun i => (ds[i]?).bind (mulD · ⟨⟨p, q, r, s⟩, m⟩)) #[.int .i64 p, .int .i64 q, .int .i64 r, .int .i64 s, .int .i64 m] v i wr) (fun _ i _ => n - (intOf i).toNat)
  case atStart => exact ⟨0, [], by omega, rfl, rfl, OutS.start w1 _ _ _ hs1 rfl, bl_alloc hw1 _, by simp; omega, HX1.out.alloc _⟩
  case round =>
    obtain ⟨j, o, hj, rfl, hm, hO, hb, hs, hx⟩ := hrel
    have HO := Lib.hid hO
    have HM := Lib.hid hm
    have HX := Lib.hid hx
    clear hO hm hx HX1 hw1 hs1
    by_cases hlt : j < n
    · have hd : decide ((j : Int) < (n : Int)) = true := by simp; omega
      obtain ⟨b0, off, x, y, z, t, l, rfl, hB, hdx, c0, c1, c2, c3, c4⟩ := (HR.out.keep hb).at hlt
      obtain ⟨x', y', z', t', l', ok, hI, -, hT, hF⟩ := mulD_u x y z t l p q r s m
      have HI := Lib.hid hI
      have HT := Lib.hid (fun (e : ok = true) => show (ds[j]?).bind (mulD · ⟨⟨p, q, r, s⟩, m⟩) = some ⟨⟨x', y', z', t'⟩, l'⟩ by rw [hdx]; exact hT e)
      have HF := Lib.hid (fun (e : ok = false) => show (ds[j]?).bind (mulD · ⟨⟨p, q, r, s⟩, m⟩) = none by rw [hdx]; exact (hF e).1)
      clear hI hT hF hdx
      obtain ⟨k0, k1, k2, k3, k4, -, -, -, -, -⟩ := HX.out.five
      have gl := HX.out.lt
      have gn : ¬ w.heap.size = wr.heap.size := by omega
      have i0 : (0 : Int) ≤ (j : Int) := by omega
      have i1 : (j : Int) < (n : Int) := by omega
      cases ok
      · have e : V = none := HV.out.symm.trans (mapAll_stop (k := j) (HF.out rfl) hlt)
        subst e
        go_wp2_with fail
        refine (HI.out _).mono ?_
        rintro e w2 ⟨rfl, hb2⟩
        go_wp2
        go_ret2
        refine ⟨none, 0, rfl, OwnS.nil, ?_⟩
        repeat (first | (with_reducible exact Below.refl _ _) | (with_reducible assumption) | (with_reducible refine bl_alloc ?_ _) | (with_reducible refine bl_drew ?_) | (with_reducible refine bl_set ?_ (by simp <;> omega) _) | (with_reducible refine bl_call ?_ (by assumption)))
      · have HS := Lib.hid (mapAll_succ HM.out (HT.out rfl))
        have hl := mapAll_len HM.out
        have hl' : o.length ≤ 2000000 := by omega
        clear hl
        go_wp2_with fail
        refine (HI.out _).mono ?_
        rintro e w2 ⟨rfl, hb2⟩
        have hs2 : w.heap.size + 1 < w2.heap.size := by have := hb2.size; simp at this; omega
        have HO2 := Lib.hid ((HO.out.alloc _).call hb2)
        have HX2 := Lib.hid ((HX.out.alloc _).call hb2)
        have HB2 := Lib.hid (bl_call (bl_alloc hb _) hb2)
        clear hb2
        go_wp2_with (at_builtin; refine app_step _ rfl (.tmp 29) (.tmp 31) rfl (w.heap.size + 1) _ _ rfl ((HO2.out.alloc _).alloc _) (w2.heap.size + 1) x' y' z' t' l' rfl (Blk.new2 w2 _ _ _ _) hl' (by simp; omega) ?_; intro v' w' hO' hg' hrow')
        go_roundw
        case rel =>
          have hz := hg'.size
          refine ⟨j + 1, _, by omega, by go_num, HS.out, hO', below_grown (bl_alloc (bl_alloc HB2.out _) _) hg' (fun k hk => by have := hrow' k hk; omega) (by simp; omega), ?_, ?_⟩
          · simp at hz
            omega
          · exact ((HX2.out.alloc _).alloc _).grown hg' (fun e => by have := hrow' _ e.symm; omega)
        case measure => simp [intOf]; omega
    · have hd : decide ((j : Int) < (n : Int)) = false := by simp; omega
      have e : V = some o := HV.out.symm.trans (by rw [show n = j by omega]; exact HM.out)
      subst e
      go_wp2
      go_ret2
      obtain ⟨A', c', rfl, hA⟩ := HO.out.slice
      exact ⟨A', c', rfl, fun hp => by obtain ⟨g, N, f, h1, h2, h3⟩ := hA hp; exact ⟨g, N, f, h1, by omega, h3⟩, hb⟩
set_option maxHeartbeats 400000 in
theorem i_Scale_bad (A : Option Addr) (n c : Nat) (ds : List DW) (p q r s m : Int) (w : World) (hR : RD w w.heap.size A n ds) (hn : n ≤ 9223372036854775807) (hok : okS ds = false) :
    Calls Try.prog 41 #[.slice A n c, .agg #[.int .i64 p, .int .i64 q, .int .i64 r, .int .i64 s, .int .i64 m]] w (RetV w 29 [] false) := by
  have HVS : ∀ W, RD W W.heap.size A n ds → Calls Try.prog 35 #[.slice A n c] W (Ret (.bool false) W) := fun W h => by
    have := i_VS A n c ds W h hn
    rwa [hok] at this
  have HVS' := Lib.hid HVS
  have HR := Lib.hid hR
  clear HVS hR hok
  go_enter Try.func41, Try.ntmps41
  go_wp2_with fail
  refine (HVS'.out _ (HR.out.call (below_alloc w _))).mono ?_
  rintro e w1 ⟨rfl, hb1⟩
  go_wp2
  go_ret2
  refine ⟨none, 0, rfl, OwnS.nil, ?_⟩
  repeat (first | (with_reducible exact Below.refl _ _) | (with_reducible assumption) | (with_reducible refine bl_alloc ?_ _) | (with_reducible refine bl_drew ?_) | (with_reducible refine bl_set ?_ (by simp <;> omega) _) | (with_reducible refine bl_call ?_ (by assumption)))
set_option maxHeartbeats 2000000 in
theorem s_Scale_ok (A : Option Addr) (n c : Nat) (ds : List DW) (p q r s m : Int) (V : Option (List DW)) (w : World) (hR : RD w w.heap.size A n ds) (h16 : n ≤ 16) (hok : okS ds = true) (hV : mapAll (fun i => (ds[i]?).bind (mulD · ⟨⟨p, q, r, s⟩, m⟩)) n = V) :
    Calls Try.prog 38 #[.slice A n c, .agg #[.int .i64 p, .int .i64 q, .int .i64 r, .int .i64 s, .int .i64 m]] w (RetV w 29 (V.getD []) V.isSome) := by
  have HVS : ∀ W, RD W W.heap.size A n ds → Calls Try.prog 84 #[.slice A n c] W (Ret (.bool true) W) := fun W h => by
    have := s_VS A n c ds W h (by omega)
    rwa [hok] at this
  have HV := Lib.hid hV
  have HVS' := Lib.hid HVS
  have HR := Lib.hid hR
  clear hV HVS hR hok
  go_enter Try.func38, Try.ntmps38
  go_wp2
  go_loopw [6, 7] (fun v i wr => MapX w n (fun i => (ds[i]?).bind (mulD · ⟨⟨p, q, r, s⟩, m⟩)) #[.int .i64 p, .int .i64 q, .int .i64 r, .int .i64 s, .int .i64 m] v i wr) (fun _ i _ => n - (intOf i).toNat)
  case atStart =>
    have hO := OutS.start (w.alloc (.cells #[.int .i64 p, .int .i64 q, .int .i64 r, .int .i64 s, .int .i64 m] 29)) (w.heap.size + 1) 29 #[] (by simp) rfl
    exact ⟨0, [], by omega, rfl, rfl, by simpa using hO, bl_alloc (below_alloc w _) _, by simp, (Blk.new w _ _).alloc _⟩
  case round =>
    obtain ⟨j, o, hj, rfl, hm, hO, hb, hs, hx⟩ := hrel
    have HO := Lib.hid hO
    have HM := Lib.hid hm
    have HX := Lib.hid hx
    clear hO hm hx
    by_cases hlt : j < n
    · have hd : decide ((j : Int) < (n : Int)) = true := by simp; omega
      obtain ⟨b0, off, x, y, z, t, l, rfl, hdx, R0⟩ := (HR.out.keep hb).elem (by omega) hlt
      obtain ⟨x', y', z', t', l', ok, -, hI, hT, hF⟩ := mulD_u x y z t l p q r s m
      have HI := Lib.hid hI
      have HT := Lib.hid (fun (e : ok = true) => show (ds[j]?).bind (mulD · ⟨⟨p, q, r, s⟩, m⟩) = some ⟨⟨x', y', z', t'⟩, l'⟩ by rw [hdx]; exact hT e)
      have HF := Lib.hid (fun (e : ok = false) => show (ds[j]?).bind (mulD · ⟨⟨p, q, r, s⟩, m⟩) = none by rw [hdx]; exact (hF e).1)
      clear hI hT hF hdx
      have T : Own wr wr [(w.heap.size, 29, #[.int .i64 p, .int .i64 q, .int .i64 r, .int .i64 s, .int .i64 m])] := (Own.start wr).add HX.out
      have i0 : (0 : Int) ≤ (j : Int) := by omega
      have i1 : (j : Int) < (n : Int) := by omega
      go_upto_region 5 with fail
      obtain ⟨c00, c01, c02, c03, c04, -, -, -, -, -⟩ := T.head.five
      have l0 := T.head.lt
      obtain ⟨la0, a00, a01, a02, a03, a04⟩ := R0.parts
      go_cut [8, 9] (fun s8 s9 wx => ∃ g : Nat, s8 = .pointer (some ⟨g, 0, none⟩) ∧ s9 = .bool ok ∧ Own wr wx ((g, 29, #[.int .i64 x', .int .i64 y', .int .i64 z', .int .i64 t', .int .i64 l']) :: [(w.heap.size, 29, #[.int .i64 p, .int .i64 q, .int .i64 r, .int .i64 s, .int .i64 m])]))
      case first =>
        go_region_held3 (fun w' => w'.cell? ⟨w.heap.size, 0, none⟩ = some (.int .i64 p) ∧ w'.cell? ⟨w.heap.size, 1, none⟩ = some (.int .i64 q) ∧ w'.cell? ⟨w.heap.size, 2, none⟩ = some (.int .i64 r) ∧ w'.cell? ⟨w.heap.size, 3, none⟩ = some (.int .i64 s) ∧ w'.cell? ⟨w.heap.size, 4, none⟩ = some (.int .i64 m) ∧ w'.cell? ⟨b0, off + j * 5, none⟩ = some (.int .i64 x) ∧ w'.cell? ⟨b0, off + j * 5 + 1, none⟩ = some (.int .i64 y) ∧ w'.cell? ⟨b0, off + j * 5 + 2, none⟩ = some (.int .i64 z) ∧ w'.cell? ⟨b0, off + j * 5 + 3, none⟩ = some (.int .i64 t) ∧ w'.cell? ⟨b0, off + j * 5 + 4, none⟩ = some (.int .i64 l)) (first | (with_reducible exact ⟨c00, c01, c02, c03, c04, a00, a01, a02, a03, a04⟩) | go_keep) (first | (go_at_call 83; refine (HI.out _).mono ?_; rintro e w1 ⟨rfl, hb⟩; (first | (have T := T.call hb; have R0 := R0.call hb; (try have kz := kz.call hb)) | (have T := T.drew.call hb; have R0 := R0.drew.call hb; (try have kz := kz.drew.call hb)) | (have kz := Blk.new_call hb; have n0 := Nat.ne_of_lt l0; have m0 := Nat.ne_of_gt l0; have na0 := Nat.ne_of_lt la0; have ma0 := Nat.ne_of_gt la0; have kg := T.below.size; have KN := T.lts; have T := (T.alloc _).call hb; have R0 := (R0.alloc _).call hb) | (have kz := Blk.new_drew_call hb; have n0 := Nat.ne_of_lt l0; have m0 := Nat.ne_of_gt l0; have na0 := Nat.ne_of_lt la0; have ma0 := Nat.ne_of_gt la0; have kg := T.below.size; have KN := T.lts; have T := (T.alloc _).drew.call hb; have R0 := (R0.alloc _).drew.call hb)); obtain ⟨c00, c01, c02, c03, c04, -, -, -, -, -⟩ := T.head.five; have l0 := T.head.lt; obtain ⟨la0, a00, a01, a02, a03, a04⟩ := R0.parts; (try obtain ⟨cz0, cz1, cz2, cz3, cz4, fz0, fz1, fz2, fz3, fz4⟩ := kz.five)))
        all_goals
          go_wp2_with fail
          go_meet
          first | (with_reducible exact ⟨_, rfl, rfl, T.push _ _⟩) | (with_reducible exact ⟨_, rfl, rfl, (T.add kz).put5 kg KN.out _ _ _ _ _⟩)
      case rest =>
        obtain ⟨g, rfl, rfl, T0⟩ := hcut
        clear T c00 c01 c02 c03 c04 l0 la0 a00 a01 a02 a03 a04
        obtain ⟨w2, rfl⟩ : ∃ w2, w2 = wc := ⟨_, rfl⟩
        have hs2 : wr.heap.size ≤ w2.heap.size := T0.below.size
        have HB2 := Lib.hid (bl_call hb T0.below)
        have R2 := Lib.hid (HR.out.call HB2.out)
        cases ok
        · have e : V = none := HV.out.symm.trans (mapAll_stop (k := j) (HF.out rfl) hlt)
          subst e
          clear T0 R0
          have HBB := HB2.out
          go_wp2
          go_ret2
          refine ⟨_, _, rfl, OwnS.nil, ?_⟩
          repeat (first | (with_reducible exact Below.refl _ _) | (with_reducible assumption) | (with_reducible refine bl_alloc ?_ _) | (with_reducible refine bl_drew ?_) | (with_reducible refine bl_set ?_ (by simp <;> omega) _) | (with_reducible refine bl_call ?_ (by assumption)))
        · have HS := Lib.hid (mapAll_succ HM.out (HT.out rfl))
          have hl := mapAll_len HM.out
          have hl' : o.length ≤ 2000000 := by omega
          clear hl
          have T1 := Lib.hid T0
          clear T0 R0
          go_wp2_with fail
          refine (HVS'.out _ R2.out).mono ?_
          rintro e w3 ⟨rfl, hb3⟩
          have T3 := Lib.hid (T1.out.call hb3)
          have HO3 := Lib.hid ((HO.out.call T1.out.below).call hb3)
          have HB3 := Lib.hid (bl_call HB2.out hb3)
          have hs3 : w.heap.size + 1 ≤ w3.heap.size := by have := hb3.size; omega
          clear hb3 T1
          obtain ⟨c0, c1, c2, c3, c4, -, -, -, -, -⟩ := T3.out.head.five
          have gl := T3.out.head.lt
          have gn : ¬ g = w3.heap.size := by omega
          go_wp2_with (at_builtin; refine app_step _ rfl (.tmp 34) (.tmp 36) rfl (w.heap.size + 1) _ _ rfl (HO3.out.alloc _) w3.heap.size x' y' z' t' l' rfl (Blk.new w3 _ _) hl' (by simp; omega) ?_; intro v' w' hO' hg' hrow')
          go_roundw
          case rel =>
            have hz := hg'.size
            refine ⟨j + 1, _, by omega, by go_num, HS.out, hO', below_grown (bl_alloc HB3.out _) hg' (fun k hk => by have := hrow' k hk; omega) (by simp; omega), ?_, ?_⟩
            · simp at hz
              omega
            · exact (T3.out.tail.head.alloc _).grown hg' (fun e => by have := hrow' _ e.symm; omega)
          case measure => simp [intOf]; omega
    · have hd : decide ((j : Int) < (n : Int)) = false := by simp; omega
      have e : V = some o := HV.out.symm.trans (by rw [show n = j by omega]; exact HM.out)
      subst e
      have R2 := Lib.hid (HR.out.call hb)
      go_wp2_with fail
      refine (HVS'.out _ R2.out).mono ?_
      rintro e w3 ⟨rfl, hb3⟩
      have HO3 := Lib.hid (HO.out.call hb3)
      have HB3 := Lib.hid (bl_call hb hb3)
      clear hb3
      go_wp2
      go_ret2
      obtain ⟨A', c', rfl, hA⟩ := HO3.out.slice
      exact ⟨A', c', rfl, fun hp => by obtain ⟨g, N, f, h1, h2, h3⟩ := hA hp; exact ⟨g, N, f, h1, by omega, h3⟩, HB3.out⟩
end Go.Proofs.Ytaokfppadfoniaa
