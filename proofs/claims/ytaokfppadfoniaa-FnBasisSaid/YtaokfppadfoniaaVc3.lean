/- Contracts: sums of products. -/
import Derived.Test.YtaokfppadfoniaaVc0
namespace Go.Proofs.Ytaokfppadfoniaa
open Go.RowKit
set_option linter.unusedVariables false
theorem dotN_stop' {us vs : List DW} {n : Nat} {u v : DW} (hu : us[n]? = some u) (hv : vs[n]? = some v) (hp : mulD u v = none) : dotN us vs (n + 1) = none := dotN_stop hu hv hp
set_option maxHeartbeats 4000000 in
theorem i_dot (A B : Option Addr) (n c c' : Nat) (us vs : List DW) (V : Value) (w : World) (hA : RD w w.heap.size A n us) (hB : RD w w.heap.size B n vs) (h16 : n ≤ 16) (hV : V = outV (dotN us vs n)) :
    Calls Try.prog 81 #[.slice A n c, .slice B n c'] w (Ret V w) := by
  have HV := Lib.hid hV
  have HA := Lib.hid hA
  have HB := Lib.hid hB
  clear hV hA hB
  go_enter Try.func81, Try.ntmps81
  go_wp2
  go_loopw [15] (fun i wr => DotRel w (w.heap.size + 1) n us vs i wr) (fun i _ => n - (intOf i).toNat)
  case atStart => exact ⟨0, 0, 0, 0, 0, 0, by omega, rfl, rfl, by simpa using ((Own.start w).push 29 #[.int .i64 0, .int .i64 0, .int .i64 0, .int .i64 0, .int .i64 0]).push 29 #[.int .i64 0, .int .i64 0, .int .i64 0, .int .i64 0, .int .i64 0]⟩
  case round =>
    obtain ⟨j, a, b, c0, d, e0, hj, rfl, hsum, T⟩ := hrel
    have HJ := Lib.hid hsum
    clear hsum
    by_cases hlt : j < n
    · have hd : decide ((j : Int) < (n : Int)) = true := by simp; omega
      obtain ⟨b0, off, x, y, z, t, l, rfl, hdx, R0⟩ := (HA.out.keep T.below).elem T.below.size hlt
      obtain ⟨b1, off', p, q, r, s, m, rfl, hdy, R1⟩ := (HB.out.keep T.below).elem T.below.size hlt
      obtain ⟨x', y', z', t', l', ok, hI, hS, hT, hF⟩ := mulD_u x y z t l p q r s m
      have HI := Lib.hid hI
      have HT := Lib.hid hT
      have HF := Lib.hid hF
      have HX := Lib.hid hdx
      have HY := Lib.hid hdy
      clear hI hS hT hF hdx hdy
      have i0 : (0 : Int) ≤ (j : Int) := by omega
      have i1 : (j : Int) < (n : Int) := by omega
      go_upto_region 5 with fail
      obtain ⟨la0, a00, a01, a02, a03, a04⟩ := R0.parts
      obtain ⟨la1, a10, a11, a12, a13, a14⟩ := R1.parts
      go_cut [8, 9] (fun s8 s9 wx => ∃ g : Nat, s8 = .pointer (some ⟨g, 0, none⟩) ∧ s9 = .bool ok ∧ Own w wx ((g, 29, #[.int .i64 x', .int .i64 y', .int .i64 z', .int .i64 t', .int .i64 l']) :: [(w.heap.size + 1, 29, #[.int .i64 a, .int .i64 b, .int .i64 c0, .int .i64 d, .int .i64 e0]), (w.heap.size, 29, #[.int .i64 0, .int .i64 0, .int .i64 0, .int .i64 0, .int .i64 0])]))
      case first =>
        go_region_held3 (fun w' => w'.cell? ⟨b0, off + j * 5, none⟩ = some (.int .i64 x) ∧ w'.cell? ⟨b0, off + j * 5 + 1, none⟩ = some (.int .i64 y) ∧ w'.cell? ⟨b0, off + j * 5 + 2, none⟩ = some (.int .i64 z) ∧ w'.cell? ⟨b0, off + j * 5 + 3, none⟩ = some (.int .i64 t) ∧ w'.cell? ⟨b0, off + j * 5 + 4, none⟩ = some (.int .i64 l) ∧ w'.cell? ⟨b1, off' + j * 5, none⟩ = some (.int .i64 p) ∧ w'.cell? ⟨b1, off' + j * 5 + 1, none⟩ = some (.int .i64 q) ∧ w'.cell? ⟨b1, off' + j * 5 + 2, none⟩ = some (.int .i64 r) ∧ w'.cell? ⟨b1, off' + j * 5 + 3, none⟩ = some (.int .i64 s) ∧ w'.cell? ⟨b1, off' + j * 5 + 4, none⟩ = some (.int .i64 m)) (first | (with_reducible exact ⟨a00, a01, a02, a03, a04, a10, a11, a12, a13, a14⟩) | go_keep) (first | (go_at_call 25; refine (HI.out _).mono ?_; rintro e w1 ⟨rfl, hb⟩; (first | (have T := T.call hb; have R0 := R0.call hb; have R1 := R1.call hb; (try have kz := kz.call hb)) | (have T := T.drew.call hb; have R0 := R0.drew.call hb; have R1 := R1.drew.call hb; (try have kz := kz.drew.call hb)) | (have kz := Blk.new_call hb; have na0 := Nat.ne_of_lt la0; have ma0 := Nat.ne_of_gt la0; have na1 := Nat.ne_of_lt la1; have ma1 := Nat.ne_of_gt la1; have kg := T.below.size; have KN := T.lts; have T := (T.alloc _).call hb; have R0 := (R0.alloc _).call hb; have R1 := (R1.alloc _).call hb) | (have kz := Blk.new_drew_call hb; have na0 := Nat.ne_of_lt la0; have ma0 := Nat.ne_of_gt la0; have na1 := Nat.ne_of_lt la1; have ma1 := Nat.ne_of_gt la1; have kg := T.below.size; have KN := T.lts; have T := (T.alloc _).drew.call hb; have R0 := (R0.alloc _).drew.call hb; have R1 := (R1.alloc _).drew.call hb)); obtain ⟨la0, a00, a01, a02, a03, a04⟩ := R0.parts; obtain ⟨la1, a10, a11, a12, a13, a14⟩ := R1.parts; (try obtain ⟨cz0, cz1, cz2, cz3, cz4, fz0, fz1, fz2, fz3, fz4⟩ := kz.five)))
        all_goals
          go_wp2_with fail
          go_meet
          first | (with_reducible exact ⟨_, rfl, rfl, T.push _ _⟩) | (with_reducible exact ⟨_, rfl, rfl, (T.add kz).put5 kg KN.out _ _ _ _ _⟩)
      case rest =>
        obtain ⟨g, rfl, rfl, T0⟩ := hcut
        clear T la0 la1 a00 a01 a02 a03 a04 a10 a11 a12 a13 a14
        obtain ⟨w3, rfl⟩ : ∃ w3, w3 = wc := ⟨_, rfl⟩
        have T1 := Lib.hid T0
        clear T0 R0 R1
        obtain ⟨x2, y2, z2, t2, l2, ok2, hI2, hS2, hT2, hF2⟩ := addD_u a b c0 d e0 x' y' z' t' l'
        have HI2 := Lib.hid hI2
        have HT2 := Lib.hid hT2
        have HF2 := Lib.hid hF2
        clear hI2 hS2 hT2 hF2
        obtain ⟨c00, c01, c02, c03, c04, -, -, -, -, -⟩ := T1.out.head.five
        obtain ⟨c10, c11, c12, c13, c14, -, -, -, -, -⟩ := T1.out.tail.head.five
        go_wp2_with fail
        refine (HI2.out _).mono ?_
        rintro e w4 ⟨rfl, hb4⟩
        have T4 := Lib.hid (T1.out.call hb4)
        clear hb4 T1 c00 c01 c02 c03 c04 c10 c11 c12 c13 c14
        obtain ⟨d0, d1, d2, d3, d4, f0, f1, f2, f3, f4⟩ := T4.out.tail.head.five
        obtain ⟨k0, k1, k2, k3, k4, h0, h1, h2, h3, h4⟩ := T4.out.tail.tail.head.five
        have gs := T4.out.tail.head.lt
        have gr := T4.out.tail.tail.head.lt
        have gsn : ¬ w.heap.size + 1 = w4.heap.size := by omega
        have grn : ¬ w.heap.size = w4.heap.size := by omega
        have gsn' : ¬ w4.heap.size = w.heap.size + 1 := by omega
        have grn' : ¬ w4.heap.size = w.heap.size := by omega
        have hw4 := T4.out.below
        have hbad : ok = false ∨ ok2 = false → V = .tuple #[.agg #[.int .i64 0, .int .i64 0, .int .i64 0, .int .i64 0, .int .i64 0], .bool false] := fun h => by
          have e : dotN us vs (j + 1) = none := by
            cases ok
            · exact dotN_stop HX.out HY.out (HF.out rfl).1
            · rw [dotN_succ HJ.out HX.out HY.out (HT.out rfl)]; exact (HF2.out (by simpa using h)).1
          rw [HV.out, dotN_none e (by omega)]
          rfl
        have HBAD := Lib.hid hbad
        clear hbad
        cases ok
        · have ev := HBAD.out (.inl rfl)
          subst ev
          clear HBAD
          go_wp2
          refine bodyPost_ret (v := .tuple #[.agg #[.int .i64 0, .int .i64 0, .int .i64 0, .int .i64 0, .int .i64 0], .bool false]) (by simp [results, Try.results81, go_sem, *]) rfl (ret_mk ?_)
          repeat (first | (with_reducible exact Below.refl _ _) | (with_reducible assumption) | (with_reducible refine bl_alloc ?_ _) | (with_reducible refine bl_drew ?_) | (with_reducible refine bl_set ?_ (by simp <;> omega) _) | (with_reducible refine bl_call ?_ (by assumption)))
        · cases ok2
          · have ev := HBAD.out (.inr rfl)
            subst ev
            clear HBAD
            go_wp2
            refine bodyPost_ret (v := .tuple #[.agg #[.int .i64 0, .int .i64 0, .int .i64 0, .int .i64 0, .int .i64 0], .bool false]) (by simp [results, Try.results81, go_sem, *]) rfl (ret_mk ?_)
            repeat (first | (with_reducible exact Below.refl _ _) | (with_reducible assumption) | (with_reducible refine bl_alloc ?_ _) | (with_reducible refine bl_drew ?_) | (with_reducible refine bl_set ?_ (by simp <;> omega) _) | (with_reducible refine bl_call ?_ (by assumption)))
          · have HN := Lib.hid (show dotN us vs (j + 1) = some ⟨⟨x2, y2, z2, t2⟩, l2⟩ by rw [dotN_succ HJ.out HX.out HY.out (HT.out rfl)]; exact HT2.out rfl)
            clear HBAD
            go_wp2
            go_roundw
            case rel =>
              have T5 := (T4.out.tail.put5n (by omega) (by first | (simp; done) | (simp; omega)) (.int .i64 x2) (.int .i64 y2) (.int .i64 z2) (.int .i64 t2) (.int .i64 l2)).alloc (.cells #[.int .i64 x2, .int .i64 y2, .int .i64 z2, .int .i64 t2, .int .i64 l2] 29)
              refine ⟨j + 1, x2, y2, z2, t2, l2, by omega, by go_num, HN.out, ?_⟩
              with_reducible exact T5
            case measure => simp [intOf]; omega
    · have hj' := hj
      have hd : decide ((j : Int) < (n : Int)) = false := by simp; omega
      have ev : V = .tuple #[.agg #[.int .i64 a, .int .i64 b, .int .i64 c0, .int .i64 d, .int .i64 e0], .bool true] := by rw [HV.out, show n = j by omega, HJ.out]; rfl
      subst ev
      obtain ⟨d0, d1, d2, d3, d4, f0, f1, f2, f3, f4⟩ := T.head.five
      obtain ⟨k0, k1, k2, k3, k4, h0, h1, h2, h3, h4⟩ := T.tail.head.five
      have gs := T.head.lt
      have gr := T.tail.head.lt
      have hw4 := T.below
      clear T
      go_wp2
      refine bodyPost_ret (v := .tuple #[.agg #[.int .i64 a, .int .i64 b, .int .i64 c0, .int .i64 d, .int .i64 e0], .bool true]) (by simp [results, Try.results81, go_sem, *]) rfl (ret_mk ?_)
      repeat (first | (with_reducible exact Below.refl _ _) | (with_reducible assumption) | (with_reducible refine bl_alloc ?_ _) | (with_reducible refine bl_drew ?_) | (with_reducible refine bl_set ?_ (by simp <;> omega) _) | (with_reducible refine bl_call ?_ (by assumption)))
attribute [local go_sem ↓ high] eqlD
set_option maxHeartbeats 4000000 in
theorem s_row (A B : Option Addr) (n c c' : Nat) (us vs : List DW) (V : Value) (w : World) (hA : RD w w.heap.size A n us) (hB : RD w w.heap.size B n vs) (h16 : n ≤ 16) (hou : ∀ d ∈ us, okd d = true) (hov : ∀ d ∈ vs, okd d = true) (hV : V = outV (dotN us vs n)) :
    Calls Try.prog 95 #[.slice A n c, .slice B n c'] w (Ret V w) := by
  have HV := Lib.hid hV
  have HA := Lib.hid hA
  have HB := Lib.hid hB
  have HOU := Lib.hid hou
  have HOV := Lib.hid hov
  clear hV hA hB hou hov
  go_enter Try.func95, Try.ntmps95
  go_wp2
  go_loopw [7] (fun i wr => DotRel w (w.heap.size + 1) n us vs i wr) (fun i _ => n - (intOf i).toNat)
  case atStart => exact ⟨0, 0, 0, 0, 0, 0, by omega, rfl, rfl, by simpa using ((Own.start w).push 29 #[.int .i64 0, .int .i64 0, .int .i64 0, .int .i64 0, .int .i64 0]).push 29 #[.int .i64 0, .int .i64 0, .int .i64 0, .int .i64 0, .int .i64 0]⟩
  case round =>
    obtain ⟨j, a, b, c0, d, e0, hj, rfl, hsum, T⟩ := hrel
    have HJ := Lib.hid hsum
    clear hsum
    by_cases hlt : j < n
    · have hd : decide ((j : Int) < (n : Int)) = true := by simp; omega
      obtain ⟨b0, off, x, y, z, t, l, rfl, hdx, R0⟩ := (HA.out.keep T.below).elem T.below.size hlt
      obtain ⟨b1, off', p, q, r, s, m, rfl, hdy, R1⟩ := (HB.out.keep T.below).elem T.below.size hlt
      have HX := Lib.hid hdx
      have HY := Lib.hid hdy
      clear hdx hdy
      have i0 : (0 : Int) ≤ (j : Int) := by omega
      have i1 : (j : Int) < (n : Int) := by omega
      have hskip : eqDb x y z t l 0 0 0 0 0 = true ∨ eqDb p q r s m 0 0 0 0 0 = true → dotN us vs (j + 1) = some ⟨⟨a, b, c0, d⟩, e0⟩ := fun h => by
        refine dotN_skip HJ.out HX.out HY.out (HOU.out _ (List.mem_of_getElem? HX.out)) (HOV.out _ (List.mem_of_getElem? HY.out)) ?_
        rcases h with h | h
        · rw [eqDb_iff] at h
          obtain ⟨rfl, rfl, rfl, rfl, rfl⟩ := h
          exact .inl rfl
        · rw [eqDb_iff] at h
          obtain ⟨rfl, rfl, rfl, rfl, rfl⟩ := h
          exact .inr rfl
      have HSK := Lib.hid hskip
      clear hskip
      cases he1 : eqDb x y z t l 0 0 0 0 0
      · cases he2 : eqDb p q r s m 0 0 0 0 0
        · clear HSK
          obtain ⟨x', y', z', t', l', ok, hI, hS, hT, hF⟩ := mulD_u x y z t l p q r s m
          have HI := Lib.hid hS
          have HT := Lib.hid hT
          have HF := Lib.hid hF
          clear hI hS hT hF
          obtain ⟨la0, a00, a01, a02, a03, a04⟩ := R0.parts
          obtain ⟨la1, a10, a11, a12, a13, a14⟩ := R1.parts
          go_upto_region 6 with fail
          obtain ⟨la0, a00, a01, a02, a03, a04⟩ := R0.parts
          obtain ⟨la1, a10, a11, a12, a13, a14⟩ := R1.parts
          go_cut [8, 9] (fun s8 s9 wx => ∃ g : Nat, s8 = .pointer (some ⟨g, 0, none⟩) ∧ s9 = .bool ok ∧ Own w wx ((g, 29, #[.int .i64 x', .int .i64 y', .int .i64 z', .int .i64 t', .int .i64 l']) :: [(w.heap.size + 1, 29, #[.int .i64 a, .int .i64 b, .int .i64 c0, .int .i64 d, .int .i64 e0]), (w.heap.size, 29, #[.int .i64 0, .int .i64 0, .int .i64 0, .int .i64 0, .int .i64 0])]))
          case first =>
            go_region_held3 (fun w' => w'.cell? ⟨b0, off + j * 5, none⟩ = some (.int .i64 x) ∧ w'.cell? ⟨b0, off + j * 5 + 1, none⟩ = some (.int .i64 y) ∧ w'.cell? ⟨b0, off + j * 5 + 2, none⟩ = some (.int .i64 z) ∧ w'.cell? ⟨b0, off + j * 5 + 3, none⟩ = some (.int .i64 t) ∧ w'.cell? ⟨b0, off + j * 5 + 4, none⟩ = some (.int .i64 l) ∧ w'.cell? ⟨b1, off' + j * 5, none⟩ = some (.int .i64 p) ∧ w'.cell? ⟨b1, off' + j * 5 + 1, none⟩ = some (.int .i64 q) ∧ w'.cell? ⟨b1, off' + j * 5 + 2, none⟩ = some (.int .i64 r) ∧ w'.cell? ⟨b1, off' + j * 5 + 3, none⟩ = some (.int .i64 s) ∧ w'.cell? ⟨b1, off' + j * 5 + 4, none⟩ = some (.int .i64 m)) (first | (with_reducible exact ⟨a00, a01, a02, a03, a04, a10, a11, a12, a13, a14⟩) | go_keep) (first | (go_at_call 83; refine (HI.out _).mono ?_; rintro e w1 ⟨rfl, hb⟩; (first | (have T := T.call hb; have R0 := R0.call hb; have R1 := R1.call hb; (try have kz := kz.call hb)) | (have T := T.drew.call hb; have R0 := R0.drew.call hb; have R1 := R1.drew.call hb; (try have kz := kz.drew.call hb)) | (have kz := Blk.new_call hb; have na0 := Nat.ne_of_lt la0; have ma0 := Nat.ne_of_gt la0; have na1 := Nat.ne_of_lt la1; have ma1 := Nat.ne_of_gt la1; have kg := T.below.size; have KN := T.lts; have T := (T.alloc _).call hb; have R0 := (R0.alloc _).call hb; have R1 := (R1.alloc _).call hb) | (have kz := Blk.new_drew_call hb; have na0 := Nat.ne_of_lt la0; have ma0 := Nat.ne_of_gt la0; have na1 := Nat.ne_of_lt la1; have ma1 := Nat.ne_of_gt la1; have kg := T.below.size; have KN := T.lts; have T := (T.alloc _).drew.call hb; have R0 := (R0.alloc _).drew.call hb; have R1 := (R1.alloc _).drew.call hb)); obtain ⟨la0, a00, a01, a02, a03, a04⟩ := R0.parts; obtain ⟨la1, a10, a11, a12, a13, a14⟩ := R1.parts; (try obtain ⟨cz0, cz1, cz2, cz3, cz4, fz0, fz1, fz2, fz3, fz4⟩ := kz.five)))
            all_goals
              go_wp2_with fail
              go_meet
              first | (with_reducible exact ⟨_, rfl, rfl, T.push _ _⟩) | (with_reducible exact ⟨_, rfl, rfl, (T.add kz).put5 kg KN.out _ _ _ _ _⟩)
          case rest =>
            obtain ⟨g, rfl, rfl, T0⟩ := hcut
            clear T la0 la1 a00 a01 a02 a03 a04 a10 a11 a12 a13 a14
            obtain ⟨w3, rfl⟩ : ∃ w3, w3 = wc := ⟨_, rfl⟩
            have T1 := Lib.hid T0
            clear T0 R0 R1
            obtain ⟨x2, y2, z2, t2, l2, ok2, hI2, hS2, hT2, hF2⟩ := addD_u a b c0 d e0 x' y' z' t' l'
            have HI2 := Lib.hid hS2
            have HT2 := Lib.hid hT2
            have HF2 := Lib.hid hF2
            clear hI2 hS2 hT2 hF2
            obtain ⟨c00, c01, c02, c03, c04, -, -, -, -, -⟩ := T1.out.head.five
            obtain ⟨c10, c11, c12, c13, c14, -, -, -, -, -⟩ := T1.out.tail.head.five
            go_wp2_with fail
            refine (HI2.out _).mono ?_
            rintro e w4 ⟨rfl, hb4⟩
            have T4 := Lib.hid (T1.out.call hb4)
            clear hb4 T1 c00 c01 c02 c03 c04 c10 c11 c12 c13 c14
            obtain ⟨d0, d1, d2, d3, d4, f0, f1, f2, f3, f4⟩ := T4.out.tail.head.five
            obtain ⟨k0, k1, k2, k3, k4, h0, h1, h2, h3, h4⟩ := T4.out.tail.tail.head.five
            have gs := T4.out.tail.head.lt
            have gr := T4.out.tail.tail.head.lt
            have gsn : ¬ w.heap.size + 1 = w4.heap.size := by omega
            have grn : ¬ w.heap.size = w4.heap.size := by omega
            have gsn' : ¬ w4.heap.size = w.heap.size + 1 := by omega
            have grn' : ¬ w4.heap.size = w.heap.size := by omega
            have hw4 := T4.out.below
            have hbad : ok = false ∨ ok2 = false → V = .tuple #[.agg #[.int .i64 0, .int .i64 0, .int .i64 0, .int .i64 0, .int .i64 0], .bool false] := fun h => by
              have e : dotN us vs (j + 1) = none := by
                cases ok
                · exact dotN_stop HX.out HY.out (HF.out rfl).1
                · rw [dotN_succ HJ.out HX.out HY.out (HT.out rfl)]; exact (HF2.out (by simpa using h)).1
              rw [HV.out, dotN_none e (by omega)]
              rfl
            have HBAD := Lib.hid hbad
            clear hbad
            cases ok
            · have ev := HBAD.out (.inl rfl)
              subst ev
              clear HBAD
              go_wp2
              refine bodyPost_ret (v := .tuple #[.agg #[.int .i64 0, .int .i64 0, .int .i64 0, .int .i64 0, .int .i64 0], .bool false]) (by simp [results, Try.results95, go_sem, *]) rfl (ret_mk ?_)
              repeat (first | (with_reducible exact Below.refl _ _) | (with_reducible assumption) | (with_reducible refine bl_alloc ?_ _) | (with_reducible refine bl_drew ?_) | (with_reducible refine bl_set ?_ (by simp <;> omega) _) | (with_reducible refine bl_call ?_ (by assumption)))
            · cases ok2
              · have ev := HBAD.out (.inr rfl)
                subst ev
                clear HBAD
                go_wp2
                refine bodyPost_ret (v := .tuple #[.agg #[.int .i64 0, .int .i64 0, .int .i64 0, .int .i64 0, .int .i64 0], .bool false]) (by simp [results, Try.results95, go_sem, *]) rfl (ret_mk ?_)
                repeat (first | (with_reducible exact Below.refl _ _) | (with_reducible assumption) | (with_reducible refine bl_alloc ?_ _) | (with_reducible refine bl_drew ?_) | (with_reducible refine bl_set ?_ (by simp <;> omega) _) | (with_reducible refine bl_call ?_ (by assumption)))
              · have HN := Lib.hid (show dotN us vs (j + 1) = some ⟨⟨x2, y2, z2, t2⟩, l2⟩ by rw [dotN_succ HJ.out HX.out HY.out (HT.out rfl)]; exact HT2.out rfl)
                clear HBAD
                go_wp2
                go_roundw
                case rel =>
                  have T5 := (T4.out.tail.put5n (by omega) (by first | (simp; done) | (simp; omega)) (.int .i64 x2) (.int .i64 y2) (.int .i64 z2) (.int .i64 t2) (.int .i64 l2)).alloc (.cells #[.int .i64 x2, .int .i64 y2, .int .i64 z2, .int .i64 t2, .int .i64 l2] 29)
                  refine ⟨j + 1, x2, y2, z2, t2, l2, by omega, by go_num, HN.out, ?_⟩
                  with_reducible exact T5
                case measure => simp [intOf]; omega
        · have HSU := Lib.hid (HSK.out (.inr he2))
          obtain ⟨la0, a00, a01, a02, a03, a04⟩ := R0.parts
          obtain ⟨la1, a10, a11, a12, a13, a14⟩ := R1.parts
          have HT := Lib.hid T
          clear T R0 R1 HSK
          go_wp2
          go_roundw
          case rel => exact ⟨j + 1, a, b, c0, d, e0, by omega, by go_num, HSU.out, HT.out⟩
          case measure => simp [intOf]; omega
      · have HSU := Lib.hid (HSK.out (.inl he1))
        obtain ⟨la0, a00, a01, a02, a03, a04⟩ := R0.parts
        have HT := Lib.hid T
        clear T R0 R1 HSK
        go_wp2
        go_roundw
        case rel => exact ⟨j + 1, a, b, c0, d, e0, by omega, by go_num, HSU.out, HT.out⟩
        case measure => simp [intOf]; omega
    · have hj' := hj
      have hd : decide ((j : Int) < (n : Int)) = false := by simp; omega
      have ev : V = .tuple #[.agg #[.int .i64 a, .int .i64 b, .int .i64 c0, .int .i64 d, .int .i64 e0], .bool true] := by rw [HV.out, show n = j by omega, HJ.out]; rfl
      subst ev
      obtain ⟨d0, d1, d2, d3, d4, f0, f1, f2, f3, f4⟩ := T.head.five
      obtain ⟨k0, k1, k2, k3, k4, h0, h1, h2, h3, h4⟩ := T.tail.head.five
      have gs := T.head.lt
      have gr := T.tail.head.lt
      have hw4 := T.below
      clear T
      go_wp2
      refine bodyPost_ret (v := .tuple #[.agg #[.int .i64 a, .int .i64 b, .int .i64 c0, .int .i64 d, .int .i64 e0], .bool true]) (by simp [results, Try.results95, go_sem, *]) rfl (ret_mk ?_)
      repeat (first | (with_reducible exact Below.refl _ _) | (with_reducible assumption) | (with_reducible refine bl_alloc ?_ _) | (with_reducible refine bl_drew ?_) | (with_reducible refine bl_set ?_ (by simp <;> omega) _) | (with_reducible refine bl_call ?_ (by assumption)))
end Go.Proofs.Ytaokfppadfoniaa
