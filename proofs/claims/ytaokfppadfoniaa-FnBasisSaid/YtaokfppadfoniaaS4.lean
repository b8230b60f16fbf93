/- Contracts: equality and validity of states. -/
import Derived.Test.YtaokfppadfoniaaS3
import Derived.Test.YtaokfppadfoniaaD
import Derived.Test.YtaokfppadfoniaaEq
namespace Go.Proofs.Ytaokfppadfoniaa
open Go.RowKit
def okS (ds : List DW) : Bool := (qc ds.length != 0) && ds.all okd
theorem take_succ_eq {us vs : List DW} {k : Nat} {d : DW} (h : us.take k = vs.take k) (h1 : us[k]? = some d) (h2 : vs[k]? = some d) : us.take (k + 1) = vs.take (k + 1) := by
  obtain ⟨l1, e1⟩ := List.getElem?_eq_some_iff.1 h1
  obtain ⟨l2, e2⟩ := List.getElem?_eq_some_iff.1 h2
  rw [List.take_succ_eq_append_getElem l1, List.take_succ_eq_append_getElem l2, h, e1, e2]
theorem all_take_succ {ds : List DW} {k : Nat} {d : DW} (h : (ds.take k).all okd = true) (h1 : ds[k]? = some d) (h2 : okd d = true) : (ds.take (k + 1)).all okd = true := by
  obtain ⟨l1, e1⟩ := List.getElem?_eq_some_iff.1 h1
  rw [List.take_succ_eq_append_getElem l1, List.all_append, h, e1]
  simp [h2]
theorem okS_bad {ds : List DW} {k : Nat} {d : DW} (h1 : ds[k]? = some d) (h2 : okd d = false) : okS ds = false := by
  have : ds.all okd = false := by
    rw [List.all_eq_false]
    exact ⟨d, List.mem_of_getElem? h1, by simp [h2]⟩
  simp [okS, this]
def SRel (w : World) (n : Nat) (Q : Nat → Prop) (i : Value) (wr : World) : Prop := ∃ k : Nat, k ≤ n ∧ i = .int .i64 (k : Int) ∧ Q k ∧ Below w.heap.size w wr
attribute [local go_sem ↓ high] neqD
set_option maxHeartbeats 400000 in
theorem i_same (A B : Option Addr) (n m c c' : Nat) (us vs : List DW) (b : Bool) (w : World) (hb : b = true ↔ us = vs) (hA : RD w w.heap.size A n us) (hB : RD w w.heap.size B m vs) (_hn : n ≤ 9223372036854775807) (_hm : m ≤ 9223372036854775807) :
    Calls Try.prog 82 #[.slice A n c, .slice B m c'] w (Ret (.bool b) w) := by
  by_cases hnm : n = m
  · subst hnm
    have HA := Lib.hid hA
    have HB := Lib.hid hB
    have Hb := Lib.hid hb
    clear hA hB hb
    go_enter Try.func82, Try.ntmps82
    go_wp2
    go_loopw [13] (fun i wr => SRel w n (fun k => us.take k = vs.take k) i wr) (fun i _ => n - (intOf i).toNat)
    case atStart => exact ⟨0, by omega, rfl, by simp, Below.refl _ _⟩
    case round =>
      obtain ⟨k, hk, rfl, hq, hbw⟩ := hrel
      have HQ := Lib.hid hq
      clear hq
      by_cases hlt : k < n
      · have hd : decide ((k : Int) < (n : Int)) = true := by simp; omega
        obtain ⟨b1, off, x, y, z, t, l, rfl, hB1, hx, c0, c1, c2, c3, c4⟩ := (HA.out.keep hbw).at hlt
        obtain ⟨b2, off', x', y', z', t', l', rfl, hB2, hx', d0, d1, d2, d3, d4⟩ := (HB.out.keep hbw).at hlt
        have HX := Lib.hid hx
        have HX' := Lib.hid hx'
        clear hx hx'
        have i0 : (0 : Int) ≤ (k : Int) := by omega
        have i1 : (k : Int) < (n : Int) := by omega
        cases he : eqDb x y z t l x' y' z' t' l'
        · have hne : b = false := by
            cases hbv : b
            · rfl
            · exfalso
              have e := Hb.out.1 hbv
              have e2 := HX.out
              rw [e, HX'.out] at e2
              simp only [Option.some.injEq, DW.mk.injEq, ZO.mk.injEq] at e2
              obtain ⟨⟨rfl, rfl, rfl, rfl⟩, rfl⟩ := e2
              simp [eqDb_self] at he
          subst hne
          go_wp2_with fail
          go_region_held3 (fun w' => w'.cell? ⟨b1, off + k * 5, none⟩ = some (.int .i64 x) ∧ w'.cell? ⟨b1, off + k * 5 + 1, none⟩ = some (.int .i64 y) ∧ w'.cell? ⟨b1, off + k * 5 + 2, none⟩ = some (.int .i64 z) ∧ w'.cell? ⟨b1, off + k * 5 + 3, none⟩ = some (.int .i64 t) ∧ w'.cell? ⟨b1, off + k * 5 + 4, none⟩ = some (.int .i64 l) ∧ w'.cell? ⟨b2, off' + k * 5, none⟩ = some (.int .i64 x') ∧ w'.cell? ⟨b2, off' + k * 5 + 1, none⟩ = some (.int .i64 y') ∧ w'.cell? ⟨b2, off' + k * 5 + 2, none⟩ = some (.int .i64 z') ∧ w'.cell? ⟨b2, off' + k * 5 + 3, none⟩ = some (.int .i64 t') ∧ w'.cell? ⟨b2, off' + k * 5 + 4, none⟩ = some (.int .i64 l')) (first | exact ⟨c0, c1, c2, c3, c4, d0, d1, d2, d3, d4⟩ | go_keep) (first | fail)
          go_wp2
          go_ret
          exact ret_mk hbw.drew
        · obtain ⟨rfl, rfl, rfl, rfl, rfl⟩ := eqDb_iff.1 he
          have HT := Lib.hid (take_succ_eq HQ.out HX.out HX'.out)
          go_wp2_with fail
          go_region_held3 (fun w' => w'.cell? ⟨b1, off + k * 5, none⟩ = some (.int .i64 x) ∧ w'.cell? ⟨b1, off + k * 5 + 1, none⟩ = some (.int .i64 y) ∧ w'.cell? ⟨b1, off + k * 5 + 2, none⟩ = some (.int .i64 z) ∧ w'.cell? ⟨b1, off + k * 5 + 3, none⟩ = some (.int .i64 t) ∧ w'.cell? ⟨b1, off + k * 5 + 4, none⟩ = some (.int .i64 l) ∧ w'.cell? ⟨b2, off' + k * 5, none⟩ = some (.int .i64 x) ∧ w'.cell? ⟨b2, off' + k * 5 + 1, none⟩ = some (.int .i64 y) ∧ w'.cell? ⟨b2, off' + k * 5 + 2, none⟩ = some (.int .i64 z) ∧ w'.cell? ⟨b2, off' + k * 5 + 3, none⟩ = some (.int .i64 t) ∧ w'.cell? ⟨b2, off' + k * 5 + 4, none⟩ = some (.int .i64 l)) (first | exact ⟨c0, c1, c2, c3, c4, d0, d1, d2, d3, d4⟩ | go_keep) (first | fail)
          go_wp2
          go_roundw
          case rel => exact ⟨k + 1, by omega, by go_num, HT.out, hbw.drew⟩
          case measure => simp [intOf]; omega
      · have hd : decide ((k : Int) < (n : Int)) = false := by simp; omega
        have e : b = true := by
          refine Hb.out.2 ?_
          have h := HQ.out
          rw [List.take_of_length_le (by have := HA.out.1; omega), List.take_of_length_le (by have := HB.out.1; omega)] at h
          exact h
        subst e
        go_wp2
        go_ret
        exact ret_mk hbw
  · have e : b = false := by
      cases hbv : b
      · rfl
      · exfalso
        have e := hb.1 hbv
        rw [hA.1, hB.1, e] at hnm
        exact hnm rfl
    subst e
    have hq : ((n : Int) != (m : Int)) = true := by simp; omega
    clear hA hB hb
    go_enter Try.func82, Try.ntmps82
    go_wp2
    go_ret
    exact ret_mk (Below.refl _ _)
set_option maxHeartbeats 400000 in
theorem s_same (A B : Option Addr) (n m c c' : Nat) (us vs : List DW) (b : Bool) (w : World) (hb : b = true ↔ us = vs) (hA : RD w w.heap.size A n us) (hB : RD w w.heap.size B m vs) (_hn : n ≤ 9223372036854775807) (_hm : m ≤ 9223372036854775807) :
    Calls Try.prog 30 #[.slice A n c, .slice B m c'] w (Ret (.bool b) w) := by
  by_cases hnm : n = m
  · subst hnm
    have HA := Lib.hid hA
    have HB := Lib.hid hB
    have Hb := Lib.hid hb
    clear hA hB hb
    go_enter Try.func30, Try.ntmps30
    go_wp2
    go_loopw [5] (fun i wr => SRel w n (fun k => us.take k = vs.take k) i wr) (fun i _ => n - (intOf i).toNat)
    case atStart => exact ⟨0, by omega, rfl, by simp, Below.refl _ _⟩
    case round =>
      obtain ⟨k, hk, rfl, hq, hbw⟩ := hrel
      have HQ := Lib.hid hq
      clear hq
      by_cases hlt : k < n
      · have hd : decide ((k : Int) < (n : Int)) = true := by simp; omega
        obtain ⟨b1, off, x, y, z, t, l, rfl, hB1, hx, c0, c1, c2, c3, c4⟩ := (HA.out.keep hbw).at hlt
        obtain ⟨b2, off', x', y', z', t', l', rfl, hB2, hx', d0, d1, d2, d3, d4⟩ := (HB.out.keep hbw).at hlt
        have HX := Lib.hid hx
        have HX' := Lib.hid hx'
        clear hx hx'
        have i0 : (0 : Int) ≤ (k : Int) := by omega
        have i1 : (k : Int) < (n : Int) := by omega
        cases he : eqDb x y z t l x' y' z' t' l'
        · have hne : b = false := by
            cases hbv : b
            · rfl
            · exfalso
              have e := Hb.out.1 hbv
              have e2 := HX.out
              rw [e, HX'.out] at e2
              simp only [Option.some.injEq, DW.mk.injEq, ZO.mk.injEq] at e2
              obtain ⟨⟨rfl, rfl, rfl, rfl⟩, rfl⟩ := e2
              simp [eqDb_self] at he
          subst hne
          go_wp2_with fail
          go_region_held3 (fun w' => w'.cell? ⟨b1, off + k * 5, none⟩ = some (.int .i64 x) ∧ w'.cell? ⟨b1, off + k * 5 + 1, none⟩ = some (.int .i64 y) ∧ w'.cell? ⟨b1, off + k * 5 + 2, none⟩ = some (.int .i64 z) ∧ w'.cell? ⟨b1, off + k * 5 + 3, none⟩ = some (.int .i64 t) ∧ w'.cell? ⟨b1, off + k * 5 + 4, none⟩ = some (.int .i64 l) ∧ w'.cell? ⟨b2, off' + k * 5, none⟩ = some (.int .i64 x') ∧ w'.cell? ⟨b2, off' + k * 5 + 1, none⟩ = some (.int .i64 y') ∧ w'.cell? ⟨b2, off' + k * 5 + 2, none⟩ = some (.int .i64 z') ∧ w'.cell? ⟨b2, off' + k * 5 + 3, none⟩ = some (.int .i64 t') ∧ w'.cell? ⟨b2, off' + k * 5 + 4, none⟩ = some (.int .i64 l')) (first | exact ⟨c0, c1, c2, c3, c4, d0, d1, d2, d3, d4⟩ | go_keep) (first | fail)
          go_wp2
          go_ret
          exact ret_mk hbw.drew
        · obtain ⟨rfl, rfl, rfl, rfl, rfl⟩ := eqDb_iff.1 he
          have HT := Lib.hid (take_succ_eq HQ.out HX.out HX'.out)
          go_wp2_with fail
          go_region_held3 (fun w' => w'.cell? ⟨b1, off + k * 5, none⟩ = some (.int .i64 x) ∧ w'.cell? ⟨b1, off + k * 5 + 1, none⟩ = some (.int .i64 y) ∧ w'.cell? ⟨b1, off + k * 5 + 2, none⟩ = some (.int .i64 z) ∧ w'.cell? ⟨b1, off + k * 5 + 3, none⟩ = some (.int .i64 t) ∧ w'.cell? ⟨b1, off + k * 5 + 4, none⟩ = some (.int .i64 l) ∧ w'.cell? ⟨b2, off' + k * 5, none⟩ = some (.int .i64 x) ∧ w'.cell? ⟨b2, off' + k * 5 + 1, none⟩ = some (.int .i64 y) ∧ w'.cell? ⟨b2, off' + k * 5 + 2, none⟩ = some (.int .i64 z) ∧ w'.cell? ⟨b2, off' + k * 5 + 3, none⟩ = some (.int .i64 t) ∧ w'.cell? ⟨b2, off' + k * 5 + 4, none⟩ = some (.int .i64 l)) (first | exact ⟨c0, c1, c2, c3, c4, d0, d1, d2, d3, d4⟩ | go_keep) (first | fail)
          go_wp2
          go_roundw
          case rel => exact ⟨k + 1, by omega, by go_num, HT.out, hbw.drew⟩
          case measure => simp [intOf]; omega
      · have hd : decide ((k : Int) < (n : Int)) = false := by simp; omega
        have e : b = true := by
          refine Hb.out.2 ?_
          have h := HQ.out
          rw [List.take_of_length_le (by have := HA.out.1; omega), List.take_of_length_le (by have := HB.out.1; omega)] at h
          exact h
        subst e
        go_wp2
        go_ret
        exact ret_mk hbw
  · have e : b = false := by
      cases hbv : b
      · rfl
      · exfalso
        have e := hb.1 hbv
        rw [hA.1, hB.1, e] at hnm
        exact hnm rfl
    subst e
    have hq : ((n : Int) != (m : Int)) = true := by simp; omega
    clear hA hB hb
    go_enter Try.func30, Try.ntmps30
    go_wp2
    go_ret
    exact ret_mk (Below.refl _ _)
theorem i_EqS (A B : Option Addr) (n m c c' : Nat) (us vs : List DW) (b : Bool) (w : World) (hb : b = true ↔ us = vs) (hA : RD w w.heap.size A n us) (hB : RD w w.heap.size B m vs) (hn : n ≤ 9223372036854775807) (hm : m ≤ 9223372036854775807) :
    Calls Try.prog 36 #[.slice A n c, .slice B m c'] w (Ret (.bool b) w) := by
  have H := Lib.hid (i_same A B n m c c' us vs b w hb hA hB hn hm)
  clear hA hB hb
  go_enter Try.func36, Try.ntmps36
  go_wp2_with fail
  refine H.out.mono ?_
  rintro e w1 ⟨rfl, hb1⟩
  go_wp2
  go_ret
  exact ret_mk hb1
set_option maxHeartbeats 400000 in
theorem i_VS (A : Option Addr) (n c : Nat) (ds : List DW) (w : World) (hA : RD w w.heap.size A n ds) (_hn : n ≤ 9223372036854775807) : Calls Try.prog 35 #[.slice A n c] w (Ret (.bool (okS ds)) w) := by
  obtain ⟨b, hb⟩ : ∃ b, okS ds = b := ⟨_, rfl⟩
  rw [hb]
  have Hb := Lib.hid hb
  have HA := Lib.hid hA
  have HN := Lib.hid hA.1
  clear hb hA
  cases hq0 : (qc n == 0)
  rotate_left
  · have e : b = false := by rw [← Hb.out]; unfold okS; rw [← HN.out]; simp [bne, hq0]
    subst e
    have hz : ((qc n : Nat) : Int) = 0 := by have := beq_iff_eq.1 hq0; omega
    have HZ : ∀ W, Calls Try.prog 34 #[.slice A n c] W fun e w' => e = .returned (.int .i64 0) ∧ W = w' := by intro W; have := i_QC A n c W _hn; rwa [hz] at this
    have HZ' := Lib.hid HZ
    clear HZ hz hq0
    go_enter Try.func35, Try.ntmps35
    go_wp2_with fail
    refine (HZ'.out _).mono ?_
    rintro e w' ⟨rfl, rfl⟩
    go_wp2
    go_ret
    exact ret_mk (Below.refl _ _)
  have HQ0 := Lib.hid hq0
  have hqq : (((qc n : Nat) : Int) == 0) = false := by have := beq_eq_false_iff_ne.1 hq0; rw [beq_eq_false_iff_ne]; omega
  clear hq0
  go_enter Try.func35, Try.ntmps35
  go_wp2_with fail
  refine (i_QC _ _ _ _ _hn).mono ?_
  rintro e w' ⟨rfl, rfl⟩
  go_wp2
  go_loopw [10] (fun i wr => SRel w n (fun k => (ds.take k).all okd = true) i wr) (fun i _ => n - (intOf i).toNat)
  case atStart => exact ⟨0, by omega, rfl, by simp, Below.refl _ _⟩
  case round =>
    obtain ⟨k, hk, rfl, hq, hbw⟩ := hrel
    have hs := hbw.size
    have HQ := Lib.hid hq
    clear hq
    by_cases hlt : k < n
    · have hd : decide ((k : Int) < (n : Int)) = true := by simp; omega
      obtain ⟨b1, off, x, y, z, t, l, rfl, hB1, hx, c0, c1, c2, c3, c4⟩ := (HA.out.keep hbw).at hlt
      have HX := Lib.hid hx
      clear hx
      have i0 : (0 : Int) ≤ (k : Int) := by omega
      have i1 : (k : Int) < (n : Int) := by omega
      cases ho : okd ⟨⟨x, y, z, t⟩, l⟩
      · have e : b = false := Hb.out.symm.trans (okS_bad HX.out ho)
        subst e
        go_wp2_with fail
        refine (i_okd_f _ ho).mono ?_
        rintro e w1 ⟨rfl, hb1⟩
        go_wp2
        go_ret
        refine ret_mk ?_
        repeat (first | (with_reducible exact Below.refl _ _) | (with_reducible assumption) | (with_reducible refine bl_alloc ?_ _) | (with_reducible refine bl_drew ?_) | (with_reducible refine bl_set ?_ (by simp <;> omega) _) | (with_reducible refine bl_call ?_ (by assumption)))
      · have HT := Lib.hid (all_take_succ HQ.out HX.out ho)
        go_wp2_with fail
        refine (i_okd_t _ ho).mono ?_
        rintro e w1 ⟨rfl, hb1⟩
        go_wp2
        go_roundw
        case rel =>
          refine ⟨k + 1, by omega, by go_num, HT.out, ?_⟩
          repeat (first | (with_reducible exact Below.refl _ _) | (with_reducible assumption) | (with_reducible refine bl_alloc ?_ _) | (with_reducible refine bl_drew ?_) | (with_reducible refine bl_set ?_ (by simp <;> omega) _) | (with_reducible refine bl_call ?_ (by assumption)))
        case measure => simp [intOf]; omega
    · have hd : decide ((k : Int) < (n : Int)) = false := by simp; omega
      have hall : ds.all okd = true := by
        have h := HQ.out
        rwa [List.take_of_length_le (by have := HN.out; omega)] at h
      have HALL := Lib.hid hall
      clear hall
      have e : b = true := by rw [← Hb.out]; unfold okS; rw [HALL.out, ← HN.out]; simp [bne, HQ0.out]
      subst e
      go_wp2
      go_ret
      exact ret_mk hbw
set_option maxHeartbeats 400000 in
theorem s_VS (A : Option Addr) (n c : Nat) (ds : List DW) (w : World) (hA : RD w w.heap.size A n ds) (_hn : n ≤ 9223372036854775807) : Calls Try.prog 84 #[.slice A n c] w (Ret (.bool (okS ds)) w) := by
  obtain ⟨b, hb⟩ : ∃ b, okS ds = b := ⟨_, rfl⟩
  rw [hb]
  have Hb := Lib.hid hb
  have HA := Lib.hid hA
  have HN := Lib.hid hA.1
  clear hb hA
  go_enter Try.func84, Try.ntmps84
  go_wp2
  go_loopw [3] (fun i wr => SRel w n (fun k => (ds.take k).all okd = true) i wr) (fun i _ => n - (intOf i).toNat)
  case atStart => exact ⟨0, by omega, rfl, by simp, Below.refl _ _⟩
  case round =>
    obtain ⟨k, hk, rfl, hq, hbw⟩ := hrel
    have hs := hbw.size
    have HQ := Lib.hid hq
    clear hq
    by_cases hlt : k < n
    · have hd : decide ((k : Int) < (n : Int)) = true := by simp; omega
      obtain ⟨b1, off, x, y, z, t, l, rfl, hB1, hx, c0, c1, c2, c3, c4⟩ := (HA.out.keep hbw).at hlt
      have HX := Lib.hid hx
      clear hx
      have i0 : (0 : Int) ≤ (k : Int) := by omega
      have i1 : (k : Int) < (n : Int) := by omega
      cases ho : okd ⟨⟨x, y, z, t⟩, l⟩
      · have e : b = false := Hb.out.symm.trans (okS_bad HX.out ho)
        subst e
        go_wp2_with fail
        refine (s_okd_f _ ho).mono ?_
        rintro e w1 ⟨rfl, hb1⟩
        go_wp2
        go_ret
        refine ret_mk ?_
        repeat (first | (with_reducible exact Below.refl _ _) | (with_reducible assumption) | (with_reducible refine bl_alloc ?_ _) | (with_reducible refine bl_drew ?_) | (with_reducible refine bl_set ?_ (by simp <;> omega) _) | (with_reducible refine bl_call ?_ (by assumption)))
      · have HT := Lib.hid (all_take_succ HQ.out HX.out ho)
        go_wp2_with fail
        refine (s_okd_t _ ho).mono ?_
        rintro e w1 ⟨rfl, hb1⟩
        go_wp2
        go_roundw
        case rel =>
          refine ⟨k + 1, by omega, by go_num, HT.out, ?_⟩
          repeat (first | (with_reducible exact Below.refl _ _) | (with_reducible assumption) | (with_reducible refine bl_alloc ?_ _) | (with_reducible refine bl_drew ?_) | (with_reducible refine bl_set ?_ (by simp <;> omega) _) | (with_reducible refine bl_call ?_ (by assumption)))
        case measure => simp [intOf]; omega
    · have hd : decide ((k : Int) < (n : Int)) = false := by simp; omega
      have hall : ds.all okd = true := by
        have h := HQ.out
        rwa [List.take_of_length_le (by have := HN.out; omega)] at h
      have HALL := Lib.hid hall
      clear hall
      have e : b = decide (0 < ((qc n : Nat) : Int)) := by
        rw [← Hb.out]; unfold okS; rw [HALL.out, ← HN.out, Bool.and_true, Bool.eq_iff_iff, bne_iff_ne, decide_eq_true_iff]; omega
      subst e
      go_wp2_with fail
      refine (s_QC _ _ _ _ _hn).mono ?_
      rintro e w' ⟨rfl, rfl⟩
      go_wp2
      go_ret
      exact ret_eq (by simp) hbw
end Go.Proofs.Ytaokfppadfoniaa
