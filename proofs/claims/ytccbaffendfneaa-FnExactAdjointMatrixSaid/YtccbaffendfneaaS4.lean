/- Contracts: equality and validity of states. -/
import Derived.Test.YtccbaffendfneaaS3
import Derived.Test.YtccbaffendfneaaD
import Derived.Test.YtccbaffendfneaaEq
namespace Go.Proofs.Ytccbaffendfneaa
open Go.RowKit
def okS (ds : List DW) : Bool := (qc ds.length != 0) && ds.all okd
theorem take_succ_eq {us vs : List DW} {k : Nat} {d : DW} (h : us.take k = vs.take k) (h1 : us[k]? = some d) (h2 : vs[k]? = some d) : us.take (k + 1) = vs.take (k + 1) := by
  obtain ⟨l1, e1⟩ := List.getElem?_eq_some_iff.1 h1
  obtain ⟨l2, e2⟩ := List.getElem?_eq_some_iff.1 h2
  rw [List.take_succ_eq_append_getElem l1, List.take_succ_eq_append_getElem l2, h, e1, e2]
theorem all_take_succ {ds : List DW} {k : Nat} {d : DW} (h : (ds.take k).all okd = true) (h1 : ds[k]? = some d) (h2 : okd d = true) : (ds.take (k + 1)).all okd = true := by
  obtain ⟨l1, e1⟩ := List.getElem?_eq_some_iff.1 h1
  rw [List.take_succ_eq_append_getElem l1, List.all_append, h, e1]
  simp [h2]
theorem okS_bad {ds : List DW} {k : Nat} {d : DW} (h1 : ds[k]? = some d) (h2 : okd d = false) : okS ds = false := by
  have : ds.all okd = false := by
    rw [List.all_eq_false]
    exact ⟨d, List.mem_of_getElem? h1, by simp [h2]⟩
  simp [okS, this]
def SRel (w : World) (n : Nat) (Q : Nat → Prop) (i : Value) (wr : World) : Prop := ∃ k : Nat, k ≤ n ∧ i = .int .i64 (k : Int) ∧ Q k ∧ Below w.heap.size w wr
attribute [local go_sem ↓ high] neqD


set_option maxHeartbeats 400000 in
theorem i_VS (A : Option Addr) (n c : Nat) (ds : List DW) (w : World) (hA : RD w w.heap.size A n ds) (_hn : n ≤ 9223372036854775807) : Calls Try.prog 43 #[.slice A n c] w (Ret (.bool (okS ds)) w) := by
  obtain ⟨b, hb⟩ : ∃ b, okS ds = b := ⟨_, rfl⟩
  rw [hb]
  have Hb := Lib.hid hb
  have HA := Lib.hid hA
  have HN := Lib.hid hA.1
  clear hb hA
  cases hq0 : (qc n == 0)
  rotate_left
  · have e : b = false := by rw [← Hb.out]; unfold okS; rw [← HN.out]; simp [bne, hq0]
    subst e
    have hz : ((qc n : Nat) : Int) = 0 := by have := beq_iff_eq.1 hq0; omega
    have HZ : ∀ W, Calls Try.prog 52 #[.slice A n c] W fun e w' => e = .returned (.int .i64 0) ∧ W = w' := by intro W; have := i_QC A n c W _hn; rwa [hz] at this
    have HZ' := Lib.hid HZ
    clear HZ hz hq0
    go_enter Try.func43, Try.ntmps43
    go_wp2_with fail
    refine (HZ'.out _).mono ?_
    rintro e w' ⟨rfl, rfl⟩
    go_wp2
    go_ret
    exact ret_mk (Below.refl _ _)
  have HQ0 := Lib.hid hq0
  have hqq : (((qc n : Nat) : Int) == 0) = false := by have := beq_eq_false_iff_ne.1 hq0; rw [beq_eq_false_iff_ne]; omega
  clear hq0
  go_enter Try.func43, Try.ntmps43
  go_wp2_with fail
  refine (i_QC _ _ _ _ _hn).mono ?_
  rintro e w' ⟨rfl, rfl⟩
  go_wp2
  go_loopw [10] (fun i wr => SRel w n (fun k => (ds.take k).all okd = true) i wr) (fun i _ => n - (intOf i).toNat)
  case atStart => exact ⟨0, by omega, rfl, by simp, Below.refl _ _⟩
  case round =>
    obtain ⟨k, hk, rfl, hq, hbw⟩ := hrel
    have hs := hbw.size
    have HQ := Lib.hid hq
    clear hq
    by_cases hlt : k < n
    · have hd : decide ((k : Int) < (n : Int)) = true := by simp; omega
      obtain ⟨b1, off, x, y, z, t, l, rfl, hB1, hx, c0, c1, c2, c3, c4⟩ := (HA.out.keep hbw).at hlt
      have HX := Lib.hid hx
      clear hx
      have i0 : (0 : Int) ≤ (k : Int) := by omega
      have i1 : (k : Int) < (n : Int) := by omega
      cases ho : okd ⟨⟨x, y, z, t⟩, l⟩
      · have e : b = false := Hb.out.symm.trans (okS_bad HX.out ho)
        subst e
        go_wp2_with fail
        refine (i_okd_f _ ho).mono ?_
        rintro e w1 ⟨rfl, hb1⟩
        go_wp2
        go_ret
        refine ret_mk ?_
        repeat (first | (with_reducible exact Below.refl _ _) | (with_reducible assumption) | (with_reducible refine bl_alloc ?_ _) | (with_reducible refine bl_drew ?_) | (with_reducible refine bl_set ?_ (by simp <;> omega) _) | (with_reducible refine bl_call ?_ (by assumption)))
      · have HT := Lib.hid (all_take_succ HQ.out HX.out ho)
        go_wp2_with fail
        refine (i_okd_t _ ho).mono ?_
        rintro e w1 ⟨rfl, hb1⟩
        go_wp2
        go_roundw
        case rel =>
          refine ⟨k + 1, by omega, by go_num, HT.out, ?_⟩
          repeat (first | (with_reducible exact Below.refl _ _) | (with_reducible assumption) | (with_reducible refine bl_alloc ?_ _) | (with_reducible refine bl_drew ?_) | (with_reducible refine bl_set ?_ (by simp <;> omega) _) | (with_reducible refine bl_call ?_ (by assumption)))
        case measure => simp [intOf]; omega
    · have hd : decide ((k : Int) < (n : Int)) = false := by simp; omega
      have hall : ds.all okd = true := by
        have h := HQ.out
        rwa [List.take_of_length_le (by have := HN.out; omega)] at h
      have HALL := Lib.hid hall
      clear hall
      have e : b = true := by rw [← Hb.out]; unfold okS; rw [HALL.out, ← HN.out]; simp [bne, HQ0.out]
      subst e
      go_wp2
      go_ret
      exact ret_mk hbw
set_option maxHeartbeats 400000 in
theorem s_VS (A : Option Addr) (n c : Nat) (ds : List DW) (w : World) (hA : RD w w.heap.size A n ds) (_hn : n ≤ 9223372036854775807) : Calls Try.prog 39 #[.slice A n c] w (Ret (.bool (okS ds)) w) := by
  obtain ⟨b, hb⟩ : ∃ b, okS ds = b := ⟨_, rfl⟩
  rw [hb]
  have Hb := Lib.hid hb
  have HA := Lib.hid hA
  have HN := Lib.hid hA.1
  clear hb hA
  go_enter Try.func39, Try.ntmps39
  go_wp2
  go_loopw [3] (fun i wr => SRel w n (fun k => (ds.take k).all okd = true) i wr) (fun i _ => n - (intOf i).toNat)
  case atStart => exact ⟨0, by omega, rfl, by simp, Below.refl _ _⟩
  case round =>
    obtain ⟨k, hk, rfl, hq, hbw⟩ := hrel
    have hs := hbw.size
    have HQ := Lib.hid hq
    clear hq
    by_cases hlt : k < n
    · have hd : decide ((k : Int) < (n : Int)) = true := by simp; omega
      obtain ⟨b1, off, x, y, z, t, l, rfl, hB1, hx, c0, c1, c2, c3, c4⟩ := (HA.out.keep hbw).at hlt
      have HX := Lib.hid hx
      clear hx
      have i0 : (0 : Int) ≤ (k : Int) := by omega
      have i1 : (k : Int) < (n : Int) := by omega
      cases ho : okd ⟨⟨x, y, z, t⟩, l⟩
      · have e : b = false := Hb.out.symm.trans (okS_bad HX.out ho)
        subst e
        go_wp2_with fail
        refine (s_okd_f _ ho).mono ?_
        rintro e w1 ⟨rfl, hb1⟩
        go_wp2
        go_ret
        refine ret_mk ?_
        repeat (first | (with_reducible exact Below.refl _ _) | (with_reducible assumption) | (with_reducible refine bl_alloc ?_ _) | (with_reducible refine bl_drew ?_) | (with_reducible refine bl_set ?_ (by simp <;> omega) _) | (with_reducible refine bl_call ?_ (by assumption)))
      · have HT := Lib.hid (all_take_succ HQ.out HX.out ho)
        go_wp2_with fail
        refine (s_okd_t _ ho).mono ?_
        rintro e w1 ⟨rfl, hb1⟩
        go_wp2
        go_roundw
        case rel =>
          refine ⟨k + 1, by omega, by go_num, HT.out, ?_⟩
          repeat (first | (with_reducible exact Below.refl _ _) | (with_reducible assumption) | (with_reducible refine bl_alloc ?_ _) | (with_reducible refine bl_drew ?_) | (with_reducible refine bl_set ?_ (by simp <;> omega) _) | (with_reducible refine bl_call ?_ (by assumption)))
        case measure => simp [intOf]; omega
    · have hd : decide ((k : Int) < (n : Int)) = false := by simp; omega
      have hall : ds.all okd = true := by
        have h := HQ.out
        rwa [List.take_of_length_le (by have := HN.out; omega)] at h
      have HALL := Lib.hid hall
      clear hall
      have e : b = decide (0 < ((qc n : Nat) : Int)) := by
        rw [← Hb.out]; unfold okS; rw [HALL.out, ← HN.out, Bool.and_true, Bool.eq_iff_iff, bne_iff_ne, decide_eq_true_iff]; omega
      subst e
      go_wp2_with fail
      refine (s_QC _ _ _ _ _hn).mono ?_
      rintro e w' ⟨rfl, rfl⟩
      go_wp2
      go_ret
      exact ret_eq (by simp) hbw
end Go.Proofs.Ytccbaffendfneaa
