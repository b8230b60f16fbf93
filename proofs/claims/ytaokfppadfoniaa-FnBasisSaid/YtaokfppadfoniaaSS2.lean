/- Contracts: sizes, copies and equality of matrices; their validity. -/
import Derived.Test.YtaokfppadfoniaaSS
namespace Go.Proofs.Ytaokfppadfoniaa
open Go.RowKit

theorem RD.drew {w : World} {A : Option Addr} {n : Nat} {ds : List DW} (h : RD w w.heap.size A n ds) : RD w.drew w.drew.heap.size A n ds := h
def SzRel (n : Nat) (l : Int) (rows : List (List DW)) (v i : Value) : Prop := ∃ k : Nat, k ≤ n ∧ i = .int .i64 (k : Int) ∧ ∃ m : Int, v = .int .i64 m ∧ m = l - n - part rows k ∧ 0 ≤ m
set_option maxHeartbeats 400000 in
theorem szSS (A : Option Addr) (n c : Nat) (l v : Int) (rows : List (List DW)) (w : World) (hR : RM w w.heap.size A n rows) (h0 : 0 ≤ l) (hl : l ≤ 1048576) (hn : n ≤ 9223372036854775807) (hr : ∀ r ∈ rows, r.length ≤ 9223372036854775807)
    (hv : v = if (tot rows : Int) ≤ l then l - tot rows else -1) :
    Calls Try.prog 50 #[.slice A n c, .int .i64 l] w fun e w' => e = .returned (.int .i64 v) ∧ w = w' := by
  have HR := Lib.hid hR
  have HN := Lib.hid hR.1
  have HV := Lib.hid hv
  have HRR := Lib.hid hr
  clear hR hv hr
  by_cases hnl : l < (n : Int)
  · have e : v = -1 := by
      rw [HV.out, if_neg]
      have := part_le rows 0
      have := HN.out
      omega
    subst e
    go_enter Try.func50, Try.ntmps50
    go_wp2
    go_ret
    exact ⟨rfl, rfl⟩
  · go_enter Try.func50, Try.ntmps50
    go_wp2
    go_loop [1, 5] (fun v i => SzRel n l rows v i) (fun _ i => n - (intOf i).toNat)
    case atStart => exact ⟨0, by omega, rfl, _, rfl, by simp [part], by omega⟩
    case round =>
      obtain ⟨k, hk, rfl, m, rfl, hm, hm0⟩ := hrel
      have HM := Lib.hid hm
      have hm1 : m ≤ 1048576 := by omega
      clear hm
      by_cases hlt : k < n
      · have hd : decide ((k : Int) < (n : Int)) = true := by simp; omega
        obtain ⟨b, off, A', c', r, rfl, hB, hr, c0, hRD⟩ := HR.out.at hlt
        have HX := Lib.hid hr
        have hrl : r.length ≤ 9223372036854775807 := HRR.out r (List.mem_of_getElem? hr)
        clear hr hRD
        by_cases hle : (r.length : Int) ≤ m
        · go_wp2_with fail
          refine (szS_ok _ _ _ _ _ hle hm1).mono ?_
          rintro e w' ⟨rfl, rfl⟩
          have hge : (0 : Int) ≤ m - r.length := by omega
          go_wp2
          go_round
          case rel => exact ⟨k + 1, by omega, by go_num, _, rfl, by have := HM.out; have := part_succ HX.out; omega, hge⟩
          case measure => simp [intOf]; omega
        · have e : v = -1 := by
            rw [HV.out, if_neg]
            have := part_le rows (k + 1)
            have := part_succ HX.out
            have := HM.out
            have := HN.out
            omega
          subst e
          go_wp2_with fail
          refine (szS_no _ _ _ _ _ (by omega) hm0 hrl).mono ?_
          rintro e w' ⟨rfl, rfl⟩
          go_wp2
          go_ret
          exact ⟨rfl, rfl⟩
      · have hd : decide ((k : Int) < (n : Int)) = false := by simp; omega
        have e : v = m := by
          have h1 := part_all (rows := rows) (k := k) (by have := HN.out; omega)
          have h2 := HM.out
          have h3 := HN.out
          rw [HV.out, if_pos (by omega)]
          omega
        subst e
        go_wp2
        go_ret
        exact ⟨rfl, rfl⟩
theorem szSS_ok (A : Option Addr) (n c : Nat) (l : Int) (rows : List (List DW)) (w : World) (hR : RM w w.heap.size A n rows) (h : (tot rows : Int) ≤ l) (hl : l ≤ 1048576) (hn : n ≤ 9223372036854775807) (hr : ∀ r ∈ rows, r.length ≤ 9223372036854775807) :
    Calls Try.prog 50 #[.slice A n c, .int .i64 l] w fun e w' => e = .returned (.int .i64 (l - tot rows)) ∧ w = w' :=
  szSS A n c l _ rows w hR (by omega) hl hn hr (by rw [if_pos h])
theorem szSS_no (A : Option Addr) (n c : Nat) (l : Int) (rows : List (List DW)) (w : World) (hR : RM w w.heap.size A n rows) (h : l < (tot rows : Int)) (h0 : 0 ≤ l) (hl : l ≤ 1048576) (hn : n ≤ 9223372036854775807) (hr : ∀ r ∈ rows, r.length ≤ 9223372036854775807) :
    Calls Try.prog 50 #[.slice A n c, .int .i64 l] w fun e w' => e = .returned (.int .i64 (-1)) ∧ w = w' :=
  szSS A n c l _ rows w hR h0 hl hn hr (by rw [if_neg (by omega)])
theorem infoS : (Try.prog.info? 44).map (fun i => (i.zero, i.size, i.bytes)) = some (some (.slice none 0 0), 1, 24) := by kernel_rfl
def zerosS (n : Nat) : Array Value := madeCells #[.slice none 0 0] n
theorem makeSS (n : Nat) (hn : n ≤ 2000000) (w : World) : (Instr.makeSlice 70 (.int .i64 (n : Int)) (.int .i64 (n : Int))).run Try.prog w = .ok (.slice (some ⟨w.heap.size, 0, none⟩) n n) (w.alloc (.cells (zerosS n) 44)) := by
  obtain ⟨i0, hi, hz0, hz1, hz2⟩ := info_parts infoS
  have := run_make_row5 70 44 i0 _ Try.underlying70 hi hz0 .i64 .i64 n n (Nat.le_refl _) (by rw [hz2]; omega) (by omega) w
  rw [hz1, Nat.mul_one] at this
  exact this
/-- A new matrix was returned. -/
def RetSS (w : World) (ts td : TypeId) (rows : List (List DW)) (e : Ending) (w' : World) : Prop :=
  e = .returned (.slice (some ⟨w.heap.size, 0, none⟩) rows.length rows.length) ∧ OwnM w' w.heap.size ts td (some ⟨w.heap.size, 0, none⟩) rows ∧ Below w.heap.size w w'
def ToSRel (w : World) (n : Nat) (ts td : TypeId) (rows : List (List DW)) (i : Value) (wr : World) : Prop :=
  ∃ k : Nat, k ≤ n ∧ i = .int .i64 (k : Int) ∧ ∃ (F : Nat → Value) (G : Nat → Nat), wr.rowIs w.heap.size ts n F ∧ RowsTo wr (w.heap.size + 1) td rows k F G ∧ Below w.heap.size w wr ∧ w.heap.size < wr.heap.size
theorem RowsTo.weak {w : World} {base base' k : Nat} {t : TypeId} {rows : List (List DW)} {F : Nat → Value} {G : Nat → Nat} (h : RowsTo w base t rows k F G) (hb : base' ≤ base) : RowsTo w base' t rows k F G :=
  ⟨h.1, fun i r hi hr => by
    obtain ⟨h1, h2⟩ := h.2 i r hi hr
    exact ⟨by omega, h2⟩⟩
set_option maxHeartbeats 400000 in
theorem toSS (A : Option Addr) (n c : Nat) (rows : List (List DW)) (w : World) (hR : RM w w.heap.size A n rows) (hn : tot rows ≤ 1048576) : Calls Try.prog 52 #[.slice A n c] w (RetSS w 44 29 rows) := by
  have hn' : n ≤ 1048576 := by have := hR.1; have := part_le rows 0; omega
  have hmk := fun W => makeSS n (by omega) W
  have HN := Lib.hid hR.1
  have HR := Lib.hid hR
  clear hR
  go_enter Try.func52, Try.ntmps52
  go_wp2
  go_loopw [4] (fun i wr => ToSRel w n 44 29 rows i wr) (fun i _ => n - (intOf i).toNat)
  case atStart => exact ⟨0, by omega, rfl, _, fun _ => 0, World.rowIs_made w _ n _, ⟨fun i j _ h => absurd h (by omega), fun i r h _ => absurd h (by omega)⟩, bl_alloc (Below.refl _ _) _, by simp⟩
  case round =>
    obtain ⟨k, hk, rfl, F, G, hrow, hto, hb, hs⟩ := hrel
    clear hmk
    by_cases hlt : k < n
    · have hd : decide ((k : Int) < (n : Int)) = true := by simp; omega
      obtain ⟨b, off, A', c', r, rfl, hB, hx, c0, hRD⟩ := (HR.out.keep hb).at hlt
      have HX := Lib.hid hx
      have HROW := Lib.hid hrow
      have HTO := Lib.hid hto
      have HRD := Lib.hid (hRD.more (Nat.le_of_lt hs))
      have hrl : r.length ≤ 1048576 := by have := row_le_tot hx; omega
      clear hx hrow hto hRD
      go_wp2_with fail
      refine (toS _ _ _ r _ HRD.out hrl).mono ?_
      rintro e w1 ⟨rfl, hrow1, hb1⟩
      have HR1 := Lib.hid hrow1
      have hro : w1.rowIs w.heap.size 44 n F := HROW.out.of_block (hb1.block _ HROW.out.lt)
      have q0 := hro.cell (i := k) (by omega)
      have r0 := hro.frozen k
      have HRO := Lib.hid hro
      clear hro hrow1
      go_wp2
      go_roundw
      case rel =>
        refine ⟨k + 1, by omega, by go_num, _, _, HRO.out.set k _, HTO.out.succ (by omega) (by omega) hb1 HX.out (Nat.le_refl _) (Nat.le_refl _) HR1.out (fun _ _ => rfl), bl_set (bl_call hb hb1) (Nat.le_refl _) _, ?_⟩
        have := hb1.size
        simp
        omega
      case measure => simp [intOf]; omega
    · have hd : decide ((k : Int) < (n : Int)) = false := by simp; omega
      have hkn : k = n := by omega
      have HROW := Lib.hid hrow
      have HTO := Lib.hid hto
      have HK := Lib.hid hkn
      clear hrow hkn hto
      go_wp2
      go_ret
      have e := HN.out
      subst e
      have e2 := HK.out
      subst e2
      exact ⟨rfl, fun _ => ⟨w.heap.size, _, F, G, rfl, Nat.le_refl _, Nat.le_refl _, HROW.out, HTO.out.weak (by omega)⟩, hb⟩
set_option maxHeartbeats 400000 in
theorem eqSS (A B : Option Addr) (n c c' : Nat) (rows : List (List DW)) (w : World) (hA : RM w w.heap.size A n rows) (hB : RM w w.heap.size B n rows) (hn : tot rows ≤ 1048576) : Calls Try.prog 54 #[.slice A n c, .slice B n c'] w (Ret (.bool true) w) := by
  have hn' : n ≤ 1048576 := by have := hA.1; have := part_le rows 0; omega
  have HA := Lib.hid hA
  have HB := Lib.hid hB
  clear hA hB
  go_enter Try.func54, Try.ntmps54
  go_wp2
  go_loopw [5] (fun i wr => EqRel w n i wr) (fun i _ => n - (intOf i).toNat)
  case atStart => exact ⟨0, by omega, rfl, Below.refl _ _⟩
  case round =>
    obtain ⟨k, hk, rfl, hb⟩ := hrel
    have hs := hb.size
    by_cases hlt : k < n
    · have hd : decide ((k : Int) < (n : Int)) = true := by simp; omega
      obtain ⟨b, off, A', c1, r, rfl, hB1, hx, c0, hRD⟩ := (HA.out.keep hb).at hlt
      obtain ⟨b', off', B', c2, r', rfl, hB2, hx', d0, hRD'⟩ := (HB.out.keep hb).at hlt
      rw [hx] at hx'
      injection hx' with e
      subst e
      have hrl : r.length ≤ 1048576 := by have := row_le_tot hx; omega
      have HRD := Lib.hid (hRD.more hs)
      have HRD' := Lib.hid (hRD'.more hs)
      clear hx hRD hRD'
      have i0 : (0 : Int) ≤ (k : Int) := by omega
      have i1 : (k : Int) < (n : Int) := by omega
      have l0 : b < wr.heap.size := by omega
      have l1 : b' < wr.heap.size := by omega
      go_wp2_with fail
      go_region_held3 (fun w' => w'.cell? ⟨b, off + k, none⟩ = some (.slice A' r.length c1) ∧ w'.cell? ⟨b', off' + k, none⟩ = some (.slice B' r.length c2)) (first | exact ⟨c0, d0⟩ | go_keep) (first | (go_at_call 42; refine (eqS _ _ _ _ _ r wr.drew (RD.drew HRD.out) (RD.drew HRD'.out) hrl).mono ?_; rintro e w1 ⟨rfl, hb1⟩; have c0 := (hb1.cell (p := ⟨b, off + k, none⟩) l0).trans c0; have d0 := (hb1.cell (p := ⟨b', off' + k, none⟩) l1).trans d0))
      go_wp2
      go_roundw
      case rel => exact ⟨k + 1, by omega, by go_num, hb.drew.trans (hb1.mono (by simpa using hs))⟩
      case measure => simp [intOf]; omega
    · have hd : decide ((k : Int) < (n : Int)) = false := by simp; omega
      go_wp2
      go_ret
      exact ret_mk hb
theorem takeM_succ {us vs : List (List DW)} {k : Nat} {d : List DW} (h : us.take k = vs.take k) (h1 : us[k]? = some d) (h2 : vs[k]? = some d) : us.take (k + 1) = vs.take (k + 1) := by
  obtain ⟨l1, e1⟩ := List.getElem?_eq_some_iff.1 h1
  obtain ⟨l2, e2⟩ := List.getElem?_eq_some_iff.1 h2
  rw [List.take_succ_eq_append_getElem l1, List.take_succ_eq_append_getElem l2, h, e1, e2]
def okM (rows : List (List DW)) : Bool := (rows.length != 0) && rows.all fun r => (r.length == rows.length) && okS r
theorem okM_bad {rows : List (List DW)} {k : Nat} {r : List DW} (h1 : rows[k]? = some r) (h2 : ((r.length == rows.length) && okS r) = false) : okM rows = false := by
  have : (rows.all fun r => (r.length == rows.length) && okS r) = false := by
    rw [List.all_eq_false]
    exact ⟨r, List.mem_of_getElem? h1, by simp [h2]⟩
  unfold okM
  rw [this, Bool.and_false]
theorem allM_succ {rows : List (List DW)} {p : List DW → Bool} {k : Nat} {r : List DW} (h : (rows.take k).all p = true) (h1 : rows[k]? = some r) (h2 : p r = true) : (rows.take (k + 1)).all p = true := by
  obtain ⟨l1, e1⟩ := List.getElem?_eq_some_iff.1 h1
  rw [List.take_succ_eq_append_getElem l1, List.all_append, h, e1]
  simp [h2]
set_option maxHeartbeats 400000 in
theorem i_VM (A : Option Addr) (n c : Nat) (rows : List (List DW)) (w : World) (hA : RM w w.heap.size A n rows) (_hn : n ≤ 9223372036854775807) (hr : ∀ r ∈ rows, r.length ≤ 9223372036854775807) : Calls Try.prog 92 #[.slice A n c] w (Ret (.bool (okM rows)) w) := by
  obtain ⟨b, hb⟩ : ∃ b, okM rows = b := ⟨_, rfl⟩
  rw [hb]
  have Hb := Lib.hid hb
  have HA := Lib.hid hA
  have HN := Lib.hid hA.1
  have HRR := Lib.hid hr
  clear hb hA hr
  go_enter Try.func92, Try.ntmps92
  go_wp2
  go_loopw [7] (fun i wr => SRel w n (fun k => ((rows.take k).all fun r => (r.length == rows.length) && okS r) = true) i wr) (fun i _ => n - (intOf i).toNat)
  case atStart => exact ⟨0, by omega, rfl, by simp, Below.refl _ _⟩
  case round =>
    obtain ⟨k, hk, rfl, hq, hbw⟩ := hrel
    have hs := hbw.size
    have HQ := Lib.hid hq
    clear hq
    by_cases hlt : k < n
    · have hd : decide ((k : Int) < (n : Int)) = true := by simp; omega
      obtain ⟨b1, off, A', c1, r, rfl, hB1, hx, c0, hRD⟩ := (HA.out.keep hbw).at hlt
      have HX := Lib.hid hx
      have HRD := Lib.hid (hRD.more hs)
      have hrl : r.length ≤ 9223372036854775807 := HRR.out r (List.mem_of_getElem? hx)
      clear hx hRD
      have i0 : (0 : Int) ≤ (k : Int) := by omega
      have i1 : (k : Int) < (n : Int) := by omega
      by_cases hl : r.length = n
      · have hne : ((r.length : Int) != (n : Int)) = false := by simp; omega
        have HL := Lib.hid (show (r.length == rows.length) = true by rw [beq_iff_eq, hl]; exact HN.out)
        clear hl
        cases ho : okS r
        · have e : b = false := Hb.out.symm.trans (okM_bad HX.out (by rw [ho, Bool.and_false]))
          subst e
          have HV := Lib.hid (i_VS A' r.length c1 r wr HRD.out hrl)
          rw [ho] at HV
          clear ho
          go_wp2_with fail
          refine HV.out.mono ?_
          rintro e w1 ⟨rfl, hb1⟩
          go_wp2
          go_ret
          refine ret_mk ?_
          repeat (first | (with_reducible exact Below.refl _ _) | (with_reducible assumption) | (with_reducible refine bl_alloc ?_ _) | (with_reducible refine bl_drew ?_) | (with_reducible refine bl_set ?_ (by simp <;> omega) _) | (with_reducible refine bl_call ?_ (by assumption)))
        · have HT := Lib.hid (allM_succ (p := fun r => (r.length == rows.length) && okS r) HQ.out HX.out (by rw [ho, Bool.and_true]; exact HL.out))
          have HV := Lib.hid (i_VS A' r.length c1 r wr HRD.out hrl)
          rw [ho] at HV
          clear ho
          go_wp2_with fail
          refine HV.out.mono ?_
          rintro e w1 ⟨rfl, hb1⟩
          go_wp2
          go_roundw
          case rel =>
            refine ⟨k + 1, by omega, by go_num, HT.out, ?_⟩
            repeat (first | (with_reducible exact Below.refl _ _) | (with_reducible assumption) | (with_reducible refine bl_alloc ?_ _) | (with_reducible refine bl_drew ?_) | (with_reducible refine bl_set ?_ (by simp <;> omega) _) | (with_reducible refine bl_call ?_ (by assumption)))
          case measure => simp [intOf]; omega
      · have hne : ((r.length : Int) != (n : Int)) = true := by simp; omega
        have e : b = false := Hb.out.symm.trans (okM_bad HX.out (by
          have : (r.length == rows.length) = false := by rw [beq_eq_false_iff_ne]; have := HN.out; omega
          rw [this, Bool.false_and]))
        subst e
        clear hl
        go_wp2
        go_ret
        exact ret_mk hbw
    · have hd : decide ((k : Int) < (n : Int)) = false := by simp; omega
      have e : b = decide (0 < (n : Int)) := by
        have h := HQ.out
        rw [List.take_of_length_le (by have := HN.out; omega)] at h
        rw [← Hb.out]
        unfold okM
        rw [h, Bool.and_true, ← HN.out, Bool.eq_iff_iff, bne_iff_ne, decide_eq_true_iff]
        omega
      subst e
      go_wp2
      go_ret
      exact ret_eq (by simp) hbw
set_option maxHeartbeats 400000 in
theorem s_VM (A : Option Addr) (n c : Nat) (rows : List (List DW)) (w : World) (hA : RM w w.heap.size A n rows) (_hn : n ≤ 9223372036854775807) (hr : ∀ r ∈ rows, r.length ≤ 9223372036854775807) : Calls Try.prog 91 #[.slice A n c] w (Ret (.bool (okM rows)) w) := by
  obtain ⟨b, hb⟩ : ∃ b, okM rows = b := ⟨_, rfl⟩
  rw [hb]
  have Hb := Lib.hid hb
  have HA := Lib.hid hA
  have HN := Lib.hid hA.1
  have HRR := Lib.hid hr
  clear hb hA hr
  go_enter Try.func91, Try.ntmps91
  go_wp2
  go_loopw [3] (fun i wr => SRel w n (fun k => ((rows.take k).all fun r => (r.length == rows.length) && okS r) = true) i wr) (fun i _ => n - (intOf i).toNat)
  case atStart => exact ⟨0, by omega, rfl, by simp, Below.refl _ _⟩
  case round =>
    obtain ⟨k, hk, rfl, hq, hbw⟩ := hrel
    have hs := hbw.size
    have HQ := Lib.hid hq
    clear hq
    by_cases hlt : k < n
    · have hd : decide ((k : Int) < (n : Int)) = true := by simp; omega
      obtain ⟨b1, off, A', c1, r, rfl, hB1, hx, c0, hRD⟩ := (HA.out.keep hbw).at hlt
      have HX := Lib.hid hx
      have HRD := Lib.hid (hRD.more hs)
      have hrl : r.length ≤ 9223372036854775807 := HRR.out r (List.mem_of_getElem? hx)
      clear hx hRD
      have i0 : (0 : Int) ≤ (k : Int) := by omega
      have i1 : (k : Int) < (n : Int) := by omega
      by_cases hl : r.length = n
      · have hne : ((r.length : Int) != (n : Int)) = false := by simp; omega
        have HL := Lib.hid (show (r.length == rows.length) = true by rw [beq_iff_eq, hl]; exact HN.out)
        clear hl
        cases ho : okS r
        · have e : b = false := Hb.out.symm.trans (okM_bad HX.out (by rw [ho, Bool.and_false]))
          subst e
          have HV := Lib.hid (s_VS A' r.length c1 r wr HRD.out hrl)
          rw [ho] at HV
          clear ho
          go_wp2_with fail
          refine HV.out.mono ?_
          rintro e w1 ⟨rfl, hb1⟩
          go_wp2
          go_ret
          refine ret_mk ?_
          repeat (first | (with_reducible exact Below.refl _ _) | (with_reducible assumption) | (with_reducible refine bl_alloc ?_ _) | (with_reducible refine bl_drew ?_) | (with_reducible refine bl_set ?_ (by simp <;> omega) _) | (with_reducible refine bl_call ?_ (by assumption)))
        · have HT := Lib.hid (allM_succ (p := fun r => (r.length == rows.length) && okS r) HQ.out HX.out (by rw [ho, Bool.and_true]; exact HL.out))
          have HV := Lib.hid (s_VS A' r.length c1 r wr HRD.out hrl)
          rw [ho] at HV
          clear ho
          go_wp2_with fail
          refine HV.out.mono ?_
          rintro e w1 ⟨rfl, hb1⟩
          go_wp2
          go_roundw
          case rel =>
            refine ⟨k + 1, by omega, by go_num, HT.out, ?_⟩
            repeat (first | (with_reducible exact Below.refl _ _) | (with_reducible assumption) | (with_reducible refine bl_alloc ?_ _) | (with_reducible refine bl_drew ?_) | (with_reducible refine bl_set ?_ (by simp <;> omega) _) | (with_reducible refine bl_call ?_ (by assumption)))
          case measure => simp [intOf]; omega
      · have hne : ((r.length : Int) != (n : Int)) = true := by simp; omega
        have e : b = false := Hb.out.symm.trans (okM_bad HX.out (by
          have : (r.length == rows.length) = false := by rw [beq_eq_false_iff_ne]; have := HN.out; omega
          rw [this, Bool.false_and]))
        subst e
        clear hl
        go_wp2
        go_ret
        exact ret_mk hbw
    · have hd : decide ((k : Int) < (n : Int)) = false := by simp; omega
      have e : b = decide (0 < (n : Int)) := by
        have h := HQ.out
        rw [List.take_of_length_le (by have := HN.out; omega)] at h
        rw [← Hb.out]
        unfold okM
        rw [h, Bool.and_true, ← HN.out, Bool.eq_iff_iff, bne_iff_ne, decide_eq_true_iff]
        omega
      subst e
      go_wp2
      go_ret
      exact ret_eq (by simp) hbw


end Go.Proofs.Ytaokfppadfoniaa
