/- Contracts: basis states. -/
import Derived.Test.YtaokfppadfoniaaS5
namespace Go.Proofs.Ytaokfppadfoniaa
open Go.RowKit
/-- A slice of the call's own was returned. -/
def RetO (w : World) (t : TypeId) (ds : List DW) (e : Ending) (w' : World) : Prop :=
  ∃ A c, e = .returned (.slice A ds.length c) ∧ OwnS w' w.heap.size t A ds ∧ Below w.heap.size w w'
def oneD : DW := ⟨⟨1, 0, 0, 0⟩, 0⟩
def basisL (m i : Nat) : List DW := (List.range m).map fun j => if j = i then oneD else zeroD
theorem basisL_length (m i : Nat) : (basisL m i).length = m := by simp [basisL]
def pw (n : Int) : Nat := if n = 1 then 2 else if n = 2 then 4 else if n = 3 then 8 else if n = 4 then 16 else 0
def basisD (n i : Int) : List DW := if 0 ≤ i ∧ i < pw n then basisL (pw n) i.toNat else []
theorem pw_le (n : Int) : pw n ≤ 16 := by unfold pw; split; omega; split; omega; split; omega; split <;> omega
theorem basisD_len (n i : Int) : (basisD n i).length ≤ 16 := by
  unfold basisD; split
  · rw [basisL_length]; exact pw_le n
  · simp
theorem row_basis {w : World} {g m i : Nat} {t : TypeId} (h : w.rowIs g t (m * 5) (fun _ => .int .i64 0)) :
    (((((w.setCell ⟨g, i * 5, none⟩ (.int .i64 1)).setCell ⟨g, i * 5 + 1, none⟩ (.int .i64 0)).setCell ⟨g, i * 5 + 2, none⟩ (.int .i64 0)).setCell ⟨g, i * 5 + 3, none⟩ (.int .i64 0)).setCell ⟨g, i * 5 + 4, none⟩ (.int .i64 0)).rowIs g t (m * 5) (fD (basisL m i)) := by
  refine (((((h.set (i * 5) _).set (i * 5 + 1) _).set (i * 5 + 2) _).set (i * 5 + 3) _).set (i * 5 + 4) _).congr ?_
  intro j hj
  have h1 : (basisL m i)[j / 5]? = some (if j / 5 = i then oneD else zeroD) := by
    unfold basisL
    rw [List.getElem?_map, List.getElem?_range (by omega)]
    rfl
  have e : fD (basisL m i) j = cellOf (if j / 5 = i then oneD else zeroD) (j % 5) := by
    have ej : j = j / 5 * 5 + j % 5 := by omega
    have := fD_at h1 (j := j % 5) (by omega)
    rwa [← ej] at this
  rw [e]
  by_cases hq : j / 5 = i
  · rw [if_pos hq]
    have h5 : j % 5 < 5 := Nat.mod_lt _ (by omega)
    have ej : j = i * 5 + j % 5 := by omega
    generalize j % 5 = r at h5 ej
    subst ej
    match r, h5 with
    | 0, _ => simp [cellOf, oneD]
    | 1, _ => simp [cellOf, oneD]
    | 2, _ => simp [cellOf, oneD]
    | 3, _ => simp [cellOf, oneD]
    | 4, _ => simp [cellOf, oneD]
  · rw [if_neg hq, if_neg (by omega), if_neg (by omega), if_neg (by omega), if_neg (by omega), if_neg (by omega)]
    have h5 : j % 5 < 5 := Nat.mod_lt _ (by omega)
    generalize j % 5 = r at h5
    match r, h5 with
    | 0, _ => rfl
    | 1, _ => rfl
    | 2, _ => rfl
    | 3, _ => rfl
    | 4, _ => rfl
set_option maxHeartbeats 1000000 in
theorem i_Basis_ok (n : Int) (m i : Nat) (w : World) (hm : pw n = m) (hi : i < m) : Calls Try.prog 29 #[.int .i64 n, .int .i64 (i : Int)] w (RetO w 29 (basisL m i)) := by
  have hcase : (n = 1 ∧ m = 2) ∨ (n = 2 ∧ m = 4) ∨ (n = 3 ∧ m = 8) ∨ (n = 4 ∧ m = 16) := by
    subst hm
    unfold pw at hi ⊢
    by_cases h1 : n = 1
    · exact .inl ⟨h1, by simp [h1]⟩
    by_cases h2 : n = 2
    · exact .inr (.inl ⟨h2, by simp [h2]⟩)
    by_cases h3 : n = 3
    · exact .inr (.inr (.inl ⟨h3, by simp [h3]⟩))
    by_cases h4 : n = 4
    · exact .inr (.inr (.inr ⟨h4, by simp [h4]⟩))
    · simp [h1, h2, h3, h4] at hi
  clear hm
  have hmk2 : ∀ W, (Instr.makeSlice 44 (.int .i64 2) (.int .i64 2)).run Try.prog W = .ok (.slice (some ⟨W.heap.size, 0, none⟩) 2 2) (W.alloc (.cells (zerosD 2) 29)) := fun W => makeD 2 (by omega) W
  have hmk4 : ∀ W, (Instr.makeSlice 44 (.int .i64 4) (.int .i64 4)).run Try.prog W = .ok (.slice (some ⟨W.heap.size, 0, none⟩) 4 4) (W.alloc (.cells (zerosD 4) 29)) := fun W => makeD 4 (by omega) W
  have hmk8 : ∀ W, (Instr.makeSlice 44 (.int .i64 8) (.int .i64 8)).run Try.prog W = .ok (.slice (some ⟨W.heap.size, 0, none⟩) 8 8) (W.alloc (.cells (zerosD 8) 29)) := fun W => makeD 8 (by omega) W
  have hmk16 : ∀ W, (Instr.makeSlice 44 (.int .i64 16) (.int .i64 16)).run Try.prog W = .ok (.slice (some ⟨W.heap.size, 0, none⟩) 16 16) (W.alloc (.cells (zerosD 16) 29)) := fun W => makeD 16 (by omega) W
  have i0 : (0 : Int) ≤ (i : Int) := by omega
  have hin : ∀ (hi' : Int), (i : Int) ≤ hi' → ∀ W, Calls Try.prog 71 #[.int .i64 (i : Int), .int .i64 0, .int .i64 hi'] W fun e w' => e = .returned (.bool true) ∧ W = w' := by
    intro hi' h W
    have := i_in_any (i : Int) 0 hi' W
    have e : (decide ((0 : Int) ≤ (i : Int)) && decide ((i : Int) ≤ hi')) = true := by simp; omega
    rwa [e] at this
  have HIN := Lib.hid hin
  clear hin
  rcases hcase with ⟨rfl, rfl⟩ | ⟨rfl, rfl⟩ | ⟨rfl, rfl⟩ | ⟨rfl, rfl⟩
  all_goals
    have i1 : (i : Int) < _ := Int.ofNat_lt.2 hi
    go_enter Try.func29, Try.ntmps29
    go_wp2_with fail
    refine (i_in_any _ _ _ _).mono ?_
    rintro e w' ⟨rfl, rfl⟩
    go_wp2_with fail
    refine (HIN.out _ (by omega) _).mono ?_
    rintro e w' ⟨rfl, rfl⟩
    go_wp2_with fail
    refine (i_One _).mono ?_
    rintro e w1 ⟨rfl, hb1⟩
    have hrow : w1.rowIs w.heap.size 29 _ _ := (zerosD_row _ w _).of_block (hb1.block _ (by simp))
    have q0 := hrow.cell (i := i * 5) (by omega)
    have q1 := hrow.cell (i := i * 5 + 1) (by omega)
    have q2 := hrow.cell (i := i * 5 + 2) (by omega)
    have q3 := hrow.cell (i := i * 5 + 3) (by omega)
    have q4 := hrow.cell (i := i * 5 + 4) (by omega)
    have r0 := hrow.frozen (i * 5)
    have r1 := hrow.frozen (i * 5 + 1)
    have r2 := hrow.frozen (i * 5 + 2)
    have r3 := hrow.frozen (i * 5 + 3)
    have r4 := hrow.frozen (i * 5 + 4)
    have HROW := Lib.hid hrow
    clear hrow
    have hw : Below w.heap.size w w1 := by repeat (first | (with_reducible exact Below.refl _ _) | (with_reducible assumption) | (with_reducible refine bl_alloc ?_ _) | (with_reducible refine bl_drew ?_) | (with_reducible refine bl_set ?_ (by simp <;> omega) _) | (with_reducible refine bl_call ?_ (by assumption)))
    clear hb1
    go_wp2
    go_ret
    refine ⟨_, _, rfl, OwnS.of_row (row_basis HROW.out) (Nat.le_refl _) (by rw [basisL_length]; exact Nat.le_refl _), ?_⟩
    repeat (first | (with_reducible exact Below.refl _ _) | (with_reducible assumption) | (with_reducible refine bl_alloc ?_ _) | (with_reducible refine bl_drew ?_) | (with_reducible refine bl_set ?_ (by simp <;> omega) _) | (with_reducible refine bl_call ?_ (by assumption)))
set_option maxHeartbeats 400000 in
theorem i_Basis_bad (n i : Int) (w : World) (h : ¬ (0 ≤ i ∧ i < pw n)) : Calls Try.prog 29 #[.int .i64 n, .int .i64 i] w (RetO w 29 []) := by
  cases hn : (decide (1 ≤ n) && decide (n ≤ 4))
  · have HI : ∀ W, Calls Try.prog 71 #[.int .i64 n, .int .i64 1, .int .i64 4] W fun e w' => e = .returned (.bool false) ∧ W = w' := by
      intro W
      have := i_in_any n 1 4 W
      rwa [hn] at this
    have HI' := Lib.hid HI
    clear HI hn h
    go_enter Try.func29, Try.ntmps29
    go_wp2_with fail
    refine (HI'.out _).mono ?_
    rintro e w' ⟨rfl, rfl⟩
    go_wp2
    go_ret
    refine ⟨_, _, rfl, OwnS.nil, ?_⟩
    repeat (first | (with_reducible exact Below.refl _ _) | (with_reducible assumption) | (with_reducible refine bl_alloc ?_ _) | (with_reducible refine bl_drew ?_) | (with_reducible refine bl_set ?_ (by simp <;> omega) _) | (with_reducible refine bl_call ?_ (by assumption)))
  · have hcase : n = 1 ∨ n = 2 ∨ n = 3 ∨ n = 4 := by simp at hn; omega
    clear hn
    have hin : ∀ (hi' : Int), ¬ (0 ≤ i ∧ i ≤ hi') → ∀ W, Calls Try.prog 71 #[.int .i64 i, .int .i64 0, .int .i64 hi'] W fun e w' => e = .returned (.bool false) ∧ W = w' := by
      intro hi' hh W
      have := i_in_any i 0 hi' W
      have e : (decide ((0 : Int) ≤ i) && decide (i ≤ hi')) = false := by simp; omega
      rwa [e] at this
    have HIN := Lib.hid hin
    clear hin
    rcases hcase with rfl | rfl | rfl | rfl
    all_goals
      have h' : ¬ (0 ≤ i ∧ i < _) := h
      simp [pw] at h'
      have HH := Lib.hid h'
      clear h h'
      go_enter Try.func29, Try.ntmps29
      go_wp2_with fail
      refine (i_in_any _ _ _ _).mono ?_
      rintro e w' ⟨rfl, rfl⟩
      go_wp2_with fail
      refine (HIN.out _ (by have := HH.out; omega) _).mono ?_
      rintro e w' ⟨rfl, rfl⟩
      go_wp2
      go_ret
      refine ⟨_, _, rfl, OwnS.nil, ?_⟩
      repeat (first | (with_reducible exact Below.refl _ _) | (with_reducible assumption) | (with_reducible refine bl_alloc ?_ _) | (with_reducible refine bl_drew ?_) | (with_reducible refine bl_set ?_ (by simp <;> omega) _) | (with_reducible refine bl_call ?_ (by assumption)))
theorem i_Basis (n i : Int) (w : World) : Calls Try.prog 29 #[.int .i64 n, .int .i64 i] w (RetO w 29 (basisD n i)) := by
  unfold basisD
  split
  · rename_i h
    obtain ⟨I, rfl⟩ := Int.eq_ofNat_of_zero_le h.1
    rw [Int.toNat_natCast]
    exact i_Basis_ok n _ I w rfl (by have := h.2; omega)
  · rename_i h
    exact i_Basis_bad n i w h
set_option maxHeartbeats 1000000 in
theorem s_Basis_ok (n : Int) (m i : Nat) (w : World) (hm : pw n = m) (hi : i < m) : Calls Try.prog 31 #[.int .i64 n, .int .i64 (i : Int)] w (RetO w 29 (basisL m i)) := by
  have hcase : (n = 1 ∧ m = 2) ∨ (n = 2 ∧ m = 4) ∨ (n = 3 ∧ m = 8) ∨ (n = 4 ∧ m = 16) := by
    subst hm
    unfold pw at hi ⊢
    by_cases h1 : n = 1
    · exact .inl ⟨h1, by simp [h1]⟩
    by_cases h2 : n = 2
    · exact .inr (.inl ⟨h2, by simp [h2]⟩)
    by_cases h3 : n = 3
    · exact .inr (.inr (.inl ⟨h3, by simp [h3]⟩))
    by_cases h4 : n = 4
    · exact .inr (.inr (.inr ⟨h4, by simp [h4]⟩))
    · simp [h1, h2, h3, h4] at hi
  clear hm
  have hmk2 : ∀ W, (Instr.makeSlice 44 (.int .i64 2) (.int .i64 2)).run Try.prog W = .ok (.slice (some ⟨W.heap.size, 0, none⟩) 2 2) (W.alloc (.cells (zerosD 2) 29)) := fun W => makeD 2 (by omega) W
  have hmk4 : ∀ W, (Instr.makeSlice 44 (.int .i64 4) (.int .i64 4)).run Try.prog W = .ok (.slice (some ⟨W.heap.size, 0, none⟩) 4 4) (W.alloc (.cells (zerosD 4) 29)) := fun W => makeD 4 (by omega) W
  have hmk8 : ∀ W, (Instr.makeSlice 44 (.int .i64 8) (.int .i64 8)).run Try.prog W = .ok (.slice (some ⟨W.heap.size, 0, none⟩) 8 8) (W.alloc (.cells (zerosD 8) 29)) := fun W => makeD 8 (by omega) W
  have hmk16 : ∀ W, (Instr.makeSlice 44 (.int .i64 16) (.int .i64 16)).run Try.prog W = .ok (.slice (some ⟨W.heap.size, 0, none⟩) 16 16) (W.alloc (.cells (zerosD 16) 29)) := fun W => makeD 16 (by omega) W
  have i0 : (0 : Int) ≤ (i : Int) := by omega
  have hin : ∀ (hi' : Int), (i : Int) ≤ hi' → ∀ W, Calls Try.prog 74 #[.int .i64 (i : Int), .int .i64 0, .int .i64 hi'] W fun e w' => e = .returned (.bool true) ∧ W = w' := by
    intro hi' h W
    have := s_in_any (i : Int) 0 hi' W
    have e : (decide ((0 : Int) ≤ (i : Int)) && decide ((i : Int) ≤ hi')) = true := by simp; omega
    rwa [e] at this
  have HIN := Lib.hid hin
  clear hin
  rcases hcase with ⟨rfl, rfl⟩ | ⟨rfl, rfl⟩ | ⟨rfl, rfl⟩ | ⟨rfl, rfl⟩
  all_goals
    have i1 : (i : Int) < _ := Int.ofNat_lt.2 hi
    go_enter Try.func31, Try.ntmps31
    go_wp2_with fail
    refine (s_in_any _ _ _ _).mono ?_
    rintro e w' ⟨rfl, rfl⟩
    go_wp2_with fail
    refine (HIN.out _ (by omega) _).mono ?_
    rintro e w' ⟨rfl, rfl⟩
    go_wp2_with fail
    refine (s_One _).mono ?_
    rintro e w1 ⟨rfl, hb1⟩
    have hrow : w1.rowIs w.heap.size 29 _ _ := (zerosD_row _ w _).of_block (hb1.block _ (by simp))
    have q0 := hrow.cell (i := i * 5) (by omega)
    have q1 := hrow.cell (i := i * 5 + 1) (by omega)
    have q2 := hrow.cell (i := i * 5 + 2) (by omega)
    have q3 := hrow.cell (i := i * 5 + 3) (by omega)
    have q4 := hrow.cell (i := i * 5 + 4) (by omega)
    have r0 := hrow.frozen (i * 5)
    have r1 := hrow.frozen (i * 5 + 1)
    have r2 := hrow.frozen (i * 5 + 2)
    have r3 := hrow.frozen (i * 5 + 3)
    have r4 := hrow.frozen (i * 5 + 4)
    have HROW := Lib.hid hrow
    clear hrow
    have hw : Below w.heap.size w w1 := by repeat (first | (with_reducible exact Below.refl _ _) | (with_reducible assumption) | (with_reducible refine bl_alloc ?_ _) | (with_reducible refine bl_drew ?_) | (with_reducible refine bl_set ?_ (by simp <;> omega) _) | (with_reducible refine bl_call ?_ (by assumption)))
    clear hb1
    go_wp2
    go_ret
    refine ⟨_, _, rfl, OwnS.of_row (row_basis HROW.out) (Nat.le_refl _) (by rw [basisL_length]; exact Nat.le_refl _), ?_⟩
    repeat (first | (with_reducible exact Below.refl _ _) | (with_reducible assumption) | (with_reducible refine bl_alloc ?_ _) | (with_reducible refine bl_drew ?_) | (with_reducible refine bl_set ?_ (by simp <;> omega) _) | (with_reducible refine bl_call ?_ (by assumption)))
set_option maxHeartbeats 400000 in
theorem s_Basis_bad (n i : Int) (w : World) (h : ¬ (0 ≤ i ∧ i < pw n)) : Calls Try.prog 31 #[.int .i64 n, .int .i64 i] w (RetO w 29 []) := by
  cases hn : (decide (1 ≤ n) && decide (n ≤ 4))
  · have HI : ∀ W, Calls Try.prog 74 #[.int .i64 n, .int .i64 1, .int .i64 4] W fun e w' => e = .returned (.bool false) ∧ W = w' := by
      intro W
      have := s_in_any n 1 4 W
      rwa [hn] at this
    have HI' := Lib.hid HI
    clear HI hn h
    go_enter Try.func31, Try.ntmps31
    go_wp2_with fail
    refine (HI'.out _).mono ?_
    rintro e w' ⟨rfl, rfl⟩
    go_wp2
    go_ret
    refine ⟨_, _, rfl, OwnS.nil, ?_⟩
    repeat (first | (with_reducible exact Below.refl _ _) | (with_reducible assumption) | (with_reducible refine bl_alloc ?_ _) | (with_reducible refine bl_drew ?_) | (with_reducible refine bl_set ?_ (by simp <;> omega) _) | (with_reducible refine bl_call ?_ (by assumption)))
  · have hcase : n = 1 ∨ n = 2 ∨ n = 3 ∨ n = 4 := by simp at hn; omega
    clear hn
    have hin : ∀ (hi' : Int), ¬ (0 ≤ i ∧ i ≤ hi') → ∀ W, Calls Try.prog 74 #[.int .i64 i, .int .i64 0, .int .i64 hi'] W fun e w' => e = .returned (.bool false) ∧ W = w' := by
      intro hi' hh W
      have := s_in_any i 0 hi' W
      have e : (decide ((0 : Int) ≤ i) && decide (i ≤ hi')) = false := by simp; omega
      rwa [e] at this
    have HIN := Lib.hid hin
    clear hin
    rcases hcase with rfl | rfl | rfl | rfl
    all_goals
      have h' : ¬ (0 ≤ i ∧ i < _) := h
      simp [pw] at h'
      have HH := Lib.hid h'
      clear h h'
      go_enter Try.func31, Try.ntmps31
      go_wp2_with fail
      refine (s_in_any _ _ _ _).mono ?_
      rintro e w' ⟨rfl, rfl⟩
      go_wp2_with fail
      refine (HIN.out _ (by have := HH.out; omega) _).mono ?_
      rintro e w' ⟨rfl, rfl⟩
      go_wp2
      go_ret
      refine ⟨_, _, rfl, OwnS.nil, ?_⟩
      repeat (first | (with_reducible exact Below.refl _ _) | (with_reducible assumption) | (with_reducible refine bl_alloc ?_ _) | (with_reducible refine bl_drew ?_) | (with_reducible refine bl_set ?_ (by simp <;> omega) _) | (with_reducible refine bl_call ?_ (by assumption)))
theorem s_Basis (n i : Int) (w : World) : Calls Try.prog 31 #[.int .i64 n, .int .i64 i] w (RetO w 29 (basisD n i)) := by
  unfold basisD
  split
  · rename_i h
    obtain ⟨I, rfl⟩ := Int.eq_ofNat_of_zero_le h.1
    rw [Int.toNat_natCast]
    exact s_Basis_ok n _ I w rfl (by have := h.2; omega)
  · rename_i h
    exact s_Basis_bad n i w h
end Go.Proofs.Ytaokfppadfoniaa
