/- Plain laws of columns and conjugated rows; stores into a row of elements. -/
import Derived.Test.YtaokfppadfoniaaId
namespace Go.Proofs.Ytaokfppadfoniaa
open Go.RowKit
set_option linter.unusedVariables false

def colL (rows : List (List DW)) (k : Nat) : List DW := rows.map fun r => r.getD k zeroD
theorem colL_length (rows : List (List DW)) (k : Nat) : (colL rows k).length = rows.length := by simp [colL]
theorem colL_succ {rows : List (List DW)} {j k : Nat} {r : List DW} {d : DW} (h : rows[j]? = some r) (hd : r[k]? = some d) : colL (rows.take (j + 1)) k = colL (rows.take j) k ++ [d] := by
  unfold colL
  rw [List.take_add_one, h, List.map_append]
  simp [List.getD_eq_getElem?_getD, hd]
theorem colL_all {rows : List (List DW)} {j k : Nat} (h : rows.length ≤ j) : colL (rows.take j) k = colL rows k := by rw [List.take_of_length_le h]
def flipL (rows : List (List DW)) (m : Nat) : List (List DW) := (List.range m).map fun i => colL rows i
theorem flipL_length (rows : List (List DW)) (m : Nat) : (flipL rows m).length = m := by simp [flipL]
theorem flipL_succ (rows : List (List DW)) (m : Nat) : flipL rows (m + 1) = flipL rows m ++ [colL rows m] := by simp [flipL, List.range_succ]
theorem flipL_at {rows : List (List DW)} {m i : Nat} (h : i < m) : (flipL rows m)[i]? = some (colL rows i) := by
  unfold flipL
  rw [List.getElem?_map, List.getElem?_range h]
  rfl
def conjDW (d : DW) : DW := ⟨⟨d.n.a, -d.n.d, -d.n.c, -d.n.b⟩, d.k⟩
/-- The first k elements conjugated. -/
def mixC (ds : List DW) (k : Nat) : List DW := (ds.take k).map conjDW ++ ds.drop k
theorem mixC_length (ds : List DW) (k : Nat) : (mixC ds k).length = ds.length := by simp [mixC]; omega
theorem mixC_zero (ds : List DW) : mixC ds 0 = ds := by simp [mixC]
theorem mixC_all {ds : List DW} {k : Nat} (h : ds.length ≤ k) : mixC ds k = ds.map conjDW := by
  unfold mixC
  rw [List.take_of_length_le h, List.drop_eq_nil_of_le h, List.append_nil]
theorem mixC_get {ds : List DW} {k : Nat} {d : DW} (h : ds[k]? = some d) : (mixC ds k)[k]? = some d := by
  have hl : k < ds.length := (List.getElem?_eq_some_iff.1 h).1
  unfold mixC
  rw [List.getElem?_append_right (by simp; omega), List.getElem?_drop]
  simp
  have e : k + (k - min k ds.length) = k := by omega
  rw [e]
  exact h
theorem mixC_step {ds : List DW} {k : Nat} {d : DW} (h : ds[k]? = some d) : (mixC ds k).set k (conjDW d) = mixC ds (k + 1) := by
  have hl : k < ds.length := (List.getElem?_eq_some_iff.1 h).1
  have e : ds[k] = d := (List.getElem?_eq_some_iff.1 h).2
  unfold mixC
  rw [List.take_succ_eq_append_getElem hl, List.drop_eq_getElem_cons hl, e, List.map_append]
  rw [List.set_append_right _ _ (by simp; omega)]
  have e0 : k - ((ds.take k).map conjDW).length = 0 := by simp; omega
  rw [e0, List.set_cons_zero]
  simp
def adjL (rows : List (List DW)) (m : Nat) : List (List DW) := (List.range m).map fun i => (colL rows i).map conjDW
theorem adjL_length (rows : List (List DW)) (m : Nat) : (adjL rows m).length = m := by simp [adjL]
theorem adjL_succ (rows : List (List DW)) (m : Nat) : adjL rows (m + 1) = adjL rows m ++ [(colL rows m).map conjDW] := by simp [adjL, List.range_succ]
/-- The first k rows conjugated. -/
def mixR (rows : List (List DW)) (k : Nat) : List (List DW) := (rows.take k).map (fun r => r.map conjDW) ++ rows.drop k
theorem mixR_length (rows : List (List DW)) (k : Nat) : (mixR rows k).length = rows.length := by simp [mixR]; omega
theorem mixR_zero (rows : List (List DW)) : mixR rows 0 = rows := by simp [mixR]
theorem mixR_all {rows : List (List DW)} {k : Nat} (h : rows.length ≤ k) : mixR rows k = rows.map fun r => r.map conjDW := by
  unfold mixR
  rw [List.take_of_length_le h, List.drop_eq_nil_of_le h, List.append_nil]
theorem mixR_at {rows : List (List DW)} {k i : Nat} {r : List DW} (h : rows[i]? = some r) : (mixR rows k)[i]? = some (if i < k then r.map conjDW else r) := by
  have hl : i < rows.length := (List.getElem?_eq_some_iff.1 h).1
  unfold mixR
  by_cases hk : i < k
  · rw [if_pos hk, List.getElem?_append_left (by simp; omega), List.getElem?_map, List.getElem?_take, if_pos hk, h]
    rfl
  · rw [if_neg hk, List.getElem?_append_right (by simp; omega), List.getElem?_drop]
    have e : k + (i - ((rows.take k).map fun r => r.map conjDW).length) = i := by simp; omega
    rw [e]
    exact h
theorem flip_conj (rows : List (List DW)) (m : Nat) : (flipL rows m).map (fun r => r.map conjDW) = adjL rows m := by
  unfold flipL adjL
  rw [List.map_map]
  rfl
/-- Five stores put another element into a row. -/
theorem row_put5 {w : World} {g k N : Nat} {t : TypeId} {ds : List DW} {d : DW} {f : Nat → Value} (h : w.rowIs g t N f) (hf : ∀ j, j < ds.length * 5 → f j = fD ds j) (hk : k < ds.length) :
    ∃ f', (((((w.setCell ⟨g, k * 5, none⟩ (.int .i64 d.n.a)).setCell ⟨g, k * 5 + 1, none⟩ (.int .i64 d.n.b)).setCell ⟨g, k * 5 + 2, none⟩ (.int .i64 d.n.c)).setCell ⟨g, k * 5 + 3, none⟩ (.int .i64 d.n.d)).setCell ⟨g, k * 5 + 4, none⟩ (.int .i64 d.k)).rowIs g t N f' ∧ ∀ j, j < (ds.set k d).length * 5 → f' j = fD (ds.set k d) j := by
  refine ⟨_, ((((h.set (k * 5) _).set (k * 5 + 1) _).set (k * 5 + 2) _).set (k * 5 + 3) _).set (k * 5 + 4) _, ?_⟩
  intro j hj
  rw [List.length_set] at hj
  have h5 : j % 5 < 5 := Nat.mod_lt _ (by omega)
  have ej : j = j / 5 * 5 + j % 5 := by omega
  by_cases hq : j / 5 = k
  · have h1 : (ds.set k d)[j / 5]? = some d := by rw [hq, List.getElem?_set_self hk]
    have e : fD (ds.set k d) j = cellOf d (j % 5) := by
      have := fD_at h1 h5
      rwa [← ej] at this
    rw [e]
    rw [hq] at ej
    generalize j % 5 = r at h5 ej
    subst ej
    match r, h5 with
    | 0, _ => simp [cellOf]
    | 1, _ => simp [cellOf]
    | 2, _ => simp [cellOf]
    | 3, _ => simp [cellOf]
    | 4, _ => simp [cellOf]
  · rw [if_neg (by omega), if_neg (by omega), if_neg (by omega), if_neg (by omega), if_neg (by omega), hf j hj]
    obtain ⟨d0, hd0⟩ : ∃ d0, ds[j / 5]? = some d0 := ⟨_, List.getElem?_eq_getElem (by omega)⟩
    have h2 : (ds.set k d)[j / 5]? = some d0 := by rw [List.getElem?_set_ne (by omega)]; exact hd0
    have e1 := fD_at hd0 h5
    have e2 := fD_at h2 h5
    rw [← ej] at e1 e2
    rw [e1, e2]
theorem OwnS.put5 {w : World} {base g k : Nat} {t : TypeId} {ds : List DW} {d : DW} (h : OwnS w base t (some ⟨g, 0, none⟩) ds) (hk : k < ds.length) :
    OwnS (((((w.setCell ⟨g, k * 5, none⟩ (.int .i64 d.n.a)).setCell ⟨g, k * 5 + 1, none⟩ (.int .i64 d.n.b)).setCell ⟨g, k * 5 + 2, none⟩ (.int .i64 d.n.c)).setCell ⟨g, k * 5 + 3, none⟩ (.int .i64 d.n.d)).setCell ⟨g, k * 5 + 4, none⟩ (.int .i64 d.k)) base t (some ⟨g, 0, none⟩) (ds.set k d) := fun _ => by
  obtain ⟨g', N, f, h1, h2, h3, h4, h5⟩ := h (by omega)
  simp at h1
  subst h1
  obtain ⟨f', q1, q2⟩ := row_put5 (d := d) h4 h5 hk
  exact ⟨g, N, f', rfl, h2, by rw [List.length_set]; exact h3, q1, q2⟩
/-- The five cells of an element of a row, and that they may be written. -/
theorem OwnS.five {w : World} {base g k : Nat} {t : TypeId} {ds : List DW} {d : DW} (h : OwnS w base t (some ⟨g, 0, none⟩) ds) (hd : ds[k]? = some d) :
    (w.cell? ⟨g, k * 5, none⟩ = some (.int .i64 d.n.a) ∧ w.cell? ⟨g, k * 5 + 1, none⟩ = some (.int .i64 d.n.b) ∧ w.cell? ⟨g, k * 5 + 2, none⟩ = some (.int .i64 d.n.c) ∧ w.cell? ⟨g, k * 5 + 3, none⟩ = some (.int .i64 d.n.d) ∧ w.cell? ⟨g, k * 5 + 4, none⟩ = some (.int .i64 d.k)) ∧
    (w.frozen? ⟨g, k * 5, none⟩ = false ∧ w.frozen? ⟨g, k * 5 + 1, none⟩ = false ∧ w.frozen? ⟨g, k * 5 + 2, none⟩ = false ∧ w.frozen? ⟨g, k * 5 + 3, none⟩ = false ∧ w.frozen? ⟨g, k * 5 + 4, none⟩ = false) ∧ base ≤ g ∧ g < w.heap.size := by
  have hk : k < ds.length := (List.getElem?_eq_some_iff.1 hd).1
  obtain ⟨g', N, f, h1, h2, h3, h4, h5⟩ := h (by omega)
  simp at h1
  subst h1
  have q : ∀ j, j < 5 → w.cell? ⟨g, k * 5 + j, none⟩ = some (cellOf d j) := fun j hj => by
    rw [h4.cell (i := k * 5 + j) (by omega), h5 _ (by omega), fD_at hd hj]
  exact ⟨⟨q 0 (by omega), q 1 (by omega), q 2 (by omega), q 3 (by omega), q 4 (by omega)⟩, ⟨h4.frozen _, h4.frozen _, h4.frozen _, h4.frozen _, h4.frozen _⟩, h2, h4.lt⟩
/-- One row of several is put anew: its block alone has changed. -/
theorem RowsTo.put {w w1 : World} {base k : Nat} {rows : List (List DW)} {F : Nat → Value} {G : Nat → Nat} {r : List DW} (h : RowsTo w base 29 (mixR rows k) rows.length F G) (hr : rows[k]? = some r)
    (hrow : OwnS w1 base 29 (some ⟨G k, 0, none⟩) (r.map conjDW)) (hp : 0 < r.length) (hfr : ∀ b, b < w.heap.size → b ≠ G k → w1.heap[b]? = w.heap[b]?) :
    RowsTo w1 base 29 (mixR rows (k + 1)) rows.length F G := by
  refine ⟨h.1, fun i r' hi hr' => ?_⟩
  have hk : k < rows.length := (List.getElem?_eq_some_iff.1 hr).1
  by_cases e : i = k
  · subst e
    have e1 := mixR_at (k := i) hr
    have e2 := mixR_at (k := i + 1) hr
    rw [if_neg (by omega)] at e1
    rw [if_pos (by omega), hr'] at e2
    injection e2 with e2
    subst e2
    obtain ⟨q1, c', M', f', q2, q3, q4, q5⟩ := h.2 i r hi e1
    obtain ⟨g', N, f, p1, p2, p3, p4, p5⟩ := hrow (by simpa using hp)
    simp at p1
    subst p1
    exact ⟨q1, c', N, f, by rw [List.length_map]; exact q2, p3, p4, p5⟩
  · have e1 : (mixR rows k)[i]? = some r' := by
      have e2 := mixR_at (k := k) (List.getElem?_eq_getElem hi)
      have e3 := mixR_at (k := k + 1) (List.getElem?_eq_getElem hi)
      rw [hr'] at e3
      rw [e2, e3]
      by_cases hik : i < k
      · rw [if_pos hik, if_pos (by omega)]
      · rw [if_neg hik, if_neg (by omega)]
    obtain ⟨q1, c', M', f', q2, q3, q4, q5⟩ := h.2 i r' hi e1
    have hne : G i ≠ G k := by
      rcases Nat.lt_or_gt_of_ne e with hl | hl
      · have := h.1 i k hl hk; omega
      · have := h.1 k i hl hi; omega
    exact ⟨q1, c', M', f', q2, q3, q4.of_block (hfr _ q4.lt hne), q5⟩
theorem qc_le {n : Nat} (h : qc n ≠ 0) : n ≤ 16 := by
  unfold qc at h
  by_cases h1 : n = 2
  · omega
  by_cases h2 : n = 4
  · omega
  by_cases h3 : n = 8
  · omega
  by_cases h4 : n = 16
  · omega
  · simp [h1, h2, h3, h4] at h
theorem okM_parts {rows : List (List DW)} (h : okM rows = true) : 0 < rows.length ∧ rows.length ≤ 16 ∧ ∀ r ∈ rows, r.length = rows.length ∧ ∀ d ∈ r, okd d = true := by
  unfold okM at h
  rw [Bool.and_eq_true, bne_iff_ne] at h
  obtain ⟨h1, h2⟩ := h
  have hp : ∀ r ∈ rows, r.length = rows.length ∧ okS r = true := fun r hr => by
    have := List.all_eq_true.1 h2 r hr
    rw [Bool.and_eq_true, beq_iff_eq] at this
    exact this
  have hd : ∀ r ∈ rows, r.length = rows.length ∧ ∀ d ∈ r, okd d = true := fun r hr => by
    obtain ⟨a, b⟩ := hp r hr
    unfold okS at b
    rw [Bool.and_eq_true] at b
    exact ⟨a, fun d hd => List.all_eq_true.1 b.2 d hd⟩
  refine ⟨by omega, ?_, hd⟩
  obtain ⟨r, hr⟩ := List.exists_mem_of_length_pos (show 0 < rows.length by omega)
  obtain ⟨a, b⟩ := hp r hr
  unfold okS at b
  rw [Bool.and_eq_true, bne_iff_ne] at b
  rw [← a]
  exact qc_le b.1
end Go.Proofs.Ytaokfppadfoniaa
