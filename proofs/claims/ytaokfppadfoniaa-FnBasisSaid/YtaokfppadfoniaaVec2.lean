/- Plain laws: matrices applied and multiplied, phases found. -/
import Derived.Test.YtaokfppadfoniaaVec1
import Derived.Test.YtaokfppadfoniaaAdj2
import Derived.Test.YtaokfppadfoniaaEq
namespace Go.Proofs.Ytaokfppadfoniaa
open Go.RowKit
set_option linter.unusedVariables false

/-- What both compute. -/
def applyD (rows : List (List DW)) (vs : List DW) : Option (List DW) := if okM rows = true ∧ okS vs = true ∧ rows.length = vs.length then mapAll (fun i => (rows[i]?).bind fun r => dotN r vs rows.length) rows.length else none
theorem applyD_some {rows : List (List DW)} {vs : List DW} (h : okM rows = true ∧ okS vs = true ∧ rows.length = vs.length) : applyD rows vs = mapAll (fun i => (rows[i]?).bind fun r => dotN r vs rows.length) rows.length := by
  unfold applyD
  rw [if_pos h]
theorem applyD_len {rows : List (List DW)} {vs o : List DW} (h : applyD rows vs = some o) : o.length = rows.length := by
  unfold applyD at h
  split at h
  · exact mapAll_len h
  · cases h
theorem applyD_le (rows : List (List DW)) (vs : List DW) : ((applyD rows vs).getD []).length ≤ 16 := by
  cases h : applyD rows vs with
  | none => simp
  | some o =>
    have := applyD_len h
    unfold applyD at h
    split at h
    · rename_i hk
      have := (okM_parts hk.1).2.1
      simp
      omega
    · cases h
def mulCols (xs ys : List (List DW)) (n : Nat) : Option (List (List DW)) := mapAll (fun k => applyD xs (colL ys k)) n
def mulMD (xs ys : List (List DW)) : Option (List (List DW)) := if okM xs = true ∧ okM ys = true ∧ xs.length = ys.length then (mulCols xs ys xs.length).map fun l => flipL l xs.length else none
theorem flipL_tot {rows : List (List DW)} {m : Nat} (h1 : rows.length ≤ 16) (h2 : m ≤ 16) : tot (flipL rows m) ≤ 272 := by
  have e : (flipL rows m).map List.length = List.replicate m rows.length := by
    unfold flipL
    rw [List.map_map]
    have : (List.length ∘ fun i => colL rows i) = fun _ => rows.length := funext fun i => by simp [colL_length]
    rw [this, List.map_const', List.length_range]
  unfold tot
  rw [e, flipL_length, List.sum_replicate_nat]
  have : m * rows.length ≤ 16 * 16 := Nat.mul_le_mul h2 h1
  omega
theorem mulMD_tot (xs ys : List (List DW)) : tot ((mulMD xs ys).getD []) ≤ 272 := by
  unfold mulMD
  split
  · rename_i h
    obtain ⟨_, h16, _⟩ := okM_parts h.1
    cases h2 : mulCols xs ys xs.length with
    | none => simp [tot]
    | some l =>
      have hl := mapAll_len h2
      exact flipL_tot (rows := l) (by omega) h16
  · simp [tot]
theorem okM_row {rows : List (List DW)} (h : okM rows = true) {r : List DW} (hr : r ∈ rows) : okS r = true := by
  unfold okM at h
  rw [Bool.and_eq_true] at h
  have := List.all_eq_true.1 h.2 r hr
  rw [Bool.and_eq_true] at this
  exact this.2
theorem okM_qc {rows : List (List DW)} (h : okM rows = true) : qc rows.length ≠ 0 := by
  obtain ⟨hp, _, hr⟩ := okM_parts h
  have h0 : rows[0] ∈ rows := List.getElem_mem _
  have := (okS_parts (okM_row h h0)).1
  rwa [(hr _ h0).1] at this
theorem okM_col {rows : List (List DW)} (h : okM rows = true) {k : Nat} (hk : k < rows.length) : okS (colL rows k) = true := by
  obtain ⟨_, _, hr⟩ := okM_parts h
  unfold okS
  rw [colL_length, Bool.and_eq_true, bne_iff_ne]
  exact ⟨okM_qc h, List.all_eq_true.2 (adj_row rfl hr hk)⟩
theorem RD.nle {w : World} {B : Nat} {A : Option Addr} {n : Nat} {ds : List DW} (h : RD w B A n ds) : n = ds.length := h.1
/-- The answer of a sum under names. -/
theorem outV_parts (o : Option DW) : ∃ (x y z t m : Int) (ok : Bool), outV o = .tuple #[.agg #[.int .i64 x, .int .i64 y, .int .i64 z, .int .i64 t, .int .i64 m], .bool ok] ∧ (ok = true → o = some ⟨⟨x, y, z, t⟩, m⟩) ∧ (ok = false → o = none ∧ x = 0 ∧ y = 0 ∧ z = 0 ∧ t = 0 ∧ m = 0) := by
  rcases o with _ | ⟨⟨x, y, z, t⟩, m⟩
  · exact ⟨0, 0, 0, 0, 0, false, rfl, by simp, by simp⟩
  · exact ⟨x, y, z, t, m, true, rfl, by simp, by simp⟩
instance eqDW : DecidableEq DW := fun x y => decidable_of_iff (eqDb x.n.a x.n.b x.n.c x.n.d x.k y.n.a y.n.b y.n.c y.n.d y.k = true) (by
  rw [eqDb_iff]
  obtain ⟨⟨a, b, c, d⟩, k⟩ := x
  obtain ⟨⟨p, q, r, s⟩, l⟩ := y
  simp [and_assoc])
def fitRow (o : Option (List DW)) (r : List DW) : Bool := match o with
  | none => false
  | some v => decide (v = r)
def fitsN (xs ys : List (List DW)) (i : Nat) : Nat → Bool
  | 0 => true
  | k + 1 => fitsN xs ys i k && fitRow (scaleD (ys.getD k []) ⟨phaseZ (i : Int), 0⟩) (xs.getD k [])
def firstP (p : Nat → Bool) : Nat → Option Nat
  | 0 => none
  | n + 1 => match firstP p n with
    | some i => some i
    | none => if p n = true then some n else none
theorem firstP_none {p : Nat → Bool} {n : Nat} (h : firstP p n = none) (hp : p n = false) : firstP p (n + 1) = none := by
  unfold firstP
  rw [h]
  simp [hp]
theorem firstP_hit {p : Nat → Bool} {n : Nat} (h : firstP p n = none) (hp : p n = true) : firstP p (n + 1) = some n := by
  unfold firstP
  rw [h]
  simp [hp]
theorem firstP_more {p : Nat → Bool} {n i : Nat} (h : firstP p n = some i) : ∀ {m : Nat}, n ≤ m → firstP p m = some i
  | 0, hm => by
    obtain rfl : n = 0 := by omega
    exact h
  | m + 1, hm => by
    by_cases e : n = m + 1
    · rw [← e]; exact h
    · unfold firstP
      rw [firstP_more h (m := m) (by omega)]
theorem fitsN_stop {xs ys : List (List DW)} {i k : Nat} (h : fitsN xs ys i k = false) : ∀ {m : Nat}, k ≤ m → fitsN xs ys i m = false
  | 0, hm => by
    obtain rfl : k = 0 := by omega
    exact h
  | m + 1, hm => by
    by_cases e : k = m + 1
    · rw [← e]; exact h
    · unfold fitsN
      rw [fitsN_stop h (m := m) (by omega), Bool.false_and]
def gphD (xs ys : List (List DW)) : Option Nat := if okM xs = true ∧ okM ys = true ∧ xs.length = ys.length then firstP (fun i => fitsN xs ys i xs.length) 8 else none
end Go.Proofs.Ytaokfppadfoniaa
