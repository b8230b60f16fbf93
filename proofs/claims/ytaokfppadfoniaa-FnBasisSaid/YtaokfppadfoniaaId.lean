/- Contracts: identity matrices. -/
import Derived.Test.YtaokfppadfoniaaMarkM
namespace Go.Proofs.Ytaokfppadfoniaa
open Go.RowKit
set_option linter.unusedVariables false

/-- A matrix of the call's own was returned. -/
def RetOM (w : World) (rows : List (List DW)) (e : Ending) (w' : World) : Prop :=
  ∃ A c, e = .returned (.slice A rows.length c) ∧ OwnM w' w.heap.size 44 29 A rows ∧ Below w.heap.size w w'
theorem below_grown {B : Nat} {w W W' : World} {row : Option Nat} (h : Below B w W) (hg : W.grownBy W' row) (hrow : ∀ k, row = some k → B ≤ k) (hB : B ≤ W.heap.size) : Below B w W' :=
  h.grown hg hB hrow
def idL (m : Nat) (k : Nat) : List (List DW) := (List.range k).map fun i => basisL m i
theorem idL_length (m k : Nat) : (idL m k).length = k := by simp [idL]
theorem idL_succ (m k : Nat) : idL m (k + 1) = idL m k ++ [basisL m k] := by simp [idL, List.range_succ]
def idD (n : Int) : List (List DW) := idL (pw n) (pw n)
theorem pw_cases (n : Int) : (n = 1 ∧ pw n = 2) ∨ (n = 2 ∧ pw n = 4) ∨ (n = 3 ∧ pw n = 8) ∨ (n = 4 ∧ pw n = 16) ∨ ((n < 1 ∨ 4 < n) ∧ pw n = 0) := by
  unfold pw
  by_cases h1 : n = 1
  · exact .inl ⟨h1, by simp [h1]⟩
  by_cases h2 : n = 2
  · exact .inr (.inl ⟨h2, by simp [h2]⟩)
  by_cases h3 : n = 3
  · exact .inr (.inr (.inl ⟨h3, by simp [h3]⟩))
  by_cases h4 : n = 4
  · exact .inr (.inr (.inr (.inl ⟨h4, by simp [h4]⟩)))
  · exact .inr (.inr (.inr (.inr ⟨by omega, by simp [h1, h2, h3, h4]⟩)))
def IdRel (w : World) (m : Nat) (v i : Value) (wr : World) : Prop :=
  ∃ k : Nat, k ≤ m ∧ i = .int .i64 (k : Int) ∧ OutM wr w.heap.size v (idL m k) ∧ Below w.heap.size w wr ∧ w.heap.size ≤ wr.heap.size
theorem idD_tot (n : Int) : tot (idD n) ≤ 272 := by
  unfold idD
  rcases pw_cases n with ⟨h, e⟩ | ⟨h, e⟩ | ⟨h, e⟩ | ⟨h, e⟩ | ⟨h, e⟩ <;> rw [e] <;> decide


end Go.Proofs.Ytaokfppadfoniaa
