/- Contracts: basis states. -/
import Derived.Test.YtccbaffendfneaaS5
namespace Go.Proofs.Ytccbaffendfneaa
open Go.RowKit
/-- A slice of the call's own was returned. -/
def RetO (w : World) (t : TypeId) (ds : List DW) (e : Ending) (w' : World) : Prop :=
  ∃ A c, e = .returned (.slice A ds.length c) ∧ OwnS w' w.heap.size t A ds ∧ Below w.heap.size w w'
def oneD : DW := ⟨⟨1, 0, 0, 0⟩, 0⟩
def basisL (m i : Nat) : List DW := (List.range m).map fun j => if j = i then oneD else zeroD
theorem basisL_length (m i : Nat) : (basisL m i).length = m := by simp [basisL]
def pw (n : Int) : Nat := if n = 1 then 2 else if n = 2 then 4 else if n = 3 then 8 else if n = 4 then 16 else 0
def basisD (n i : Int) : List DW := if 0 ≤ i ∧ i < pw n then basisL (pw n) i.toNat else []
theorem pw_le (n : Int) : pw n ≤ 16 := by unfold pw; split; omega; split; omega; split; omega; split <;> omega
theorem basisD_len (n i : Int) : (basisD n i).length ≤ 16 := by
  unfold basisD; split
  · rw [basisL_length]; exact pw_le n
  · simp
theorem row_basis {w : World} {g m i : Nat} {t : TypeId} (h : w.rowIs g t (m * 5) (fun _ => .int .i64 0)) :
    (((((w.setCell ⟨g, i * 5, none⟩ (.int .i64 1)).setCell ⟨g, i * 5 + 1, none⟩ (.int .i64 0)).setCell ⟨g, i * 5 + 2, none⟩ (.int .i64 0)).setCell ⟨g, i * 5 + 3, none⟩ (.int .i64 0)).setCell ⟨g, i * 5 + 4, none⟩ (.int .i64 0)).rowIs g t (m * 5) (fD (basisL m i)) := by
  refine (((((h.set (i * 5) _).set (i * 5 + 1) _).set (i * 5 + 2) _).set (i * 5 + 3) _).set (i * 5 + 4) _).congr ?_
  intro j hj
  have h1 : (basisL m i)[j / 5]? = some (if j / 5 = i then oneD else zeroD) := by
    unfold basisL
    rw [List.getElem?_map, List.getElem?_range (by omega)]
    rfl
  have e : fD (basisL m i) j = cellOf (if j / 5 = i then oneD else zeroD) (j % 5) := by
    have ej : j = j / 5 * 5 + j % 5 := by omega
    have := fD_at h1 (j := j % 5) (by omega)
    rwa [← ej] at this
  rw [e]
  by_cases hq : j / 5 = i
  · rw [if_pos hq]
    have h5 : j % 5 < 5 := Nat.mod_lt _ (by omega)
    have ej : j = i * 5 + j % 5 := by omega
    generalize j % 5 = r at h5 ej
    subst ej
    match r, h5 with
    | 0, _ => simp [cellOf, oneD]
    | 1, _ => simp [cellOf, oneD]
    | 2, _ => simp [cellOf, oneD]
    | 3, _ => simp [cellOf, oneD]
    | 4, _ => simp [cellOf, oneD]
  · rw [if_neg hq, if_neg (by omega), if_neg (by omega), if_neg (by omega), if_neg (by omega), if_neg (by omega)]
    have h5 : j % 5 < 5 := Nat.mod_lt _ (by omega)
    generalize j % 5 = r at h5
    match r, h5 with
    | 0, _ => rfl
    | 1, _ => rfl
    | 2, _ => rfl
    | 3, _ => rfl
    | 4, _ => rfl


end Go.Proofs.Ytccbaffendfneaa
