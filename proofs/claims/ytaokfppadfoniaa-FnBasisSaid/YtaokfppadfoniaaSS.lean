/- Matrices: slices of slices of elements that are read, and such as a call made itself. -/
import Derived.Test.YtaokfppadfoniaaS5
namespace Go.Proofs.Ytaokfppadfoniaa
open Go.RowKit

/-- The slice of slices at A reads as rows and lies below block B. -/
def RM (w : World) (B : Nat) (A : Option Addr) (n : Nat) (rows : List (List DW)) : Prop :=
  n = rows.length ∧ ∀ i r, rows[i]? = some r → ∃ b off A' c', A = some ⟨b, off, none⟩ ∧ b < B ∧ w.cell? ⟨b, off + i, none⟩ = some (.slice A' r.length c') ∧ RD w B A' r.length r
theorem RM.at {w : World} {B : Nat} {A : Option Addr} {n : Nat} {rows : List (List DW)} (h : RM w B A n rows) {i : Nat} (hi : i < n) :
    ∃ b off A' c' r, A = some ⟨b, off, none⟩ ∧ b < B ∧ rows[i]? = some r ∧ w.cell? ⟨b, off + i, none⟩ = some (.slice A' r.length c') ∧ RD w B A' r.length r := by
  have hl : i < rows.length := by rw [← h.1]; exact hi
  obtain ⟨b, off, A', c', h1, h2, h3, h4⟩ := h.2 i _ (List.getElem?_eq_getElem hl)
  exact ⟨b, off, A', c', _, h1, h2, List.getElem?_eq_getElem hl, h3, h4⟩
theorem RM.keep {w w' : World} {B : Nat} {A : Option Addr} {n : Nat} {rows : List (List DW)} (h : RM w B A n rows) (hb : Below B w w') : RM w' B A n rows :=
  ⟨h.1, fun i r hi => by
    obtain ⟨b, off, A', c', h1, h2, h3, h4⟩ := h.2 i r hi
    exact ⟨b, off, A', c', h1, h2, (hb.cell h2).trans h3, h4.keep hb⟩⟩
theorem RM.more {w : World} {B B' : Nat} {A : Option Addr} {n : Nat} {rows : List (List DW)} (h : RM w B A n rows) (hB : B ≤ B') : RM w B' A n rows :=
  ⟨h.1, fun i r hi => by
    obtain ⟨b, off, A', c', h1, h2, h3, h4⟩ := h.2 i r hi
    exact ⟨b, off, A', c', h1, by omega, h3, h4.more hB⟩⟩
theorem RM.call {w w' : World} {A : Option Addr} {n : Nat} {rows : List (List DW)} (h : RM w w.heap.size A n rows) (hb : Below w.heap.size w w') : RM w' w'.heap.size A n rows := (h.keep hb).more hb.size

/-- The first k rows lie in blocks of their own, G i holds row i. -/
def RowsTo (w : World) (base : Nat) (t : TypeId) (rows : List (List DW)) (k : Nat) (F : Nat → Value) (G : Nat → Nat) : Prop :=
  (∀ i j, i < j → j < k → G i < G j) ∧ ∀ i r, i < k → rows[i]? = some r → base ≤ G i ∧ ∃ c' M f, F i = .slice (some ⟨G i, 0, none⟩) r.length c' ∧ r.length * 5 ≤ M ∧ w.rowIs (G i) t M f ∧ ∀ j, j < r.length * 5 → f j = fD r j
/-- The slice of slices at A holds rows in blocks from 'base' on that may be written. -/
def OwnM (w : World) (base : Nat) (ts td : TypeId) (A : Option Addr) (rows : List (List DW)) : Prop :=
  0 < rows.length → ∃ (g N : Nat) (F : Nat → Value) (G : Nat → Nat), A = some ⟨g, 0, none⟩ ∧ base ≤ g ∧ rows.length ≤ N ∧ w.rowIs g ts N F ∧ RowsTo w base td rows rows.length F G
theorem RowsTo.keep {w w' : World} {base k : Nat} {t : TypeId} {rows : List (List DW)} {F : Nat → Value} {G : Nat → Nat} (h : RowsTo w base t rows k F G) (hb : ∀ i r, i < k → rows[i]? = some r → w'.heap[G i]? = w.heap[G i]?) : RowsTo w' base t rows k F G :=
  ⟨h.1, fun i r hi hr => by
    obtain ⟨h1, c', M, f, h2, h3, h4, h5⟩ := h.2 i r hi hr
    exact ⟨h1, c', M, f, h2, h3, h4.of_block (hb i r hi hr), h5⟩⟩
theorem RowsTo.lt {w : World} {base k : Nat} {t : TypeId} {rows : List (List DW)} {F : Nat → Value} {G : Nat → Nat} (h : RowsTo w base t rows k F G) {i : Nat} {r : List DW} (hi : i < k) (hr : rows[i]? = some r) : G i < w.heap.size := by
  obtain ⟨_, _, _, _, _, _, h4, _⟩ := h.2 i r hi hr
  exact h4.lt
theorem RowsTo.call {w w' : World} {base k : Nat} {t : TypeId} {rows : List (List DW)} {F : Nat → Value} {G : Nat → Nat} (h : RowsTo w base t rows k F G) (hb : Below w.heap.size w w') : RowsTo w' base t rows k F G :=
  h.keep fun _ _ hi hr => hb.block _ (h.lt hi hr)
theorem OwnM.call {w w' : World} {base : Nat} {ts td : TypeId} {A : Option Addr} {rows : List (List DW)} (h : OwnM w base ts td A rows) (hb : Below w.heap.size w w') : OwnM w' base ts td A rows := fun hp => by
  obtain ⟨g, N, F, G, h1, h2, h3, h4, h5⟩ := h hp
  exact ⟨g, N, F, G, h1, h2, h3, h4.of_block (hb.block g h4.lt), h5.call hb⟩
theorem OwnM.nil {w : World} {base : Nat} {ts td : TypeId} {A : Option Addr} : OwnM w base ts td A [] := fun h => absurd h (by simp)
theorem RowsTo.row {w : World} {base k : Nat} {t : TypeId} {rows : List (List DW)} {F : Nat → Value} {G : Nat → Nat} (h : RowsTo w base t rows k F G) {i : Nat} {r : List DW} (hi : i < k) (hr : rows[i]? = some r) : OwnS w base t (some ⟨G i, 0, none⟩) r := fun _ => by
  obtain ⟨h1, c', M, f, h2, h3, h4, h5⟩ := h.2 i r hi hr
  exact ⟨G i, M, f, rfl, h1, h3, h4, h5⟩
theorem OwnM.read {w : World} {base : Nat} {ts td : TypeId} {A : Option Addr} {rows : List (List DW)} (h : OwnM w base ts td A rows) : RM w w.heap.size A rows.length rows :=
  ⟨rfl, fun i r hr => by
    have hl : i < rows.length := (List.getElem?_eq_some_iff.1 hr).1
    obtain ⟨g, N, F, G, rfl, h2, h3, h4, h5⟩ := h (by omega)
    obtain ⟨_, c', M, f, q2, _, _, _⟩ := h5.2 i r hl hr
    refine ⟨g, 0, some ⟨G i, 0, none⟩, c', rfl, h4.lt, ?_, (h5.row hl hr).read⟩
    rw [Nat.zero_add, h4.cell (by omega), q2]⟩
/-- One row more: it was made by a call and put into place k. -/
theorem RowsTo.succ {w w1 : World} {base g k : Nat} {t : TypeId} {rows : List (List DW)} {F : Nat → Value} {G : Nat → Nat} {r : List DW} {c M : Nat} {f : Nat → Value} (h : RowsTo w base t rows k F G) (hg : g < base) (hB : base ≤ w.heap.size) (hb : Below w.heap.size w w1)
    (hr : rows[k]? = some r) {b : Nat} (hbl : w.heap.size ≤ b) (hM : r.length * 5 ≤ M) (hrow : w1.rowIs b t M f) (hf : ∀ j, j < r.length * 5 → f j = fD r j) :
    RowsTo (w1.setCell ⟨g, k, none⟩ (.slice (some ⟨b, 0, none⟩) r.length c)) base t rows (k + 1) (fun j => if j = k then .slice (some ⟨b, 0, none⟩) r.length c else F j) (fun j => if j = k then b else G j) := by
  have h1 := h.call hb
  refine ⟨fun i j hij hj => ?_, fun i r' hi hr' => ?_⟩
  · by_cases ej : j = k
    · subst ej
      dsimp only
      rw [if_neg (by omega), if_pos rfl]
      obtain ⟨r', hr'⟩ : ∃ r', rows[i]? = some r' := ⟨_, List.getElem?_eq_getElem (by have := (List.getElem?_eq_some_iff.1 hr).1; omega)⟩
      have := h.lt hij hr'
      omega
    · dsimp only
      rw [if_neg (by omega), if_neg ej]
      exact h.1 i j hij (by omega)
  · by_cases ei : i = k
    · subst ei
      rw [hr] at hr'
      injection hr' with e
      subst e
      dsimp only
      rw [if_pos rfl, if_pos rfl]
      exact ⟨by omega, c, M, f, rfl, hM, hrow.setOther (a := ⟨g, i, none⟩) (by show b ≠ g; omega) _, hf⟩
    · dsimp only
      rw [if_neg ei, if_neg ei]
      obtain ⟨q1, c', M', f', q2, q3, q4, q5⟩ := h1.2 i r' (by omega) hr'
      exact ⟨q1, c', M', f', q2, q3, q4.setOther (a := ⟨g, k, none⟩) (by show G i ≠ g; omega) _, q5⟩

def tot (rows : List (List DW)) : Nat := rows.length + (rows.map List.length).sum
def part (rows : List (List DW)) (k : Nat) : Nat := ((rows.take k).map List.length).sum
theorem part_succ {rows : List (List DW)} {k : Nat} {r : List DW} (h : rows[k]? = some r) : part rows (k + 1) = part rows k + r.length := by
  obtain ⟨l1, e1⟩ := List.getElem?_eq_some_iff.1 h
  unfold part
  rw [List.take_succ_eq_append_getElem l1, List.map_append, List.sum_append, e1]
  simp
theorem part_le (rows : List (List DW)) (k : Nat) : rows.length + part rows k ≤ tot rows := by
  unfold part tot
  have h : ((rows.take k).map List.length).sum + ((rows.drop k).map List.length).sum = (rows.map List.length).sum := by
    rw [← List.sum_append, ← List.map_append, List.take_append_drop]
  omega
theorem part_all {rows : List (List DW)} {k : Nat} (h : rows.length ≤ k) : rows.length + part rows k = tot rows := by
  unfold part tot
  rw [List.take_of_length_le h]
theorem row_le_tot {rows : List (List DW)} {k : Nat} {r : List DW} (h : rows[k]? = some r) : r.length ≤ tot rows := by
  have := part_succ h
  have := part_le rows (k + 1)
  omega
end Go.Proofs.Ytaokfppadfoniaa
