/- Contracts: columns, transposed and adjoint matrices. -/
import Derived.Test.YtaokfppadfoniaaAdj0
import Derived.Test.YtaokfppadfoniaaD2
namespace Go.Proofs.Ytaokfppadfoniaa
open Go.RowKit
set_option linter.unusedVariables false

def ColRel (w : World) (B n k : Nat) (rows : List (List DW)) (v i : Value) (wr : World) : Prop :=
  ∃ j : Nat, j ≤ n ∧ i = .int .i64 (j : Int) ∧ OutS wr B 29 v (colL (rows.take j) k) ∧ Below B w wr ∧ B ≤ wr.heap.size
set_option maxHeartbeats 1000000 in
theorem s_col (A : Option Addr) (n c k : Nat) (rows : List (List DW)) (w : World) (hR : RM w w.heap.size A n rows) (hk : ∀ r ∈ rows, k < r.length) (hn : n ≤ 1000000) (hk16 : k ≤ 1000000) :
    Calls Try.prog 96 #[.slice A n c, .int .i64 (k : Int)] w (RetO w 29 (colL rows k)) := by
  have HR := Lib.hid hR
  have HK := Lib.hid hk
  have HN := Lib.hid hR.1
  clear hR hk
  go_enter Try.func96, Try.ntmps96
  go_wp2
  go_loopw [5, 6] (fun v i wr => ColRel w w.heap.size n k rows v i wr) (fun _ i _ => n - (intOf i).toNat)
  case atStart => exact ⟨0, by omega, rfl, OutS.start w _ _ _ (Nat.le_refl _) rfl, below_alloc w _, by simp⟩
  case round =>
    obtain ⟨j, hj, rfl, hO, hb, hs⟩ := hrel
    have HO := Lib.hid hO
    clear hO
    by_cases hlt : j < n
    · have hd : decide ((j : Int) < (n : Int)) = true := by simp; omega
      obtain ⟨b, off, A', c', r, rfl, hb1, hr, q0, hRD⟩ := (HR.out.keep hb).at hlt
      have hkr : k < r.length := HK.out r (List.mem_of_getElem? hr)
      obtain ⟨b2, off2, x, y, z, t, l, rfl, hb2, hx, c0, c1, c2, c3, c4⟩ := hRD.at hkr
      have HS := Lib.hid (colL_succ hr hx)
      have hl := colL_length (rows.take j) k
      rw [List.length_take] at hl
      have hl' : (colL (rows.take j) k).length ≤ 2000000 := by omega
      clear hr hx hRD hl
      have i0 : (0 : Int) ≤ (j : Int) := by omega
      have i1 : (j : Int) < (n : Int) := by omega
      have k0 : (0 : Int) ≤ (k : Int) := by omega
      have k1 : (k : Int) < (r.length : Int) := by omega
      go_wp2_with (at_builtin; refine app_step _ rfl (.tmp 14) (.tmp 22) rfl w.heap.size _ _ rfl (HO.out.alloc _) wr.heap.size x y z t l rfl (Blk.new wr _ _) hl' (by simp; omega) ?_; intro v' w' hO' hg' hrow')
      rw [← HS.out] at hO'
      go_roundw
      case rel =>
        have hz := hg'.size
        refine ⟨j + 1, by omega, by go_num, hO', below_grown (bl_alloc hb _) hg' hrow' (by simp; omega), ?_⟩
        simp at hz
        omega
      case measure => simp [intOf]; omega
    · have hd : decide ((j : Int) < (n : Int)) = false := by simp; omega
      have HC := Lib.hid (colL_all (rows := rows) (j := j) (k := k) (by have := HN.out; omega))
      go_wp2
      go_ret
      have h := HO.out
      rw [HC.out] at h
      obtain ⟨A, c, rfl, hA⟩ := h.slice
      exact ⟨A, c, rfl, hA, hb⟩
/-- What both compute. -/
def adjD (rows : List (List DW)) : List (List DW) := if okM rows = true then adjL rows rows.length else []
def AdjRel (w : World) (n : Nat) (rows : List (List DW)) (v i : Value) (wr : World) : Prop :=
  ∃ j : Nat, j ≤ n ∧ i = .int .i64 (j : Int) ∧ OutM wr w.heap.size v (adjL rows j) ∧ Below w.heap.size w wr ∧ w.heap.size ≤ wr.heap.size
def ConjRel (w : World) (base g : Nat) (ds : List DW) (i : Value) (wr : World) : Prop :=
  ∃ q : Nat, q ≤ ds.length ∧ i = .int .i64 (q : Int) ∧ OwnS wr base 29 (some ⟨g, 0, none⟩) (mixC ds q) ∧ Below base w wr ∧ w.heap.size ≤ wr.heap.size ∧ ∀ b, b < w.heap.size → b ≠ g → wr.heap[b]? = w.heap[b]?
theorem frame_call {w W W' : World} {g : Nat} (h : ∀ b, b < w.heap.size → b ≠ g → W.heap[b]? = w.heap[b]?) (hs : w.heap.size ≤ W.heap.size) (hb : Below W.heap.size W W') : ∀ b, b < w.heap.size → b ≠ g → W'.heap[b]? = w.heap[b]? :=
  fun b h1 h2 => (hb.block b (by omega)).trans (h b h1 h2)
theorem frame_set' {w W : World} {g i : Nat} (h : ∀ b, b < w.heap.size → b ≠ g → W.heap[b]? = w.heap[b]?) (u : Value) : ∀ b, b < w.heap.size → b ≠ g → (W.setCell ⟨g, i, none⟩ u).heap[b]? = w.heap[b]? :=
  fun b h1 hb => (Below.heap_setCell W ⟨g, i, none⟩ u b hb).trans (h b h1 hb)
theorem adj_row {rows : List (List DW)} {n : Nat} (hl : rows.length = n) (h : ∀ r ∈ rows, r.length = n ∧ ∀ d ∈ r, okd d = true) {j : Nat} (hj : j < n) : ∀ d ∈ colL rows j, okd d = true := by
  intro d hd
  obtain ⟨r, hr, rfl⟩ := List.mem_map.1 hd
  obtain ⟨h1, h2⟩ := h r hr
  rw [List.getD_eq_getElem?_getD, List.getElem?_eq_getElem (by omega)]
  exact h2 _ (List.getElem_mem _)
end Go.Proofs.Ytaokfppadfoniaa
