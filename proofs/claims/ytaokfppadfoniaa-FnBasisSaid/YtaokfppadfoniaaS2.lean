/- Contracts: copies of slices, equality of slices, the number of qubits. -/
import Derived.Test.YtaokfppadfoniaaS
namespace Go.Proofs.Ytaokfppadfoniaa
open Go.RowKit

/-- A new slice of elements was returned; nothing that was there has changed. -/
def RetS (w : World) (t : TypeId) (ds : List DW) (e : Ending) (w' : World) : Prop :=
  e = .returned (.slice (some ⟨w.heap.size, 0, none⟩) ds.length ds.length) ∧ w'.rowIs w.heap.size t (ds.length * 5) (fD ds) ∧ Below w.heap.size w w'
def partD (ds : List DW) (k : Nat) (j : Nat) : Value := if j < k * 5 then fD ds j else .int .i64 0
theorem partD_full (ds : List DW) (j : Nat) (h : j < ds.length * 5) : partD ds ds.length j = fD ds j := by unfold partD; rw [if_pos h]
theorem row_store {w : World} {g : Nat} {t : TypeId} {N : Nat} {ds : List DW} {k : Nat} {x y z s m : Int} (h : w.rowIs g t N (partD ds k)) (hk : ds[k]? = some ⟨⟨x, y, z, s⟩, m⟩) :
    (((((w.setCell ⟨g, k * 5, none⟩ (.int .i64 x)).setCell ⟨g, k * 5 + 1, none⟩ (.int .i64 y)).setCell ⟨g, k * 5 + 2, none⟩ (.int .i64 z)).setCell ⟨g, k * 5 + 3, none⟩ (.int .i64 s)).setCell ⟨g, k * 5 + 4, none⟩ (.int .i64 m)).rowIs g t N (partD ds (k + 1)) := by
  refine (((((h.set (k * 5) _).set (k * 5 + 1) _).set (k * 5 + 2) _).set (k * 5 + 3) _).set (k * 5 + 4) _).congr ?_
  intro j _
  have q := fun j hj => fD_at (j := j) hk hj
  by_cases e4 : j = k * 5 + 4
  · subst e4; simp only [if_true]; unfold partD; rw [if_pos (by omega), q 4 (by omega)]; rfl
  by_cases e3 : j = k * 5 + 3
  · subst e3; rw [if_neg (by omega), if_pos rfl]; unfold partD; rw [if_pos (by omega), q 3 (by omega)]; rfl
  by_cases e2 : j = k * 5 + 2
  · subst e2; rw [if_neg (by omega), if_neg (by omega), if_pos rfl]; unfold partD; rw [if_pos (by omega), q 2 (by omega)]; rfl
  by_cases e1 : j = k * 5 + 1
  · subst e1; rw [if_neg (by omega), if_neg (by omega), if_neg (by omega), if_pos rfl]; unfold partD; rw [if_pos (by omega), q 1 (by omega)]; rfl
  by_cases e0 : j = k * 5
  · subst e0; rw [if_neg (by omega), if_neg (by omega), if_neg (by omega), if_neg (by omega), if_pos rfl]; unfold partD; rw [if_pos (by omega)]; exact (q 0 (by omega)).symm
  rw [if_neg e4, if_neg e3, if_neg e2, if_neg e1, if_neg e0]
  unfold partD
  by_cases h1 : j < k * 5
  · rw [if_pos h1, if_pos (by omega)]
  · rw [if_neg h1, if_neg (by omega)]
def ToRel (w : World) (n : Nat) (t : TypeId) (ds : List DW) (i : Value) (wr : World) : Prop :=
  ∃ k : Nat, k ≤ n ∧ i = .int .i64 (k : Int) ∧ wr.rowIs w.heap.size t (n * 5) (partD ds k) ∧ Below w.heap.size w wr
set_option maxHeartbeats 400000 in
theorem toS (A : Option Addr) (n c : Nat) (ds : List DW) (w : World) (hR : RD w w.heap.size A n ds) (hn : n ≤ 1048576) : Calls Try.prog 39 #[.slice A n c] w (RetS w 29 ds) := by
  have hmk := fun W => makeD n (by omega) W
  have HN := Lib.hid hR.1
  have HR := Lib.hid hR
  clear hR
  go_enter Try.func39, Try.ntmps39
  go_wp2
  go_loopw [4] (fun i wr => ToRel w n 29 ds i wr) (fun i _ => n - (intOf i).toNat)
  case atStart => exact ⟨0, by omega, rfl, (zerosD_row n w _).congr (fun j _ => by unfold partD; rw [if_neg (by omega)]), bl_alloc (Below.refl _ _) _⟩
  case round =>
    obtain ⟨k, hk, rfl, hrow, hb⟩ := hrel
    clear hmk
    have hs := hb.size
    by_cases hlt : k < n
    · have hd : decide ((k : Int) < (n : Int)) = true := by simp; omega
      obtain ⟨b, off, x, y, z, t, m, rfl, hB, hx, c0, c1, c2, c3, c4⟩ := (HR.out.keep hb).at hlt
      have HX := Lib.hid hx
      have HROW := Lib.hid hrow
      clear hx hrow
      go_wp2_with fail
      refine (toD _ _ _ _ _ _).mono ?_
      rintro e w1 ⟨rfl, hb1⟩
      have hrow1 : w1.rowIs w.heap.size 29 (n * 5) (partD ds k) := HROW.out.of_block (hb1.block _ HROW.out.lt)
      have q0 := hrow1.cell (i := k * 5) (by omega)
      have q1 := hrow1.cell (i := k * 5 + 1) (by omega)
      have q2 := hrow1.cell (i := k * 5 + 2) (by omega)
      have q3 := hrow1.cell (i := k * 5 + 3) (by omega)
      have q4 := hrow1.cell (i := k * 5 + 4) (by omega)
      have r0 := hrow1.frozen (k * 5)
      have r1 := hrow1.frozen (k * 5 + 1)
      have r2 := hrow1.frozen (k * 5 + 2)
      have r3 := hrow1.frozen (k * 5 + 3)
      have r4 := hrow1.frozen (k * 5 + 4)
      have HROW1 := Lib.hid hrow1
      clear hrow1
      go_wp2
      go_roundw
      case rel => exact ⟨k + 1, by omega, by go_num, row_store HROW1.out HX.out, by repeat (first | (with_reducible exact Below.refl _ _) | (with_reducible assumption) | (with_reducible refine bl_alloc ?_ _) | (with_reducible refine bl_drew ?_) | (with_reducible refine bl_set ?_ (by simp <;> omega) _) | (with_reducible refine bl_call ?_ (by assumption)))⟩
      case measure => simp [intOf]; omega
    · have hd : decide ((k : Int) < (n : Int)) = false := by simp; omega
      have hkn : k = n := by omega
      have HROW := Lib.hid hrow
      have HK := Lib.hid hkn
      clear hrow hkn
      go_wp2
      go_ret
      have e := HN.out
      subst e
      have e2 := HK.out
      subst e2
      exact ⟨rfl, HROW.out.congr (fun j hj => partD_full ds j hj), hb⟩
end Go.Proofs.Ytaokfppadfoniaa
