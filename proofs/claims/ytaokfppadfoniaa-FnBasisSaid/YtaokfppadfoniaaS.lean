/- Slices of D[omega] elements that are read; copies of them; lengths. -/
import Derived.Test.YtaokfppadfoniaaZ
import Derived.Test.YtaokfppadfoniaaOwn
import Derived.Deep.OwnRows
namespace Go.Proofs.Ytaokfppadfoniaa
open Go.RowKit

def zeroD : DW := ⟨⟨0, 0, 0, 0⟩, 0⟩
/-- The cells of an element. -/
def cellOf (d : DW) (j : Nat) : Value := match j with
  | 0 => .int .i64 d.n.a
  | 1 => .int .i64 d.n.b
  | 2 => .int .i64 d.n.c
  | 3 => .int .i64 d.n.d
  | _ => .int .i64 d.k
/-- The cells of a row of elements. -/
def fD (ds : List DW) (j : Nat) : Value := cellOf (ds.getD (j / 5) zeroD) (j % 5)
/-- The slice at A of n elements reads as ds and lies below block B. -/
def RD (w : World) (B : Nat) (A : Option Addr) (n : Nat) (ds : List DW) : Prop :=
  n = ds.length ∧ ∀ i d, ds[i]? = some d → ∃ b off, A = some ⟨b, off, none⟩ ∧ b < B ∧ w.cell? ⟨b, off + i * 5, none⟩ = some (.int .i64 d.n.a) ∧ w.cell? ⟨b, off + i * 5 + 1, none⟩ = some (.int .i64 d.n.b) ∧
    w.cell? ⟨b, off + i * 5 + 2, none⟩ = some (.int .i64 d.n.c) ∧ w.cell? ⟨b, off + i * 5 + 3, none⟩ = some (.int .i64 d.n.d) ∧ w.cell? ⟨b, off + i * 5 + 4, none⟩ = some (.int .i64 d.k)
theorem RD.at {w : World} {B : Nat} {A : Option Addr} {n : Nat} {ds : List DW} (h : RD w B A n ds) {i : Nat} (hi : i < n) :
    ∃ b off x y z t k, A = some ⟨b, off, none⟩ ∧ b < B ∧ ds[i]? = some ⟨⟨x, y, z, t⟩, k⟩ ∧ w.cell? ⟨b, off + i * 5, none⟩ = some (.int .i64 x) ∧ w.cell? ⟨b, off + i * 5 + 1, none⟩ = some (.int .i64 y) ∧
    w.cell? ⟨b, off + i * 5 + 2, none⟩ = some (.int .i64 z) ∧ w.cell? ⟨b, off + i * 5 + 3, none⟩ = some (.int .i64 t) ∧ w.cell? ⟨b, off + i * 5 + 4, none⟩ = some (.int .i64 k) := by
  have hl : i < ds.length := by rw [← h.1]; exact hi
  have e := List.getElem?_eq_getElem hl
  obtain ⟨b, off, h1, h2, h3⟩ := h.2 i _ e
  exact ⟨b, off, _, _, _, _, _, h1, h2, e, h3⟩
theorem RD.keep {w w' : World} {B : Nat} {A : Option Addr} {n : Nat} {ds : List DW} (h : RD w B A n ds) (hb : Below B w w') : RD w' B A n ds :=
  ⟨h.1, fun i d hi => by
    obtain ⟨b, off, h1, h2, c0, c1, c2, c3, c4⟩ := h.2 i d hi
    exact ⟨b, off, h1, h2, (hb.cell h2).trans c0, (hb.cell h2).trans c1, (hb.cell h2).trans c2, (hb.cell h2).trans c3, (hb.cell h2).trans c4⟩⟩
theorem RD.more {w : World} {B B' : Nat} {A : Option Addr} {n : Nat} {ds : List DW} (h : RD w B A n ds) (hB : B ≤ B') : RD w B' A n ds :=
  ⟨h.1, fun i d hi => by
    obtain ⟨b, off, h1, h2, h3⟩ := h.2 i d hi
    exact ⟨b, off, h1, by omega, h3⟩⟩
theorem RD.call {w w' : World} {A : Option Addr} {n : Nat} {ds : List DW} (h : RD w w.heap.size A n ds) (hb : Below w.heap.size w w') : RD w' w'.heap.size A n ds := (h.keep hb).more hb.size
theorem fD_at {ds : List DW} {i j : Nat} {d : DW} (hi : ds[i]? = some d) (hj : j < 5) : fD ds (i * 5 + j) = cellOf d j := by
  unfold fD
  have h1 : (i * 5 + j) / 5 = i := by omega
  have h2 : (i * 5 + j) % 5 = j := by omega
  rw [h1, h2, List.getD_eq_getElem?_getD, hi]
  rfl
theorem RD.of_row {w : World} {g : Nat} {t : TypeId} {ds : List DW} {N : Nat} (h : w.rowIs g t N (fD ds)) (hN : ds.length * 5 ≤ N) : RD w w.heap.size (some ⟨g, 0, none⟩) ds.length ds :=
  ⟨rfl, fun i d hi => by
    have hl : i < ds.length := (List.getElem?_eq_some_iff.1 hi).1
    have q : ∀ j, j < 5 → w.cell? ⟨g, i * 5 + j, none⟩ = some (cellOf d j) := fun j hj => by
      rw [h.cell (i := i * 5 + j) (by omega), fD_at hi hj]
    refine ⟨g, 0, rfl, h.lt, ?_, ?_, ?_, ?_, ?_⟩ <;> rw [Nat.zero_add]
    · exact q 0 (by omega)
    · exact q 1 (by omega)
    · exact q 2 (by omega)
    · exact q 3 (by omega)
    · exact q 4 (by omega)⟩

theorem szS_ok (A : Option Addr) (n c : Nat) (l : Int) (w : World) (h : (n : Int) ≤ l) (hl : l ≤ 1048576) : Calls Try.prog 37 #[.slice A n c, .int .i64 l] w fun e w' => e = .returned (.int .i64 (l - n)) ∧ w = w' := by
  go_enter Try.func37, Try.ntmps37
  go_wp2
  go_ret
  exact ⟨rfl, rfl⟩
theorem szS_no (A : Option Addr) (n c : Nat) (l : Int) (w : World) (h : l < (n : Int)) (hl : 0 ≤ l) (hn : n ≤ 9223372036854775807) : Calls Try.prog 37 #[.slice A n c, .int .i64 l] w fun e w' => e = .returned (.int .i64 (-1)) ∧ w = w' := by
  go_enter Try.func37, Try.ntmps37
  go_wp2
  go_ret
  exact ⟨rfl, rfl⟩

theorem run_make_row5 {P : Program} (t e : TypeId) (i : TypeInfo) (z : Value) (ht : P.underlying t = some (.slice e)) (hi : P.info? e = some i) (hz : i.zero = some z)
    (kl kc : IntKind) (n c : Nat) (hnc : n ≤ c) (hbytes : i.bytes * c ≤ 281474976710656) (h63 : c ≤ 9223372036854775807) (w : World) :
    (Instr.makeSlice t (.int kl (n : Int)) (.int kc (c : Int))).run P w = .ok (.slice (some ⟨w.heap.size, 0, none⟩) n c) (w.alloc (.cells (madeCells z.cells (c * i.size)) e)) := by
  have hb : (i.bytes : Int) * (c : Int) ≤ 281474976710656 := by
    have h : ((i.bytes * c : Nat) : Int) ≤ 281474976710656 := by omega
    rwa [Int.natCast_mul] at h
  have hr := run_make (P := P) w t e i z ht hi hz kl kc n c (by omega) (by omega) hb (by omega)
  simp only [Int.toNat_natCast] at hr
  exact hr
theorem infoD : (Try.prog.info? 29).map (fun i => (i.zero, i.size, i.bytes)) = some (some (.agg #[.int .i64 0, .int .i64 0, .int .i64 0, .int .i64 0, .int .i64 0]), 5, 40) := by kernel_rfl
def zerosD (n : Nat) : Array Value := madeCells #[.int .i64 0, .int .i64 0, .int .i64 0, .int .i64 0, .int .i64 0] (n * 5)
theorem makeD (n : Nat) (hn : n ≤ 2000000) (w : World) : (Instr.makeSlice 44 (.int .i64 (n : Int)) (.int .i64 (n : Int))).run Try.prog w = .ok (.slice (some ⟨w.heap.size, 0, none⟩) n n) (w.alloc (.cells (zerosD n) 29)) := by
  obtain ⟨i0, hi, hz0, hz1, hz2⟩ := info_parts infoD
  have := run_make_row5 44 29 i0 _ Try.underlying44 hi hz0 .i64 .i64 n n (Nat.le_refl _) (by rw [hz2]; omega) (by omega) w
  rw [hz1] at this
  exact this
theorem zerosD_row (n : Nat) (w : World) (t : TypeId) : (w.alloc (.cells (zerosD n) t)).rowIs w.heap.size t (n * 5) (fun _ => .int .i64 0) := by
  have h := World.rowIs_alloc w (zerosD n) t (fun _ => .int .i64 0) (fun i hi => by
    have hs : (zerosD n).size = n * 5 := size_madeCells _ _
    have hi' : i < n * 5 := by rw [← hs]; exact hi
    unfold zerosD madeCells
    have h5 : i % 5 < 5 := Nat.mod_lt _ (by omega)
    simp [hi']
    generalize i % 5 = m at h5
    match m, h5 with
    | 0, _ => rfl
    | 1, _ => rfl
    | 2, _ => rfl
    | 3, _ => rfl
    | 4, _ => rfl)
  have hs : (zerosD n).size = n * 5 := size_madeCells _ _
  rw [hs] at h
  exact h
end Go.Proofs.Ytaokfppadfoniaa
