/- Elements of slices that a region loads; relations of the loops that make a slice or a sum. -/
import Derived.Test.YtaokfppadfoniaaVec0
import Derived.Test.YtaokfppadfoniaaU
import Derived.Test.YtaokfppadfoniaaD2
import Derived.Test.YtaokfppadfoniaaId
import Derived.Deep.RegionHeld3
import Derived.Deep.DeepCutAuto
namespace Go.Proofs.Ytaokfppadfoniaa
open Go.RowKit
set_option linter.unusedVariables false

/-- The element d lies in block b from cell o on. -/
def At5 (w : World) (b o : Nat) (d : DW) : Prop := b < w.heap.size ∧ w.cell? ⟨b, o, none⟩ = some (.int .i64 d.n.a) ∧ w.cell? ⟨b, o + 1, none⟩ = some (.int .i64 d.n.b) ∧ w.cell? ⟨b, o + 2, none⟩ = some (.int .i64 d.n.c) ∧ w.cell? ⟨b, o + 3, none⟩ = some (.int .i64 d.n.d) ∧ w.cell? ⟨b, o + 4, none⟩ = some (.int .i64 d.k)
section
variable {w w' : World} {b o : Nat} {d : DW}
theorem At5.call (h : At5 w b o d) (hb : Below w.heap.size w w') : At5 w' b o d := by
  obtain ⟨h0, h1, h2, h3, h4, h5⟩ := h
  exact ⟨Nat.lt_of_lt_of_le h0 hb.size, (hb.cell h0).trans h1, (hb.cell h0).trans h2, (hb.cell h0).trans h3, (hb.cell h0).trans h4, (hb.cell h0).trans h5⟩
theorem At5.parts (h : At5 w b o d) : b < w.heap.size ∧ w.cell? ⟨b, o, none⟩ = some (.int .i64 d.n.a) ∧ w.cell? ⟨b, o + 1, none⟩ = some (.int .i64 d.n.b) ∧ w.cell? ⟨b, o + 2, none⟩ = some (.int .i64 d.n.c) ∧ w.cell? ⟨b, o + 3, none⟩ = some (.int .i64 d.n.d) ∧ w.cell? ⟨b, o + 4, none⟩ = some (.int .i64 d.k) := h
theorem At5.drew (h : At5 w b o d) : At5 w.drew b o d := h.call ((Below.refl w.heap.size w).drew)
theorem At5.alloc (h : At5 w b o d) (x : Obj) : At5 (w.alloc x) b o d := h.call (bl_alloc (Below.refl _ _) x)
end
/-- An element of a slice that is read, as numbers and as cells. -/
theorem RD.elem {w : World} {B : Nat} {A : Option Addr} {n : Nat} {ds : List DW} (h : RD w B A n ds) (hB : B ≤ w.heap.size) {i : Nat} (hi : i < n) :
    ∃ b off x y z t k, A = some ⟨b, off, none⟩ ∧ ds[i]? = some ⟨⟨x, y, z, t⟩, k⟩ ∧ At5 w b (off + i * 5) ⟨⟨x, y, z, t⟩, k⟩ := by
  obtain ⟨b, off, x, y, z, t, k, h1, h2, h3, h4⟩ := h.at hi
  exact ⟨b, off, x, y, z, t, k, h1, h3, Nat.lt_of_lt_of_le h2 hB, h4⟩
theorem Blk.new2 (w : World) (t t' : TypeId) (cs cs' : Array Value) : Blk ((w.alloc (.cells cs t)).alloc (.cells cs' t')) (w.heap.size + 1) t' cs' := by
  have := Blk.new (w.alloc (.cells cs t)) t' cs'
  simpa using this
theorem Blk.grown {w w' : World} {g : Nat} {t : TypeId} {cs : Array Value} {row : Option Nat} (h : Blk w g t cs) (hg : w.grownBy w' row) (hn : some g ≠ row) : Blk w' g t cs := (hg.block g h.lt hn).trans h
/-- The slice v holds the first k answers of f; block x of the call (its second argument) stands. -/
def MapX (w : World) (n : Nat) (f : Nat → Option DW) (xc : Array Value) (v i : Value) (wr : World) : Prop :=
  ∃ (k : Nat) (o : List DW), k ≤ n ∧ i = .int .i64 (k : Int) ∧ mapAll f k = some o ∧ OutS wr (w.heap.size + 1) 29 v o ∧ Below w.heap.size w wr ∧ w.heap.size + 1 ≤ wr.heap.size ∧ Blk wr w.heap.size 29 xc
def MapRel (w : World) (n : Nat) (f : Nat → Option DW) (v i : Value) (wr : World) : Prop :=
  ∃ (k : Nat) (o : List DW), k ≤ n ∧ i = .int .i64 (k : Int) ∧ mapAll f k = some o ∧ OutS wr w.heap.size 29 v o ∧ Below w.heap.size w wr ∧ w.heap.size ≤ wr.heap.size
/-- The sum of the first k products lies in block S; the result's block stands. -/
def DotRel (w : World) (S n : Nat) (us vs : List DW) (i : Value) (wr : World) : Prop :=
  ∃ (k : Nat) (a b c d e : Int), k ≤ n ∧ i = .int .i64 (k : Int) ∧ dotN us vs k = some ⟨⟨a, b, c, d⟩, e⟩ ∧ Own w wr [(S, 29, #[.int .i64 a, .int .i64 b, .int .i64 c, .int .i64 d, .int .i64 e]), (w.heap.size, 29, #[.int .i64 0, .int .i64 0, .int .i64 0, .int .i64 0, .int .i64 0])]
theorem mapAll_map {us : List DW} {g : DW → DW} : ∀ {k : Nat}, k ≤ us.length → mapAll (fun i => (us[i]?).bind fun u => some (g u)) k = some ((us.take k).map g)
  | 0, _ => rfl
  | k + 1, h => by
    have hk : us[k]? = some us[k] := List.getElem?_eq_getElem (by omega)
    rw [mapAll_succ (mapAll_map (g := g) (k := k) (by omega)) (d := g us[k]) (by simp only [hk]; rfl), List.take_succ_eq_append_getElem (by omega), List.map_append]
    rfl
end Go.Proofs.Ytaokfppadfoniaa
