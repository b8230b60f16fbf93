/- What a call keeps of the blocks that its caller knows. -/
import Derived.Test.YtaokfppadfoniaaBlk
import Derived.Deep.RegionHeld3
import Derived.Deep.DeepCutAuto
namespace Go.Proofs.Ytaokfppadfoniaa
open Go.RowKit

/-- X is w with new blocks; of those the listed ones are known. -/
def Own (w X : World) (L : List (Nat × TypeId × Array Value)) : Prop := Below w.heap.size w X ∧ ∀ b ∈ L, Blk X b.1 b.2.1 b.2.2
section
variable {w X Y : World} {L : List (Nat × TypeId × Array Value)} {g : Nat} {t : TypeId} {cs : Array Value}
theorem Own.start (w : World) : Own w w [] := ⟨Below.refl _ _, by simp⟩
theorem Own.below (h : Own w X L) : Below w.heap.size w X := h.1
theorem Own.call (h : Own w X L) (hb : Below X.heap.size X Y) : Own w Y L := ⟨bl_call h.1 hb, fun b hm => (h.2 b hm).call hb⟩
theorem Own.alloc (h : Own w X L) (o : Obj) : Own w (X.alloc o) L := ⟨bl_alloc h.1 o, fun b hm => (h.2 b hm).alloc o⟩
theorem Own.drew (h : Own w X L) : Own w X.drew L := ⟨bl_drew h.1, fun b hm => (h.2 b hm).drew⟩
theorem Own.add (h : Own w X L) (hb : Blk X g t cs) : Own w X ((g, t, cs) :: L) := ⟨h.1, fun b hm => by
  rcases List.mem_cons.1 hm with e | e
  · rw [e]; exact hb
  · exact h.2 b e⟩
theorem Own.push (h : Own w X L) (t : TypeId) (cs : Array Value) : Own w (X.alloc (.cells cs t)) ((X.heap.size, t, cs) :: L) := (h.alloc _).add (Blk.new X t cs)
theorem Own.head (h : Own w X ((g, t, cs) :: L)) : Blk X g t cs := h.2 _ (List.mem_cons_self)
theorem Own.tail {b : Nat × TypeId × Array Value} (h : Own w X (b :: L)) : Own w X L := ⟨h.1, fun c hm => h.2 c (List.mem_cons_of_mem _ hm)⟩
theorem Own.lts (h : Own w X L) : Hid (∀ b ∈ L, b.1 < X.heap.size) := fun b hm => (h.2 b hm).lt
theorem Own.set_far (h : Own w X L) (hg : w.heap.size ≤ g) (hn : ∀ b ∈ L, b.1 < g) (i : Nat) (u : Value) : Own w (X.setCell ⟨g, i, none⟩ u) L := ⟨bl_set h.1 hg u, fun b hm => (h.2 b hm).far (Nat.ne_of_lt (hn b hm)) u⟩
theorem Own.put4 {a b c d : Value} (h : Own w X ((g, t, #[a, b, c, d]) :: L)) (hg : w.heap.size ≤ g) (hn : ∀ b ∈ L, b.1 < g) (p q r s : Value) :
    Own w ((((X.setCell ⟨g, 0, none⟩ p).setCell ⟨g, 1, none⟩ q).setCell ⟨g, 2, none⟩ r).setCell ⟨g, 3, none⟩ s) ((g, t, #[p, q, r, s]) :: L) :=
  ((((h.tail.set_far hg hn 0 p).set_far hg hn 1 q).set_far hg hn 2 r).set_far hg hn 3 s).add (h.head.put4 p q r s)
theorem Own.put5 {a b c d e : Value} (h : Own w X ((g, t, #[a, b, c, d, e]) :: L)) (hg : w.heap.size ≤ g) (hn : ∀ b ∈ L, b.1 < g) (p q r s l : Value) :
    Own w (((((X.setCell ⟨g, 0, none⟩ p).setCell ⟨g, 1, none⟩ q).setCell ⟨g, 2, none⟩ r).setCell ⟨g, 3, none⟩ s).setCell ⟨g, 4, none⟩ l) ((g, t, #[p, q, r, s, l]) :: L) :=
  (((((h.tail.set_far hg hn 0 p).set_far hg hn 1 q).set_far hg hn 2 r).set_far hg hn 3 s).set_far hg hn 4 l).add (h.head.put5 p q r s l)
theorem Blk.new_call (hb : Below (X.alloc (.cells cs t)).heap.size (X.alloc (.cells cs t)) Y) : Blk Y X.heap.size t cs := (Blk.new X t cs).call hb
theorem Blk.new_drew_call (hb : Below (X.alloc (.cells cs t)).drew.heap.size (X.alloc (.cells cs t)).drew Y) : Blk Y X.heap.size t cs := (Blk.new X t cs).drew.call hb
end
end Go.Proofs.Ytaokfppadfoniaa
