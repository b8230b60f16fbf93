/- How slices of slices of elements that came in are opened. -/
import Derived.Test.YtaokfppadfoniaaCloseS
import Derived.Test.YtaokfppadfoniaaSS
namespace Go.Proofs.Ytaokfppadfoniaa
open Go.ChangeShapes Go.WideShapes Go.ChangeAt Go.RowKit Go.Deep

set_option maxRecDepth 100000 in
/-- The inner reading of a row, wherever its value lies. -/
theorem row_of_trod {H : Type} {enc : TypeId × Value → H} {w : World} {base fuel : Nat} {spare : Nat → Bool} {held : Bool} {cs : List Value} {x : DataW H × List MemPlace}
    (hf : DataW.trod enc Try.prog w base spare held fuel 51 cs = some x) :
    ∃ (A : Option Addr) (n c : Nat) (ds : List DW), cs = [.slice A n c] ∧ RD w w.heap.size A n ds ∧ (∀ d ∈ ds, inr d.n.a ∧ inr d.n.b ∧ inr d.n.c ∧ inr d.n.d ∧ inr d.k) ∧ n ≤ 9223372036854775807 := by
  rcases open_slice Try.underlying51 hf with ⟨hcs, _⟩ | ⟨a, len, cap, m, n', D, Pl, hcs, _, hl, hm, hmm, _, hi⟩
  · exact ⟨none, 0, 0, [], hcs, ⟨rfl, by simp⟩, by simp, by omega⟩
  · have hC : Try.prog.cellsOf 54 = 5 := by kernel_rfl
    obtain ⟨ds, hR, hd⟩ := RD.of_five (w := w) (a := a) (n := len) (fun i hin => by
      have hle : len ≤ m := by rw [hmm]; split <;> omega
      obtain ⟨cs', hc, ht⟩ := hi i (by omega)
      rw [hC] at hc
      obtain ⟨x, y, z, t, k, e, i1, i2, i3, i4, i5⟩ := trod_do Try.underlying54 (by kernel_rfl) rfl rfl (by kernel_rfl) (by kernel_rfl) Try.underlying52 (by kernel_rfl) (by kernel_rfl) (by kernel_rfl) (by kernel_rfl) (by kernel_rfl) (by kernel_rfl) ht
      obtain ⟨_, _, hat⟩ := World.cells?_some hc
      subst e
      refine ⟨⟨⟨x, y, z, t⟩, k⟩, ⟨?_, hat 1 (by omega), hat 2 (by omega), hat 3 (by omega), hat 4 (by omega)⟩, i1, i2, i3, i4, i5⟩
      have := hat 0 (by omega)
      simpa [Addr.add] using this)
    exact ⟨_, _, _, ds, hcs, hR, hd, by unfold maxLen at hm; omega⟩
theorem RM.of_rows {w : World} {a : Addr} {n : Nat} (h : ∀ i, i < n → ∃ (r : List DW) (A : Option Addr) (c : Nat), w.cell? (a.add i) = some (.slice A r.length c) ∧ RD w w.heap.size A r.length r ∧ r.length ≤ 9223372036854775807 ∧ ∀ d ∈ r, inr d.n.a ∧ inr d.n.b ∧ inr d.n.c ∧ inr d.n.d ∧ inr d.k) :
    ∃ rows, RM w w.heap.size (some a) n rows ∧ (∀ r ∈ rows, r.length ≤ 9223372036854775807) ∧ ∀ r ∈ rows, ∀ d ∈ r, inr d.n.a ∧ inr d.n.b ∧ inr d.n.c ∧ inr d.n.d ∧ inr d.k := by
  have mem : ∀ r ∈ (List.range n).map (fun i => if hi : i < n then Classical.choose (h i hi) else []), ∃ i, ∃ hi : i < n, r = Classical.choose (h i hi) := by
    intro r hr
    obtain ⟨i, hi, rfl⟩ := List.mem_map.1 hr
    have hi' : i < n := List.mem_range.1 hi
    exact ⟨i, hi', by simp [hi']⟩
  refine ⟨(List.range n).map (fun i => if hi : i < n then Classical.choose (h i hi) else []), ⟨by simp, fun i r hr => ?_⟩, fun r hr => ?_, fun r hr => ?_⟩
  · have hi : i < n := by
      have := (List.getElem?_eq_some_iff.1 hr).1
      simpa using this
    rw [List.getElem?_map, List.getElem?_range hi] at hr
    simp only [Option.map_some, Option.some.injEq, hi, dite_true] at hr
    obtain ⟨A, c, q0, q1, _⟩ := Classical.choose_spec (h i hi)
    rw [hr] at q0 q1
    have hs : a.spot = none := by
      have h0 : 0 < n := by omega
      obtain ⟨A0, c0, q, _⟩ := Classical.choose_spec (h 0 h0)
      have := World.cell?_spot q
      simpa [Addr.add] using this
    obtain ⟨b, off, sp⟩ := a
    simp only at hs
    subst hs
    rw [add_plain] at q0
    have hlt : b < w.heap.size := by
      rcases Nat.lt_or_ge b w.heap.size with hl | hl
      · exact hl
      · simp [World.cell?, Array.getElem?_eq_none hl] at q0
    exact ⟨b, off, A, c, rfl, hlt, q0, q1⟩
  · obtain ⟨i, hi, rfl⟩ := mem r hr
    obtain ⟨A, c, _, _, q2, _⟩ := Classical.choose_spec (h i hi)
    exact q2
  · obtain ⟨i, hi, rfl⟩ := mem r hr
    obtain ⟨A, c, _, _, _, q3⟩ := Classical.choose_spec (h i hi)
    exact q3
set_option maxRecDepth 100000 in
theorem open_M {H : Type} {enc : TypeId × Value → H} {w : World} {base b0 : Nat} {r : Reach} {spare : Nat → Bool} {held : Bool} {v : Value} {d : DataW H} {p : List MemPlace}
    (hv : Value.okWide Try.prog w r b0 67 v) (h : DataW.Trod enc Try.prog w base spare held 67 v d p) :
    ∃ (A : Option Addr) (n c : Nat) (rows : List (List DW)), v = .slice A n c ∧ RM w w.heap.size A n rows ∧ (∀ r ∈ rows, r.length ≤ 9223372036854775807) ∧ (∀ r ∈ rows, ∀ d ∈ r, inr d.n.a ∧ inr d.n.b ∧ inr d.n.c ∧ inr d.n.d ∧ inr d.k) ∧ n ≤ 9223372036854775807 := by
  obtain ⟨A, n, c, rfl⟩ := okWide_slice Try.underlying67 hv
  obtain ⟨fuel, hf⟩ := h
  rcases open_slice Try.underlying67 hf with ⟨hcs, _⟩ | ⟨a, len, cap, m, n', D, Pl, hcs, _, hl, hm, hmm, _, hi⟩
  · simp [Value.cells] at hcs
    obtain ⟨rfl, rfl, rfl⟩ := hcs
    exact ⟨none, 0, 0, [], rfl, ⟨rfl, by simp⟩, by simp, by simp, by omega⟩
  · simp [Value.cells] at hcs
    obtain ⟨rfl, rfl, rfl⟩ := hcs
    have hC : Try.prog.cellsOf 51 = 1 := by kernel_rfl
    obtain ⟨rows, hR, h1, h2⟩ := RM.of_rows (w := w) (a := a) (n := n) (fun i hin => by
      have hle : n ≤ m := by rw [hmm]; split <;> omega
      obtain ⟨cs', hc, ht⟩ := hi i (by omega)
      rw [hC, Nat.mul_one] at hc
      obtain ⟨A', n1, c1, ds, e, q1, q2, q3⟩ := row_of_trod ht
      obtain ⟨_, _, hat⟩ := World.cells?_some hc
      subst e
      obtain rfl : n1 = ds.length := q1.1
      have := hat 0 (by omega)
      exact ⟨ds, A', c1, by simpa [Addr.add] using this, q1, q3, q2⟩)
    exact ⟨_, _, _, rows, rfl, hR, h1, h2, by unfold maxLen at hm; omega⟩
end Go.Proofs.Ytaokfppadfoniaa
