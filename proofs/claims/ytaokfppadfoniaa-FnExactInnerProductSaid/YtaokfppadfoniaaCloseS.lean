/- How slices of elements that came in are opened. -/
import Derived.Test.YtaokfppadfoniaaClose
import Derived.Test.YtaokfppadfoniaaS
import Derived.Deep.Slices
namespace Go.Proofs.Ytaokfppadfoniaa
open Go.ChangeShapes Go.WideShapes Go.ChangeAt Go.RowKit Go.Deep

theorem add_two (b off n j : Nat) : ((⟨b, off, none⟩ : Addr).add n).add j = ⟨b, off + n + j, none⟩ := by
  rw [add_plain, add_plain]
/-- Five ints that lie at an address. -/
def FiveAt (w : World) (a : Addr) (d : DW) : Prop := w.cell? a = some (.int .i64 d.n.a) ∧ w.cell? (a.add 1) = some (.int .i64 d.n.b) ∧ w.cell? (a.add 2) = some (.int .i64 d.n.c) ∧ w.cell? (a.add 3) = some (.int .i64 d.n.d) ∧ w.cell? (a.add 4) = some (.int .i64 d.k)
theorem RD.of_five {w : World} {a : Addr} {n : Nat} (h : ∀ i, i < n → ∃ d, FiveAt w (a.add (i * 5)) d ∧ inr d.n.a ∧ inr d.n.b ∧ inr d.n.c ∧ inr d.n.d ∧ inr d.k) :
    ∃ ds, RD w w.heap.size (some a) n ds ∧ ∀ d ∈ ds, inr d.n.a ∧ inr d.n.b ∧ inr d.n.c ∧ inr d.n.d ∧ inr d.k := by
  refine ⟨(List.range n).map (fun i => if hi : i < n then Classical.choose (h i hi) else zeroD), ⟨by simp, fun i d hd => ?_⟩, fun d hd => ?_⟩
  · have hi : i < n := by
      have := (List.getElem?_eq_some_iff.1 hd).1
      simpa using this
    rw [List.getElem?_map, List.getElem?_range hi] at hd
    simp only [Option.map_some, Option.some.injEq, hi, dite_true] at hd
    obtain ⟨q, _⟩ := Classical.choose_spec (h i hi)
    rw [hd] at q
    have hs : a.spot = none := by
      have h0 : 0 < n := by omega
      obtain ⟨q0, _⟩ := Classical.choose_spec (h 0 h0)
      have := World.cell?_spot q0.1
      simpa [Addr.add] using this
    obtain ⟨b, off, sp⟩ := a
    simp only at hs
    subst hs
    obtain ⟨q0, q1, q2, q3, q4⟩ := q
    rw [add_two] at q1 q2 q3 q4
    rw [add_plain] at q0
    have hlt : b < w.heap.size := by
      rcases Nat.lt_or_ge b w.heap.size with hl | hl
      · exact hl
      · simp [World.cell?, Array.getElem?_eq_none hl] at q0
    exact ⟨b, off, rfl, hlt, q0, q1, q2, q3, q4⟩
  · obtain ⟨i, hi, rfl⟩ := List.mem_map.1 hd
    have hi' : i < n := List.mem_range.1 hi
    simp only [hi', dite_true]
    exact (Classical.choose_spec (h i hi')).2
set_option maxRecDepth 100000 in
theorem open_S {H : Type} {enc : TypeId × Value → H} {w : World} {base b0 : Nat} {r : Reach} {spare : Nat → Bool} {held : Bool} {v : Value} {d : DataW H} {p : List MemPlace}
    (hv : Value.okWide Try.prog w r b0 51 v) (h : DataW.Trod enc Try.prog w base spare held 51 v d p) :
    ∃ (A : Option Addr) (n c : Nat) (ds : List DW), v = .slice A n c ∧ RD w w.heap.size A n ds ∧ (∀ d ∈ ds, inr d.n.a ∧ inr d.n.b ∧ inr d.n.c ∧ inr d.n.d ∧ inr d.k) ∧ n ≤ 9223372036854775807 := by
  obtain ⟨A, n, c, rfl⟩ := okWide_slice Try.underlying51 hv
  obtain ⟨fuel, hf⟩ := h
  rcases open_slice Try.underlying51 hf with ⟨hcs, _⟩ | ⟨a, len, cap, m, n', D, Pl, hcs, _, hl, hm, hmm, _, hi⟩
  · simp [Value.cells] at hcs
    obtain ⟨rfl, rfl, rfl⟩ := hcs
    exact ⟨none, 0, 0, [], rfl, ⟨rfl, by simp⟩, by simp, by omega⟩
  · simp [Value.cells] at hcs
    obtain ⟨rfl, rfl, rfl⟩ := hcs
    have hC : Try.prog.cellsOf 54 = 5 := by kernel_rfl
    obtain ⟨ds, hR, hd⟩ := RD.of_five (w := w) (a := a) (n := n) (fun i hin => by
      have hle : n ≤ m := by rw [hmm]; split <;> omega
      obtain ⟨cs', hc, ht⟩ := hi i (by omega)
      rw [hC] at hc
      obtain ⟨x, y, z, t, k, e, i1, i2, i3, i4, i5⟩ := trod_do Try.underlying54 (by kernel_rfl) rfl rfl (by kernel_rfl) (by kernel_rfl) Try.underlying52 (by kernel_rfl) (by kernel_rfl) (by kernel_rfl) (by kernel_rfl) (by kernel_rfl) (by kernel_rfl) ht
      obtain ⟨_, _, hat⟩ := World.cells?_some hc
      subst e
      refine ⟨⟨⟨x, y, z, t⟩, k⟩, ⟨?_, hat 1 (by omega), hat 2 (by omega), hat 3 (by omega), hat 4 (by omega)⟩, i1, i2, i3, i4, i5⟩
      have := hat 0 (by omega)
      simpa [Addr.add] using this)
    exact ⟨_, _, _, ds, rfl, hR, hd, by unfold maxLen at hm; omega⟩
end Go.Proofs.Ytaokfppadfoniaa
