/- How slices of bytes that came in are opened. -/
import Derived.Test.YtaokfppadfoniaaClose
import Derived.Test.YtaokfppadfoniaaDr
import Derived.Deep.Slices
namespace Go.Proofs.Ytaokfppadfoniaa
open Go.ChangeShapes Go.WideShapes Go.ChangeAt Go.RowKit Go.Deep

set_option maxRecDepth 100000
theorem byte_of {n : Int} (h : (Lit.int .u8 n).wf = true) : 0 ≤ n ∧ n ≤ 255 := by
  simpa [Lit.wf, IntKind.min, IntKind.max, IntKind.signed, IntKind.bits] using h
theorem open_B {H : Type} {enc : TypeId × Value → H} {w : World} {base b0 : Nat} {r : Reach} {spare : Nat → Bool} {held : Bool} {v : Value} {d : DataW H} {p : List MemPlace}
    (hv : Value.okWide Try.prog w r b0 22 v) (h : DataW.Trod enc Try.prog w base spare held 22 v d p) :
    ∃ (A : Option Addr) (n c : Nat), v = .slice A n c ∧ RB w w.heap.size A n ∧ n ≤ 9223372036854775807 ∧ n ≤ c := by
  obtain ⟨A, n, c, rfl⟩ := okWide_slice Try.underlying22 hv
  obtain ⟨fuel, hf⟩ := h
  rcases open_slice1 Try.underlying22 (by kernel_rfl) hf with ⟨hcs, _⟩ | ⟨a, len, cap, m, n', V, D, Pl, hcs, _, hl, hm, hmm, _, hi⟩
  · simp [Value.cells] at hcs
    obtain ⟨rfl, rfl, rfl⟩ := hcs
    exact ⟨none, 0, 0, rfl, fun i hi => absurd hi (by omega), by omega, by omega⟩
  · simp [Value.cells] at hcs
    obtain ⟨rfl, rfl, rfl⟩ := hcs
    refine ⟨_, _, _, rfl, fun i hin => ?_, by unfold maxLen at hm; omega, hl⟩
    have hle : n ≤ m := by rw [hmm]; split <;> omega
    obtain ⟨hc, ht⟩ := hi i (by omega)
    obtain ⟨x, hx, _, hw⟩ := DataW.trod_int Try.underlying5 ht
    simp at hx
    have hs : a.spot = none := by
      obtain ⟨hc0, _⟩ := hi 0 (by omega)
      have := World.cell?_spot hc0
      simpa [Addr.add] using this
    obtain ⟨b, off, sp⟩ := a
    simp only at hs
    subst hs
    rw [add_plain] at hc
    have hlt : b < w.heap.size := by
      rcases Nat.lt_or_ge b w.heap.size with hl | hl
      · exact hl
      · simp [World.cell?, Array.getElem?_eq_none hl] at hc
    exact ⟨b, off, x, rfl, hlt, by rw [hc, hx], byte_of hw⟩
end Go.Proofs.Ytaokfppadfoniaa
