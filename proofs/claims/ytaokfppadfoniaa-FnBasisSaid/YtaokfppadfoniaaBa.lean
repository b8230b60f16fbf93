/- The loop of the law on basis states; its facts. -/
import Derived.Test.YtaokfppadfoniaaQt
import Derived.Test.YtaokfppadfoniaaVc5
import Derived.Test.YtaokfppadfoniaaVec2
import Derived.Test.YtaokfppadfoniaaDV2
import Derived.Lib.QuietBelow
namespace Go.Proofs.Ytaokfppadfoniaa
open Go.RowKit
set_option linter.unusedVariables false
def BaRel (w : World) (A : Option Addr) (L : List DW) (i : Value) (wr : World) : Prop :=
  ∃ k : Nat, k ≤ L.length ∧ i = .int .i64 (k : Int) ∧ RD wr wr.heap.size A L.length L ∧ Below w.heap.size w wr
theorem basis_parts {n i : Int} (h : (basisD n i).length ≠ 0) : ∃ I : Nat, i = (I : Int) ∧ I < pw n ∧ basisD n i = basisL (pw n) I ∧ (basisD n i).length = pw n ∧ qc (pw n) ≠ 0 ∧ ((qc (pw n) : Nat) : Int) = n := by
  unfold basisD at h ⊢
  split at h
  · rename_i hc
    rw [if_pos hc]
    obtain ⟨I, rfl⟩ := Int.eq_ofNat_of_zero_le hc.1
    have hl : I < pw n := by have := hc.2; omega
    obtain ⟨h1, h2⟩ := qc_pw (n := n) (by omega)
    rw [Int.toNat_natCast]
    exact ⟨I, rfl, hl, rfl, basisL_length _ _, h2, h1⟩
  · exact absurd rfl h
end Go.Proofs.Ytaokfppadfoniaa
