/- The marks that the laws write, with their sums under names. -/
import Derived.Test.YtaokfppadfoniaaMarkM
import Derived.Test.YtaokfppadfoniaaAdj2
namespace Go.Proofs.Ytaokfppadfoniaa
open Go.RowKit
set_option linter.unusedVariables false
theorem mark_row' (g N n c K K' : Nat) (t : TypeId) (f : Nat → Value) (w : World) (hrow : w.rowIs g t N f) (hN' : n * 5 ≤ N) (hK : K + n * 5 = K') (hs : K + n * 5 ≤ 4611686018427387904) :
    Calls Try.prog 43 #[.slice (some ⟨g, 0, none⟩) n c, .int .i64 (K : Int)] w fun e w' => e = .returned (.int .i64 (K' : Int)) ∧ Below g w w' ∧ ∀ b, b ≠ g → w'.heap[b]? = w.heap[b]? :=
  (mark_row g N n c K t f w hrow hN' hs).mono fun e w' ⟨h1, h2, h3, h4⟩ => ⟨by rw [h1, hK], h3, h4⟩
theorem mark_any' (A : Option Addr) (n c K K' base : Nat) (t : TypeId) (ds : List DW) (w : World) (hO : OwnS w base t A ds) (hn : n = ds.length) (hK : K + n * 5 = K') (hs : K + n * 5 ≤ 4611686018427387904) :
    Calls Try.prog 43 #[.slice A n c, .int .i64 (K : Int)] w fun e w' => e = .returned (.int .i64 (K' : Int)) ∧ OwnS w' base t A (marks K n) ∧ Below base w w' :=
  (mark_any A n c K base t ds w hO hn hs).mono fun e w' ⟨h1, h2, h3⟩ => ⟨by rw [h1, hK], h2, h3⟩
theorem held_any' (A : Option Addr) (n c K K' base : Nat) (t : TypeId) (w : World) (hO : OwnS w base t A (marks K n)) (hK : K + n * 5 = K') (hs : K + n * 5 ≤ 4611686018427387904) :
    Calls Try.prog 44 #[.slice A n c, .int .i64 (K : Int)] w fun e w' => e = .returned (.int .i64 (K' : Int)) ∧ w = w' :=
  (held_any A n c K base t w hO hs).mono fun e w' ⟨h1, h2⟩ => ⟨by rw [h1, hK], h2⟩
theorem markM' (A : Option Addr) (c K K' base top : Nat) (rows : List (List DW)) (w : World) (hO : OwnT w base top A rows) (hK : K + part rows rows.length * 5 = K') (hs : K + tot rows * 5 ≤ 4611686018427387904) :
    Calls Try.prog 59 #[.slice A rows.length c, .int .i64 (K : Int)] w fun e w' => e = .returned (.int .i64 (K' : Int)) ∧ Below base w w' ∧ Kept top w w' :=
  (markM A c K base top rows w hO hs).mono fun e w' ⟨h1, h2, h3, h4⟩ => ⟨by rw [h1, hK], h3, h4⟩
theorem markMr' (A : Option Addr) (c K K' base top : Nat) (rows : List (List DW)) (w : World) (hO : OwnT w base top A rows) (hK : K + part rows rows.length * 5 = K') (hs : K + tot rows * 5 ≤ 4611686018427387904) :
    Calls Try.prog 59 #[.slice A rows.length c, .int .i64 (K : Int)] w fun e w' => e = .returned (.int .i64 (K' : Int)) ∧ OwnM w' base 44 29 A (marksM K rows) ∧ Below base w w' :=
  (markM A c K base top rows w hO hs).mono fun e w' ⟨h1, h2, h3, h4⟩ => ⟨by rw [h1, hK], h2.own, h3⟩
theorem heldM' (A : Option Addr) (c K K' base : Nat) (rows : List (List DW)) (w : World) (hO : OwnM w base 44 29 A (marksM K rows)) (hK : K + part rows rows.length * 5 = K') (hs : K + tot rows * 5 ≤ 4611686018427387904) :
    Calls Try.prog 62 #[.slice A rows.length c, .int .i64 (K : Int)] w fun e w' => e = .returned (.int .i64 (K' : Int)) ∧ w = w' :=
  (heldM A c K base rows w hO hs).mono fun e w' ⟨h1, h2⟩ => ⟨by rw [h1, hK], h2⟩
end Go.Proofs.Ytaokfppadfoniaa
