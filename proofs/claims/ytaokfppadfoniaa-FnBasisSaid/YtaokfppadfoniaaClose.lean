/- How the arguments of the laws are opened: structs of ints by value. -/
import Derived.Test.YtaokfppadfoniaaRows
import Derived.Test.YtaokfppadfoniaaBase
import Derived.ProofKit
import Derived.OpenShut
import Derived.ShutString
import Derived.ChangeOld
import Derived.Lib.SmallJoins
import Derived.Deep.Fields
namespace Go.Proofs.Ytaokfppadfoniaa
open Go.ChangeShapes Go.WideShapes Go.ChangeAt Go.RowKit Go.Deep

set_option maxRecDepth 100000
theorem own : ownKnob Try.prog.godebug = none := by kernel_rfl
theorem laidOut : laidOutB Try.prog = true := by kernel_rfl

/-- An int of Go. -/
def inr (n : Int) : Prop := -9223372036854775808 ≤ n ∧ n ≤ 9223372036854775807
theorem inr_of {n : Int} (h : (Lit.int .i64 n).wf = true) : inr n := by
  simpa [Lit.wf, IntKind.min, IntKind.max, IntKind.signed, IntKind.bits, inr] using h
theorem list4 {α : Type} {l : List α} (h : l.length = 4) : ∃ a b c d, l = [a, b, c, d] := by
  match l, h with
  | [a, b, c, d], _ => exact ⟨a, b, c, d, rfl⟩
theorem list5 {α : Type} {l : List α} (h : l.length = 5) : ∃ a b c d e, l = [a, b, c, d, e] := by
  match l, h with
  | [a, b, c, d, e], _ => exact ⟨a, b, c, d, e, rfl⟩
section
variable {H : Type} {enc : TypeId × Value → H} {P : Program} {w : World} {base : Nat} {spare : Nat → Bool} {held : Bool}
theorem some_at {α : Type} {l : List α} {n : Nat} (h : n < l.length) : ∃ y, l[n]? = some y := ⟨l[n], List.getElem?_eq_getElem h⟩

theorem trod_zo {t : TypeId} {f0 f1 f2 f3 : Field} {fuel : Nat} {cs : List Value} {x : DataW H × List MemPlace} (hs : P.underlying t = some (.struct #[f0, f1, f2, f3])) (hone : oneCellFields P #[f0, f1, f2, f3] = true) (hC : P.cellsOf t = 4)
    (i0 : P.underlying f0.type = some (.int .i64)) (i1 : P.underlying f1.type = some (.int .i64)) (i2 : P.underlying f2.type = some (.int .i64)) (i3 : P.underlying f3.type = some (.int .i64))
    (h : DataW.trod enc P w base spare held fuel t cs = some x) : ∃ a b c d : Int, cs = [.int .i64 a, .int .i64 b, .int .i64 c, .int .i64 d] ∧ inr a ∧ inr b ∧ inr c ∧ inr d := by
  obtain ⟨xs, n, _, _, hl, hlen, hg⟩ := DataW.trod_struct hs h
  obtain ⟨c0, c1, c2, c3, rfl⟩ := list4 (hl.trans hC)
  obtain ⟨o0, k0⟩ := hone_of hone 0 f0 rfl
  obtain ⟨o1, k1⟩ := hone_of hone 1 f1 rfl
  obtain ⟨o2, k2⟩ := hone_of hone 2 f2 rfl
  obtain ⟨o3, k3⟩ := hone_of hone 3 f3 rfl
  have hlen' : xs.length = 4 := hlen
  obtain ⟨y0, e0⟩ := some_at (l := xs) (n := 0) (by omega)
  obtain ⟨y1, e1⟩ := some_at (l := xs) (n := 1) (by omega)
  obtain ⟨y2, e2⟩ := some_at (l := xs) (n := 2) (by omega)
  obtain ⟨y3, e3⟩ := some_at (l := xs) (n := 3) (by omega)
  have g0 := (hg 0 f0 rfl).trans e0
  have g1 := (hg 1 f1 rfl).trans e1
  have g2 := (hg 2 f2 rfl).trans e2
  have g3 := (hg 3 f3 rfl).trans e3
  rw [o0, k0] at g0
  rw [o1, k1] at g1
  rw [o2, k2] at g2
  rw [o3, k3] at g3
  obtain ⟨a, q0, _, w0⟩ := DataW.trod_int i0 g0
  obtain ⟨b, q1, _, w1⟩ := DataW.trod_int i1 g1
  obtain ⟨c, q2, _, w2⟩ := DataW.trod_int i2 g2
  obtain ⟨d, q3, _, w3⟩ := DataW.trod_int i3 g3
  simp at q0 q1 q2 q3
  subst q0 q1 q2 q3
  exact ⟨a, b, c, d, rfl, inr_of w0, inr_of w1, inr_of w2, inr_of w3⟩

theorem trod_do {t : TypeId} {fN fE f0 f1 f2 f3 : Field} {fuel : Nat} {cs : List Value} {x : DataW H × List MemPlace} (hs : P.underlying t = some (.struct #[fN, fE])) (hC : P.cellsOf t = 5) (hN : fN.offset = 0) (hE : fE.offset = 4)
    (cE : P.cellsOf fE.type = 1) (iE : P.underlying fE.type = some (.int .i64))
    (hs' : P.underlying fN.type = some (.struct #[f0, f1, f2, f3])) (hone : oneCellFields P #[f0, f1, f2, f3] = true) (hC' : P.cellsOf fN.type = 4)
    (i0 : P.underlying f0.type = some (.int .i64)) (i1 : P.underlying f1.type = some (.int .i64)) (i2 : P.underlying f2.type = some (.int .i64)) (i3 : P.underlying f3.type = some (.int .i64))
    (h : DataW.trod enc P w base spare held fuel t cs = some x) : ∃ a b c d k : Int, cs = [.int .i64 a, .int .i64 b, .int .i64 c, .int .i64 d, .int .i64 k] ∧ inr a ∧ inr b ∧ inr c ∧ inr d ∧ inr k := by
  obtain ⟨xs, n, _, _, hl, hlen, hg⟩ := DataW.trod_struct hs h
  obtain ⟨c0, c1, c2, c3, c4, rfl⟩ := list5 (hl.trans hC)
  have hlen' : xs.length = 2 := hlen
  obtain ⟨y0, e0⟩ := some_at (l := xs) (n := 0) (by omega)
  obtain ⟨y1, e1⟩ := some_at (l := xs) (n := 1) (by omega)
  have g0 := (hg 0 fN rfl).trans e0
  have g1 := (hg 1 fE rfl).trans e1
  rw [hN, hC'] at g0
  rw [hE, cE] at g1
  obtain ⟨a, b, c, d, q0, ha, hb, hc, hd⟩ := trod_zo hs' hone hC' i0 i1 i2 i3 g0
  obtain ⟨k, q1, _, w1⟩ := DataW.trod_int iE g1
  simp at q0 q1
  obtain ⟨rfl, rfl, rfl, rfl⟩ := q0
  subst q1
  exact ⟨a, b, c, d, k, rfl, ha, hb, hc, hd, inr_of w1⟩
end

theorem open_Z {H : Type} {enc : TypeId × Value → H} {w : World} {base b0 : Nat} {r : Reach} {spare : Nat → Bool} {held : Bool} {v : Value} {d : DataW H} {p : List MemPlace}
    (hv : Value.okWide Try.prog w r b0 52 v) (h : DataW.Trod enc Try.prog w base spare held 52 v d p) :
    ∃ a b c d : Int, v = .agg #[.int .i64 a, .int .i64 b, .int .i64 c, .int .i64 d] ∧ inr a ∧ inr b ∧ inr c ∧ inr d := by
  obtain ⟨cs, rfl, _⟩ := okWide_struct Try.underlying52 hv
  obtain ⟨fuel, hf⟩ := h
  obtain ⟨a, b, c, d, e, ha, hb, hc, hd⟩ := trod_zo Try.underlying52 (by kernel_rfl) (by kernel_rfl) (by kernel_rfl) (by kernel_rfl) (by kernel_rfl) (by kernel_rfl) hf
  refine ⟨a, b, c, d, ?_, ha, hb, hc, hd⟩
  have e' : cs.toList = [.int .i64 a, .int .i64 b, .int .i64 c, .int .i64 d] := by simpa [Value.cells] using e
  exact congrArg Value.agg (Array.ext' e')
theorem open_D {H : Type} {enc : TypeId × Value → H} {w : World} {base b0 : Nat} {r : Reach} {spare : Nat → Bool} {held : Bool} {v : Value} {d : DataW H} {p : List MemPlace}
    (hv : Value.okWide Try.prog w r b0 54 v) (h : DataW.Trod enc Try.prog w base spare held 54 v d p) :
    ∃ a b c d k : Int, v = .agg #[.int .i64 a, .int .i64 b, .int .i64 c, .int .i64 d, .int .i64 k] ∧ inr a ∧ inr b ∧ inr c ∧ inr d ∧ inr k := by
  obtain ⟨cs, rfl, _⟩ := okWide_struct Try.underlying54 hv
  obtain ⟨fuel, hf⟩ := h
  obtain ⟨a, b, c, d, k, e, ha, hb, hc, hd, hk⟩ := trod_do Try.underlying54 (by kernel_rfl) rfl rfl (by kernel_rfl) (by kernel_rfl) Try.underlying52 (by kernel_rfl) (by kernel_rfl) (by kernel_rfl) (by kernel_rfl) (by kernel_rfl) (by kernel_rfl) hf
  refine ⟨a, b, c, d, k, ?_, ha, hb, hc, hd, hk⟩
  have e' : cs.toList = [.int .i64 a, .int .i64 b, .int .i64 c, .int .i64 d, .int .i64 k] := by simpa [Value.cells] using e
  exact congrArg Value.agg (Array.ext' e')
end Go.Proofs.Ytaokfppadfoniaa
