/- What the library's own variables hold while the laws run. -/
import Derived.Test.YtbjmfapoioebjaaDoorBase
import Derived.Lib.LaidTab
import Derived.Lib.ItoaNum
import Derived.Lib.SmallJoins
namespace Go.Proofs.YtbjmfapoioebjaaDoor
open Go.RowKit

/-- The table of powers of ten is as the library lays it. -/
def EnvI (w : World) : Prop := Lib.TabIs Tryd.prog w "internal/strconv.uint64pow10" .u64 Lib.pow10Tab
theorem gI : Tryd.prog.globalNamed "internal/strconv.uint64pow10" = some 0 := by kernel_rfl
theorem EnvI.call {w w' : World} (h : EnvI w) (hb : Below w.heap.size w w') : EnvI w' := Go.Joins.var_stays gI h hb (Nat.le_refl _)
theorem EnvI.alloc {w : World} (h : EnvI w) (o : Obj) : EnvI (w.alloc o) := h.call (bl_alloc (Below.refl _ _) o)
theorem EnvI.drew {w : World} (h : EnvI w) : EnvI w.drew := h
/-- The two sentinels are values of an interface. -/
def EnvE (w : World) : Prop := ∃ t1 p1 t2 p2, w.var? Tryd.prog "strconv.ErrSyntax" = some #[.iface t1 p1] ∧ w.var? Tryd.prog "strconv.ErrRange" = some #[.iface t2 p2]
theorem gE1 : Tryd.prog.globalNamed "strconv.ErrSyntax" = some 2 := by kernel_rfl
theorem gE2 : Tryd.prog.globalNamed "strconv.ErrRange" = some 3 := by kernel_rfl
theorem EnvE.call {w w' : World} (h : EnvE w) (hb : Below w.heap.size w w') : EnvE w' := by
  obtain ⟨t1, p1, t2, p2, h1, h2⟩ := h
  exact ⟨t1, p1, t2, p2, Go.Joins.var_stays gE1 h1 hb (Nat.le_refl _), Go.Joins.var_stays gE2 h2 hb (Nat.le_refl _)⟩
/-- The library's bound for searches is an int. -/
def EnvS (w : World) : Prop := ∃ m : Int, w.cell? ⟨1, 0, none⟩ = some (.int .i64 m)
theorem EnvS.call {w w' : World} (h : EnvS w) (hb : Below w.heap.size w w') : EnvS w' := by
  obtain ⟨m, hm⟩ := h
  have hlt : 1 < w.heap.size := by
    rcases Nat.lt_or_ge 1 w.heap.size with hl | hl
    · exact hl
    · simp [World.cell?, Array.getElem?_eq_none hl] at hm
  exact ⟨m, (hb.cell (p := ⟨1, 0, none⟩) hlt).trans hm⟩
end Go.Proofs.YtbjmfapoioebjaaDoor
