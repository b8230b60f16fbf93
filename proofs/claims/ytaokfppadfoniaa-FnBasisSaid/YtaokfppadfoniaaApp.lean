/- Slices that grow by append. -/
import Derived.Test.YtaokfppadfoniaaB
import Derived.OwnWalk
import Derived.Deep.DeepCutAuto
namespace Go.Proofs.Ytaokfppadfoniaa
open Go.RowKit
set_option linter.unusedVariables false

def cellsD : List DW → List Value
  | [] => []
  | d :: r => .int .i64 d.n.a :: .int .i64 d.n.b :: .int .i64 d.n.c :: .int .i64 d.n.d :: .int .i64 d.k :: cellsD r
theorem cellsD_append (a b : List DW) : cellsD (a ++ b) = cellsD a ++ cellsD b := by
  induction a with
  | nil => rfl
  | cons d r ih => simp [cellsD, ih]
theorem cellsD_length (a : List DW) : (cellsD a).length = a.length * 5 := by
  induction a with
  | nil => rfl
  | cons d r ih => simp [cellsD, ih]; omega
theorem cellsD_at : ∀ (ds : List DW) (j : Nat), j < ds.length * 5 → (cellsD ds)[j]? = some (fD ds j)
  | [], j, h => by simp at h
  | d :: r, j, h => by
    match j, h with
    | 0, _ => rfl
    | 1, _ => rfl
    | 2, _ => rfl
    | 3, _ => rfl
    | 4, _ => rfl
    | j + 5, h =>
      have e : (cellsD (d :: r))[j + 5]? = (cellsD r)[j]? := by simp [cellsD]
      rw [e, cellsD_at r j (by simp at h; omega)]
      unfold fD
      have h1 : (j + 5) / 5 = j / 5 + 1 := by omega
      have h2 : (j + 5) % 5 = j % 5 := by omega
      rw [h1, h2, List.getD_cons_succ]
/-- v is a slice of the call's own (blocks from 'base' on) that holds ds. -/
def OutS (w : World) (base : Nat) (t : TypeId) (v : Value) (ds : List DW) : Prop := w.ownsRow base t 5 v ds.length (cellsD ds)
section
variable {w w' : World} {base : Nat} {t : TypeId} {v : Value} {ds : List DW}
theorem OutS.call (h : OutS w base t v ds) (hb : Below w.heap.size w w') : OutS w' base t v ds := by
  obtain ⟨h1, h2⟩ := h
  refine ⟨h1, ?_⟩
  rcases h2 with h2 | ⟨g, cap, cur, e1, e2, e3, e4⟩
  · exact .inl h2
  · refine .inr ⟨g, cap, cur, e1, e2, ?_, e4⟩
    have hlt : g < w.heap.size := by
      rcases Nat.lt_or_ge g w.heap.size with hlt | hge
      · exact hlt
      · rw [Array.getElem?_eq_none hge] at e3; cases e3
    exact (hb.block g hlt).trans e3
theorem OutS.alloc (h : OutS w base t v ds) (o : Obj) : OutS (w.alloc o) base t v ds := World.ownsRow.alloc h o
theorem OutS.drew (h : OutS w base t v ds) : OutS w.drew base t v ds := h
theorem OutS.start (w : World) (base : Nat) (t : TypeId) (cs : Array Value) (hb : base ≤ w.heap.size) (hs : cs.size = 0) : OutS (w.alloc (.cells cs t)) base t (.slice (some ⟨w.heap.size, 0, none⟩) 0 0) [] :=
  World.ownsRow_made w cs 0 hb (by unfold maxLen; omega) (by omega)
theorem OutS.row (h : OutS w base t v ds) : ∀ k, v.ownBlock = some k → base ≤ k := fun k hk => (World.ownsRow.lt h k hk).1
theorem OutS.slice (h : OutS w base t v ds) : ∃ A c, v = .slice A ds.length c ∧ OwnS w base t A ds := by
  obtain ⟨h1, h2⟩ := h
  rcases h2 with ⟨rfl, h0⟩ | ⟨g, cap, cur, rfl, e2, e3, e4, e5, e6, e7⟩
  · have e : ds = [] := List.eq_nil_of_length_eq_zero h0
    subst e
    exact ⟨none, 0, rfl, OwnS.nil⟩
  · refine ⟨_, _, rfl, fun _ => ⟨g, cur.size, fun j => cur[j]?.getD undef, rfl, e2, by rw [e6]; exact Nat.mul_le_mul_right 5 e4, ?_, ?_⟩⟩
    · exact ⟨cur, e3, rfl, fun i hi => by show cur[i]? = some (cur[i]?.getD undef); rw [Array.getElem?_eq_getElem hi]; rfl⟩
    · intro j hj
      have q := cellsD_at ds j hj
      rw [← e7, List.getElem?_take, if_pos hj] at q
      rw [Array.getElem?_toList] at q
      show cur[j]?.getD undef = fD ds j
      rw [q]
      rfl
end
theorem app_step {ops : Array Oper} {rest : List Oper} {o : Oper} {a : Act} {Q : Exit → Act → World → Prop} (w : World) (hgd : o.guard = none) (s x : Operand)
    (ho : o.op = .call { callee := .builtin .append, args := #[s, x], argTypes := #[44, 44] }) (base : Nat) (v : Value) (ds : List DW) (hs : a.eval s = v)
    (hown : OutS w base 29 v ds) (g : Nat) (x0 x1 x2 x3 x4 : Int) (hx : a.eval x = .slice (some ⟨g, 0, none⟩) 1 1) (hB : Blk w g 29 #[.int .i64 x0, .int .i64 x1, .int .i64 x2, .int .i64 x3, .int .i64 x4])
    (hl : ds.length ≤ 2000000) (hbase : base ≤ w.heap.size)
    (h : ∀ (v' : Value) (w' : World), OutS w' base 29 v' (ds ++ [⟨⟨x0, x1, x2, x3⟩, x4⟩]) → w.grownBy w' v.ownBlock → (∀ k, v.ownBlock = some k → base ≤ k) → wpList Try.prog ops Q rest (a.put o.dst v') w') :
    wpList Try.prog ops Q (o :: rest) a w := by
  obtain ⟨i0, hi, hz0, hz1, hz2⟩ := info_parts infoD
  refine wpList_append_own w hgd s x _ ho base _ i0 _ 5 40 Try.underlying44 hi hz0 hz1 hz2 rfl (by decide) v ds.length (cellsD ds) hs hown ⟨g, 0, none⟩ 1 1
    [.int .i64 x0, .int .i64 x1, .int .i64 x2, .int .i64 x3, .int .i64 x4] hx rfl ?_ ?_ (by unfold maxLen; omega) (by omega) hbase ?_
  · intro j u hj
    have e : (⟨g, 0, none⟩ : Addr).add j = ⟨g, j, none⟩ := by simp [Addr.add]; intro h; exact h.symm
    rw [e, hB.cell j]
    simpa using hj
  · intro u hu
    simp at hu
    rcases hu with rfl | rfl | rfl | rfl | rfl <;> rfl
  · intro v' w' hown' hg _
    refine h v' w' ?_ hg hown.row
    unfold OutS
    rw [cellsD_append, List.length_append]
    exact hown'
end Go.Proofs.Ytaokfppadfoniaa
