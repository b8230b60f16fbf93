/- Matrices that grow by append; the marks that the laws write into them. -/
import Derived.Test.YtaokfppadfoniaaApp
import Derived.Test.YtaokfppadfoniaaSS2
namespace Go.Proofs.Ytaokfppadfoniaa
open Go.RowKit
set_option linter.unusedVariables false

/-- v is a slice of the call's own (blocks from 'base' on) whose cells are slices, each in a block of its own, that hold rows. -/
def OutM (w : World) (base : Nat) (v : Value) (rows : List (List DW)) : Prop :=
  ∃ (vs : List Value) (G : Nat → Nat), w.ownsRow base 44 1 v rows.length vs ∧ RowsTo w base 29 rows rows.length (fun i => vs.getD i undef) G
section
variable {w w' : World} {base : Nat} {v : Value} {rows : List (List DW)}
theorem ownsRow_call {t : TypeId} {s n : Nat} {vs : List Value} (h : w.ownsRow base t s v n vs) (hb : Below w.heap.size w w') : w'.ownsRow base t s v n vs := by
  obtain ⟨h1, h2⟩ := h
  refine ⟨h1, ?_⟩
  rcases h2 with h2 | ⟨g, cap, cur, e1, e2, e3, e4⟩
  · exact .inl h2
  · refine .inr ⟨g, cap, cur, e1, e2, ?_, e4⟩
    have hlt : g < w.heap.size := by
      rcases Nat.lt_or_ge g w.heap.size with hlt | hge
      · exact hlt
      · rw [Array.getElem?_eq_none hge] at e3; cases e3
    exact (hb.block g hlt).trans e3
theorem OutM.call (h : OutM w base v rows) (hb : Below w.heap.size w w') : OutM w' base v rows := by
  obtain ⟨vs, G, h1, h2⟩ := h
  exact ⟨vs, G, ownsRow_call h1 hb, h2.call hb⟩
theorem below_alloc (w : World) (o : Obj) : Below w.heap.size w (w.alloc o) := bl_alloc (Below.refl _ _) o
theorem OutM.alloc (h : OutM w base v rows) (o : Obj) : OutM (w.alloc o) base v rows := h.call (below_alloc w o)
theorem OutM.start (w : World) (base : Nat) (cs : Array Value) (hb : base ≤ w.heap.size) (hs : cs.size = 0) : OutM (w.alloc (.cells cs 44)) base (.slice (some ⟨w.heap.size, 0, none⟩) 0 0) [] :=
  ⟨[], fun _ => 0, World.ownsRow_made w cs 0 hb (by unfold maxLen; omega) (by omega), ⟨fun i j _ h => absurd h (by simp), fun i r h _ => absurd h (by simp)⟩⟩
theorem OutM.row (h : OutM w base v rows) : ∀ k, v.ownBlock = some k → base ≤ k := fun k hk => by
  obtain ⟨vs, G, h1, h2⟩ := h
  exact (World.ownsRow.lt h1 k hk).1
theorem OutM.own (h : OutM w base v rows) : ∃ A c, v = .slice A rows.length c ∧ OwnM w base 44 29 A rows := by
  obtain ⟨vs, G, ⟨h1, h2⟩, h3⟩ := h
  rcases h2 with ⟨rfl, h0⟩ | ⟨g, cap, cur, rfl, e2, e3, e4, e5, e6, e7⟩
  · have e : rows = [] := List.eq_nil_of_length_eq_zero h0
    subst e
    exact ⟨none, 0, rfl, OwnM.nil⟩
  · refine ⟨_, _, rfl, fun _ => ⟨g, cur.size, fun j => cur[j]?.getD undef, G, rfl, e2, by omega, ?_, h3.1, fun i r hi hr => ?_⟩⟩
    · exact ⟨cur, e3, rfl, fun i hi => by show cur[i]? = some (cur[i]?.getD undef); rw [Array.getElem?_eq_getElem hi]; rfl⟩
    · obtain ⟨q1, c', M, f, q2, q3⟩ := h3.2 i r hi hr
      refine ⟨q1, c', M, f, ?_, q3⟩
      rw [← q2, ← e7]
      show cur[i]?.getD undef = (List.take (rows.length * 1) cur.toList).getD i undef
      rw [List.getD_eq_getElem?_getD, List.getElem?_take, if_pos (by omega), Array.getElem?_toList]
end
theorem RowsTo.grow {w w' : World} {base : Nat} {rows : List (List DW)} {F F' : Nat → Value} {G : Nat → Nat} {v : Value} {vs : List Value} {n : Nat}
    (h : RowsTo w base 29 rows rows.length F G) (ho : w.ownsRow base 44 1 v n vs) (hg : w.grownBy w' v.ownBlock) {r : List DW} {b c M : Nat} {f : Nat → Value} (hb : base ≤ b) (hlast : ∀ i, i < rows.length → G i < b) (hM : r.length * 5 ≤ M) (hrow : w.rowIs b 29 M f) (hf : ∀ j, j < r.length * 5 → f j = fD r j)
    (hF : ∀ i, i < rows.length → F' i = F i) (hF' : F' rows.length = .slice (some ⟨b, 0, none⟩) r.length c) :
    RowsTo w' base 29 (rows ++ [r]) (rows ++ [r]).length F' (fun i => if i = rows.length then b else G i) := by
  have hne : ∀ k M' f', w.rowIs k 29 M' f' → some k ≠ v.ownBlock := by
    intro k M' f' hr e
    obtain ⟨_, h2⟩ := ho
    rcases h2 with ⟨rfl, _⟩ | ⟨g, cap, cur, rfl, _, e3, _⟩
    · simp [Value.ownBlock] at e
    · simp [Value.ownBlock] at e
      subst e
      obtain ⟨cs, hcs, _⟩ := hr
      rw [e3] at hcs
      simp at hcs
  have keepRow : ∀ k M' f', w.rowIs k 29 M' f' → w'.rowIs k 29 M' f' := fun k M' f' hr => hr.of_block (hg.block k hr.lt (hne k M' f' hr))
  have hlen : (rows ++ [r]).length = rows.length + 1 := by simp
  refine ⟨fun i j hij hj => ?_, fun i r' hi hr' => ?_⟩
  · rw [hlen] at hj
    dsimp only
    by_cases ej : j = rows.length
    · rw [if_neg (by omega), if_pos ej]; exact hlast i (by omega)
    · rw [if_neg (by omega), if_neg ej]; exact h.1 i j hij (by omega)
  · rw [hlen] at hi
    dsimp only
    by_cases ei : i = rows.length
    · subst ei
      rw [List.getElem?_concat_length] at hr'
      injection hr' with e
      subst e
      rw [if_pos rfl]
      exact ⟨hb, c, M, f, hF', hM, keepRow _ _ _ hrow, hf⟩
    · rw [if_neg ei]
      rw [List.getElem?_append_left (by omega)] at hr'
      obtain ⟨q1, c', M', f', q2, q3, q4, q5⟩ := h.2 i r' (by omega) hr'
      exact ⟨q1, c', M', f', (hF i (by omega)).trans q2, q3, keepRow _ _ _ q4, q5⟩
theorem infoS' : (Try.prog.info? 44).map (fun i => (i.zero, i.size, i.bytes)) = some (some (.slice none 0 0), 1, 24) := by kernel_rfl
/-- A row of the call's own, younger than B, that is put behind the others. -/
def NewRow (w : World) (base B : Nat) (A : Option Addr) (r : List DW) : Prop := ∃ (b M : Nat) (f : Nat → Value), A = some ⟨b, 0, none⟩ ∧ base ≤ b ∧ B ≤ b ∧ r.length * 5 ≤ M ∧ w.rowIs b 29 M f ∧ ∀ j, j < r.length * 5 → f j = fD r j
theorem NewRow.of_own {w : World} {base B : Nat} {A : Option Addr} {r : List DW} (h : OwnS w B 29 A r) (hp : 0 < r.length) (hB : base ≤ B) : NewRow w base B A r := by
  obtain ⟨g, N, f, h1, h2, h3, h4, h5⟩ := h hp
  exact ⟨g, N, f, h1, by omega, h2, h3, h4, h5⟩
theorem NewRow.call {w w' : World} {base B : Nat} {A : Option Addr} {r : List DW} (h : NewRow w base B A r) (hb : Below w.heap.size w w') : NewRow w' base B A r := by
  obtain ⟨b, M, f, h1, h2, h3, h4, h5, h6⟩ := h
  exact ⟨b, M, f, h1, h2, h3, h4, h5.of_block (hb.block _ h5.lt), h6⟩
/-- What is put behind: OutM in w whose rows all lie below B, and a row of B or younger. -/
theorem app_stepM {ops : Array Oper} {rest : List Oper} {o : Oper} {a : Act} {Q : Exit → Act → World → Prop} (w : World) (hgd : o.guard = none) (s x : Operand)
    (ho : o.op = .call { callee := .builtin .append, args := #[s, x], argTypes := #[70, 70] }) (base : Nat) (v : Value) (rows : List (List DW)) (hs : a.eval s = v)
    (w0 : World) (hown0 : OutM w0 base v rows) (hb0 : Below w0.heap.size w0 w) (g : Nat) (A : Option Addr) (r : List DW) (c : Nat) (hx : a.eval x = .slice (some ⟨g, 0, none⟩) 1 1) (hB : w.cell? ⟨g, 0, none⟩ = some (.slice A r.length c))
    (hN : NewRow w base w0.heap.size A r) (hl : rows.length ≤ 2000000) (hbase : base ≤ w.heap.size)
    (h : ∀ (v' : Value) (w' : World), OutM w' base v' (rows ++ [r]) → w.grownBy w' v.ownBlock → (∀ k, v.ownBlock = some k → base ≤ k) → wpList Try.prog ops Q rest (a.put o.dst v') w') :
    wpList Try.prog ops Q (o :: rest) a w := by
  obtain ⟨i0, hi, hz0, hz1, hz2⟩ := info_parts infoS'
  obtain ⟨vs, G, hown, hto⟩ := hown0
  have hown2 := ownsRow_call hown hb0
  refine wpList_append_own w hgd s x _ ho base _ i0 _ 1 24 Try.underlying70 hi hz0 hz1 hz2 rfl (by decide) v rows.length vs hs hown2 ⟨g, 0, none⟩ 1 1
    [.slice A r.length c] hx rfl ?_ ?_ (by unfold maxLen; omega) (by omega) hbase ?_
  · intro j u hj
    match j, hj with
    | 0, hj =>
      simp at hj
      subst hj
      have e : (⟨g, 0, none⟩ : Addr).add 0 = ⟨g, 0, none⟩ := by simp [Addr.add]
      rw [e, hB]
    | j + 1, hj => simp at hj
  · intro u hu
    simp at hu
    subst hu
    rfl
  · intro v' w' hown' hg _
    obtain ⟨b, M, f, rfl, hb1, hb2, hM, hrow, hf⟩ := hN
    have hlv : vs.length = rows.length := by have := hown.1; omega
    refine h v' w' ⟨vs ++ [.slice (some ⟨b, 0, none⟩) r.length c], _, by simpa using hown', (hto.call hb0).grow hown2 hg (r := r) (b := b) (c := c) (M := M) (f := f) hb1 (fun i hi' => ?_) hM hrow hf (fun i hi' => ?_) ?_⟩ hg (fun k hk => (World.ownsRow.lt hown2 k hk).1)
    · have := hto.lt hi' (List.getElem?_eq_getElem hi')
      omega
    · rw [List.getD_eq_getElem?_getD, List.getD_eq_getElem?_getD, List.getElem?_append_left (by omega)]
    · rw [List.getD_eq_getElem?_getD, ← hlv, List.getElem?_concat_length]
      rfl
end Go.Proofs.Ytaokfppadfoniaa
