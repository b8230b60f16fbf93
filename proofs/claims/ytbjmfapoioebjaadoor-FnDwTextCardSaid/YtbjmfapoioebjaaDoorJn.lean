/- Contracts: joining texts. -/
import Derived.Test.YtbjmfapoioebjaaDoorSt
import Derived.Test.YtbjmfapoioebjaaDoorShJ
import Derived.Lib.AppendStr
import Derived.Laws.BytesArg
namespace Go.Proofs.YtbjmfapoioebjaaDoor
open Go.RowKit
set_option linter.unusedVariables false
set_option maxRecDepth 20000

/-- v is a slice of bytes of the call's own that holds bs. -/
def OutB (w : World) (base : Nat) (v : Value) (bs : List UInt8) : Prop := w.ownsRow base 5 1 v bs.length (Lib.byteCells bs)
theorem OutB.start (w : World) (base : Nat) (cs : Array Value) (hb : base ≤ w.heap.size) (hs : cs.size = 0) : OutB (w.alloc (.cells cs 5)) base (.slice (some ⟨w.heap.size, 0, none⟩) 0 0) [] :=
  World.ownsRow_made w cs 0 hb (by unfold maxLen; omega) (by omega)
theorem strCells_str (l : List UInt8) : Lib.strCells (str l) = Lib.byteCells l := by
  simp [Lib.strCells, Lib.byteCells, str]
theorem infoB : (Tryd.prog.info? 5).map (fun i => (i.zero, i.size, i.bytes)) = some (some (.int .u8 0), 1, 1) := by kernel_rfl
theorem app_stepB {ops : Array Oper} {rest : List Oper} {o : Oper} {a : Act} {Q : Exit → Act → World → Prop} (w : World) (hgd : o.guard = none) (s x : Operand)
    (ho : o.op = .call { callee := .builtin .append, args := #[s, x], argTypes := #[39, 9] }) (base : Nat) (v : Value) (bs : List UInt8) (hs : a.eval s = v)
    (hown : OutB w base v bs) (l : List UInt8) (hx : a.eval x = .string (str l)) (hl : bs.length + l.length ≤ 140737488355328) (hbase : base ≤ w.heap.size)
    (h : ∀ (v' : Value) (w' : World), OutB w' base v' (bs ++ l) → w.grownBy w' v.ownBlock → (∀ k, v.ownBlock = some k → base ≤ k) → wpList Tryd.prog ops Q rest (a.put o.dst v') w') :
    wpList Tryd.prog ops Q (o :: rest) a w := by
  obtain ⟨i0, hi, hz0, hz1, hz2⟩ := info_parts infoB
  refine Lib.wpList_append_own_string w hgd s x _ _ ho base _ i0 Tryd.underlying39 Tryd.underlying9 hi hz0 hz1 hz2 v bs.length (Lib.byteCells bs) hs hown (str l) hx (by rw [str_size]; unfold maxLen; omega) (by rw [str_size]; exact hl) hbase ?_
  intro v' w' hown' hg _
  refine h v' w' ?_ hg (fun k hk => (World.ownsRow.lt hown k hk).1)
  unfold OutB
  rw [List.length_append]
  rw [str_size, strCells_str, ← Lib.byteCells_append] at hown'
  exact hown'
theorem OutB.conv {w : World} {base : Nat} {v : Value} {bs : List UInt8} (h : OutB w base v bs) : (convert 39 9 v).run Tryd.prog w = .ok (.string (str bs)) w := by
  have hc : ∀ g, v.ownBlock = some g → ∀ j u, (Lib.byteCells bs)[j]? = some u → w.cell? ((⟨g, 0, none⟩ : Addr).add j) = some u := fun g hg => World.ownsRow.cells h hg
  obtain ⟨h1, h2⟩ := h
  rcases h2 with ⟨rfl, h0⟩ | ⟨g, cap, cur, rfl, e2, e3, e4, e5, e6, e7⟩
  · have e : bs = [] := List.eq_nil_of_length_eq_zero h0
    subst e
    rw [run_convert_bytes_string (P := Tryd.prog) w 39 9 5 none 0 0 Tryd.underlying39 Tryd.underlying5 Tryd.underlying9]
    rfl
  · refine run_convert_bytes_back (P := Tryd.prog) w 39 9 5 ⟨g, 0, none⟩ cap bs Tryd.underlying39 Tryd.underlying5 Tryd.underlying9 ?_
    intro j hj
    refine hc g rfl j _ ?_
    unfold Lib.byteCells
    rw [List.getElem?_map, List.getElem?_eq_getElem hj]
    rfl
theorem below_grownB {B : Nat} {w W W' : World} {row : Option Nat} (h : Below B w W) (hg : W.grownBy W' row) (hrow : ∀ k, row = some k → B ≤ k) (hB : B ≤ W.heap.size) : Below B w W' :=
  h.grown hg hB hrow
theorem join_take_le (ls : List (List UInt8)) (sep : List UInt8) (k : Nat) : (Lib.join (ls.take k) sep).length ≤ (Lib.join ls sep).length := by
  induction ls generalizing k with
  | nil => simp
  | cons x r _ =>
    cases k with
    | zero => simp [Lib.join_nil]
    | succ k =>
      rw [List.take_succ_cons, Lib.join_cons, Lib.join_cons, List.length_append, List.length_append, Lib.joinTail_length, Lib.joinTail_length]
      have h1 := Lib.lens_take_le r k
      have h2 : sep.length * (r.take k).length ≤ sep.length * r.length := Nat.mul_le_mul_left _ (List.length_take_le' _ _)
      omega
def JnRel (w : World) (n : Nat) (ls : List (List UInt8)) (sep : List UInt8) (v i : Value) (wr : World) : Prop :=
  ∃ k : Nat, k ≤ n ∧ i = .int .i64 (k : Int) ∧ OutB wr w.heap.size v (Lib.join (ls.take k) sep) ∧ Below w.heap.size w wr ∧ w.heap.size ≤ wr.heap.size
set_option maxHeartbeats 1000000 in
theorem s_Join (A : Option Addr) (n c : Nat) (ls : List (List UInt8)) (sep : List UInt8) (w : World) (hR : RX w w.heap.size A n ls) (hn : n ≤ 140737488355328) (hl : (Lib.join ls sep).length ≤ 140737488355328) :
    Calls Tryd.prog 40 #[.slice A n c, .string (str sep)] w (Ret (.string (str (Lib.join ls sep))) w) := by
  have HR := Lib.hid hR
  have HN := Lib.hid hR.1
  have HLL := Lib.hid hl
  clear hR hl
  go_enter Tryd.func40, Tryd.ntmps40
  go_wp2
  go_loopw [5, 6] (fun v i wr => JnRel w n ls sep v i wr) (fun _ i _ => n - (intOf i).toNat)
  case atStart => exact ⟨0, by omega, rfl, OutB.start w _ _ (Nat.le_refl _) rfl, bl_alloc (Below.refl _ _) _, by simp⟩
  case round =>
    obtain ⟨k, hk, rfl, hO, hb, hs⟩ := hrel
    have HO := Lib.hid hO
    clear hO
    by_cases hlt : k < n
    · have hd : decide ((k : Int) < (n : Int)) = true := by simp; omega
      obtain ⟨b1, o1, l1, rfl, hl1, e1, c1⟩ := (HR.out.keep hb).at hlt
      have hst := join_step (sep := sep) e1
      have hle := join_take_le ls sep (k + 1)
      have i0 : (0 : Int) ≤ (k : Int) := by omega
      have i1 : (k : Int) < (n : Int) := by omega
      by_cases hk0 : k = 0
      · have q1 : decide ((0 : Int) < (k : Int)) = false := by simp; omega
        have q2 : decide (0 < k) = false := by simp; omega
        rw [if_pos hk0] at hst
        have HS := Lib.hid hst
        have hlen : (Lib.join (ls.take k) sep).length + l1.length ≤ 140737488355328 := by
          have h1 : (Lib.join (ls.take k) sep).length = 0 := by rw [hk0]; rfl
          rw [hst] at hle
          have := HLL.out
          omega
        have hj0 : Lib.join (ls.take k) sep ++ l1 = l1 := by rw [hk0]; rfl
        have HJ := Lib.hid hj0
        have HK0 := Lib.hid hk0
        clear hst hle e1 hj0 hk0
        go_wp2_with (at_builtin; refine app_stepB _ rfl (.tmp 19) (.tmp 23) rfl w.heap.size _ _ rfl HO.out l1 rfl hlen hs ?_; intro v' w' hO' hg' hrow')
        rw [HJ.out, ← HS.out] at hO'
        go_roundw
        case rel =>
          have hz := hg'.size
          exact ⟨k + 1, by omega, by go_num, hO', below_grownB hb hg' hrow' hs, by omega⟩
        case measure => simp [intOf]; omega
      · have q1 : decide ((0 : Int) < (k : Int)) = true := by simp; omega
        have q2 : decide (0 < k) = true := by simp; omega
        rw [if_neg hk0] at hst
        have HS := Lib.hid hst
        have hlen0 : (Lib.join (ls.take k) sep).length + sep.length + l1.length ≤ 140737488355328 := by
          rw [hst, List.length_append, List.length_append] at hle
          have := HLL.out
          omega
        clear hst hle e1
        go_wp2_with (at_builtin; refine app_stepB _ rfl (.tmp 16) (.tmp 17) rfl w.heap.size _ _ rfl HO.out sep rfl (by omega) hs ?_; intro v1 w1 hO1 hg1 hrow1; refine Hid.out ?_)
        refine Lib.hid ?_
        have hb1 := below_grownB hb hg1 hrow1 hs
        have hs1 : w.heap.size ≤ w1.heap.size := by have := hg1.size; omega
        have c2 := (hb1.cell (p := ⟨b1, o1 + k, none⟩) hl1).trans ((hb.cell (p := ⟨b1, o1 + k, none⟩) hl1).symm.trans c1)
        have HO1 := Lib.hid hO1
        have hlen1 : (Lib.join (ls.take k) sep ++ sep).length + l1.length ≤ 140737488355328 := by rw [List.length_append]; exact hlen0
        clear hO1 hg1 hrow1 c1
        go_wp2_with (at_builtin; refine app_stepB _ rfl (.tmp 19) (.tmp 23) rfl w.heap.size _ _ rfl HO1.out l1 rfl hlen1 hs1 ?_; intro v' w' hO' hg' hrow')
        rw [← HS.out] at hO'
        go_roundw
        case rel =>
          have hz := hg'.size
          exact ⟨k + 1, by omega, by go_num, hO', below_grownB hb1 hg' hrow' hs1, by omega⟩
        case measure => simp [intOf]; omega
    · have hd : decide ((k : Int) < (n : Int)) = false := by simp; omega
      have hcv := HO.out.conv
      have e : ls.take k = ls := List.take_of_length_le (by have := HN.out; omega)
      rw [e] at hcv
      obtain ⟨R, hR⟩ : ∃ R, str (Lib.join ls sep) = R := ⟨_, rfl⟩
      rw [hR] at hcv
      have HRR := Lib.hid hR
      clear hR e
      go_wp2
      go_ret
      refine ret_eq ?_ hb
      rw [HRR.out]
      rfl
theorem i_Join (A : Option Addr) (n c : Nat) (ls : List (List UInt8)) (sep : List UInt8) (w : World) (hR : RX w w.heap.size A n ls) (hc : n ≤ c) (hn : n ≤ 140737488355328) (hl : (Lib.join ls sep).length ≤ 140737488355328) :
    Calls Tryd.prog 24 #[.slice A n c, .string (str sep)] w (Ret (.string (str (Lib.join ls sep))) w) := by
  have H : Calls Tryd.prog 46 #[.slice A n c, .string (str sep)] w (Ret (.string (str (Lib.join ls sep))) w) := by
    obtain ⟨e, hr⟩ := hR
    subst e
    cases ls with
    | nil =>
      exact (Tryd.strings_Join_none A c (str sep) w).mono fun e w' ⟨he, hw⟩ => ⟨he, hw ▸ Below.refl _ _⟩
    | cons x r =>
      obtain ⟨b, off, rfl, hb, _⟩ := hr 0 x rfl
      have hm : ((x :: r).map str).map (·.data.toList) = x :: r := by
        rw [List.map_map]
        have e : (fun s : ByteArray => s.data.toList) ∘ str = id := funext fun l => str_data l
        rw [e, List.map_id]
      have := Tryd.strings_Join b off c ((x :: r).map str) (str sep) w (fun j y hj => by
        rw [List.getElem?_map] at hj
        cases hx : (x :: r)[j]? with
        | none => rw [hx] at hj; cases hj
        | some l =>
          rw [hx] at hj
          injection hj with hj
          subst hj
          obtain ⟨b', off', e1, _, e2⟩ := hr j l hx
          injection e1 with e1
          injection e1 with e1 e3
          subst e1 e3
          exact e2) hb (by simpa using hn) (by simpa using hc) (by rw [hm, str_data]; exact hl)
      rw [hm, str_data, List.length_map] at this
      exact this
  have K := Lib.hid H
  clear H hR
  go_enter Tryd.func24, Tryd.ntmps24
  go_wp2_with fail
  refine K.out.mono ?_
  rintro e w1 ⟨rfl, hb1⟩
  go_wp2
  go_ret
  exact ret_mk hb1
end Go.Proofs.YtbjmfapoioebjaaDoor
