/- Slices of strings: read, made by a call, grown by append; the marks that the laws write into them. -/
import Derived.Test.YtbjmfapoioebjaaDoorFm
import Derived.Test.YtbjmfapoioebjaaDoorRd
import Derived.Deep.OwnRows
import Derived.OwnWalk
import Derived.Deep.RegionHeld3
namespace Go.Proofs.YtbjmfapoioebjaaDoor
open Go.RowKit
set_option linter.unusedVariables false
set_option maxRecDepth 20000

/-- The slice at A of n strings reads as ls and lies below block B. -/
def RX (w : World) (B : Nat) (A : Option Addr) (n : Nat) (ls : List (List UInt8)) : Prop :=
  n = ls.length ∧ ∀ i l, ls[i]? = some l → ∃ b off, A = some ⟨b, off, none⟩ ∧ b < B ∧ w.cell? ⟨b, off + i, none⟩ = some (.string (str l))
/-- The slice at A holds ls in a block from 'base' on that may be written. -/
def OwnX (w : World) (base : Nat) (A : Option Addr) (ls : List (List UInt8)) : Prop :=
  0 < ls.length → ∃ (g N : Nat) (f : Nat → Value), A = some ⟨g, 0, none⟩ ∧ base ≤ g ∧ ls.length ≤ N ∧ w.rowIs g 9 N f ∧ ∀ j l, ls[j]? = some l → f j = .string (str l)
/-- A slice of strings of the call's own was returned. -/
def RetX (w : World) (ls : List (List UInt8)) (e : Ending) (w' : World) : Prop :=
  ∃ A c, e = .returned (.slice A ls.length c) ∧ ls.length ≤ c ∧ OwnX w' w.heap.size A ls ∧ Below w.heap.size w w'
theorem RX.at {w : World} {B : Nat} {A : Option Addr} {n : Nat} {ls : List (List UInt8)} (h : RX w B A n ls) {i : Nat} (hi : i < n) :
    ∃ b off l, A = some ⟨b, off, none⟩ ∧ b < B ∧ ls[i]? = some l ∧ w.cell? ⟨b, off + i, none⟩ = some (.string (str l)) := by
  have hl : i < ls.length := by rw [← h.1]; exact hi
  obtain ⟨b, off, h1, h2, h3⟩ := h.2 i _ (List.getElem?_eq_getElem hl)
  exact ⟨b, off, _, h1, h2, List.getElem?_eq_getElem hl, h3⟩
theorem RX.keep {w w' : World} {B : Nat} {A : Option Addr} {n : Nat} {ls : List (List UInt8)} (h : RX w B A n ls) (hb : Below B w w') : RX w' B A n ls :=
  ⟨h.1, fun i l hi => by
    obtain ⟨b, off, h1, h2, h3⟩ := h.2 i l hi
    exact ⟨b, off, h1, h2, (hb.cell h2).trans h3⟩⟩
theorem RX.more {w : World} {B B' : Nat} {A : Option Addr} {n : Nat} {ls : List (List UInt8)} (h : RX w B A n ls) (hB : B ≤ B') : RX w B' A n ls :=
  ⟨h.1, fun i l hi => by
    obtain ⟨b, off, h1, h2, h3⟩ := h.2 i l hi
    exact ⟨b, off, h1, by omega, h3⟩⟩
theorem OwnX.call {w w' : World} {base : Nat} {A : Option Addr} {ls : List (List UInt8)} (h : OwnX w base A ls) (hb : Below w.heap.size w w') : OwnX w' base A ls := fun hp => by
  obtain ⟨g, N, f, h1, h2, h3, h4, h5⟩ := h hp
  exact ⟨g, N, f, h1, h2, h3, h4.of_block (hb.block g h4.lt), h5⟩
theorem OwnX.read {w : World} {base : Nat} {A : Option Addr} {ls : List (List UInt8)} (h : OwnX w base A ls) : RX w w.heap.size A ls.length ls :=
  ⟨rfl, fun i l hi => by
    have hl : i < ls.length := (List.getElem?_eq_some_iff.1 hi).1
    obtain ⟨g, N, f, rfl, h2, h3, h4, h5⟩ := h (by omega)
    refine ⟨g, 0, rfl, h4.lt, ?_⟩
    rw [Nat.zero_add, h4.cell (by omega), h5 i l hi]⟩
def cellsX (ls : List (List UInt8)) : List Value := ls.map fun l => .string (str l)
/-- v is a slice of the call's own (blocks from 'base' on) that holds ls. -/
def OutX (w : World) (base : Nat) (v : Value) (ls : List (List UInt8)) : Prop := w.ownsRow base 9 1 v ls.length (cellsX ls)
theorem OutX.alloc {w : World} {base : Nat} {v : Value} {ls : List (List UInt8)} (h : OutX w base v ls) (o : Obj) : OutX (w.alloc o) base v ls := World.ownsRow.alloc h o
theorem OutX.start (w : World) (base : Nat) (cs : Array Value) (hb : base ≤ w.heap.size) (hs : cs.size = 0) : OutX (w.alloc (.cells cs 9)) base (.slice (some ⟨w.heap.size, 0, none⟩) 0 0) [] :=
  World.ownsRow_made w cs 0 hb (by unfold maxLen; omega) (by omega)
theorem OutX.slice {w : World} {base : Nat} {v : Value} {ls : List (List UInt8)} (h : OutX w base v ls) : ∃ A c, v = .slice A ls.length c ∧ ls.length ≤ c ∧ OwnX w base A ls := by
  obtain ⟨h1, h2⟩ := h
  rcases h2 with ⟨rfl, h0⟩ | ⟨g, cap, cur, rfl, e2, e3, e4, e5, e6, e7⟩
  · have e : ls = [] := List.eq_nil_of_length_eq_zero h0
    subst e
    exact ⟨none, 0, rfl, by simp, fun h => absurd h (by simp)⟩
  · refine ⟨_, _, rfl, e4, fun _ => ⟨g, cur.size, fun j => cur[j]?.getD undef, rfl, e2, by omega, ?_, ?_⟩⟩
    · exact ⟨cur, e3, rfl, fun i hi => by show cur[i]? = some (cur[i]?.getD undef); rw [Array.getElem?_eq_getElem hi]; rfl⟩
    · intro j l hj
      have hl : j < ls.length := (List.getElem?_eq_some_iff.1 hj).1
      have q : (cellsX ls)[j]? = some (.string (str l)) := by unfold cellsX; rw [List.getElem?_map, hj]; rfl
      rw [← e7, List.getElem?_take, if_pos (by omega)] at q
      rw [Array.getElem?_toList] at q
      show cur[j]?.getD undef = _
      rw [q]
      rfl
theorem infoX : (Tryd.prog.info? 9).map (fun i => (i.zero, i.size, i.bytes)) = some (some (.string ⟨#[]⟩), 1, 16) := by kernel_rfl
theorem app_stepX {ops : Array Oper} {rest : List Oper} {o : Oper} {a : Act} {Q : Exit → Act → World → Prop} (w : World) (hgd : o.guard = none) (s x : Operand)
    (ho : o.op = .call { callee := .builtin .append, args := #[s, x], argTypes := #[24, 24] }) (base : Nat) (v : Value) (ls : List (List UInt8)) (hs : a.eval s = v)
    (hown : OutX w base v ls) (g : Nat) (l : List UInt8) (hx : a.eval x = .slice (some ⟨g, 0, none⟩) 1 1) (hB : w.cell? ⟨g, 0, none⟩ = some (.string (str l)))
    (hl : ls.length ≤ 2000000) (hbase : base ≤ w.heap.size)
    (h : ∀ (v' : Value) (w' : World), OutX w' base v' (ls ++ [l]) → w.grownBy w' v.ownBlock → (∀ k, v.ownBlock = some k → base ≤ k) → wpList Tryd.prog ops Q rest (a.put o.dst v') w') :
    wpList Tryd.prog ops Q (o :: rest) a w := by
  obtain ⟨i0, hi, hz0, hz1, hz2⟩ := info_parts infoX
  refine wpList_append_own w hgd s x _ ho base _ i0 _ 1 16 Tryd.underlying24 hi hz0 hz1 hz2 rfl (by decide) v ls.length (cellsX ls) hs hown ⟨g, 0, none⟩ 1 1
    [.string (str l)] hx rfl ?_ ?_ (by unfold maxLen; omega) (by omega) hbase ?_
  · intro j u hj
    match j, hj with
    | 0, hj =>
      simp at hj
      subst hj
      have e : (⟨g, 0, none⟩ : Addr).add 0 = ⟨g, 0, none⟩ := by simp [Addr.add]
      rw [e, hB]
    | j + 1, hj => simp at hj
  · intro u hu
    simp at hu
    subst hu
    rfl
  · intro v' w' hown' hg _
    refine h v' w' ?_ hg (fun k hk => (World.ownsRow.lt hown k hk).1)
    unfold OutX cellsX
    rw [List.map_append, List.length_append]
    exact hown'
theorem below_grownX {B : Nat} {w W W' : World} {row : Option Nat} (h : Below B w W) (hg : W.grownBy W' row) (hrow : ∀ k, row = some k → B ≤ k) (hB : B ≤ W.heap.size) : Below B w W' :=
  h.grown hg hB hrow
def EqRel (w : World) (n : Nat) (i : Value) (wr : World) : Prop := ∃ k : Nat, k ≤ n ∧ i = .int .i64 (k : Int) ∧ Below w.heap.size w wr
set_option maxHeartbeats 400000 in
theorem eqX (A B : Option Addr) (n c c' : Nat) (ls : List (List UInt8)) (w : World) (hA : RX w w.heap.size A n ls) (hB : RX w w.heap.size B n ls) (hn : n ≤ 2000000) : Calls Tryd.prog 16 #[.slice A n c, .slice B n c'] w (Ret (.bool true) w) := by
  have HA := Lib.hid hA
  have HB := Lib.hid hB
  clear hA hB
  go_enter Tryd.func16, Tryd.ntmps16
  go_wp2
  go_loopw [5] (fun i wr => EqRel w n i wr) (fun i _ => n - (intOf i).toNat)
  case atStart => exact ⟨0, by omega, rfl, Below.refl _ _⟩
  case round =>
    obtain ⟨k, hk, rfl, hb⟩ := hrel
    by_cases hlt : k < n
    · have hd : decide ((k : Int) < (n : Int)) = true := by simp; omega
      obtain ⟨b1, o1, l1, rfl, hl1, e1, c1⟩ := (HA.out.keep hb).at hlt
      obtain ⟨b2, o2, l2, rfl, hl2, e2, c2⟩ := (HB.out.keep hb).at hlt
      obtain rfl : l1 = l2 := by rw [e1] at e2; exact Option.some.inj e2
      clear e1 e2
      have eq := tl_eq (rfl : str l1 = str l1)
      have i0 : (0 : Int) ≤ (k : Int) := by omega
      have i1 : (k : Int) < (n : Int) := by omega
      go_wp2_with fail
      go_region_held3 (fun w' => w'.cell? ⟨b1, o1 + k, none⟩ = some (.string (str l1)) ∧ w'.cell? ⟨b2, o2 + k, none⟩ = some (.string (str l1))) (first | exact ⟨c1, c2⟩ | go_keep) (first | fail)
      go_wp2
      go_roundw
      case rel => exact ⟨k + 1, by omega, by go_num, hb.drew⟩
      case measure => simp [intOf]; omega
    · have hd : decide ((k : Int) < (n : Int)) = false := by simp; omega
      go_wp2
      go_ret
      exact ret_mk hb
def MtRel (w : World) (u : Nat) (n o : Value) (wr : World) : Prop :=
  ∃ (m : Nat) (l : List UInt8), m ≤ u ∧ n = .int .i64 (m : Int) ∧ o = .string (str l) ∧ ddg m ++ l = ddg u ∧ Below w.heap.size w wr
def mark (k : Nat) : List UInt8 := 109 :: Lib.decDigits k
set_option maxHeartbeats 400000 in
theorem markT (n : Nat) (w : World) (h0 : 1 ≤ n) (h1 : n ≤ 9223372036854775807) : Calls Tryd.prog 39 #[.int .i64 (n : Int)] w (Ret (.string (str (mark n))) w) := by
  have hz : decide ((n : Int) ≤ 0) = false := by simp; omega
  go_enter Tryd.func39, Tryd.ntmps39
  go_wp2
  go_loopw [0, 3] (fun v o wr => MtRel w n v o wr) (fun v _ _ => (intOf v).natAbs)
  case atStart => exact ⟨n, [], Nat.le_refl _, rfl, rfl, by simp, Below.refl _ _⟩
  case round =>
    obtain ⟨m, l, hm, rfl, rfl, hd, hb⟩ := hrel
    have hl := ddg_len (by omega) hd
    have HD := Lib.hid hd
    clear hd
    have hls : (str l).size ≤ 19 := by rw [str_size]; exact hl
    by_cases hm0 : m = 0
    · subst hm0
      have hsz : (ByteArray.mk #[109]).size + (str l).size ≤ 9223372036854775807 := by show 1 + _ ≤ _; omega
      go_wp2
      go_ret
      have e : l = Lib.decDigits n := by
        have := HD.out
        unfold ddg at this
        rw [if_pos rfl, if_neg (by omega)] at this
        simpa using this
      refine ret_eq ?_ hb
      unfold mark
      rw [← e]
      rfl
    · have q1 : decide ((0 : Int) < (m : Int)) = true := by simp; omega
      have i0 : (0 : Int) ≤ (m : Int) := by omega
      have i1 : (m : Int) ≤ 9223372036854775807 := by omega
      have i2 : (0 : Int) ≤ (m : Int) % 10 := by omega
      have i3 : (m : Int) % 10 ≤ 9 := by omega
      have i4 : (0 : Int) ≤ 48 + (m : Int) % 10 := by omega
      have i5 : 48 + (m : Int) % 10 ≤ 255 := by omega
      have hk := one_byte wr (48 + (m : Int) % 10) i4 i5
      obtain ⟨S1, hS1⟩ : ∃ s, str [UInt8.ofNat (48 + (m : Int) % 10).toNat] = s := ⟨_, rfl⟩
      rw [hS1] at hk
      have hsz : S1.size + (str l).size ≤ 9223372036854775807 := by rw [← hS1, str_size]; simp; omega
      have HS1 := Lib.hid hS1
      clear hS1
      go_wp2
      go_roundw
      case rel =>
        refine ⟨m / 10, UInt8.ofNat (48 + m % 10) :: l, by omega, ?_, ?_, digit_step hm0 HD.out, bl_alloc hb _⟩
        · congr 1
        · rw [← HS1.out, str_append]
          have e : (48 + (m : Int) % 10).toNat = 48 + m % 10 := by omega
          rw [e]
          rfl
      case measure => simp [intOf]; omega
end Go.Proofs.YtbjmfapoioebjaaDoor
