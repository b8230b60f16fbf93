/- Contracts: sizes and copies of slices of strings; how such an argument is opened. -/
import Derived.Test.YtbjmfapoioebjaaJn
import Derived.Test.YtbjmfapoioebjaaClose
import Derived.Deep.Slices
namespace Go.Proofs.Ytbjmfapoioebjaa
open Go.ChangeShapes Go.WideShapes Go.ChangeAt Go.RowKit Go.Deep
set_option linter.unusedVariables false
set_option maxRecDepth 20000

def totX (ls : List (List UInt8)) : Nat := ls.length + (ls.map List.length).sum
def partX (ls : List (List UInt8)) (k : Nat) : Nat := ((ls.take k).map List.length).sum
theorem partX_succ {ls : List (List UInt8)} {k : Nat} {r : List UInt8} (h : ls[k]? = some r) : partX ls (k + 1) = partX ls k + r.length := by
  obtain ⟨l1, e1⟩ := List.getElem?_eq_some_iff.1 h
  unfold partX
  rw [List.take_succ_eq_append_getElem l1, List.map_append, List.sum_append, e1]
  simp
theorem partX_le (ls : List (List UInt8)) (k : Nat) : ls.length + partX ls k ≤ totX ls := by
  unfold partX totX
  have h : ((ls.take k).map List.length).sum + ((ls.drop k).map List.length).sum = (ls.map List.length).sum := by
    rw [← List.sum_append, ← List.map_append, List.take_append_drop]
  omega
theorem partX_all {ls : List (List UInt8)} {k : Nat} (h : ls.length ≤ k) : ls.length + partX ls k = totX ls := by
  unfold partX totX
  rw [List.take_of_length_le h]
theorem join_len (ls : List (List UInt8)) (sep : List UInt8) : (Lib.join ls sep).length ≤ totX ls + sep.length * ls.length := by
  cases ls with
  | nil => simp [Lib.join_nil]
  | cons x r =>
    rw [Lib.join_cons, List.length_append, Lib.joinTail_length]
    have h1 : Lib.lens r = (r.map List.length).sum := rfl
    have h2 : totX (x :: r) = r.length + 1 + (x.length + (r.map List.length).sum) := by simp [totX]
    have h3 : sep.length * (x :: r).length = sep.length * r.length + sep.length := by rw [List.length_cons, Nat.mul_succ]
    omega
def SzX (n : Nat) (l : Int) (ls : List (List UInt8)) (v i : Value) : Prop := ∃ k : Nat, k ≤ n ∧ i = .int .i64 (k : Int) ∧ ∃ m : Int, v = .int .i64 m ∧ m = l - n - partX ls k ∧ 0 ≤ m
set_option maxHeartbeats 400000 in
theorem szX (A : Option Addr) (n c : Nat) (l v : Int) (ls : List (List UInt8)) (w : World) (hR : RX w w.heap.size A n ls) (h0 : 0 ≤ l) (hl : l ≤ 1048576) (hn : n ≤ 9223372036854775807) (hr : ∀ r ∈ ls, r.length ≤ 9223372036854775807)
    (hv : v = if (totX ls : Int) ≤ l then l - totX ls else -1) :
    Calls Try.prog 4 #[.slice A n c, .int .i64 l] w fun e w' => e = .returned (.int .i64 v) ∧ w = w' := by
  have HR := Lib.hid hR
  have HN := Lib.hid hR.1
  have HV := Lib.hid hv
  have HRR := Lib.hid hr
  clear hR hv hr
  by_cases hnl : l < (n : Int)
  · have e : v = -1 := by
      rw [HV.out, if_neg]
      have := partX_le ls 0
      have := HN.out
      omega
    subst e
    go_enter Try.func4, Try.ntmps4
    go_wp2
    go_ret
    exact ⟨rfl, rfl⟩
  · go_enter Try.func4, Try.ntmps4
    go_wp2
    go_loop [1, 5] (fun v i => SzX n l ls v i) (fun _ i => n - (intOf i).toNat)
    case atStart => exact ⟨0, by omega, rfl, _, rfl, by simp [partX], by omega⟩
    case round =>
      obtain ⟨k, hk, rfl, m, rfl, hm, hm0⟩ := hrel
      have HM := Lib.hid hm
      have hm1 : m ≤ 1048576 := by omega
      clear hm
      by_cases hlt : k < n
      · have hd : decide ((k : Int) < (n : Int)) = true := by simp; omega
        obtain ⟨b, off, r, rfl, hB, hr, c0⟩ := HR.out.at hlt
        have HX := Lib.hid hr
        have hrl : r.length ≤ 9223372036854775807 := HRR.out r (List.mem_of_getElem? hr)
        have hss : (str r).size = r.length := str_size r
        have HSS := Lib.hid hss
        have hrl' : (str r).size ≤ 9223372036854775807 := by rw [hss]; exact hrl
        clear hr hss
        by_cases hle : ((str r).size : Int) ≤ m
        · have hge : (0 : Int) ≤ m - (str r).size := by omega
          have hdd : decide (m - ((str r).size : Int) < 0) = false := by simp; omega
          go_wp2
          go_round
          case rel => exact ⟨k + 1, by omega, by go_num, _, rfl, by have := HM.out; have := partX_succ HX.out; have := HSS.out; omega, hge⟩
          case measure => simp [intOf]; omega
        · have e : v = -1 := by
            rw [HV.out, if_neg]
            have := partX_le ls (k + 1)
            have := partX_succ HX.out
            have := HM.out
            have := HN.out
            have := HSS.out
            omega
          subst e
          have hdd : decide (m - ((str r).size : Int) < 0) = true := by simp; omega
          go_wp2
          go_ret
          exact ⟨rfl, rfl⟩
      · have hd : decide ((k : Int) < (n : Int)) = false := by simp; omega
        have e : v = m := by
          have h1 := partX_all (ls := ls) (k := k) (by have := HN.out; omega)
          have h2 := HM.out
          have h3 := HN.out
          rw [HV.out, if_pos (by omega)]
          omega
        subst e
        go_wp2
        go_ret
        exact ⟨rfl, rfl⟩
theorem run_make_rowX {P : Program} (t e : TypeId) (i : TypeInfo) (z : Value) (ht : P.underlying t = some (.slice e)) (hi : P.info? e = some i) (hz : i.zero = some z)
    (kl kc : IntKind) (n c : Nat) (hnc : n ≤ c) (hbytes : i.bytes * c ≤ 281474976710656) (h63 : c ≤ 9223372036854775807) (w : World) :
    (Instr.makeSlice t (.int kl (n : Int)) (.int kc (c : Int))).run P w = .ok (.slice (some ⟨w.heap.size, 0, none⟩) n c) (w.alloc (.cells (madeCells z.cells (c * i.size)) e)) := by
  have hb : (i.bytes : Int) * (c : Int) ≤ 281474976710656 := by
    have h : ((i.bytes * c : Nat) : Int) ≤ 281474976710656 := by omega
    rwa [Int.natCast_mul] at h
  have hr := run_make (P := P) w t e i z ht hi hz kl kc n c (by omega) (by omega) hb (by omega)
  simp only [Int.toNat_natCast] at hr
  exact hr
def zerosX (n : Nat) : Array Value := madeCells #[.string ⟨#[]⟩] n
theorem makeX (n : Nat) (hn : n ≤ 2000000) (w : World) : (Instr.makeSlice 22 (.int .i64 (n : Int)) (.int .i64 (n : Int))).run Try.prog w = .ok (.slice (some ⟨w.heap.size, 0, none⟩) n n) (w.alloc (.cells (zerosX n) 9)) := by
  obtain ⟨i0, hi, hz0, hz1, hz2⟩ := info_parts infoX
  have := run_make_rowX 22 9 i0 _ Try.underlying22 hi hz0 .i64 .i64 n n (Nat.le_refl _) (by rw [hz2]; omega) (by omega) w
  rw [hz1, Nat.mul_one] at this
  exact this
def RetTX (w : World) (ls : List (List UInt8)) (e : Ending) (w' : World) : Prop :=
  e = .returned (.slice (some ⟨w.heap.size, 0, none⟩) ls.length ls.length) ∧ OwnX w' w.heap.size (some ⟨w.heap.size, 0, none⟩) ls ∧ Below w.heap.size w w'
def ToXRel (w : World) (n : Nat) (ls : List (List UInt8)) (i : Value) (wr : World) : Prop :=
  ∃ k : Nat, k ≤ n ∧ i = .int .i64 (k : Int) ∧ ∃ f : Nat → Value, wr.rowIs w.heap.size 9 n f ∧ (∀ j l, j < k → ls[j]? = some l → f j = .string (str l)) ∧ Below w.heap.size w wr ∧ w.heap.size < wr.heap.size
set_option maxHeartbeats 400000 in
theorem toX (A : Option Addr) (n c : Nat) (ls : List (List UInt8)) (w : World) (hR : RX w w.heap.size A n ls) (hn : n ≤ 1048576) : Calls Try.prog 6 #[.slice A n c] w (RetTX w ls) := by
  have hmk := fun W => makeX n (by omega) W
  have HN := Lib.hid hR.1
  have HR := Lib.hid hR
  clear hR
  go_enter Try.func6, Try.ntmps6
  go_wp2
  go_loopw [4] (fun i wr => ToXRel w n ls i wr) (fun i _ => n - (intOf i).toNat)
  case atStart => exact ⟨0, by omega, rfl, _, World.rowIs_made w _ n _, fun j l h => absurd h (by omega), bl_alloc (Below.refl _ _) _, by simp⟩
  case round =>
    obtain ⟨k, hk, rfl, f, hrow, hf, hb, hs⟩ := hrel
    clear hmk
    have HF := Lib.hid hf
    by_cases hlt : k < n
    · have hd : decide ((k : Int) < (n : Int)) = true := by simp; omega
      obtain ⟨b, off, r, rfl, hB, hx, c0⟩ := (HR.out.keep hb).at hlt
      have HX := Lib.hid hx
      have q0 := hrow.cell (i := k) (by omega)
      have r0 := hrow.frozen k
      have HROW := Lib.hid hrow
      clear hx hrow hf
      have i0 : (0 : Int) ≤ (k : Int) := by omega
      have i1 : (k : Int) < (n : Int) := by omega
      go_wp2
      go_roundw
      case rel =>
        refine ⟨k + 1, by omega, by go_num, _, HROW.out.set k _, fun j l hj hl => ?_, bl_set hb (Nat.le_refl _) _, by simp; omega⟩
        by_cases e : j = k
        · subst e
          rw [if_pos rfl]
          rw [HX.out] at hl
          injection hl with hl
          rw [hl]
        · rw [if_neg e]
          exact HF.out j l (by omega) hl
      case measure => simp [intOf]; omega
    · have hd : decide ((k : Int) < (n : Int)) = false := by simp; omega
      have HK := Lib.hid (show k = n by omega)
      have HROW := Lib.hid hrow
      clear hrow hf
      go_wp2
      go_ret
      have e := HN.out
      subst e
      have e2 := HK.out
      subst e2
      exact ⟨rfl, fun _ => ⟨w.heap.size, _, f, rfl, Nat.le_refl _, Nat.le_refl _, HROW.out, fun j l hj => HF.out j l (List.getElem?_eq_some_iff.1 hj).1 hj⟩, hb⟩
theorem RX.of_cells {w : World} {a : Addr} {n : Nat} (h : ∀ i, i < n → ∃ s : ByteArray, w.cell? (a.add i) = some (.string s) ∧ s.size ≤ 9223372036854775807) :
    ∃ ls, RX w w.heap.size (some a) n ls ∧ ∀ r ∈ ls, r.length ≤ 9223372036854775807 := by
  by_cases hn : n = 0
  · subst hn
    exact ⟨[], ⟨rfl, by simp⟩, by simp⟩
  have hs : a.spot = none := by
    obtain ⟨s0, q0, _⟩ := h 0 (by omega)
    have := World.cell?_spot q0
    simpa [Addr.add] using this
  obtain ⟨b, off, sp⟩ := a
  simp only at hs
  subst hs
  have h' : ∀ i, i < n → ∃ s : ByteArray, w.cell? ⟨b, off + i, none⟩ = some (.string s) ∧ s.size ≤ 9223372036854775807 := fun i hi => by
    obtain ⟨s, q, hs⟩ := h i hi
    rw [add_plain] at q
    exact ⟨s, q, hs⟩
  have hlt : b < w.heap.size := by
    obtain ⟨s0, q0, _⟩ := h' 0 (by omega)
    rcases Nat.lt_or_ge b w.heap.size with hl | hl
    · exact hl
    · simp [World.cell?, Array.getElem?_eq_none hl] at q0
  clear h
  refine ⟨(List.range n).map (fun i => if hi : i < n then (Classical.choose (h' i hi)).data.toList else []), ⟨by simp, fun i l hl => ?_⟩, fun r hr => ?_⟩
  · have hi : i < n := by
      have := (List.getElem?_eq_some_iff.1 hl).1
      simpa using this
    rw [List.getElem?_map, List.getElem?_range hi] at hl
    simp only [Option.map_some, Option.some.injEq, hi, dite_true] at hl
    obtain ⟨q, _⟩ := Classical.choose_spec (h' i hi)
    subst hl
    rw [str_of]
    exact ⟨b, off, rfl, hlt, q⟩
  · obtain ⟨i, hi, rfl⟩ := List.mem_map.1 hr
    have hi' : i < n := List.mem_range.1 hi
    simp only [hi', dite_true]
    have := (Classical.choose_spec (h' i hi')).2
    simpa using this
theorem open_X {H : Type} {enc : TypeId × Value → H} {w : World} {base b0 : Nat} {r : Reach} {spare : Nat → Bool} {held : Bool} {v : Value} {d : DataW H} {p : List MemPlace}
    (hv : Value.okWide Try.prog w r b0 22 v) (h : DataW.Trod enc Try.prog w base spare held 22 v d p) :
    ∃ (A : Option Addr) (n c : Nat) (ls : List (List UInt8)), v = .slice A n c ∧ RX w w.heap.size A n ls ∧ (∀ r ∈ ls, r.length ≤ 9223372036854775807) ∧ n ≤ 9223372036854775807 ∧ n ≤ c := by
  obtain ⟨A, n, c, rfl⟩ := okWide_slice Try.underlying22 hv
  obtain ⟨fuel, hf⟩ := h
  rcases open_slice1 Try.underlying22 (by kernel_rfl) hf with ⟨hcs, _⟩ | ⟨a, len, cap, m, n', V, D, Pl, hcs, _, hl, hm, hmm, _, hi⟩
  · simp [Value.cells] at hcs
    obtain ⟨rfl, rfl, rfl⟩ := hcs
    exact ⟨none, 0, 0, [], rfl, ⟨rfl, by simp⟩, by simp, by omega, by omega⟩
  · simp [Value.cells] at hcs
    obtain ⟨rfl, rfl, rfl⟩ := hcs
    obtain ⟨ls, hR, hd⟩ := RX.of_cells (w := w) (a := a) (n := n) (fun i hin => by
      have hle : n ≤ m := by rw [hmm]; split <;> omega
      obtain ⟨hc, ht⟩ := hi i (by omega)
      obtain ⟨s, hx, _, hs⟩ := DataW.trod_string Try.underlying9 ht
      simp at hx
      unfold maxLen at hs
      exact ⟨s, by rw [hc, hx], by omega⟩)
    exact ⟨_, _, _, ls, rfl, hR, hd, by unfold maxLen at hm; omega, hl⟩
end Go.Proofs.Ytbjmfapoioebjaa
