/- Plain laws: lists made element by element, each step may fail. -/
import Derived.Test.YtaokfppadfoniaaApp
import Derived.Test.YtaokfppadfoniaaPure5
namespace Go.Proofs.Ytaokfppadfoniaa
open Go.RowKit
set_option linter.unusedVariables false

def mapAll {α : Type} (f : Nat → Option α) : Nat → Option (List α)
  | 0 => some []
  | n + 1 => match mapAll f n with
    | none => none
    | some o => match f n with
      | none => none
      | some d => some (o ++ [d])
theorem mapAll_succ {α : Type} {f : Nat → Option α} {n : Nat} {o : List α} {d : α} (h : mapAll f n = some o) (hd : f n = some d) : mapAll f (n + 1) = some (o ++ [d]) := by
  unfold mapAll
  rw [h]
  simp only
  rw [hd]
theorem mapAll_stop {α : Type} {f : Nat → Option α} {k : Nat} (h : f k = none) : ∀ {n : Nat}, k < n → mapAll f n = none
  | 0, hk => absurd hk (by omega)
  | n + 1, hk => by
    unfold mapAll
    by_cases hn : k < n
    · rw [mapAll_stop h hn]
    · obtain rfl : k = n := by omega
      cases mapAll f k with
      | none => rfl
      | some o => simp only; rw [h]
theorem mapAll_len {α : Type} {f : Nat → Option α} : ∀ {n : Nat} {o : List α}, mapAll f n = some o → o.length = n
  | 0, o, h => by
    have e : some [] = some o := h
    injection e with e
    rw [← e]
    rfl
  | n + 1, o, h => by
    unfold mapAll at h
    cases h1 : mapAll f n with
    | none => rw [h1] at h; cases h
    | some o1 =>
      rw [h1] at h
      simp only at h
      cases h2 : f n with
      | none => rw [h2] at h; cases h
      | some d =>
        rw [h2] at h
        injection h with h
        rw [← h, List.length_append, mapAll_len h1]
        rfl
theorem mapAll_get {α : Type} {f : Nat → Option α} : ∀ {n : Nat} {o : List α}, mapAll f n = some o → ∀ i, i < n → o[i]? = f i
  | 0, o, _, i, hi => absurd hi (by omega)
  | n + 1, o, h, i, hi => by
    unfold mapAll at h
    cases h1 : mapAll f n with
    | none => rw [h1] at h; cases h
    | some o1 =>
      rw [h1] at h
      simp only at h
      cases h2 : f n with
      | none => rw [h2] at h; cases h
      | some d =>
        rw [h2] at h
        injection h with h
        have hl := mapAll_len h1
        rw [← h]
        by_cases hn : i < n
        · rw [List.getElem?_append_left (by omega)]
          exact mapAll_get h1 i hn
        · obtain rfl : i = n := by omega
          rw [List.getElem?_append_right (by omega), hl, h2]
          simp
theorem mapAll_congr {α : Type} {f g : Nat → Option α} : ∀ {n : Nat}, (∀ i, i < n → f i = g i) → mapAll f n = mapAll g n
  | 0, _ => rfl
  | n + 1, h => by
    unfold mapAll
    rw [mapAll_congr (n := n) (fun i hi => h i (by omega)), h n (by omega)]
/-- A slice of the call's own and a mark were returned. -/
def RetV (w : World) (t : TypeId) (ds : List DW) (ok : Bool) (e : Ending) (w' : World) : Prop :=
  ∃ A c, e = .returned (.tuple #[.slice A ds.length c, .bool ok]) ∧ OwnS w' w.heap.size t A ds ∧ Below w.heap.size w w'
/-- What both compute. -/
def scaleD (ds : List DW) (x : DW) : Option (List DW) := if okS ds = true then mapAll (fun i => (ds[i]?).bind (mulD · x)) ds.length else none
def addV (us vs : List DW) : Option (List DW) := if okS us = true ∧ okS vs = true ∧ us.length = vs.length then mapAll (fun i => (us[i]?).bind fun u => (vs[i]?).bind fun v => addD u v) us.length else none
/-- The running sum of the products u i * v i. -/
def dotN (us vs : List DW) : Nat → Option DW
  | 0 => some zeroD
  | n + 1 => match dotN us vs n with
    | none => none
    | some s => (us[n]?).bind fun u => (vs[n]?).bind fun v => (mulD u v).bind fun p => addD s p
def innerD (us vs : List DW) : Option DW := if okS us = true ∧ okS vs = true ∧ us.length = vs.length then dotN (us.map dconj) vs us.length else none
theorem dotN_succ {us vs : List DW} {n : Nat} {s u v p : DW} (h : dotN us vs n = some s) (hu : us[n]? = some u) (hv : vs[n]? = some v) (hp : mulD u v = some p) : dotN us vs (n + 1) = addD s p := by
  unfold dotN
  rw [h]
  simp only
  rw [hu, hv]
  simp only [Option.bind_some]
  rw [hp]
  rfl
theorem dotN_stop {us vs : List DW} {n : Nat} {u v : DW} (hu : us[n]? = some u) (hv : vs[n]? = some v) (hp : mulD u v = none) : dotN us vs (n + 1) = none := by
  unfold dotN
  cases dotN us vs n with
  | none => rfl
  | some s =>
    simp only
    rw [hu, hv]
    simp only [Option.bind_some]
    rw [hp]
    rfl
theorem dotN_none {us vs : List DW} {k : Nat} (h : dotN us vs k = none) : ∀ {n : Nat}, k ≤ n → dotN us vs n = none
  | 0, hk => by
    obtain rfl : k = 0 := by omega
    exact h
  | n + 1, hk => by
    by_cases e : k = n + 1
    · rw [← e]; exact h
    · unfold dotN
      rw [dotN_none h (n := n) (by omega)]
theorem dotN_inv {us vs : List DW} {n : Nat} {x : DW} (h : dotN us vs (n + 1) = some x) : ∃ s u v p, dotN us vs n = some s ∧ us[n]? = some u ∧ vs[n]? = some v ∧ mulD u v = some p ∧ addD s p = some x := by
  unfold dotN at h
  cases h1 : dotN us vs n with
  | none => rw [h1] at h; cases h
  | some s =>
    rw [h1] at h
    simp only at h
    cases h2 : us[n]? with
    | none => rw [h2] at h; cases h
    | some u =>
      cases h3 : vs[n]? with
      | none => rw [h2, h3] at h; cases h
      | some v =>
        rw [h2, h3] at h
        simp only [Option.bind_some] at h
        cases h4 : mulD u v with
        | none => rw [h4] at h; cases h
        | some p =>
          rw [h4] at h
          exact ⟨s, u, v, p, rfl, rfl, rfl, h4, h⟩
theorem okd_zero : okd zeroD = true := by decide
theorem dotN_ok {us vs : List DW} : ∀ {n : Nat} {x : DW}, dotN us vs n = some x → okd x = true
  | 0, x, h => by
    have e : some zeroD = some x := h
    injection e with e
    rw [← e]
    exact okd_zero
  | n + 1, x, h => by
    obtain ⟨s, u, v, p, _, _, _, _, h5⟩ := dotN_inv h
    exact (addD_inv h5).2.2.1
theorem reduce_zero : ∀ k, reduce ⟨0, 0, 0, 0⟩ k = (⟨0, 0, 0, 0⟩, 0)
  | 0 => rfl
  | k + 1 => by rw [reduce_some (show divZ ⟨0, 0, 0, 0⟩ = some ⟨0, 0, 0, 0⟩ from rfl)]; exact reduce_zero k
theorem newD_zero {k : Int} (h : 0 ≤ k ∧ k ≤ 120) : newD ⟨0, 0, 0, 0⟩ k = some zeroD := by
  unfold newD
  rw [if_pos ⟨by decide, h⟩, reduce_zero, if_pos (by simp)]
  rfl
theorem zmul_zero (y : ZO) : zmul ⟨0, 0, 0, 0⟩ y = ⟨0, 0, 0, 0⟩ := by apply zo_ext <;> simp [zmul]
theorem zadd_zero (x : ZO) : zadd x ⟨0, 0, 0, 0⟩ = x := by apply zo_ext <;> simp [zadd]
theorem mulD_zero {y : DW} (h : okd y = true) : mulD zeroD y = some zeroD := by
  have e := mulZ_mk (x := ⟨0, 0, 0, 0⟩) (y := y.n) (by decide) (okd_parts h).1 (by rw [zmul_zero]; decide)
  rw [zmul_zero] at e
  unfold mulD
  rw [if_pos ⟨okd_zero, h⟩]
  show (mulZ ⟨0, 0, 0, 0⟩ y.n).bind _ = _
  rw [e]
  have := (okd_parts h).2.1
  exact newD_zero (by simp [zeroD]; omega)
theorem upZ_zero : ∀ k, upZ ⟨0, 0, 0, 0⟩ k = some ⟨0, 0, 0, 0⟩
  | 0 => rfl
  | k + 1 => by rw [upZ_some (show mulZ ⟨0, 0, 0, 0⟩ rootZ = some ⟨0, 0, 0, 0⟩ from rfl)]; exact upZ_zero k
theorem addD_zero {x : DW} (h : okd x = true) : addD x zeroD = some x := by
  obtain ⟨h1, h2, _⟩ := okd_parts h
  have em : max x.k zeroD.k = x.k := by simp [zeroD]; omega
  unfold addD
  rw [if_pos ⟨h, okd_zero⟩, em]
  have e0 : (x.k - x.k).toNat = 0 := by omega
  rw [e0]
  show (match upZ x.n 0, upZ ⟨0, 0, 0, 0⟩ (x.k - zeroD.k).toNat with | some a, some b => (addZ a b).bind fun n => newD n x.k | _, _ => none) = some x
  rw [upZ_zero]
  show (addZ x.n ⟨0, 0, 0, 0⟩).bind _ = _
  rw [addZ_mk h1 (by decide) (by rw [zadd_zero]; exact h1), zadd_zero]
  exact newD_self h
/-- A product with zero leaves the sum as it is. -/
theorem dotN_skip {us vs : List DW} {n : Nat} {s u v : DW} (h : dotN us vs n = some s) (hu : us[n]? = some u) (hv : vs[n]? = some v) (ou : okd u = true) (ov : okd v = true) (hz : u = zeroD ∨ v = zeroD) : dotN us vs (n + 1) = some s := by
  have hp : mulD u v = some zeroD := by
    rcases hz with rfl | rfl
    · exact mulD_zero ov
    · rw [mulD_cm]; exact mulD_zero ou
  rw [dotN_succ h hu hv hp]
  exact addD_zero (dotN_ok h)
theorem okS_parts {ds : List DW} (h : okS ds = true) : qc ds.length ≠ 0 ∧ ∀ d ∈ ds, okd d = true := by
  unfold okS at h
  rw [Bool.and_eq_true, bne_iff_ne] at h
  exact ⟨h.1, fun d hd => List.all_eq_true.1 h.2 d hd⟩
theorem qc_bound {n : Nat} (h : qc n ≠ 0) : 0 < n ∧ n ≤ 16 := by
  unfold qc at h
  by_cases h1 : n = 2
  · omega
  by_cases h2 : n = 4
  · omega
  by_cases h3 : n = 8
  · omega
  by_cases h4 : n = 16
  · omega
  · simp [h1, h2, h3, h4] at h
theorem okS_len {ds : List DW} (h : okS ds = true) : 0 < ds.length ∧ ds.length ≤ 16 := qc_bound (okS_parts h).1
theorem okS_at {ds : List DW} (h : okS ds = true) {i : Nat} {d : DW} (hd : ds[i]? = some d) : okd d = true := (okS_parts h).2 d (List.mem_of_getElem? hd)
theorem scaleD_len {ds o : List DW} {x : DW} (h : scaleD ds x = some o) : o.length = ds.length := by
  unfold scaleD at h
  split at h
  · exact mapAll_len h
  · cases h
theorem scaleD_le (ds : List DW) (x : DW) : ((scaleD ds x).getD []).length ≤ 16 := by
  cases h : scaleD ds x with
  | none => simp
  | some o =>
    have := scaleD_len h
    unfold scaleD at h
    split at h
    · rename_i hk
      have := okS_len hk
      simp
      omega
    · cases h
theorem addV_le (us vs : List DW) : ((addV us vs).getD []).length ≤ 16 := by
  cases h : addV us vs with
  | none => simp
  | some o =>
    unfold addV at h
    split at h
    · rename_i hk
      have := okS_len hk.1
      have := mapAll_len h
      simp
      omega
    · cases h
end Go.Proofs.Ytaokfppadfoniaa
