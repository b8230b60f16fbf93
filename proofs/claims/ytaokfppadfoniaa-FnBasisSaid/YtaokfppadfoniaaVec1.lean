/- Plain laws of sums of products: conjugate symmetry, phases, basis states. -/
import Derived.Test.YtaokfppadfoniaaVec0
import Derived.Test.YtaokfppadfoniaaPf
namespace Go.Proofs.Ytaokfppadfoniaa
open Go.RowKit
set_option linter.unusedVariables false

theorem dconj_dconj (x : DW) : dconj (dconj x) = x := by cases x with | mk n k => cases n; simp [dconj, zconj]
theorem zconj_add (x y : ZO) : zconj (zadd x y) = zadd (zconj x) (zconj y) := by apply zo_ext <;> simp only [zconj, zadd] <;> omega
theorem zupn_conj (n : Nat) (x : ZO) : zupn n (zconj x) = zconj (zupn n x) := by
  induction n with
  | zero => rfl
  | succ n ih => simp only [zupn]; rw [ih, zup_conj]
theorem val_conj (L : Nat) (d : DW) : val L (dconj d) = zconj (val L d) := by
  unfold val dconj
  exact zupn_conj _ _
theorem addD_conj {x y s t : DW} (h : addD x y = some s) (k : addD (dconj x) (dconj y) = some t) : t = dconj s := by
  obtain ⟨_, _, o1, e1⟩ := addD_inv h
  obtain ⟨_, _, o2, e2⟩ := addD_inv k
  refine val_inj (L := 60) (by omega) o2 (by rw [okd_conj]; exact o1) ?_
  rw [e2 60 (by omega), val_conj, val_conj, val_conj, e1 60 (by omega), zconj_add]
theorem map_conj_at {us : List DW} {n : Nat} {u : DW} (h : (us.map dconj)[n]? = some u) : us[n]? = some (dconj u) := by
  rw [List.getElem?_map] at h
  cases h1 : us[n]? with
  | none => rw [h1] at h; cases h
  | some v =>
    rw [h1] at h
    injection h with h
    rw [← h, dconj_dconj]
/-- The sum of products is conjugate symmetric. -/
theorem dot_sym {us vs : List DW} : ∀ {n : Nat} {x y : DW}, dotN (us.map dconj) vs n = some x → dotN (vs.map dconj) us n = some y → y = dconj x
  | 0, x, y, h, k => by
    have e : some zeroD = some x := h
    have e' : some zeroD = some y := k
    injection e with e
    injection e' with e'
    rw [← e, ← e']
    rfl
  | n + 1, x, y, h, k => by
    obtain ⟨s, u, v, p, h1, h2, h3, h4, h5⟩ := dotN_inv h
    obtain ⟨s', v', u', p', k1, k2, k3, k4, k5⟩ := dotN_inv k
    have es := dot_sym h1 k1
    have e2 := map_conj_at h2
    have e3 := map_conj_at k2
    rw [h3] at e3
    rw [k3] at e2
    injection e2 with e2
    injection e3 with e3
    have e4 := mulD_conj h4
    rw [← e2, e3, dconj_dconj, mulD_cm, k4] at e4
    injection e4 with e4
    rw [es, e4] at k5
    exact addD_conj h5 k5
theorem zmul_assoc (x y z : ZO) : zmul (zmul x y) z = zmul x (zmul y z) := by apply zo_ext <;> simp only [zmul] <;> grind
theorem phase_norm (i : Int) : zmul (zconj (phaseZ i)) (phaseZ i) = ⟨1, 0, 0, 0⟩ := by
  obtain ⟨m, hm, _, e⟩ := phase_cases i
  rw [e]
  match m, hm with
  | 0, _ => rfl
  | 1, _ => rfl
  | 2, _ => rfl
  | 3, _ => rfl
  | 4, _ => rfl
  | 5, _ => rfl
  | 6, _ => rfl
  | 7, _ => rfl
theorem zmul_four (a b c d : ZO) : zmul (zmul a b) (zmul c d) = zmul (zmul a c) (zmul b d) := by apply zo_ext <;> simp only [zmul] <;> grind
/-- A phase leaves the square as it is. -/
theorem sq_phase {v u p q : DW} {i : Int} (hu : mulD v ⟨phaseZ i, 0⟩ = some u) (hp : mulD (dconj v) v = some p) (hq : mulD (dconj u) u = some q) : q = p := by
  obtain ⟨ov, op, ou, _, _, e1⟩ := mulD_inv hu
  obtain ⟨_, _, o2, _, _, e2⟩ := mulD_inv hp
  obtain ⟨_, _, o3, _, _, e3⟩ := mulD_inv hq
  refine val_inj (L := 120) (by omega) o3 o2 (zupn_inj 120 ?_)
  rw [val_conj] at e2 e3
  have hP : val 60 ⟨phaseZ i, 0⟩ = zupn 60 (phaseZ i) := rfl
  have a1 : zupn 60 (val 60 u) = zmul (val 60 v) (zupn 60 (phaseZ i)) := by rw [← val_more ou, e1, hP]
  have a2 : zupn 60 (zconj (val 60 u)) = zmul (zconj (val 60 v)) (zconj (zupn 60 (phaseZ i))) := by rw [zupn_conj, a1, zmul_conj]
  have e120 : ∀ x : ZO, zupn 120 x = zupn 60 (zupn 60 x) := fun x => zupn_add 60 60 x
  have b1 : zupn 120 (zmul (zconj (val 60 u)) (val 60 u)) = zmul (zupn 60 (zconj (val 60 u))) (zupn 60 (val 60 u)) := by rw [zupn_mul, zupn_mul', e120]
  have b2 : zmul (zconj (zupn 60 (phaseZ i))) (zupn 60 (phaseZ i)) = zupn 120 ⟨1, 0, 0, 0⟩ := by
    rw [← zupn_conj, zupn_mul, zupn_mul', ← e120, phase_norm]
  have b3 : ∀ x : ZO, zmul x (zupn 120 ⟨1, 0, 0, 0⟩) = zupn 120 x := fun x => by
    have hz : zmul x ⟨1, 0, 0, 0⟩ = x := by apply zo_ext <;> simp [zmul]
    rw [zupn_mul', hz]
  rw [e3, e2, b1, a1, a2, zmul_four, b2, b3]
theorem dot_phase {us vs : List DW} {i : Int} : ∀ {n : Nat} {x y : DW}, (∀ j u v, j < n → us[j]? = some u → vs[j]? = some v → mulD v ⟨phaseZ i, 0⟩ = some u) → dotN (vs.map dconj) vs n = some x → dotN (us.map dconj) us n = some y → y = x
  | 0, x, y, _, h, k => by
    have e : some zeroD = some x := h
    have e' : some zeroD = some y := k
    injection e with e
    injection e' with e'
    rw [← e, ← e']
  | n + 1, x, y, hs, h, k => by
    obtain ⟨s, v, v', p, h1, h2, h3, h4, h5⟩ := dotN_inv h
    obtain ⟨s', u, u', p', k1, k2, k3, k4, k5⟩ := dotN_inv k
    have es := dot_phase (fun j u v hj => hs j u v (by omega)) h1 k1
    have e2 := map_conj_at h2
    have e3 := map_conj_at k2
    rw [h3] at e2
    rw [k3] at e3
    injection e2 with e2
    injection e3 with e3
    have e2' : dconj v' = v := by rw [e2, dconj_dconj]
    have e3' : dconj u' = u := by rw [e3, dconj_dconj]
    rw [← e2'] at h4
    rw [← e3'] at k4
    have e4 := sq_phase (hs n u' v' (by omega) k3 h3) h4 k4
    rw [es, e4, h5] at k5
    injection k5 with k5
    exact k5.symm
theorem scaled_norm {ds us : List DW} {i : Int} {x y : DW} (h : scaleD ds ⟨phaseZ i, 0⟩ = some us) (hx : innerD ds ds = some x) (hy : innerD us us = some y) : y = x := by
  have hl := scaleD_len h
  unfold scaleD at h
  split at h
  · unfold innerD at hx hy
    split at hx
    · split at hy
      · rw [hl] at hy
        refine dot_phase (i := i) (fun j u v hj hu hv => ?_) hx hy
        have e := mapAll_get h j hj
        rw [hu, hv] at e
        exact e.symm
      · cases hy
    · cases hx
  · cases h
theorem inner_sym {us vs : List DW} {x y : DW} (h : innerD us vs = some x) (k : innerD vs us = some y) : y = dconj x ∧ okd x = true := by
  unfold innerD at h k
  split at h
  · rename_i hc
    split at k
    · rw [← hc.2.2] at k
      exact ⟨dot_sym h k, dotN_ok h⟩
    · cases k
  · cases h
theorem addV_cm (us vs : List DW) : addV us vs = addV vs us := by
  unfold addV
  by_cases h : okS us = true ∧ okS vs = true ∧ us.length = vs.length
  · rw [if_pos h, if_pos ⟨h.2.1, h.1, h.2.2.symm⟩, ← h.2.2]
    refine mapAll_congr fun i hi => ?_
    rw [List.getElem?_eq_getElem hi, List.getElem?_eq_getElem (show i < vs.length by have := h.2.2; omega)]
    exact addD_cm _ _
  · rw [if_neg h, if_neg fun k => h ⟨k.2.1, k.1, k.2.2.symm⟩]
theorem okd_one : okd oneD = true := by decide
theorem basisL_at {m i j : Nat} (h : j < m) : (basisL m i)[j]? = some (if j = i then oneD else zeroD) := by
  unfold basisL
  rw [List.getElem?_map, List.getElem?_range h]
  rfl
theorem dot_basis {m k i : Nat} : ∀ {n : Nat}, n ≤ m → dotN ((basisL m k).map dconj) (basisL m i) n = some (if k = i ∧ i < n then oneD else zeroD)
  | 0, _ => by rw [if_neg (by omega)]; rfl
  | n + 1, hn => by
    have ih := dot_basis (k := k) (i := i) (n := n) (m := m) (by omega)
    have h1 : ((basisL m k).map dconj)[n]? = some (if n = k then oneD else zeroD) := by
      rw [List.getElem?_map, basisL_at (by omega)]
      by_cases e : n = k
      · rw [if_pos e]; rfl
      · rw [if_neg e]; rfl
    have h2 := basisL_at (m := m) (i := i) (j := n) (by omega)
    by_cases e1 : n = k
    · by_cases e2 : n = i
      · rw [if_pos e1] at h1
        rw [if_pos e2] at h2
        rw [if_neg (by omega)] at ih
        rw [dotN_succ ih h1 h2 (mulD_one okd_one), addD_cm, if_pos ⟨by omega, by omega⟩]
        exact addD_zero okd_one
      · rw [if_pos e1] at h1
        rw [if_neg e2] at h2
        rw [if_neg (by omega)] at ih
        rw [dotN_skip ih h1 h2 okd_one okd_zero (.inr rfl), if_neg (by omega)]
    · rw [if_neg e1] at h1
      have o : okd (if n = i then oneD else zeroD) = true := by split; exact okd_one; exact okd_zero
      rw [dotN_skip ih h1 h2 okd_zero o (.inl rfl)]
      by_cases c : k = i ∧ i < n
      · rw [if_pos c, if_pos ⟨c.1, by omega⟩]
      · rw [if_neg c, if_neg (by omega)]
theorem basisL_okd {m i : Nat} : ∀ d ∈ basisL m i, okd d = true := by
  intro d hd
  unfold basisL at hd
  obtain ⟨j, _, rfl⟩ := List.mem_map.1 hd
  split
  · exact okd_one
  · exact okd_zero
theorem basisL_okS {m i : Nat} (h : qc m ≠ 0) : okS (basisL m i) = true := by
  unfold okS
  rw [basisL_length, Bool.and_eq_true, bne_iff_ne]
  exact ⟨h, List.all_eq_true.2 basisL_okd⟩
theorem inner_basis {m k i : Nat} (h : qc m ≠ 0) (hi : i < m) : innerD (basisL m k) (basisL m i) = some (if k = i then oneD else zeroD) := by
  unfold innerD
  rw [if_pos ⟨basisL_okS h, basisL_okS h, by rw [basisL_length, basisL_length]⟩, basisL_length, dot_basis (Nat.le_refl _)]
  by_cases e : k = i
  · rw [if_pos e, if_pos ⟨e, hi⟩]
  · rw [if_neg e, if_neg fun c => e c.1]
theorem qc_pw {n : Int} (h : 0 < pw n) : ((qc (pw n) : Nat) : Int) = n ∧ qc (pw n) ≠ 0 := by
  unfold pw at h ⊢
  by_cases h1 : n = 1
  · subst h1; decide
  by_cases h2 : n = 2
  · subst h2; decide
  by_cases h3 : n = 3
  · subst h3; decide
  by_cases h4 : n = 4
  · subst h4; decide
  · simp [h1, h2, h3, h4] at h
end Go.Proofs.Ytaokfppadfoniaa
