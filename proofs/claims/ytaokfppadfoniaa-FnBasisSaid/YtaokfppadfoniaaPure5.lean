/- Plain laws of sums and products in D[omega]. -/
import Derived.Test.YtaokfppadfoniaaPure4
import Derived.Test.YtaokfppadfoniaaU
namespace Go.Proofs.Ytaokfppadfoniaa
def dneg (x : DW) : DW := ⟨zneg x.n, x.k⟩
def dconj (x : DW) : DW := ⟨zconj x.n, x.k⟩
theorem okd_neg (x : DW) : okd (dneg x) = okd x := by
  unfold okd dneg
  simp only [okz_neg, divZ_neg]
  cases divZ x.n <;> rfl
theorem okd_conj (x : DW) : okd (dconj x) = okd x := by
  unfold okd dconj
  simp only [okz_conj, divZ_conj]
  cases divZ x.n <;> rfl
theorem upZ_val (k : Nat) : ∀ {n m : ZO}, okz n = true → upZ n k = some m → m = zupn k n ∧ okz m = true := by
  induction k with
  | zero => intro n m hn h; simp only [upZ, Option.some.injEq] at h; subst h; exact ⟨rfl, hn⟩
  | succ k ih =>
    intro n m _ h
    rcases hm : mulZ n rootZ with _ | y
    · rw [upZ_none hm] at h; cases h
    · rw [upZ_some hm] at h
      obtain ⟨_, _, hy, e⟩ := mulZ_inv hm
      obtain ⟨h1, h2⟩ := ih hy h
      refine ⟨?_, h2⟩
      rw [h1, e, zupn_succ']
      congr 1
      exact zmul_root n
theorem mulD_inv {x y d : DW} (h : mulD x y = some d) : okd x = true ∧ okd y = true ∧ okd d = true ∧ okz (zmul x.n y.n) = true ∧ newD (zmul x.n y.n) (x.k + y.k) = some d ∧ val 120 d = zmul (val 60 x) (val 60 y) := by
  unfold mulD at h
  split at h
  · rename_i hc
    rcases hm : mulZ x.n y.n with _ | n
    · rw [hm] at h; cases h
    · rw [hm] at h
      obtain ⟨_, _, hz, rfl⟩ := mulZ_inv hm
      have h' : newD (zmul x.n y.n) (x.k + y.k) = some d := h
      obtain ⟨q1, q2, q3, q4, q5⟩ := newD_val h'
      obtain ⟨_, xk, _⟩ := okd_parts hc.1
      obtain ⟨_, yk, _⟩ := okd_parts hc.2
      refine ⟨hc.1, hc.2, q1, hz, h', ?_⟩
      rw [q5 120 (by omega)]
      unfold val
      rw [zupn_mul, zupn_mul', ← zupn_add]
      congr 1
      omega
  · cases h
theorem addD_inv {x y d : DW} (h : addD x y = some d) : okd x = true ∧ okd y = true ∧ okd d = true ∧ ∀ L : Nat, 60 ≤ L → val L d = zadd (val L x) (val L y) := by
  unfold addD at h
  split at h
  · rename_i hc
    obtain ⟨xz, xk, _⟩ := okd_parts hc.1
    obtain ⟨yz, yk, _⟩ := okd_parts hc.2
    split at h
    · rename_i a b ha hb
      rcases hm : addZ a b with _ | n
      · rw [hm] at h; cases h
      · rw [hm] at h
        have h' : newD n (max x.k y.k) = some d := h
        obtain ⟨_, _, _, rfl⟩ := addZ_inv hm
        obtain ⟨q1, q2, q3, q4, q5⟩ := newD_val h'
        obtain ⟨rfl, _⟩ := upZ_val _ xz ha
        obtain ⟨rfl, _⟩ := upZ_val _ yz hb
        refine ⟨hc.1, hc.2, q1, fun L hL => ?_⟩
        rw [q5 L (by omega), zupn_zadd, ← zupn_add, ← zupn_add]
        unfold val
        congr 2
        · omega
        · omega
    · cases h
  · cases h
theorem val_more {d : DW} (h : okd d = true) : val 120 d = zupn 60 (val 60 d) := by
  obtain ⟨_, k, _⟩ := okd_parts h
  unfold val
  rw [← zupn_add]
  congr 1
  omega
theorem mulD_cm (x y : DW) : mulD x y = mulD y x := by
  unfold mulD
  rw [mulZ_cm x.n y.n, Int.add_comm x.k y.k]
  by_cases h1 : okd x = true <;> by_cases h2 : okd y = true <;> simp [h1, h2]
theorem addD_cm (x y : DW) : addD x y = addD y x := by
  unfold addD
  rw [Int.max_comm x.k y.k]
  by_cases h1 : okd x = true
  · by_cases h2 : okd y = true
    · rw [if_pos ⟨h1, h2⟩, if_pos ⟨h2, h1⟩]
      rcases upZ x.n (max y.k x.k - x.k).toNat with _ | a <;> rcases upZ y.n (max y.k x.k - y.k).toNat with _ | b <;> simp only
      rw [addZ_cm]
    · simp [h2]
  · simp [h1]
theorem dw_spreads {x y z s p q r t : DW} (h1 : addD x y = some s) (h2 : mulD x z = some p) (h3 : mulD y z = some q) (h4 : mulD s z = some r) (h5 : addD p q = some t) : r = t := by
  obtain ⟨_, _, _, e1⟩ := addD_inv h1
  obtain ⟨_, _, ok2, _, _, e2⟩ := mulD_inv h2
  obtain ⟨_, _, ok3, _, _, e3⟩ := mulD_inv h3
  obtain ⟨_, _, ok4, _, _, e4⟩ := mulD_inv h4
  obtain ⟨_, _, ok5, e5⟩ := addD_inv h5
  refine val_inj (L := 120) (by omega) ok4 ok5 ?_
  rw [e4, e5 120 (by omega), e1 60 (by omega), zmul_add, e2, e3]
/-- What was added can be taken away. -/
theorem addD_back {x y s z : DW} (h1 : addD x y = some s) (h2 : addD s (dneg y) = some z) : z = x := by
  obtain ⟨ok1, _, _, e1⟩ := addD_inv h1
  obtain ⟨_, _, ok2, e2⟩ := addD_inv h2
  refine val_inj (L := 60) (by omega) ok2 ok1 ?_
  rw [e2 60 (by omega), e1 60 (by omega)]
  have : val 60 (dneg y) = zneg (val 60 y) := by unfold val dneg; exact zupn_neg _ _
  rw [this, zadd_neg]
theorem reduce_conj (k : Nat) : ∀ x, reduce (zconj x) k = (zconj (reduce x k).1, (reduce x k).2) := by
  induction k with
  | zero => intro x; rfl
  | succ k ih =>
    intro x
    rcases h : divZ x with _ | y
    · have h' : divZ (zconj x) = none := by rw [divZ_conj, h]; rfl
      rw [reduce_none h, reduce_none h']
    · have h' : divZ (zconj x) = some (zconj y) := by rw [divZ_conj, h]; rfl
      rw [reduce_some h, reduce_some h', ih]
theorem newD_conj {x : ZO} {k : Int} {d : DW} (h : newD x k = some d) : newD (zconj x) k = some (dconj d) := by
  unfold newD at h ⊢
  rw [okz_conj, reduce_conj]
  split at h
  · rename_i hc
    rw [if_pos hc]
    split at h
    · rename_i hm
      rw [if_pos hm]
      injection h with h
      subst h
      rfl
    · cases h
  · cases h
theorem mulD_conj {x y d : DW} (h : mulD x y = some d) : mulD (dconj x) (dconj y) = some (dconj d) := by
  obtain ⟨h1, h2, _, h4, h5, _⟩ := mulD_inv h
  have e : mulZ (dconj x).n (dconj y).n = some (zconj (zmul x.n y.n)) := mulZ_conj (mulZ_mk (okd_parts h1).1 (okd_parts h2).1 h4)
  unfold mulD
  rw [okd_conj, okd_conj, if_pos ⟨h1, h2⟩, e]
  exact newD_conj h5
theorem mulD_one {x : DW} (h : okd x = true) : mulD x ⟨⟨1, 0, 0, 0⟩, 0⟩ = some x := by
  have e : zmul x.n ⟨1, 0, 0, 0⟩ = x.n := by apply zo_ext <;> simp only [zmul] <;> omega
  have o : okd ⟨⟨1, 0, 0, 0⟩, 0⟩ = true := by decide
  unfold mulD
  rw [if_pos ⟨h, o⟩]
  simp only
  rw [mulZ_mk (okd_parts h).1 (by decide) (by rw [e]; exact (okd_parts h).1), e]
  simp only [Option.bind_some, Int.add_zero]
  exact newD_self h
theorem newD_up {x m : ZO} {k : Int} {d : DW} (h : newD x k = some d) (h2 : mulZ x ⟨0, 1, 0, -1⟩ = some m) (hk : k < 120) : newD m (k + 1) = some d := by
  have hd := mulZ_div h2
  obtain ⟨hm, _, _⟩ := divZ_up hd
  unfold newD at h ⊢
  split at h
  · rename_i hc
    have e : (k + 1).toNat = k.toNat + 1 := by omega
    rw [if_pos ⟨hm, by omega, by omega⟩, e, reduce_some hd]
    exact h
  · cases h
end Go.Proofs.Ytaokfppadfoniaa
