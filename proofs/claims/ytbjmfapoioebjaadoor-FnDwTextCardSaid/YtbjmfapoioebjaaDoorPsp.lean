/- Plain laws of cutting a text at a byte and of joining. No program in this text. -/
import Derived.Lib.Split
import Derived.Lib.Join
namespace Go.Proofs.YtbjmfapoioebjaaDoor
open Go.Lib

/-- The string of a list of bytes. -/
def str (l : List UInt8) : ByteArray := ⟨l.toArray⟩
theorem str_data (l : List UInt8) : (str l).data.toList = l := by simp [str]
theorem str_of (s : ByteArray) : str s.data.toList = s := by
  obtain ⟨⟨l⟩⟩ := s
  rfl
theorem str_inj {a b : List UInt8} (h : str a = str b) : a = b := by
  have := congrArg (fun s : ByteArray => s.data.toList) h
  simpa [str] using this
theorem str_size (l : List UInt8) : (str l).size = l.length := by simp [str, ByteArray.size]
theorem strs_of {xs : List ByteArray} {ls : List (List UInt8)} (h : xs.map (·.data.toList) = ls) : xs = ls.map str := by
  subst h
  rw [List.map_map]
  have e : str ∘ (fun s : ByteArray => s.data.toList) = id := funext fun s => str_of s
  rw [e, List.map_id]
/-- The pieces of a text between the bytes b. -/
def spl (b : UInt8) : List UInt8 → List (List UInt8)
  | [] => [[]]
  | c :: r => if c = b then [] :: spl b r else match spl b r with
    | [] => [[c]]
    | p :: ps => (c :: p) :: ps
theorem spl_ne (b : UInt8) : ∀ l : List UInt8, ∃ p ps, spl b l = p :: ps
  | [] => ⟨_, _, rfl⟩
  | c :: r => by
    obtain ⟨p, ps, h⟩ := spl_ne b r
    unfold spl
    rw [h]
    split
    · exact ⟨_, _, rfl⟩
    · exact ⟨_, _, rfl⟩
theorem spl_none {b : UInt8} : ∀ {l : List UInt8}, b ∉ l → spl b l = [l]
  | [], _ => rfl
  | c :: r, h => by
    have h1 : ¬ c = b := fun e => h (by simp [e])
    have h2 := spl_none (b := b) (l := r) (fun e => h (by simp [e]))
    unfold spl
    rw [if_neg h1, h2]
theorem spl_hit {b : UInt8} (v : List UInt8) : ∀ {u : List UInt8}, b ∉ u → spl b (u ++ b :: v) = u :: spl b v
  | [], _ => by
    show spl b (b :: v) = _
    conv => lhs; unfold spl
    rw [if_pos rfl]
  | c :: r, h => by
    have h1 : ¬ c = b := fun e => h (by simp [e])
    have h2 := spl_hit (b := b) v (u := r) (fun e => h (by simp [e]))
    show spl b (c :: (r ++ b :: v)) = _
    conv => lhs; unfold spl
    rw [if_neg h1, h2]
theorem occ_one (s : List UInt8) (b : UInt8) (i : Nat) : occAt s [b] i = true ↔ s[i]? = some b := by
  unfold occAt
  rw [← List.head?_drop]
  cases h : s.drop i with
  | nil => simp
  | cons c r =>
    rw [List.head?_cons, List.isPrefixOf, List.isPrefixOf, Bool.and_true, beq_iff_eq, Option.some.injEq]
    exact eq_comm
theorem split_spl (b : UInt8) (n : Nat) : ∀ l : List UInt8, l.length ≤ n → splitK [b] 0 (count l [b]) l = spl b l ∧ (spl b l).length = count l [b] + 1 := by
  induction n with
  | zero =>
    intro l hl
    have e : l = [] := List.eq_nil_of_length_eq_zero (by omega)
    subst e
    exact ⟨rfl, rfl⟩
  | succ n ih =>
    intro l hl
    rcases index_spec l [b] with ⟨h1, h2⟩ | ⟨i, h1, h2, h3, h4⟩
    · have hb : b ∉ l := fun hm => by
        obtain ⟨j, hj⟩ := List.getElem?_of_mem hm
        have hlt : j < l.length := (List.getElem?_eq_some_iff.1 hj).1
        have := h2 j (by omega)
        rw [(occ_one l b j).2 hj] at this
        cases this
      rw [count_miss h1, spl_none hb]
      exact ⟨rfl, rfl⟩
    · have hi := (occ_one l b i).1 h3
      have hlt : i < l.length := (List.getElem?_eq_some_iff.1 hi).1
      have hu : b ∉ l.take i := fun hm => by
        obtain ⟨j, hj⟩ := List.getElem?_of_mem hm
        rw [List.getElem?_take] at hj
        split at hj
        · rename_i hji
          have := h4 j hji
          rw [(occ_one l b j).2 hj] at this
          cases this
        · cases hj
      have hl2 : l = l.take i ++ b :: l.drop (i + 1) := by
        have e : l[i] = b := (List.getElem?_eq_some_iff.1 hi).2
        rw [← e, ← List.drop_eq_getElem_cons hlt, List.take_append_drop]
      have hd : (l.drop (i + 1)).length ≤ n := by rw [List.length_drop]; omega
      obtain ⟨q1, q2⟩ := ih _ hd
      have hc : count l [b] = 1 + count (l.drop (i + 1)) [b] := count_hit (by simp) h1
      have hs : spl b l = l.take i :: spl b (l.drop (i + 1)) := by
        conv => lhs; rw [hl2]
        exact spl_hit _ hu
      rw [hc, hs]
      refine ⟨?_, by rw [List.length_cons, q2]; omega⟩
      rw [Nat.add_comm 1]
      unfold splitK
      have hne : ¬ (index l [b] == -1) = true := fun e => by have := beq_iff_eq.1 e; omega
      rw [if_neg hne, h1]
      have e1 : ((i : Int).toNat + 0) = i := by omega
      have e2 : ((i : Int).toNat + [b].length) = i + 1 := by simp
      rw [e1, e2, q1]
theorem splitB_spl (b : UInt8) (s : ByteArray) : splitB (str [b]) 0 (countB s (str [b])) s = (spl b s.data.toList).map str ∧ (spl b s.data.toList).length = countB s (str [b]) + 1 := by
  obtain ⟨q1, q2⟩ := split_spl b s.data.toList.length s.data.toList (Nat.le_refl _)
  have h := splitB_data (str [b]) 0 (countB s (str [b])) s
  rw [str_data] at h
  have hc : countB s (str [b]) = count s.data.toList [b] := by unfold countB; rw [str_data]
  rw [hc] at h ⊢
  rw [q1] at h
  exact ⟨strs_of h, q2⟩
theorem join_step {xs : List (List UInt8)} {sep x : List UInt8} {k : Nat} (h : xs[k]? = some x) : join (xs.take (k + 1)) sep = if k = 0 then x else join (xs.take k) sep ++ sep ++ x := by
  cases xs with
  | nil => simp at h
  | cons y r =>
    cases k with
    | zero =>
      simp at h
      subst h
      simp [join_one]
    | succ k =>
      rw [if_neg (by omega), List.take_succ_cons, List.take_succ_cons, join_cons, join_cons, joinTail_take_succ sep r k x (by simpa using h)]
      simp [List.append_assoc]
theorem join_spl (b : UInt8) : ∀ l : List UInt8, join (spl b l) [b] = l
  | [] => by simp [spl, join_one]
  | c :: r => by
    obtain ⟨p, ps, h⟩ := spl_ne b r
    have ih := join_spl b r
    rw [h, join_cons] at ih
    unfold spl
    rw [h]
    split
    · rename_i hc
      subst hc
      rw [join_cons]
      simp [joinTail] at ih ⊢
      exact ih
    · rw [join_cons]
      simp at ih ⊢
      exact ih
end Go.Proofs.YtbjmfapoioebjaaDoor
