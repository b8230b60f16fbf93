/- Plain laws of the texts of elements: when a text is one. -/
import Derived.Test.YtbjmfapoioebjaaDoorFD
namespace Go.Proofs.YtbjmfapoioebjaaDoor
open Go.RowKit
set_option linter.unusedVariables false

theorem itoa_all (n : Int) : ∀ c ∈ Lib.itoa n, c.toNat = 45 ∨ (48 ≤ c.toNat ∧ c.toNat ≤ 57) := by
  intro c hc
  unfold Lib.itoa at hc
  split at hc
  · rcases List.mem_cons.1 hc with rfl | hc
    · exact .inl rfl
    · exact .inr (dec_all _ c hc)
  · exact .inr (dec_all _ c hc)
theorem itoa_no (n : Int) {b : UInt8} (h1 : b.toNat ≠ 45) (h2 : b.toNat < 48) : b ∉ Lib.itoa n := fun hm => by
  rcases itoa_all n b hm with h | h <;> omega
def head4 (a b c d : Int) : List UInt8 := Lib.itoa a ++ 44 :: (Lib.itoa b ++ 44 :: (Lib.itoa c ++ 44 :: Lib.itoa d))
theorem dtext_eq (a b c d k : Int) : dtext a b c d k = head4 a b c d ++ 47 :: Lib.itoa k := by
  unfold dtext head4
  simp
theorem spl44 (a b c d : Int) : spl 44 (head4 a b c d) = [Lib.itoa a, Lib.itoa b, Lib.itoa c, Lib.itoa d] := by
  have h : ∀ n, (44 : UInt8) ∉ Lib.itoa n := fun n => itoa_no n (by decide) (by decide)
  unfold head4
  rw [spl_hit _ (h a), spl_hit _ (h b), spl_hit _ (h c), spl_none (h d)]
theorem no47 (a b c d : Int) : (47 : UInt8) ∉ head4 a b c d := by
  have h : ∀ n, (47 : UInt8) ∉ Lib.itoa n := fun n => itoa_no n (by decide) (by decide)
  unfold head4
  intro hm
  simp only [List.mem_append, List.mem_cons] at hm
  rcases hm with hm | hm | hm | hm | hm | hm | hm
  · exact h a hm
  · exact absurd hm (by decide)
  · exact h b hm
  · exact absurd hm (by decide)
  · exact h c hm
  · exact absurd hm (by decide)
  · exact h d hm
theorem spl47 (a b c d k : Int) : spl 47 (dtext a b c d k) = [head4 a b c d, Lib.itoa k] := by
  rw [dtext_eq, spl_hit _ (no47 a b c d), spl_none (itoa_no k (by decide) (by decide))]
theorem itoa_inj {m n : Int} (h0 : -9223372036854775808 ≤ m) (h1 : m ≤ 9223372036854775807) (h2 : -9223372036854775808 ≤ n) (h3 : n ≤ 9223372036854775807) (h : Lib.itoa m = Lib.itoa n) : m = n := by
  have e1 := atoi_itoa m h0 h1
  rw [h, atoi_itoa n h2 h3] at e1
  injection e1 with e1
  exact e1.symm
/-- The element whose text l is, if there is one. -/
def isText (l : List UInt8) (x : DW) : Prop := okd x = true ∧ dtext x.n.a x.n.b x.n.c x.n.d x.k = l
theorem isText_unique {l : List UInt8} {x y : DW} (hx : isText l x) (hy : isText l y) : x = y := by
  obtain ⟨⟨a, b, c, d⟩, k⟩ := x
  obtain ⟨⟨p, q, r, s⟩, m⟩ := y
  obtain ⟨ox, ex⟩ := hx
  obtain ⟨oy, ey⟩ := hy
  obtain ⟨xa, xb, xc, xd, xk⟩ := okd_bounds ox
  obtain ⟨ya, yb, yc, yd, yk⟩ := okd_bounds oy
  simp only at ex ey
  have h := spl47 a b c d k
  rw [ex, ← ey, spl47 p q r s m] at h
  injection h with h1 h2
  injection h2 with h2 _
  have h3 := spl44 a b c d
  rw [← h1, spl44 p q r s] at h3
  injection h3 with e1 h3
  injection h3 with e2 h3
  injection h3 with e3 h3
  injection h3 with e4 _
  rw [itoa_inj (by omega) (by omega) (by omega) (by omega) e1, itoa_inj (by omega) (by omega) (by omega) (by omega) e2, itoa_inj (by omega) (by omega) (by omega) (by omega) e3, itoa_inj (by omega) (by omega) (by omega) (by omega) e4, itoa_inj (by omega) (by omega) (by omega) (by omega) h2]
/-- V is the element whose text l is, if there is one. -/
def IsPar (l : List UInt8) (V : Option DW) : Prop := ∀ x, V = some x ↔ isText l x
theorem par_ex (l : List UInt8) : ∃ V, IsPar l V := by
  by_cases h : ∃ x, isText l x
  · obtain ⟨x, hx⟩ := h
    exact ⟨some x, fun y => ⟨fun e => by injection e with e; rw [← e]; exact hx, fun hy => by rw [isText_unique hx hy]⟩⟩
  · exact ⟨none, fun y => ⟨(fun e => by cases e), fun hy => absurd ⟨y, hy⟩ h⟩⟩
theorem par_none {l : List UInt8} {V : Option DW} (hV : IsPar l V) (h : ∀ x, ¬ isText l x) : V = none := by
  cases V with
  | none => rfl
  | some x => exact absurd ((hV x).1 rfl) (h x)
def P12 (l : List UInt8) : Option Int := pnum (-999999999999) 999999999999 l
def P6 (l : List UInt8) : Option Int := pnum 0 999999 l
theorem isText_parts {l : List UInt8} {x : DW} (h : isText l x) : spl 47 l = [head4 x.n.a x.n.b x.n.c x.n.d, Lib.itoa x.k] ∧ spl 44 (head4 x.n.a x.n.b x.n.c x.n.d) = [Lib.itoa x.n.a, Lib.itoa x.n.b, Lib.itoa x.n.c, Lib.itoa x.n.d] ∧
    P12 (Lib.itoa x.n.a) = some x.n.a ∧ P12 (Lib.itoa x.n.b) = some x.n.b ∧ P12 (Lib.itoa x.n.c) = some x.n.c ∧ P12 (Lib.itoa x.n.d) = some x.n.d ∧ P12 (Lib.itoa x.k) = some x.k ∧ P6 (Lib.itoa x.k) = some x.k := by
  obtain ⟨⟨a, b, c, d⟩, k⟩ := x
  obtain ⟨o, e⟩ := h
  obtain ⟨xa, xb, xc, xd, xk⟩ := okd_bounds o
  simp only at e ⊢
  refine ⟨by rw [← e]; exact spl47 a b c d k, spl44 a b c d, ?_, ?_, ?_, ?_, ?_, ?_⟩
  · exact (pnum_iff _ (by decide) (by decide)).2 ⟨by omega, by omega, rfl⟩
  · exact (pnum_iff _ (by decide) (by decide)).2 ⟨by omega, by omega, rfl⟩
  · exact (pnum_iff _ (by decide) (by decide)).2 ⟨by omega, by omega, rfl⟩
  · exact (pnum_iff _ (by decide) (by decide)).2 ⟨by omega, by omega, rfl⟩
  · exact (pnum_iff _ (by decide) (by decide)).2 ⟨by omega, by omega, rfl⟩
  · exact (pnum_iff _ (by decide) (by decide)).2 ⟨by omega, by omega, rfl⟩
/-- What is put together of its pieces. -/
theorem parts_text {l h0 h1 t0 t1 t2 t3 : List UInt8} (e1 : spl 47 l = [h0, h1]) (e2 : spl 44 h0 = [t0, t1, t2, t3]) : l = t0 ++ [44] ++ t1 ++ [44] ++ t2 ++ [44] ++ t3 ++ [47] ++ h1 := by
  have a := join_spl 47 l
  have b := join_spl 44 h0
  rw [e1, Lib.join_cons] at a
  rw [e2, Lib.join_cons] at b
  rw [← a, ← b]
  simp [Lib.joinTail]
theorem parD_len {l : List UInt8} {V : Option DW} (hV : IsPar l V) (h : (spl 47 l).length ≠ 2) : V = none := par_none hV fun x hx => h (by rw [(isText_parts hx).1]; rfl)
theorem parD_len4 {l h0 h1 : List UInt8} {V : Option DW} (hV : IsPar l V) (e1 : spl 47 l = [h0, h1]) (h : (spl 44 h0).length ≠ 4) : V = none := par_none hV fun x hx => h (by
  obtain ⟨p, q, _⟩ := isText_parts hx
  rw [e1] at p
  injection p with p _
  rw [p, q]
  rfl)
/-- The program's way: five numbers and their validity. -/
theorem parD_five {l h0 h1 t0 t1 t2 t3 : List UInt8} {V : Option DW} (hV : IsPar l V) (e1 : spl 47 l = [h0, h1]) (e2 : spl 44 h0 = [t0, t1, t2, t3]) {a b c d k : Int} (va : P12 t0 = some a) (vb : P12 t1 = some b) (vc : P12 t2 = some c) (vd : P12 t3 = some d) (vk : P12 h1 = some k) :
    V = if okd ⟨⟨a, b, c, d⟩, k⟩ = true then some ⟨⟨a, b, c, d⟩, k⟩ else none := by
  have pi : ∀ {t : List UInt8} {n : Int}, P12 t = some n → Lib.itoa n = t := fun h => ((pnum_iff _ (by decide) (by decide)).1 h).2.2
  have ht : l = dtext a b c d k := by
    rw [parts_text e1 e2, ← pi va, ← pi vb, ← pi vc, ← pi vd, ← pi vk]
    rfl
  by_cases ho : okd ⟨⟨a, b, c, d⟩, k⟩ = true
  · rw [if_pos ho]
    exact (hV _).2 ⟨ho, ht.symm⟩
  · rw [if_neg ho]
    refine par_none hV fun x hx => ho ?_
    obtain ⟨p, q, w0, w1, w2, w3, w4, _⟩ := isText_parts hx
    rw [e1] at p
    injection p with p1 p2
    injection p2 with p2 _
    rw [← p1, e2] at q
    injection q with q0 q
    injection q with q1 q
    injection q with q2 q
    injection q with q3 _
    rw [← q0, va] at w0
    rw [← q1, vb] at w1
    rw [← q2, vc] at w2
    rw [← q3, vd] at w3
    rw [← p2, vk] at w4
    injection w0 with w0
    injection w1 with w1
    injection w2 with w2
    injection w3 with w3
    injection w4 with w4
    have := hx.1
    obtain ⟨⟨xa, xb, xc, xd⟩, xk⟩ := x
    simp only at w0 w1 w2 w3 w4
    subst w0 w1 w2 w3 w4
    exact this
theorem parD_miss {l h0 h1 t0 t1 t2 t3 : List UInt8} {V : Option DW} (hV : IsPar l V) (e1 : spl 47 l = [h0, h1]) (e2 : spl 44 h0 = [t0, t1, t2, t3]) (h : P12 t0 = none ∨ P12 t1 = none ∨ P12 t2 = none ∨ P12 t3 = none ∨ P12 h1 = none) : V = none := par_none hV fun x hx => by
  obtain ⟨p, q, w0, w1, w2, w3, w4, _⟩ := isText_parts hx
  rw [e1] at p
  injection p with p1 p2
  injection p2 with p2 _
  rw [← p1, e2] at q
  injection q with q0 q
  injection q with q1 q
  injection q with q2 q
  injection q with q3 _
  rw [← q0] at w0
  rw [← q1] at w1
  rw [← q2] at w2
  rw [← q3] at w3
  rw [← p2] at w4
  rcases h with h | h | h | h | h
  · rw [h] at w0; cases w0
  · rw [h] at w1; cases w1
  · rw [h] at w2; cases w2
  · rw [h] at w3; cases w3
  · rw [h] at w4; cases w4
/-- The reference's way: five numbers, 0 for none, and their text. -/
theorem parD_ref {l h0 h1 t0 t1 t2 t3 : List UInt8} {V : Option DW} (hV : IsPar l V) (e1 : spl 47 l = [h0, h1]) (e2 : spl 44 h0 = [t0, t1, t2, t3]) :
    V = if fmtD ((P12 t0).getD 0) ((P12 t1).getD 0) ((P12 t2).getD 0) ((P12 t3).getD 0) ((P6 h1).getD 0) = l then some ⟨⟨(P12 t0).getD 0, (P12 t1).getD 0, (P12 t2).getD 0, (P12 t3).getD 0⟩, (P6 h1).getD 0⟩ else none := by
  have hne : l ≠ [] := by
    intro h
    rw [h] at e1
    simp [spl] at e1
  by_cases hf : fmtD ((P12 t0).getD 0) ((P12 t1).getD 0) ((P12 t2).getD 0) ((P12 t3).getD 0) ((P6 h1).getD 0) = l
  · rw [if_pos hf]
    unfold fmtD at hf
    split at hf
    · rename_i ho
      exact (hV _).2 ⟨ho, hf⟩
    · exact absurd hf.symm hne
  · rw [if_neg hf]
    refine par_none hV fun x hx => hf ?_
    obtain ⟨p, q, w0, w1, w2, w3, _, w5⟩ := isText_parts hx
    rw [e1] at p
    injection p with p1 p2
    injection p2 with p2 _
    rw [← p1, e2] at q
    injection q with q0 q
    injection q with q1 q
    injection q with q2 q
    injection q with q3 _
    rw [← q0] at w0
    rw [← q1] at w1
    rw [← q2] at w2
    rw [← q3] at w3
    rw [← p2] at w5
    rw [w0, w1, w2, w3, w5]
    obtain ⟨ho, ht⟩ := hx
    unfold fmtD
    simp only [Option.getD_some]
    rw [if_pos ho, ht]
end Go.Proofs.YtbjmfapoioebjaaDoor
