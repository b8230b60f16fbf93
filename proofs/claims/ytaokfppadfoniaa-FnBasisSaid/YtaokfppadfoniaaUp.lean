/- Contracts: multiplication by powers of the root of 2, and the reference's sum in D[omega]. -/
import Derived.Test.YtaokfppadfoniaaM
namespace Go.Proofs.Ytaokfppadfoniaa
open Go.RowKit
set_option linter.unusedVariables false

def rootZ : ZO := ⟨0, 1, 0, -1⟩
def upZ (n : ZO) : Nat → Option ZO
  | 0 => some n
  | k + 1 => match mulZ n rootZ with
    | some m => upZ m k
    | none => none
def addD (x y : DW) : Option DW :=
  if okd x = true ∧ okd y = true then
    match upZ x.n (max x.k y.k - x.k).toNat, upZ y.n (max x.k y.k - y.k).toNat with
    | some a, some b => (addZ a b).bind fun n => newD n (max x.k y.k)
    | _, _ => none
  else none
theorem upZ_some {n m : ZO} {k : Nat} (h : mulZ n rootZ = some m) : upZ n (k + 1) = upZ m k := by simp [upZ, h]
theorem upZ_none {n : ZO} {k : Nat} (h : mulZ n rootZ = none) : upZ n (k + 1) = none := by simp [upZ, h]
section
variable {w X : World} {L : List (Nat × TypeId × Array Value)} {g : Nat} {t : TypeId}
theorem Own.base (h : Own w X L) : Own w X [] := ⟨h.1, by simp⟩
theorem Own.set_n (h : Own w X L) (hg : w.heap.size ≤ g) (hn : ∀ b ∈ L, b.1 ≠ g) (i : Nat) (u : Value) : Own w (X.setCell ⟨g, i, none⟩ u) L := ⟨bl_set h.1 hg u, fun b hm => (h.2 b hm).far (hn b hm) u⟩
theorem Own.put4n {a b c d : Value} (h : Own w X ((g, t, #[a, b, c, d]) :: L)) (hg : w.heap.size ≤ g) (hn : ∀ b ∈ L, b.1 ≠ g) (p q r s : Value) :
    Own w ((((X.setCell ⟨g, 0, none⟩ p).setCell ⟨g, 1, none⟩ q).setCell ⟨g, 2, none⟩ r).setCell ⟨g, 3, none⟩ s) ((g, t, #[p, q, r, s]) :: L) :=
  ((((h.tail.set_n hg hn 0 p).set_n hg hn 1 q).set_n hg hn 2 r).set_n hg hn 3 s).add (h.head.put4 p q r s)
end
def optV (R : Option ZO) : Value := match R with
  | some m => .tuple #[.agg #[.int .i64 m.a, .int .i64 m.b, .int .i64 m.c, .int .i64 m.d], .bool true]
  | none => .tuple #[.agg #[.int .i64 0, .int .i64 0, .int .i64 0, .int .i64 0], .bool false]
theorem s_max (a b : Int) (w : World) : Calls Try.prog 104 #[.int .i64 a, .int .i64 b] w fun e w' => e = .returned (.int .i64 (max a b)) ∧ w = w' := by
  by_cases h : b < a
  · have e : max a b = a := by omega
    rw [e]
    clear e
    go_enter Try.func104, Try.ntmps104
    go_wp2
    go_ret
    exact ⟨rfl, rfl⟩
  · have e : max a b = b := by omega
    rw [e]
    clear e
    go_enter Try.func104, Try.ntmps104
    go_wp2
    go_ret
    exact ⟨rfl, rfl⟩
def UpRel (w : World) (tz : TypeId) (T : Nat) (R : Option ZO) (i : Value) (wr : World) : Prop :=
  ∃ (k : Nat) (x y z t : Int), k ≤ T ∧ i = .int .i64 (k : Int) ∧ upZ ⟨x, y, z, t⟩ (T - k) = R ∧
    Own w wr [(w.heap.size, tz, #[.int .i64 x, .int .i64 y, .int .i64 z, .int .i64 t]), (w.heap.size + 1, tz, #[.int .i64 0, .int .i64 0, .int .i64 0, .int .i64 0])]
set_option maxHeartbeats 1000000 in
theorem s_Up {a b c d : Int} {T : Nat} {R : Option ZO} (w : World) (hT : T ≤ 60) (hR : upZ ⟨a, b, c, d⟩ T = R) : Calls Try.prog 66 #[.agg #[.int .i64 a, .int .i64 b, .int .i64 c, .int .i64 d], .int .i64 (T : Int)] w
    (Ret (optV R) w) := by
  obtain ⟨V, hV⟩ : ∃ V : Value, V = optV R := ⟨_, rfl⟩
  rw [← hV]
  have HV := Lib.hid hV
  have HR := Lib.hid hR
  clear hV hR
  go_enter Try.func66, Try.ntmps66
  go_wp2
  go_loopw [6] (fun i wr => UpRel w 25 T R i wr) (fun i _ => T - (intOf i).toNat)
  case atStart => 
    have T0 := ((Own.start w).push 25 #[.int .i64 a, .int .i64 b, .int .i64 c, .int .i64 d]).push 25 #[.int .i64 0, .int .i64 0, .int .i64 0, .int .i64 0]
    exact ⟨0, a, b, c, d, by omega, rfl, HR.out, by simpa using (T0.base.add T0.head).add T0.tail.head⟩
  case round =>
    obtain ⟨k, x, y, z, t, hk, rfl, hup, O⟩ := hrel
    have HU := Lib.hid hup
    clear hup
    obtain ⟨c0, c1, c2, c3, f0, f1, f2, f3⟩ := O.head.four
    have l0 := O.head.lt
    by_cases hlt : k < T
    · have hd : decide ((k : Int) < (T : Int)) = true := by simp; omega
      have e : T - k = (T - (k + 1)) + 1 := by omega
      rcases hm : mulZ ⟨x, y, z, t⟩ rootZ with _ | ⟨p, q, r, s⟩
      · have hRn : R = none := by rw [← HU.out, e, upZ_none hm]
        have HVV : V = .tuple #[.agg #[.int .i64 0, .int .i64 0, .int .i64 0, .int .i64 0], .bool false] := by rw [HV.out, hRn]; rfl
        have HVV' := Lib.hid HVV
        have HM := Lib.hid hm
        clear HVV hRn hm e
        go_wp2_with fail
        refine (s_MulZ_none _ HM.out).mono ?_
        rintro e w1 ⟨rfl, hb1⟩
        have O1 := O.call hb1
        obtain ⟨d0, d1, d2, d3, g0, g1, g2, g3⟩ := O1.tail.head.four
        have l1 := O1.tail.head.lt
        have l2 := O1.head.lt
        have hw := O1.below
        clear O O1
        go_wp2
        rw [HVV'.out]
        refine bodyPost_ret (v := .tuple #[.agg #[.int .i64 0, .int .i64 0, .int .i64 0, .int .i64 0], .bool false]) (by simp [results, Try.results66, go_sem, *]) rfl (ret_mk ?_)
        repeat (first | (with_reducible exact Below.refl _ _) | (with_reducible assumption) | (with_reducible refine bl_alloc ?_ _) | (with_reducible refine bl_drew ?_) | (with_reducible refine bl_set ?_ (by simp <;> omega) _) | (with_reducible refine bl_call ?_ (by assumption)))
      · have hup' : upZ ⟨p, q, r, s⟩ (T - (k + 1)) = R := by rw [← HU.out, e, upZ_some hm]
        have HU' := Lib.hid hup'
        have HM := Lib.hid hm
        clear hup' hm e
        go_wp2_with fail
        refine (s_MulZ_some _ HM.out).mono ?_
        rintro e w1 ⟨rfl, hb1⟩
        have O1 := O.call hb1
        have hl := hb1.size
        obtain ⟨d0, d1, d2, d3, g0, g1, g2, g3⟩ := O1.head.four
        have l1 := O1.head.lt
        have l2 := Nat.ne_of_lt l1
        have l3 := Nat.ne_of_gt l1
        go_wp2
        go_roundw
        case rel => exact ⟨k + 1, p, q, r, s, by omega, by go_num, HU'.out, (O1.put4n (Nat.le_refl _) (by simp) _ _ _ _).alloc _⟩
        case measure => simp [intOf]; omega
    · have hd : decide ((k : Int) < (T : Int)) = false := by simp; omega
      have e : T - k = 0 := by omega
      have hRs : R = some ⟨x, y, z, t⟩ := by rw [← HU.out, e]; rfl
      have HVV : V = .tuple #[.agg #[.int .i64 x, .int .i64 y, .int .i64 z, .int .i64 t], .bool true] := by rw [HV.out, hRs]; rfl
      have HVV' := Lib.hid HVV
      clear HVV hRs e
      obtain ⟨d0, d1, d2, d3, g0, g1, g2, g3⟩ := O.tail.head.four
      have hw := O.below
      clear O
      go_wp2
      rw [HVV'.out]
      refine bodyPost_ret (v := .tuple #[.agg #[.int .i64 x, .int .i64 y, .int .i64 z, .int .i64 t], .bool true]) (by simp [results, Try.results66, go_sem, *]) rfl (ret_mk ?_)
      repeat (first | (with_reducible exact Below.refl _ _) | (with_reducible assumption) | (with_reducible refine bl_alloc ?_ _) | (with_reducible refine bl_drew ?_) | (with_reducible refine bl_set ?_ (by simp <;> omega) _) | (with_reducible refine bl_call ?_ (by assumption)))
theorem s_Up_some {a b c d n x y z t : Int} (w : World) (h0 : 0 ≤ n) (h1 : n ≤ 60) (hR : upZ ⟨a, b, c, d⟩ n.toNat = some ⟨x, y, z, t⟩) : Calls Try.prog 66 #[.agg #[.int .i64 a, .int .i64 b, .int .i64 c, .int .i64 d], .int .i64 n] w (Ret (.tuple #[.agg #[.int .i64 x, .int .i64 y, .int .i64 z, .int .i64 t], .bool true]) w) := by
  obtain ⟨T, rfl⟩ := Int.eq_ofNat_of_zero_le h0
  rw [Int.toNat_natCast] at hR
  exact s_Up w (by omega) hR
theorem s_Up_none {a b c d n : Int} (w : World) (h0 : 0 ≤ n) (h1 : n ≤ 60) (hR : upZ ⟨a, b, c, d⟩ n.toNat = none) : Calls Try.prog 66 #[.agg #[.int .i64 a, .int .i64 b, .int .i64 c, .int .i64 d], .int .i64 n] w (Ret (.tuple #[.agg #[.int .i64 0, .int .i64 0, .int .i64 0, .int .i64 0], .bool false]) w) := by
  obtain ⟨T, rfl⟩ := Int.eq_ofNat_of_zero_le h0
  rw [Int.toNat_natCast] at hR
  exact s_Up w (by omega) hR
set_option maxHeartbeats 1000000 in
theorem s_AddD_nnn {a b c d k p q r s l M a1 b1 c1 d1 p1 q1 r1 s1 x y z t : Int} (w : World) (h1 : okd ⟨⟨a, b, c, d⟩, k⟩ = true) (h2 : okd ⟨⟨p, q, r, s⟩, l⟩ = true) (hM : max k l = M) (hu1 : upZ ⟨a, b, c, d⟩ (M - k).toNat = none) (hu2 : upZ ⟨p, q, r, s⟩ (M - l).toNat = none) (ha : addZ ⟨0, 0, 0, 0⟩ ⟨0, 0, 0, 0⟩ = none) :
    Calls Try.prog 86 #[.agg #[.int .i64 a, .int .i64 b, .int .i64 c, .int .i64 d, .int .i64 k], .agg #[.int .i64 p, .int .i64 q, .int .i64 r, .int .i64 s, .int .i64 l]] w (Ret (.tuple #[.agg #[.int .i64 0, .int .i64 0, .int .i64 0, .int .i64 0, .int .i64 0], .bool false]) w) := by
  obtain ⟨k0, k1⟩ := okd_rng h1
  obtain ⟨l0, l1⟩ := okd_rng h2
  have m0 : k ≤ M := by omega
  have m1 : l ≤ M := by omega
  have m2 : M ≤ 60 := by omega
  have HMAX : ∀ W, Calls Try.prog 104 #[.int .i64 k, .int .i64 l] W fun e w' => e = .returned (.int .i64 M) ∧ W = w' := fun W => by have := s_max k l W; rwa [hM] at this
  have HMX := Lib.hid HMAX
  clear HMAX hM
  have HU1 := Lib.hid hu1
  clear hu1
  have HU2 := Lib.hid hu2
  clear hu2
  have HA := Lib.hid ha
  clear ha
  go_enter Try.func86, Try.ntmps86
  go_wp2_with fail
  refine (s_okd_t _ h1).mono ?_
  rintro e w1 ⟨rfl, hb1⟩
  obtain ⟨hc1, hf1⟩ := bcell hb1
  have hz1 := hb1.size
  (try simp at hz1)
  have l1w0 : w.heap.size < w1.heap.size := by omega
  have m1w0 : w.heap.size ≤ w1.heap.size := by omega
  have x1w0 : ¬ w.heap.size = w1.heap.size := by omega
  have y1w0 : ¬ w1.heap.size = w.heap.size := by omega
  have l1w1 : w.heap.size + 1 < w1.heap.size := by omega
  have m1w1 : w.heap.size + 1 ≤ w1.heap.size := by omega
  have x1w1 : ¬ w.heap.size + 1 = w1.heap.size := by omega
  have y1w1 : ¬ w1.heap.size = w.heap.size + 1 := by omega
  have l1w2 : w.heap.size + 1 + 1 < w1.heap.size := by omega
  have m1w2 : w.heap.size + 1 + 1 ≤ w1.heap.size := by omega
  have x1w2 : ¬ w.heap.size + 1 + 1 = w1.heap.size := by omega
  have y1w2 : ¬ w1.heap.size = w.heap.size + 1 + 1 := by omega
  go_wp2_with fail
  refine (s_okd_t _ h2).mono ?_
  rintro e w2 ⟨rfl, hb2⟩
  obtain ⟨hc2, hf2⟩ := bcell hb2
  have hz2 := hb2.size
  (try simp at hz2)
  have l2w0 : w.heap.size < w2.heap.size := by omega
  have m2w0 : w.heap.size ≤ w2.heap.size := by omega
  have x2w0 : ¬ w.heap.size = w2.heap.size := by omega
  have y2w0 : ¬ w2.heap.size = w.heap.size := by omega
  have l2w1 : w.heap.size + 1 < w2.heap.size := by omega
  have m2w1 : w.heap.size + 1 ≤ w2.heap.size := by omega
  have x2w1 : ¬ w.heap.size + 1 = w2.heap.size := by omega
  have y2w1 : ¬ w2.heap.size = w.heap.size + 1 := by omega
  have l2w2 : w.heap.size + 1 + 1 < w2.heap.size := by omega
  have m2w2 : w.heap.size + 1 + 1 ≤ w2.heap.size := by omega
  have x2w2 : ¬ w.heap.size + 1 + 1 = w2.heap.size := by omega
  have y2w2 : ¬ w2.heap.size = w.heap.size + 1 + 1 := by omega
  go_wp2_with fail
  refine (HMX.out _).mono ?_
  rintro e w' ⟨rfl, rfl⟩
  go_wp2_with fail
  refine (s_Up_none _ (by omega) (by omega) HU1.out).mono ?_
  rintro e w3 ⟨rfl, hb3⟩
  obtain ⟨hc3, hf3⟩ := bcell hb3
  have hz3 := hb3.size
  (try simp at hz3)
  have l3w0 : w.heap.size < w3.heap.size := by omega
  have m3w0 : w.heap.size ≤ w3.heap.size := by omega
  have x3w0 : ¬ w.heap.size = w3.heap.size := by omega
  have y3w0 : ¬ w3.heap.size = w.heap.size := by omega
  have l3w1 : w.heap.size + 1 < w3.heap.size := by omega
  have m3w1 : w.heap.size + 1 ≤ w3.heap.size := by omega
  have x3w1 : ¬ w.heap.size + 1 = w3.heap.size := by omega
  have y3w1 : ¬ w3.heap.size = w.heap.size + 1 := by omega
  have l3w2 : w.heap.size + 1 + 1 < w3.heap.size := by omega
  have m3w2 : w.heap.size + 1 + 1 ≤ w3.heap.size := by omega
  have x3w2 : ¬ w.heap.size + 1 + 1 = w3.heap.size := by omega
  have y3w2 : ¬ w3.heap.size = w.heap.size + 1 + 1 := by omega
  go_wp2_with fail
  refine (s_Up_none _ (by omega) (by omega) HU2.out).mono ?_
  rintro e w4 ⟨rfl, hb4⟩
  obtain ⟨hc4, hf4⟩ := bcell hb4
  have hz4 := hb4.size
  (try simp at hz4)
  have l4w0 : w.heap.size < w4.heap.size := by omega
  have m4w0 : w.heap.size ≤ w4.heap.size := by omega
  have x4w0 : ¬ w.heap.size = w4.heap.size := by omega
  have y4w0 : ¬ w4.heap.size = w.heap.size := by omega
  have l4w1 : w.heap.size + 1 < w4.heap.size := by omega
  have m4w1 : w.heap.size + 1 ≤ w4.heap.size := by omega
  have x4w1 : ¬ w.heap.size + 1 = w4.heap.size := by omega
  have y4w1 : ¬ w4.heap.size = w.heap.size + 1 := by omega
  have l4w2 : w.heap.size + 1 + 1 < w4.heap.size := by omega
  have m4w2 : w.heap.size + 1 + 1 ≤ w4.heap.size := by omega
  have x4w2 : ¬ w.heap.size + 1 + 1 = w4.heap.size := by omega
  have y4w2 : ¬ w4.heap.size = w.heap.size + 1 + 1 := by omega
  have l4w30 : w3.heap.size < w4.heap.size := by omega
  have m4w30 : w3.heap.size ≤ w4.heap.size := by omega
  have x4w30 : ¬ w3.heap.size = w4.heap.size := by omega
  have y4w30 : ¬ w4.heap.size = w3.heap.size := by omega
  go_wp2_with fail
  refine (s_AddZ_none _ HA.out).mono ?_
  rintro e w5 ⟨rfl, hb5⟩
  obtain ⟨hc5, hf5⟩ := bcell hb5
  have hz5 := hb5.size
  (try simp at hz5)
  have l5w0 : w.heap.size < w5.heap.size := by omega
  have m5w0 : w.heap.size ≤ w5.heap.size := by omega
  have x5w0 : ¬ w.heap.size = w5.heap.size := by omega
  have y5w0 : ¬ w5.heap.size = w.heap.size := by omega
  have l5w1 : w.heap.size + 1 < w5.heap.size := by omega
  have m5w1 : w.heap.size + 1 ≤ w5.heap.size := by omega
  have x5w1 : ¬ w.heap.size + 1 = w5.heap.size := by omega
  have y5w1 : ¬ w5.heap.size = w.heap.size + 1 := by omega
  have l5w2 : w.heap.size + 1 + 1 < w5.heap.size := by omega
  have m5w2 : w.heap.size + 1 + 1 ≤ w5.heap.size := by omega
  have x5w2 : ¬ w.heap.size + 1 + 1 = w5.heap.size := by omega
  have y5w2 : ¬ w5.heap.size = w.heap.size + 1 + 1 := by omega
  have l5w30 : w3.heap.size < w5.heap.size := by omega
  have m5w30 : w3.heap.size ≤ w5.heap.size := by omega
  have x5w30 : ¬ w3.heap.size = w5.heap.size := by omega
  have y5w30 : ¬ w5.heap.size = w3.heap.size := by omega
  have l5w40 : w4.heap.size < w5.heap.size := by omega
  have m5w40 : w4.heap.size ≤ w5.heap.size := by omega
  have x5w40 : ¬ w4.heap.size = w5.heap.size := by omega
  have y5w40 : ¬ w5.heap.size = w4.heap.size := by omega
  go_wp2
  refine bodyPost_ret (v := .tuple #[.agg #[.int .i64 0, .int .i64 0, .int .i64 0, .int .i64 0, .int .i64 0], .bool false]) (by simp [results, Try.results86, go_sem, *]) rfl (ret_mk ?_)
  repeat (first | (with_reducible exact Below.refl _ _) | (with_reducible assumption) | (with_reducible refine bl_alloc ?_ _) | (with_reducible refine bl_drew ?_) | (with_reducible refine bl_set ?_ (by simp <;> omega) _) | (with_reducible refine bl_call ?_ (by assumption)))
set_option maxHeartbeats 1000000 in
theorem s_AddD_nns {a b c d k p q r s l M a1 b1 c1 d1 p1 q1 r1 s1 x y z t : Int} (w : World) (h1 : okd ⟨⟨a, b, c, d⟩, k⟩ = true) (h2 : okd ⟨⟨p, q, r, s⟩, l⟩ = true) (hM : max k l = M) (hu1 : upZ ⟨a, b, c, d⟩ (M - k).toNat = none) (hu2 : upZ ⟨p, q, r, s⟩ (M - l).toNat = none) (ha : addZ ⟨0, 0, 0, 0⟩ ⟨0, 0, 0, 0⟩ = some ⟨x, y, z, t⟩) :
    Calls Try.prog 86 #[.agg #[.int .i64 a, .int .i64 b, .int .i64 c, .int .i64 d, .int .i64 k], .agg #[.int .i64 p, .int .i64 q, .int .i64 r, .int .i64 s, .int .i64 l]] w (Ret (.tuple #[.agg #[.int .i64 0, .int .i64 0, .int .i64 0, .int .i64 0, .int .i64 0], .bool false]) w) := by
  obtain ⟨k0, k1⟩ := okd_rng h1
  obtain ⟨l0, l1⟩ := okd_rng h2
  have m0 : k ≤ M := by omega
  have m1 : l ≤ M := by omega
  have m2 : M ≤ 60 := by omega
  have HMAX : ∀ W, Calls Try.prog 104 #[.int .i64 k, .int .i64 l] W fun e w' => e = .returned (.int .i64 M) ∧ W = w' := fun W => by have := s_max k l W; rwa [hM] at this
  have HMX := Lib.hid HMAX
  clear HMAX hM
  have HU1 := Lib.hid hu1
  clear hu1
  have HU2 := Lib.hid hu2
  clear hu2
  have HA := Lib.hid ha
  clear ha
  go_enter Try.func86, Try.ntmps86
  go_wp2_with fail
  refine (s_okd_t _ h1).mono ?_
  rintro e w1 ⟨rfl, hb1⟩
  obtain ⟨hc1, hf1⟩ := bcell hb1
  have hz1 := hb1.size
  (try simp at hz1)
  have l1w0 : w.heap.size < w1.heap.size := by omega
  have m1w0 : w.heap.size ≤ w1.heap.size := by omega
  have x1w0 : ¬ w.heap.size = w1.heap.size := by omega
  have y1w0 : ¬ w1.heap.size = w.heap.size := by omega
  have l1w1 : w.heap.size + 1 < w1.heap.size := by omega
  have m1w1 : w.heap.size + 1 ≤ w1.heap.size := by omega
  have x1w1 : ¬ w.heap.size + 1 = w1.heap.size := by omega
  have y1w1 : ¬ w1.heap.size = w.heap.size + 1 := by omega
  have l1w2 : w.heap.size + 1 + 1 < w1.heap.size := by omega
  have m1w2 : w.heap.size + 1 + 1 ≤ w1.heap.size := by omega
  have x1w2 : ¬ w.heap.size + 1 + 1 = w1.heap.size := by omega
  have y1w2 : ¬ w1.heap.size = w.heap.size + 1 + 1 := by omega
  go_wp2_with fail
  refine (s_okd_t _ h2).mono ?_
  rintro e w2 ⟨rfl, hb2⟩
  obtain ⟨hc2, hf2⟩ := bcell hb2
  have hz2 := hb2.size
  (try simp at hz2)
  have l2w0 : w.heap.size < w2.heap.size := by omega
  have m2w0 : w.heap.size ≤ w2.heap.size := by omega
  have x2w0 : ¬ w.heap.size = w2.heap.size := by omega
  have y2w0 : ¬ w2.heap.size = w.heap.size := by omega
  have l2w1 : w.heap.size + 1 < w2.heap.size := by omega
  have m2w1 : w.heap.size + 1 ≤ w2.heap.size := by omega
  have x2w1 : ¬ w.heap.size + 1 = w2.heap.size := by omega
  have y2w1 : ¬ w2.heap.size = w.heap.size + 1 := by omega
  have l2w2 : w.heap.size + 1 + 1 < w2.heap.size := by omega
  have m2w2 : w.heap.size + 1 + 1 ≤ w2.heap.size := by omega
  have x2w2 : ¬ w.heap.size + 1 + 1 = w2.heap.size := by omega
  have y2w2 : ¬ w2.heap.size = w.heap.size + 1 + 1 := by omega
  go_wp2_with fail
  refine (HMX.out _).mono ?_
  rintro e w' ⟨rfl, rfl⟩
  go_wp2_with fail
  refine (s_Up_none _ (by omega) (by omega) HU1.out).mono ?_
  rintro e w3 ⟨rfl, hb3⟩
  obtain ⟨hc3, hf3⟩ := bcell hb3
  have hz3 := hb3.size
  (try simp at hz3)
  have l3w0 : w.heap.size < w3.heap.size := by omega
  have m3w0 : w.heap.size ≤ w3.heap.size := by omega
  have x3w0 : ¬ w.heap.size = w3.heap.size := by omega
  have y3w0 : ¬ w3.heap.size = w.heap.size := by omega
  have l3w1 : w.heap.size + 1 < w3.heap.size := by omega
  have m3w1 : w.heap.size + 1 ≤ w3.heap.size := by omega
  have x3w1 : ¬ w.heap.size + 1 = w3.heap.size := by omega
  have y3w1 : ¬ w3.heap.size = w.heap.size + 1 := by omega
  have l3w2 : w.heap.size + 1 + 1 < w3.heap.size := by omega
  have m3w2 : w.heap.size + 1 + 1 ≤ w3.heap.size := by omega
  have x3w2 : ¬ w.heap.size + 1 + 1 = w3.heap.size := by omega
  have y3w2 : ¬ w3.heap.size = w.heap.size + 1 + 1 := by omega
  go_wp2_with fail
  refine (s_Up_none _ (by omega) (by omega) HU2.out).mono ?_
  rintro e w4 ⟨rfl, hb4⟩
  obtain ⟨hc4, hf4⟩ := bcell hb4
  have hz4 := hb4.size
  (try simp at hz4)
  have l4w0 : w.heap.size < w4.heap.size := by omega
  have m4w0 : w.heap.size ≤ w4.heap.size := by omega
  have x4w0 : ¬ w.heap.size = w4.heap.size := by omega
  have y4w0 : ¬ w4.heap.size = w.heap.size := by omega
  have l4w1 : w.heap.size + 1 < w4.heap.size := by omega
  have m4w1 : w.heap.size + 1 ≤ w4.heap.size := by omega
  have x4w1 : ¬ w.heap.size + 1 = w4.heap.size := by omega
  have y4w1 : ¬ w4.heap.size = w.heap.size + 1 := by omega
  have l4w2 : w.heap.size + 1 + 1 < w4.heap.size := by omega
  have m4w2 : w.heap.size + 1 + 1 ≤ w4.heap.size := by omega
  have x4w2 : ¬ w.heap.size + 1 + 1 = w4.heap.size := by omega
  have y4w2 : ¬ w4.heap.size = w.heap.size + 1 + 1 := by omega
  have l4w30 : w3.heap.size < w4.heap.size := by omega
  have m4w30 : w3.heap.size ≤ w4.heap.size := by omega
  have x4w30 : ¬ w3.heap.size = w4.heap.size := by omega
  have y4w30 : ¬ w4.heap.size = w3.heap.size := by omega
  go_wp2_with fail
  refine (s_AddZ_some _ HA.out).mono ?_
  rintro e w5 ⟨rfl, hb5⟩
  obtain ⟨hc5, hf5⟩ := bcell hb5
  have hz5 := hb5.size
  (try simp at hz5)
  have l5w0 : w.heap.size < w5.heap.size := by omega
  have m5w0 : w.heap.size ≤ w5.heap.size := by omega
  have x5w0 : ¬ w.heap.size = w5.heap.size := by omega
  have y5w0 : ¬ w5.heap.size = w.heap.size := by omega
  have l5w1 : w.heap.size + 1 < w5.heap.size := by omega
  have m5w1 : w.heap.size + 1 ≤ w5.heap.size := by omega
  have x5w1 : ¬ w.heap.size + 1 = w5.heap.size := by omega
  have y5w1 : ¬ w5.heap.size = w.heap.size + 1 := by omega
  have l5w2 : w.heap.size + 1 + 1 < w5.heap.size := by omega
  have m5w2 : w.heap.size + 1 + 1 ≤ w5.heap.size := by omega
  have x5w2 : ¬ w.heap.size + 1 + 1 = w5.heap.size := by omega
  have y5w2 : ¬ w5.heap.size = w.heap.size + 1 + 1 := by omega
  have l5w30 : w3.heap.size < w5.heap.size := by omega
  have m5w30 : w3.heap.size ≤ w5.heap.size := by omega
  have x5w30 : ¬ w3.heap.size = w5.heap.size := by omega
  have y5w30 : ¬ w5.heap.size = w3.heap.size := by omega
  have l5w40 : w4.heap.size < w5.heap.size := by omega
  have m5w40 : w4.heap.size ≤ w5.heap.size := by omega
  have x5w40 : ¬ w4.heap.size = w5.heap.size := by omega
  have y5w40 : ¬ w5.heap.size = w4.heap.size := by omega
  go_wp2
  refine bodyPost_ret (v := .tuple #[.agg #[.int .i64 0, .int .i64 0, .int .i64 0, .int .i64 0, .int .i64 0], .bool false]) (by simp [results, Try.results86, go_sem, *]) rfl (ret_mk ?_)
  repeat (first | (with_reducible exact Below.refl _ _) | (with_reducible assumption) | (with_reducible refine bl_alloc ?_ _) | (with_reducible refine bl_drew ?_) | (with_reducible refine bl_set ?_ (by simp <;> omega) _) | (with_reducible refine bl_call ?_ (by assumption)))
set_option maxHeartbeats 1000000 in
theorem s_AddD_nsn {a b c d k p q r s l M a1 b1 c1 d1 p1 q1 r1 s1 x y z t : Int} (w : World) (h1 : okd ⟨⟨a, b, c, d⟩, k⟩ = true) (h2 : okd ⟨⟨p, q, r, s⟩, l⟩ = true) (hM : max k l = M) (hu1 : upZ ⟨a, b, c, d⟩ (M - k).toNat = none) (hu2 : upZ ⟨p, q, r, s⟩ (M - l).toNat = some ⟨p1, q1, r1, s1⟩) (ha : addZ ⟨0, 0, 0, 0⟩ ⟨p1, q1, r1, s1⟩ = none) :
    Calls Try.prog 86 #[.agg #[.int .i64 a, .int .i64 b, .int .i64 c, .int .i64 d, .int .i64 k], .agg #[.int .i64 p, .int .i64 q, .int .i64 r, .int .i64 s, .int .i64 l]] w (Ret (.tuple #[.agg #[.int .i64 0, .int .i64 0, .int .i64 0, .int .i64 0, .int .i64 0], .bool false]) w) := by
  obtain ⟨k0, k1⟩ := okd_rng h1
  obtain ⟨l0, l1⟩ := okd_rng h2
  have m0 : k ≤ M := by omega
  have m1 : l ≤ M := by omega
  have m2 : M ≤ 60 := by omega
  have HMAX : ∀ W, Calls Try.prog 104 #[.int .i64 k, .int .i64 l] W fun e w' => e = .returned (.int .i64 M) ∧ W = w' := fun W => by have := s_max k l W; rwa [hM] at this
  have HMX := Lib.hid HMAX
  clear HMAX hM
  have HU1 := Lib.hid hu1
  clear hu1
  have HU2 := Lib.hid hu2
  clear hu2
  have HA := Lib.hid ha
  clear ha
  go_enter Try.func86, Try.ntmps86
  go_wp2_with fail
  refine (s_okd_t _ h1).mono ?_
  rintro e w1 ⟨rfl, hb1⟩
  obtain ⟨hc1, hf1⟩ := bcell hb1
  have hz1 := hb1.size
  (try simp at hz1)
  have l1w0 : w.heap.size < w1.heap.size := by omega
  have m1w0 : w.heap.size ≤ w1.heap.size := by omega
  have x1w0 : ¬ w.heap.size = w1.heap.size := by omega
  have y1w0 : ¬ w1.heap.size = w.heap.size := by omega
  have l1w1 : w.heap.size + 1 < w1.heap.size := by omega
  have m1w1 : w.heap.size + 1 ≤ w1.heap.size := by omega
  have x1w1 : ¬ w.heap.size + 1 = w1.heap.size := by omega
  have y1w1 : ¬ w1.heap.size = w.heap.size + 1 := by omega
  have l1w2 : w.heap.size + 1 + 1 < w1.heap.size := by omega
  have m1w2 : w.heap.size + 1 + 1 ≤ w1.heap.size := by omega
  have x1w2 : ¬ w.heap.size + 1 + 1 = w1.heap.size := by omega
  have y1w2 : ¬ w1.heap.size = w.heap.size + 1 + 1 := by omega
  go_wp2_with fail
  refine (s_okd_t _ h2).mono ?_
  rintro e w2 ⟨rfl, hb2⟩
  obtain ⟨hc2, hf2⟩ := bcell hb2
  have hz2 := hb2.size
  (try simp at hz2)
  have l2w0 : w.heap.size < w2.heap.size := by omega
  have m2w0 : w.heap.size ≤ w2.heap.size := by omega
  have x2w0 : ¬ w.heap.size = w2.heap.size := by omega
  have y2w0 : ¬ w2.heap.size = w.heap.size := by omega
  have l2w1 : w.heap.size + 1 < w2.heap.size := by omega
  have m2w1 : w.heap.size + 1 ≤ w2.heap.size := by omega
  have x2w1 : ¬ w.heap.size + 1 = w2.heap.size := by omega
  have y2w1 : ¬ w2.heap.size = w.heap.size + 1 := by omega
  have l2w2 : w.heap.size + 1 + 1 < w2.heap.size := by omega
  have m2w2 : w.heap.size + 1 + 1 ≤ w2.heap.size := by omega
  have x2w2 : ¬ w.heap.size + 1 + 1 = w2.heap.size := by omega
  have y2w2 : ¬ w2.heap.size = w.heap.size + 1 + 1 := by omega
  go_wp2_with fail
  refine (HMX.out _).mono ?_
  rintro e w' ⟨rfl, rfl⟩
  go_wp2_with fail
  refine (s_Up_none _ (by omega) (by omega) HU1.out).mono ?_
  rintro e w3 ⟨rfl, hb3⟩
  obtain ⟨hc3, hf3⟩ := bcell hb3
  have hz3 := hb3.size
  (try simp at hz3)
  have l3w0 : w.heap.size < w3.heap.size := by omega
  have m3w0 : w.heap.size ≤ w3.heap.size := by omega
  have x3w0 : ¬ w.heap.size = w3.heap.size := by omega
  have y3w0 : ¬ w3.heap.size = w.heap.size := by omega
  have l3w1 : w.heap.size + 1 < w3.heap.size := by omega
  have m3w1 : w.heap.size + 1 ≤ w3.heap.size := by omega
  have x3w1 : ¬ w.heap.size + 1 = w3.heap.size := by omega
  have y3w1 : ¬ w3.heap.size = w.heap.size + 1 := by omega
  have l3w2 : w.heap.size + 1 + 1 < w3.heap.size := by omega
  have m3w2 : w.heap.size + 1 + 1 ≤ w3.heap.size := by omega
  have x3w2 : ¬ w.heap.size + 1 + 1 = w3.heap.size := by omega
  have y3w2 : ¬ w3.heap.size = w.heap.size + 1 + 1 := by omega
  go_wp2_with fail
  refine (s_Up_some _ (by omega) (by omega) HU2.out).mono ?_
  rintro e w4 ⟨rfl, hb4⟩
  obtain ⟨hc4, hf4⟩ := bcell hb4
  have hz4 := hb4.size
  (try simp at hz4)
  have l4w0 : w.heap.size < w4.heap.size := by omega
  have m4w0 : w.heap.size ≤ w4.heap.size := by omega
  have x4w0 : ¬ w.heap.size = w4.heap.size := by omega
  have y4w0 : ¬ w4.heap.size = w.heap.size := by omega
  have l4w1 : w.heap.size + 1 < w4.heap.size := by omega
  have m4w1 : w.heap.size + 1 ≤ w4.heap.size := by omega
  have x4w1 : ¬ w.heap.size + 1 = w4.heap.size := by omega
  have y4w1 : ¬ w4.heap.size = w.heap.size + 1 := by omega
  have l4w2 : w.heap.size + 1 + 1 < w4.heap.size := by omega
  have m4w2 : w.heap.size + 1 + 1 ≤ w4.heap.size := by omega
  have x4w2 : ¬ w.heap.size + 1 + 1 = w4.heap.size := by omega
  have y4w2 : ¬ w4.heap.size = w.heap.size + 1 + 1 := by omega
  have l4w30 : w3.heap.size < w4.heap.size := by omega
  have m4w30 : w3.heap.size ≤ w4.heap.size := by omega
  have x4w30 : ¬ w3.heap.size = w4.heap.size := by omega
  have y4w30 : ¬ w4.heap.size = w3.heap.size := by omega
  go_wp2_with fail
  refine (s_AddZ_none _ HA.out).mono ?_
  rintro e w5 ⟨rfl, hb5⟩
  obtain ⟨hc5, hf5⟩ := bcell hb5
  have hz5 := hb5.size
  (try simp at hz5)
  have l5w0 : w.heap.size < w5.heap.size := by omega
  have m5w0 : w.heap.size ≤ w5.heap.size := by omega
  have x5w0 : ¬ w.heap.size = w5.heap.size := by omega
  have y5w0 : ¬ w5.heap.size = w.heap.size := by omega
  have l5w1 : w.heap.size + 1 < w5.heap.size := by omega
  have m5w1 : w.heap.size + 1 ≤ w5.heap.size := by omega
  have x5w1 : ¬ w.heap.size + 1 = w5.heap.size := by omega
  have y5w1 : ¬ w5.heap.size = w.heap.size + 1 := by omega
  have l5w2 : w.heap.size + 1 + 1 < w5.heap.size := by omega
  have m5w2 : w.heap.size + 1 + 1 ≤ w5.heap.size := by omega
  have x5w2 : ¬ w.heap.size + 1 + 1 = w5.heap.size := by omega
  have y5w2 : ¬ w5.heap.size = w.heap.size + 1 + 1 := by omega
  have l5w30 : w3.heap.size < w5.heap.size := by omega
  have m5w30 : w3.heap.size ≤ w5.heap.size := by omega
  have x5w30 : ¬ w3.heap.size = w5.heap.size := by omega
  have y5w30 : ¬ w5.heap.size = w3.heap.size := by omega
  have l5w40 : w4.heap.size < w5.heap.size := by omega
  have m5w40 : w4.heap.size ≤ w5.heap.size := by omega
  have x5w40 : ¬ w4.heap.size = w5.heap.size := by omega
  have y5w40 : ¬ w5.heap.size = w4.heap.size := by omega
  go_wp2
  refine bodyPost_ret (v := .tuple #[.agg #[.int .i64 0, .int .i64 0, .int .i64 0, .int .i64 0, .int .i64 0], .bool false]) (by simp [results, Try.results86, go_sem, *]) rfl (ret_mk ?_)
  repeat (first | (with_reducible exact Below.refl _ _) | (with_reducible assumption) | (with_reducible refine bl_alloc ?_ _) | (with_reducible refine bl_drew ?_) | (with_reducible refine bl_set ?_ (by simp <;> omega) _) | (with_reducible refine bl_call ?_ (by assumption)))
set_option maxHeartbeats 1000000 in
theorem s_AddD_nss {a b c d k p q r s l M a1 b1 c1 d1 p1 q1 r1 s1 x y z t : Int} (w : World) (h1 : okd ⟨⟨a, b, c, d⟩, k⟩ = true) (h2 : okd ⟨⟨p, q, r, s⟩, l⟩ = true) (hM : max k l = M) (hu1 : upZ ⟨a, b, c, d⟩ (M - k).toNat = none) (hu2 : upZ ⟨p, q, r, s⟩ (M - l).toNat = some ⟨p1, q1, r1, s1⟩) (ha : addZ ⟨0, 0, 0, 0⟩ ⟨p1, q1, r1, s1⟩ = some ⟨x, y, z, t⟩) :
    Calls Try.prog 86 #[.agg #[.int .i64 a, .int .i64 b, .int .i64 c, .int .i64 d, .int .i64 k], .agg #[.int .i64 p, .int .i64 q, .int .i64 r, .int .i64 s, .int .i64 l]] w (Ret (.tuple #[.agg #[.int .i64 0, .int .i64 0, .int .i64 0, .int .i64 0, .int .i64 0], .bool false]) w) := by
  obtain ⟨k0, k1⟩ := okd_rng h1
  obtain ⟨l0, l1⟩ := okd_rng h2
  have m0 : k ≤ M := by omega
  have m1 : l ≤ M := by omega
  have m2 : M ≤ 60 := by omega
  have HMAX : ∀ W, Calls Try.prog 104 #[.int .i64 k, .int .i64 l] W fun e w' => e = .returned (.int .i64 M) ∧ W = w' := fun W => by have := s_max k l W; rwa [hM] at this
  have HMX := Lib.hid HMAX
  clear HMAX hM
  have HU1 := Lib.hid hu1
  clear hu1
  have HU2 := Lib.hid hu2
  clear hu2
  have HA := Lib.hid ha
  clear ha
  go_enter Try.func86, Try.ntmps86
  go_wp2_with fail
  refine (s_okd_t _ h1).mono ?_
  rintro e w1 ⟨rfl, hb1⟩
  obtain ⟨hc1, hf1⟩ := bcell hb1
  have hz1 := hb1.size
  (try simp at hz1)
  have l1w0 : w.heap.size < w1.heap.size := by omega
  have m1w0 : w.heap.size ≤ w1.heap.size := by omega
  have x1w0 : ¬ w.heap.size = w1.heap.size := by omega
  have y1w0 : ¬ w1.heap.size = w.heap.size := by omega
  have l1w1 : w.heap.size + 1 < w1.heap.size := by omega
  have m1w1 : w.heap.size + 1 ≤ w1.heap.size := by omega
  have x1w1 : ¬ w.heap.size + 1 = w1.heap.size := by omega
  have y1w1 : ¬ w1.heap.size = w.heap.size + 1 := by omega
  have l1w2 : w.heap.size + 1 + 1 < w1.heap.size := by omega
  have m1w2 : w.heap.size + 1 + 1 ≤ w1.heap.size := by omega
  have x1w2 : ¬ w.heap.size + 1 + 1 = w1.heap.size := by omega
  have y1w2 : ¬ w1.heap.size = w.heap.size + 1 + 1 := by omega
  go_wp2_with fail
  refine (s_okd_t _ h2).mono ?_
  rintro e w2 ⟨rfl, hb2⟩
  obtain ⟨hc2, hf2⟩ := bcell hb2
  have hz2 := hb2.size
  (try simp at hz2)
  have l2w0 : w.heap.size < w2.heap.size := by omega
  have m2w0 : w.heap.size ≤ w2.heap.size := by omega
  have x2w0 : ¬ w.heap.size = w2.heap.size := by omega
  have y2w0 : ¬ w2.heap.size = w.heap.size := by omega
  have l2w1 : w.heap.size + 1 < w2.heap.size := by omega
  have m2w1 : w.heap.size + 1 ≤ w2.heap.size := by omega
  have x2w1 : ¬ w.heap.size + 1 = w2.heap.size := by omega
  have y2w1 : ¬ w2.heap.size = w.heap.size + 1 := by omega
  have l2w2 : w.heap.size + 1 + 1 < w2.heap.size := by omega
  have m2w2 : w.heap.size + 1 + 1 ≤ w2.heap.size := by omega
  have x2w2 : ¬ w.heap.size + 1 + 1 = w2.heap.size := by omega
  have y2w2 : ¬ w2.heap.size = w.heap.size + 1 + 1 := by omega
  go_wp2_with fail
  refine (HMX.out _).mono ?_
  rintro e w' ⟨rfl, rfl⟩
  go_wp2_with fail
  refine (s_Up_none _ (by omega) (by omega) HU1.out).mono ?_
  rintro e w3 ⟨rfl, hb3⟩
  obtain ⟨hc3, hf3⟩ := bcell hb3
  have hz3 := hb3.size
  (try simp at hz3)
  have l3w0 : w.heap.size < w3.heap.size := by omega
  have m3w0 : w.heap.size ≤ w3.heap.size := by omega
  have x3w0 : ¬ w.heap.size = w3.heap.size := by omega
  have y3w0 : ¬ w3.heap.size = w.heap.size := by omega
  have l3w1 : w.heap.size + 1 < w3.heap.size := by omega
  have m3w1 : w.heap.size + 1 ≤ w3.heap.size := by omega
  have x3w1 : ¬ w.heap.size + 1 = w3.heap.size := by omega
  have y3w1 : ¬ w3.heap.size = w.heap.size + 1 := by omega
  have l3w2 : w.heap.size + 1 + 1 < w3.heap.size := by omega
  have m3w2 : w.heap.size + 1 + 1 ≤ w3.heap.size := by omega
  have x3w2 : ¬ w.heap.size + 1 + 1 = w3.heap.size := by omega
  have y3w2 : ¬ w3.heap.size = w.heap.size + 1 + 1 := by omega
  go_wp2_with fail
  refine (s_Up_some _ (by omega) (by omega) HU2.out).mono ?_
  rintro e w4 ⟨rfl, hb4⟩
  obtain ⟨hc4, hf4⟩ := bcell hb4
  have hz4 := hb4.size
  (try simp at hz4)
  have l4w0 : w.heap.size < w4.heap.size := by omega
  have m4w0 : w.heap.size ≤ w4.heap.size := by omega
  have x4w0 : ¬ w.heap.size = w4.heap.size := by omega
  have y4w0 : ¬ w4.heap.size = w.heap.size := by omega
  have l4w1 : w.heap.size + 1 < w4.heap.size := by omega
  have m4w1 : w.heap.size + 1 ≤ w4.heap.size := by omega
  have x4w1 : ¬ w.heap.size + 1 = w4.heap.size := by omega
  have y4w1 : ¬ w4.heap.size = w.heap.size + 1 := by omega
  have l4w2 : w.heap.size + 1 + 1 < w4.heap.size := by omega
  have m4w2 : w.heap.size + 1 + 1 ≤ w4.heap.size := by omega
  have x4w2 : ¬ w.heap.size + 1 + 1 = w4.heap.size := by omega
  have y4w2 : ¬ w4.heap.size = w.heap.size + 1 + 1 := by omega
  have l4w30 : w3.heap.size < w4.heap.size := by omega
  have m4w30 : w3.heap.size ≤ w4.heap.size := by omega
  have x4w30 : ¬ w3.heap.size = w4.heap.size := by omega
  have y4w30 : ¬ w4.heap.size = w3.heap.size := by omega
  go_wp2_with fail
  refine (s_AddZ_some _ HA.out).mono ?_
  rintro e w5 ⟨rfl, hb5⟩
  obtain ⟨hc5, hf5⟩ := bcell hb5
  have hz5 := hb5.size
  (try simp at hz5)
  have l5w0 : w.heap.size < w5.heap.size := by omega
  have m5w0 : w.heap.size ≤ w5.heap.size := by omega
  have x5w0 : ¬ w.heap.size = w5.heap.size := by omega
  have y5w0 : ¬ w5.heap.size = w.heap.size := by omega
  have l5w1 : w.heap.size + 1 < w5.heap.size := by omega
  have m5w1 : w.heap.size + 1 ≤ w5.heap.size := by omega
  have x5w1 : ¬ w.heap.size + 1 = w5.heap.size := by omega
  have y5w1 : ¬ w5.heap.size = w.heap.size + 1 := by omega
  have l5w2 : w.heap.size + 1 + 1 < w5.heap.size := by omega
  have m5w2 : w.heap.size + 1 + 1 ≤ w5.heap.size := by omega
  have x5w2 : ¬ w.heap.size + 1 + 1 = w5.heap.size := by omega
  have y5w2 : ¬ w5.heap.size = w.heap.size + 1 + 1 := by omega
  have l5w30 : w3.heap.size < w5.heap.size := by omega
  have m5w30 : w3.heap.size ≤ w5.heap.size := by omega
  have x5w30 : ¬ w3.heap.size = w5.heap.size := by omega
  have y5w30 : ¬ w5.heap.size = w3.heap.size := by omega
  have l5w40 : w4.heap.size < w5.heap.size := by omega
  have m5w40 : w4.heap.size ≤ w5.heap.size := by omega
  have x5w40 : ¬ w4.heap.size = w5.heap.size := by omega
  have y5w40 : ¬ w5.heap.size = w4.heap.size := by omega
  go_wp2
  refine bodyPost_ret (v := .tuple #[.agg #[.int .i64 0, .int .i64 0, .int .i64 0, .int .i64 0, .int .i64 0], .bool false]) (by simp [results, Try.results86, go_sem, *]) rfl (ret_mk ?_)
  repeat (first | (with_reducible exact Below.refl _ _) | (with_reducible assumption) | (with_reducible refine bl_alloc ?_ _) | (with_reducible refine bl_drew ?_) | (with_reducible refine bl_set ?_ (by simp <;> omega) _) | (with_reducible refine bl_call ?_ (by assumption)))
set_option maxHeartbeats 1000000 in
theorem s_AddD_snn {a b c d k p q r s l M a1 b1 c1 d1 p1 q1 r1 s1 x y z t : Int} (w : World) (h1 : okd ⟨⟨a, b, c, d⟩, k⟩ = true) (h2 : okd ⟨⟨p, q, r, s⟩, l⟩ = true) (hM : max k l = M) (hu1 : upZ ⟨a, b, c, d⟩ (M - k).toNat = some ⟨a1, b1, c1, d1⟩) (hu2 : upZ ⟨p, q, r, s⟩ (M - l).toNat = none) (ha : addZ ⟨a1, b1, c1, d1⟩ ⟨0, 0, 0, 0⟩ = none) :
    Calls Try.prog 86 #[.agg #[.int .i64 a, .int .i64 b, .int .i64 c, .int .i64 d, .int .i64 k], .agg #[.int .i64 p, .int .i64 q, .int .i64 r, .int .i64 s, .int .i64 l]] w (Ret (.tuple #[.agg #[.int .i64 0, .int .i64 0, .int .i64 0, .int .i64 0, .int .i64 0], .bool false]) w) := by
  obtain ⟨k0, k1⟩ := okd_rng h1
  obtain ⟨l0, l1⟩ := okd_rng h2
  have m0 : k ≤ M := by omega
  have m1 : l ≤ M := by omega
  have m2 : M ≤ 60 := by omega
  have HMAX : ∀ W, Calls Try.prog 104 #[.int .i64 k, .int .i64 l] W fun e w' => e = .returned (.int .i64 M) ∧ W = w' := fun W => by have := s_max k l W; rwa [hM] at this
  have HMX := Lib.hid HMAX
  clear HMAX hM
  have HU1 := Lib.hid hu1
  clear hu1
  have HU2 := Lib.hid hu2
  clear hu2
  have HA := Lib.hid ha
  clear ha
  go_enter Try.func86, Try.ntmps86
  go_wp2_with fail
  refine (s_okd_t _ h1).mono ?_
  rintro e w1 ⟨rfl, hb1⟩
  obtain ⟨hc1, hf1⟩ := bcell hb1
  have hz1 := hb1.size
  (try simp at hz1)
  have l1w0 : w.heap.size < w1.heap.size := by omega
  have m1w0 : w.heap.size ≤ w1.heap.size := by omega
  have x1w0 : ¬ w.heap.size = w1.heap.size := by omega
  have y1w0 : ¬ w1.heap.size = w.heap.size := by omega
  have l1w1 : w.heap.size + 1 < w1.heap.size := by omega
  have m1w1 : w.heap.size + 1 ≤ w1.heap.size := by omega
  have x1w1 : ¬ w.heap.size + 1 = w1.heap.size := by omega
  have y1w1 : ¬ w1.heap.size = w.heap.size + 1 := by omega
  have l1w2 : w.heap.size + 1 + 1 < w1.heap.size := by omega
  have m1w2 : w.heap.size + 1 + 1 ≤ w1.heap.size := by omega
  have x1w2 : ¬ w.heap.size + 1 + 1 = w1.heap.size := by omega
  have y1w2 : ¬ w1.heap.size = w.heap.size + 1 + 1 := by omega
  go_wp2_with fail
  refine (s_okd_t _ h2).mono ?_
  rintro e w2 ⟨rfl, hb2⟩
  obtain ⟨hc2, hf2⟩ := bcell hb2
  have hz2 := hb2.size
  (try simp at hz2)
  have l2w0 : w.heap.size < w2.heap.size := by omega
  have m2w0 : w.heap.size ≤ w2.heap.size := by omega
  have x2w0 : ¬ w.heap.size = w2.heap.size := by omega
  have y2w0 : ¬ w2.heap.size = w.heap.size := by omega
  have l2w1 : w.heap.size + 1 < w2.heap.size := by omega
  have m2w1 : w.heap.size + 1 ≤ w2.heap.size := by omega
  have x2w1 : ¬ w.heap.size + 1 = w2.heap.size := by omega
  have y2w1 : ¬ w2.heap.size = w.heap.size + 1 := by omega
  have l2w2 : w.heap.size + 1 + 1 < w2.heap.size := by omega
  have m2w2 : w.heap.size + 1 + 1 ≤ w2.heap.size := by omega
  have x2w2 : ¬ w.heap.size + 1 + 1 = w2.heap.size := by omega
  have y2w2 : ¬ w2.heap.size = w.heap.size + 1 + 1 := by omega
  go_wp2_with fail
  refine (HMX.out _).mono ?_
  rintro e w' ⟨rfl, rfl⟩
  go_wp2_with fail
  refine (s_Up_some _ (by omega) (by omega) HU1.out).mono ?_
  rintro e w3 ⟨rfl, hb3⟩
  obtain ⟨hc3, hf3⟩ := bcell hb3
  have hz3 := hb3.size
  (try simp at hz3)
  have l3w0 : w.heap.size < w3.heap.size := by omega
  have m3w0 : w.heap.size ≤ w3.heap.size := by omega
  have x3w0 : ¬ w.heap.size = w3.heap.size := by omega
  have y3w0 : ¬ w3.heap.size = w.heap.size := by omega
  have l3w1 : w.heap.size + 1 < w3.heap.size := by omega
  have m3w1 : w.heap.size + 1 ≤ w3.heap.size := by omega
  have x3w1 : ¬ w.heap.size + 1 = w3.heap.size := by omega
  have y3w1 : ¬ w3.heap.size = w.heap.size + 1 := by omega
  have l3w2 : w.heap.size + 1 + 1 < w3.heap.size := by omega
  have m3w2 : w.heap.size + 1 + 1 ≤ w3.heap.size := by omega
  have x3w2 : ¬ w.heap.size + 1 + 1 = w3.heap.size := by omega
  have y3w2 : ¬ w3.heap.size = w.heap.size + 1 + 1 := by omega
  go_wp2_with fail
  refine (s_Up_none _ (by omega) (by omega) HU2.out).mono ?_
  rintro e w4 ⟨rfl, hb4⟩
  obtain ⟨hc4, hf4⟩ := bcell hb4
  have hz4 := hb4.size
  (try simp at hz4)
  have l4w0 : w.heap.size < w4.heap.size := by omega
  have m4w0 : w.heap.size ≤ w4.heap.size := by omega
  have x4w0 : ¬ w.heap.size = w4.heap.size := by omega
  have y4w0 : ¬ w4.heap.size = w.heap.size := by omega
  have l4w1 : w.heap.size + 1 < w4.heap.size := by omega
  have m4w1 : w.heap.size + 1 ≤ w4.heap.size := by omega
  have x4w1 : ¬ w.heap.size + 1 = w4.heap.size := by omega
  have y4w1 : ¬ w4.heap.size = w.heap.size + 1 := by omega
  have l4w2 : w.heap.size + 1 + 1 < w4.heap.size := by omega
  have m4w2 : w.heap.size + 1 + 1 ≤ w4.heap.size := by omega
  have x4w2 : ¬ w.heap.size + 1 + 1 = w4.heap.size := by omega
  have y4w2 : ¬ w4.heap.size = w.heap.size + 1 + 1 := by omega
  have l4w30 : w3.heap.size < w4.heap.size := by omega
  have m4w30 : w3.heap.size ≤ w4.heap.size := by omega
  have x4w30 : ¬ w3.heap.size = w4.heap.size := by omega
  have y4w30 : ¬ w4.heap.size = w3.heap.size := by omega
  go_wp2_with fail
  refine (s_AddZ_none _ HA.out).mono ?_
  rintro e w5 ⟨rfl, hb5⟩
  obtain ⟨hc5, hf5⟩ := bcell hb5
  have hz5 := hb5.size
  (try simp at hz5)
  have l5w0 : w.heap.size < w5.heap.size := by omega
  have m5w0 : w.heap.size ≤ w5.heap.size := by omega
  have x5w0 : ¬ w.heap.size = w5.heap.size := by omega
  have y5w0 : ¬ w5.heap.size = w.heap.size := by omega
  have l5w1 : w.heap.size + 1 < w5.heap.size := by omega
  have m5w1 : w.heap.size + 1 ≤ w5.heap.size := by omega
  have x5w1 : ¬ w.heap.size + 1 = w5.heap.size := by omega
  have y5w1 : ¬ w5.heap.size = w.heap.size + 1 := by omega
  have l5w2 : w.heap.size + 1 + 1 < w5.heap.size := by omega
  have m5w2 : w.heap.size + 1 + 1 ≤ w5.heap.size := by omega
  have x5w2 : ¬ w.heap.size + 1 + 1 = w5.heap.size := by omega
  have y5w2 : ¬ w5.heap.size = w.heap.size + 1 + 1 := by omega
  have l5w30 : w3.heap.size < w5.heap.size := by omega
  have m5w30 : w3.heap.size ≤ w5.heap.size := by omega
  have x5w30 : ¬ w3.heap.size = w5.heap.size := by omega
  have y5w30 : ¬ w5.heap.size = w3.heap.size := by omega
  have l5w40 : w4.heap.size < w5.heap.size := by omega
  have m5w40 : w4.heap.size ≤ w5.heap.size := by omega
  have x5w40 : ¬ w4.heap.size = w5.heap.size := by omega
  have y5w40 : ¬ w5.heap.size = w4.heap.size := by omega
  go_wp2
  refine bodyPost_ret (v := .tuple #[.agg #[.int .i64 0, .int .i64 0, .int .i64 0, .int .i64 0, .int .i64 0], .bool false]) (by simp [results, Try.results86, go_sem, *]) rfl (ret_mk ?_)
  repeat (first | (with_reducible exact Below.refl _ _) | (with_reducible assumption) | (with_reducible refine bl_alloc ?_ _) | (with_reducible refine bl_drew ?_) | (with_reducible refine bl_set ?_ (by simp <;> omega) _) | (with_reducible refine bl_call ?_ (by assumption)))
set_option maxHeartbeats 1000000 in
theorem s_AddD_sns {a b c d k p q r s l M a1 b1 c1 d1 p1 q1 r1 s1 x y z t : Int} (w : World) (h1 : okd ⟨⟨a, b, c, d⟩, k⟩ = true) (h2 : okd ⟨⟨p, q, r, s⟩, l⟩ = true) (hM : max k l = M) (hu1 : upZ ⟨a, b, c, d⟩ (M - k).toNat = some ⟨a1, b1, c1, d1⟩) (hu2 : upZ ⟨p, q, r, s⟩ (M - l).toNat = none) (ha : addZ ⟨a1, b1, c1, d1⟩ ⟨0, 0, 0, 0⟩ = some ⟨x, y, z, t⟩) :
    Calls Try.prog 86 #[.agg #[.int .i64 a, .int .i64 b, .int .i64 c, .int .i64 d, .int .i64 k], .agg #[.int .i64 p, .int .i64 q, .int .i64 r, .int .i64 s, .int .i64 l]] w (Ret (.tuple #[.agg #[.int .i64 0, .int .i64 0, .int .i64 0, .int .i64 0, .int .i64 0], .bool false]) w) := by
  obtain ⟨k0, k1⟩ := okd_rng h1
  obtain ⟨l0, l1⟩ := okd_rng h2
  have m0 : k ≤ M := by omega
  have m1 : l ≤ M := by omega
  have m2 : M ≤ 60 := by omega
  have HMAX : ∀ W, Calls Try.prog 104 #[.int .i64 k, .int .i64 l] W fun e w' => e = .returned (.int .i64 M) ∧ W = w' := fun W => by have := s_max k l W; rwa [hM] at this
  have HMX := Lib.hid HMAX
  clear HMAX hM
  have HU1 := Lib.hid hu1
  clear hu1
  have HU2 := Lib.hid hu2
  clear hu2
  have HA := Lib.hid ha
  clear ha
  go_enter Try.func86, Try.ntmps86
  go_wp2_with fail
  refine (s_okd_t _ h1).mono ?_
  rintro e w1 ⟨rfl, hb1⟩
  obtain ⟨hc1, hf1⟩ := bcell hb1
  have hz1 := hb1.size
  (try simp at hz1)
  have l1w0 : w.heap.size < w1.heap.size := by omega
  have m1w0 : w.heap.size ≤ w1.heap.size := by omega
  have x1w0 : ¬ w.heap.size = w1.heap.size := by omega
  have y1w0 : ¬ w1.heap.size = w.heap.size := by omega
  have l1w1 : w.heap.size + 1 < w1.heap.size := by omega
  have m1w1 : w.heap.size + 1 ≤ w1.heap.size := by omega
  have x1w1 : ¬ w.heap.size + 1 = w1.heap.size := by omega
  have y1w1 : ¬ w1.heap.size = w.heap.size + 1 := by omega
  have l1w2 : w.heap.size + 1 + 1 < w1.heap.size := by omega
  have m1w2 : w.heap.size + 1 + 1 ≤ w1.heap.size := by omega
  have x1w2 : ¬ w.heap.size + 1 + 1 = w1.heap.size := by omega
  have y1w2 : ¬ w1.heap.size = w.heap.size + 1 + 1 := by omega
  go_wp2_with fail
  refine (s_okd_t _ h2).mono ?_
  rintro e w2 ⟨rfl, hb2⟩
  obtain ⟨hc2, hf2⟩ := bcell hb2
  have hz2 := hb2.size
  (try simp at hz2)
  have l2w0 : w.heap.size < w2.heap.size := by omega
  have m2w0 : w.heap.size ≤ w2.heap.size := by omega
  have x2w0 : ¬ w.heap.size = w2.heap.size := by omega
  have y2w0 : ¬ w2.heap.size = w.heap.size := by omega
  have l2w1 : w.heap.size + 1 < w2.heap.size := by omega
  have m2w1 : w.heap.size + 1 ≤ w2.heap.size := by omega
  have x2w1 : ¬ w.heap.size + 1 = w2.heap.size := by omega
  have y2w1 : ¬ w2.heap.size = w.heap.size + 1 := by omega
  have l2w2 : w.heap.size + 1 + 1 < w2.heap.size := by omega
  have m2w2 : w.heap.size + 1 + 1 ≤ w2.heap.size := by omega
  have x2w2 : ¬ w.heap.size + 1 + 1 = w2.heap.size := by omega
  have y2w2 : ¬ w2.heap.size = w.heap.size + 1 + 1 := by omega
  go_wp2_with fail
  refine (HMX.out _).mono ?_
  rintro e w' ⟨rfl, rfl⟩
  go_wp2_with fail
  refine (s_Up_some _ (by omega) (by omega) HU1.out).mono ?_
  rintro e w3 ⟨rfl, hb3⟩
  obtain ⟨hc3, hf3⟩ := bcell hb3
  have hz3 := hb3.size
  (try simp at hz3)
  have l3w0 : w.heap.size < w3.heap.size := by omega
  have m3w0 : w.heap.size ≤ w3.heap.size := by omega
  have x3w0 : ¬ w.heap.size = w3.heap.size := by omega
  have y3w0 : ¬ w3.heap.size = w.heap.size := by omega
  have l3w1 : w.heap.size + 1 < w3.heap.size := by omega
  have m3w1 : w.heap.size + 1 ≤ w3.heap.size := by omega
  have x3w1 : ¬ w.heap.size + 1 = w3.heap.size := by omega
  have y3w1 : ¬ w3.heap.size = w.heap.size + 1 := by omega
  have l3w2 : w.heap.size + 1 + 1 < w3.heap.size := by omega
  have m3w2 : w.heap.size + 1 + 1 ≤ w3.heap.size := by omega
  have x3w2 : ¬ w.heap.size + 1 + 1 = w3.heap.size := by omega
  have y3w2 : ¬ w3.heap.size = w.heap.size + 1 + 1 := by omega
  go_wp2_with fail
  refine (s_Up_none _ (by omega) (by omega) HU2.out).mono ?_
  rintro e w4 ⟨rfl, hb4⟩
  obtain ⟨hc4, hf4⟩ := bcell hb4
  have hz4 := hb4.size
  (try simp at hz4)
  have l4w0 : w.heap.size < w4.heap.size := by omega
  have m4w0 : w.heap.size ≤ w4.heap.size := by omega
  have x4w0 : ¬ w.heap.size = w4.heap.size := by omega
  have y4w0 : ¬ w4.heap.size = w.heap.size := by omega
  have l4w1 : w.heap.size + 1 < w4.heap.size := by omega
  have m4w1 : w.heap.size + 1 ≤ w4.heap.size := by omega
  have x4w1 : ¬ w.heap.size + 1 = w4.heap.size := by omega
  have y4w1 : ¬ w4.heap.size = w.heap.size + 1 := by omega
  have l4w2 : w.heap.size + 1 + 1 < w4.heap.size := by omega
  have m4w2 : w.heap.size + 1 + 1 ≤ w4.heap.size := by omega
  have x4w2 : ¬ w.heap.size + 1 + 1 = w4.heap.size := by omega
  have y4w2 : ¬ w4.heap.size = w.heap.size + 1 + 1 := by omega
  have l4w30 : w3.heap.size < w4.heap.size := by omega
  have m4w30 : w3.heap.size ≤ w4.heap.size := by omega
  have x4w30 : ¬ w3.heap.size = w4.heap.size := by omega
  have y4w30 : ¬ w4.heap.size = w3.heap.size := by omega
  go_wp2_with fail
  refine (s_AddZ_some _ HA.out).mono ?_
  rintro e w5 ⟨rfl, hb5⟩
  obtain ⟨hc5, hf5⟩ := bcell hb5
  have hz5 := hb5.size
  (try simp at hz5)
  have l5w0 : w.heap.size < w5.heap.size := by omega
  have m5w0 : w.heap.size ≤ w5.heap.size := by omega
  have x5w0 : ¬ w.heap.size = w5.heap.size := by omega
  have y5w0 : ¬ w5.heap.size = w.heap.size := by omega
  have l5w1 : w.heap.size + 1 < w5.heap.size := by omega
  have m5w1 : w.heap.size + 1 ≤ w5.heap.size := by omega
  have x5w1 : ¬ w.heap.size + 1 = w5.heap.size := by omega
  have y5w1 : ¬ w5.heap.size = w.heap.size + 1 := by omega
  have l5w2 : w.heap.size + 1 + 1 < w5.heap.size := by omega
  have m5w2 : w.heap.size + 1 + 1 ≤ w5.heap.size := by omega
  have x5w2 : ¬ w.heap.size + 1 + 1 = w5.heap.size := by omega
  have y5w2 : ¬ w5.heap.size = w.heap.size + 1 + 1 := by omega
  have l5w30 : w3.heap.size < w5.heap.size := by omega
  have m5w30 : w3.heap.size ≤ w5.heap.size := by omega
  have x5w30 : ¬ w3.heap.size = w5.heap.size := by omega
  have y5w30 : ¬ w5.heap.size = w3.heap.size := by omega
  have l5w40 : w4.heap.size < w5.heap.size := by omega
  have m5w40 : w4.heap.size ≤ w5.heap.size := by omega
  have x5w40 : ¬ w4.heap.size = w5.heap.size := by omega
  have y5w40 : ¬ w5.heap.size = w4.heap.size := by omega
  go_wp2
  refine bodyPost_ret (v := .tuple #[.agg #[.int .i64 0, .int .i64 0, .int .i64 0, .int .i64 0, .int .i64 0], .bool false]) (by simp [results, Try.results86, go_sem, *]) rfl (ret_mk ?_)
  repeat (first | (with_reducible exact Below.refl _ _) | (with_reducible assumption) | (with_reducible refine bl_alloc ?_ _) | (with_reducible refine bl_drew ?_) | (with_reducible refine bl_set ?_ (by simp <;> omega) _) | (with_reducible refine bl_call ?_ (by assumption)))
set_option maxHeartbeats 1000000 in
theorem s_AddD_ssn {a b c d k p q r s l M a1 b1 c1 d1 p1 q1 r1 s1 x y z t : Int} (w : World) (h1 : okd ⟨⟨a, b, c, d⟩, k⟩ = true) (h2 : okd ⟨⟨p, q, r, s⟩, l⟩ = true) (hM : max k l = M) (hu1 : upZ ⟨a, b, c, d⟩ (M - k).toNat = some ⟨a1, b1, c1, d1⟩) (hu2 : upZ ⟨p, q, r, s⟩ (M - l).toNat = some ⟨p1, q1, r1, s1⟩) (ha : addZ ⟨a1, b1, c1, d1⟩ ⟨p1, q1, r1, s1⟩ = none) :
    Calls Try.prog 86 #[.agg #[.int .i64 a, .int .i64 b, .int .i64 c, .int .i64 d, .int .i64 k], .agg #[.int .i64 p, .int .i64 q, .int .i64 r, .int .i64 s, .int .i64 l]] w (Ret (.tuple #[.agg #[.int .i64 0, .int .i64 0, .int .i64 0, .int .i64 0, .int .i64 0], .bool false]) w) := by
  obtain ⟨k0, k1⟩ := okd_rng h1
  obtain ⟨l0, l1⟩ := okd_rng h2
  have m0 : k ≤ M := by omega
  have m1 : l ≤ M := by omega
  have m2 : M ≤ 60 := by omega
  have HMAX : ∀ W, Calls Try.prog 104 #[.int .i64 k, .int .i64 l] W fun e w' => e = .returned (.int .i64 M) ∧ W = w' := fun W => by have := s_max k l W; rwa [hM] at this
  have HMX := Lib.hid HMAX
  clear HMAX hM
  have HU1 := Lib.hid hu1
  clear hu1
  have HU2 := Lib.hid hu2
  clear hu2
  have HA := Lib.hid ha
  clear ha
  go_enter Try.func86, Try.ntmps86
  go_wp2_with fail
  refine (s_okd_t _ h1).mono ?_
  rintro e w1 ⟨rfl, hb1⟩
  obtain ⟨hc1, hf1⟩ := bcell hb1
  have hz1 := hb1.size
  (try simp at hz1)
  have l1w0 : w.heap.size < w1.heap.size := by omega
  have m1w0 : w.heap.size ≤ w1.heap.size := by omega
  have x1w0 : ¬ w.heap.size = w1.heap.size := by omega
  have y1w0 : ¬ w1.heap.size = w.heap.size := by omega
  have l1w1 : w.heap.size + 1 < w1.heap.size := by omega
  have m1w1 : w.heap.size + 1 ≤ w1.heap.size := by omega
  have x1w1 : ¬ w.heap.size + 1 = w1.heap.size := by omega
  have y1w1 : ¬ w1.heap.size = w.heap.size + 1 := by omega
  have l1w2 : w.heap.size + 1 + 1 < w1.heap.size := by omega
  have m1w2 : w.heap.size + 1 + 1 ≤ w1.heap.size := by omega
  have x1w2 : ¬ w.heap.size + 1 + 1 = w1.heap.size := by omega
  have y1w2 : ¬ w1.heap.size = w.heap.size + 1 + 1 := by omega
  go_wp2_with fail
  refine (s_okd_t _ h2).mono ?_
  rintro e w2 ⟨rfl, hb2⟩
  obtain ⟨hc2, hf2⟩ := bcell hb2
  have hz2 := hb2.size
  (try simp at hz2)
  have l2w0 : w.heap.size < w2.heap.size := by omega
  have m2w0 : w.heap.size ≤ w2.heap.size := by omega
  have x2w0 : ¬ w.heap.size = w2.heap.size := by omega
  have y2w0 : ¬ w2.heap.size = w.heap.size := by omega
  have l2w1 : w.heap.size + 1 < w2.heap.size := by omega
  have m2w1 : w.heap.size + 1 ≤ w2.heap.size := by omega
  have x2w1 : ¬ w.heap.size + 1 = w2.heap.size := by omega
  have y2w1 : ¬ w2.heap.size = w.heap.size + 1 := by omega
  have l2w2 : w.heap.size + 1 + 1 < w2.heap.size := by omega
  have m2w2 : w.heap.size + 1 + 1 ≤ w2.heap.size := by omega
  have x2w2 : ¬ w.heap.size + 1 + 1 = w2.heap.size := by omega
  have y2w2 : ¬ w2.heap.size = w.heap.size + 1 + 1 := by omega
  go_wp2_with fail
  refine (HMX.out _).mono ?_
  rintro e w' ⟨rfl, rfl⟩
  go_wp2_with fail
  refine (s_Up_some _ (by omega) (by omega) HU1.out).mono ?_
  rintro e w3 ⟨rfl, hb3⟩
  obtain ⟨hc3, hf3⟩ := bcell hb3
  have hz3 := hb3.size
  (try simp at hz3)
  have l3w0 : w.heap.size < w3.heap.size := by omega
  have m3w0 : w.heap.size ≤ w3.heap.size := by omega
  have x3w0 : ¬ w.heap.size = w3.heap.size := by omega
  have y3w0 : ¬ w3.heap.size = w.heap.size := by omega
  have l3w1 : w.heap.size + 1 < w3.heap.size := by omega
  have m3w1 : w.heap.size + 1 ≤ w3.heap.size := by omega
  have x3w1 : ¬ w.heap.size + 1 = w3.heap.size := by omega
  have y3w1 : ¬ w3.heap.size = w.heap.size + 1 := by omega
  have l3w2 : w.heap.size + 1 + 1 < w3.heap.size := by omega
  have m3w2 : w.heap.size + 1 + 1 ≤ w3.heap.size := by omega
  have x3w2 : ¬ w.heap.size + 1 + 1 = w3.heap.size := by omega
  have y3w2 : ¬ w3.heap.size = w.heap.size + 1 + 1 := by omega
  go_wp2_with fail
  refine (s_Up_some _ (by omega) (by omega) HU2.out).mono ?_
  rintro e w4 ⟨rfl, hb4⟩
  obtain ⟨hc4, hf4⟩ := bcell hb4
  have hz4 := hb4.size
  (try simp at hz4)
  have l4w0 : w.heap.size < w4.heap.size := by omega
  have m4w0 : w.heap.size ≤ w4.heap.size := by omega
  have x4w0 : ¬ w.heap.size = w4.heap.size := by omega
  have y4w0 : ¬ w4.heap.size = w.heap.size := by omega
  have l4w1 : w.heap.size + 1 < w4.heap.size := by omega
  have m4w1 : w.heap.size + 1 ≤ w4.heap.size := by omega
  have x4w1 : ¬ w.heap.size + 1 = w4.heap.size := by omega
  have y4w1 : ¬ w4.heap.size = w.heap.size + 1 := by omega
  have l4w2 : w.heap.size + 1 + 1 < w4.heap.size := by omega
  have m4w2 : w.heap.size + 1 + 1 ≤ w4.heap.size := by omega
  have x4w2 : ¬ w.heap.size + 1 + 1 = w4.heap.size := by omega
  have y4w2 : ¬ w4.heap.size = w.heap.size + 1 + 1 := by omega
  have l4w30 : w3.heap.size < w4.heap.size := by omega
  have m4w30 : w3.heap.size ≤ w4.heap.size := by omega
  have x4w30 : ¬ w3.heap.size = w4.heap.size := by omega
  have y4w30 : ¬ w4.heap.size = w3.heap.size := by omega
  go_wp2_with fail
  refine (s_AddZ_none _ HA.out).mono ?_
  rintro e w5 ⟨rfl, hb5⟩
  obtain ⟨hc5, hf5⟩ := bcell hb5
  have hz5 := hb5.size
  (try simp at hz5)
  have l5w0 : w.heap.size < w5.heap.size := by omega
  have m5w0 : w.heap.size ≤ w5.heap.size := by omega
  have x5w0 : ¬ w.heap.size = w5.heap.size := by omega
  have y5w0 : ¬ w5.heap.size = w.heap.size := by omega
  have l5w1 : w.heap.size + 1 < w5.heap.size := by omega
  have m5w1 : w.heap.size + 1 ≤ w5.heap.size := by omega
  have x5w1 : ¬ w.heap.size + 1 = w5.heap.size := by omega
  have y5w1 : ¬ w5.heap.size = w.heap.size + 1 := by omega
  have l5w2 : w.heap.size + 1 + 1 < w5.heap.size := by omega
  have m5w2 : w.heap.size + 1 + 1 ≤ w5.heap.size := by omega
  have x5w2 : ¬ w.heap.size + 1 + 1 = w5.heap.size := by omega
  have y5w2 : ¬ w5.heap.size = w.heap.size + 1 + 1 := by omega
  have l5w30 : w3.heap.size < w5.heap.size := by omega
  have m5w30 : w3.heap.size ≤ w5.heap.size := by omega
  have x5w30 : ¬ w3.heap.size = w5.heap.size := by omega
  have y5w30 : ¬ w5.heap.size = w3.heap.size := by omega
  have l5w40 : w4.heap.size < w5.heap.size := by omega
  have m5w40 : w4.heap.size ≤ w5.heap.size := by omega
  have x5w40 : ¬ w4.heap.size = w5.heap.size := by omega
  have y5w40 : ¬ w5.heap.size = w4.heap.size := by omega
  go_wp2
  refine bodyPost_ret (v := .tuple #[.agg #[.int .i64 0, .int .i64 0, .int .i64 0, .int .i64 0, .int .i64 0], .bool false]) (by simp [results, Try.results86, go_sem, *]) rfl (ret_mk ?_)
  repeat (first | (with_reducible exact Below.refl _ _) | (with_reducible assumption) | (with_reducible refine bl_alloc ?_ _) | (with_reducible refine bl_drew ?_) | (with_reducible refine bl_set ?_ (by simp <;> omega) _) | (with_reducible refine bl_call ?_ (by assumption)))
set_option maxHeartbeats 1000000 in
theorem s_AddD_sss {a b c d k p q r s l M a1 b1 c1 d1 p1 q1 r1 s1 x y z t x' y' z' t' m' : Int} {ok : Bool} (w : World) (h1 : okd ⟨⟨a, b, c, d⟩, k⟩ = true) (h2 : okd ⟨⟨p, q, r, s⟩, l⟩ = true) (hM : max k l = M) (hu1 : upZ ⟨a, b, c, d⟩ (M - k).toNat = some ⟨a1, b1, c1, d1⟩) (hu2 : upZ ⟨p, q, r, s⟩ (M - l).toNat = some ⟨p1, q1, r1, s1⟩) (ha : addZ ⟨a1, b1, c1, d1⟩ ⟨p1, q1, r1, s1⟩ = some ⟨x, y, z, t⟩) (hn : ∀ W, Calls Try.prog 17 #[.agg #[.int .i64 x, .int .i64 y, .int .i64 z, .int .i64 t], .int .i64 M] W (Ret (.tuple #[.agg #[.int .i64 x', .int .i64 y', .int .i64 z', .int .i64 t', .int .i64 m'], .bool ok]) W)) :
    Calls Try.prog 86 #[.agg #[.int .i64 a, .int .i64 b, .int .i64 c, .int .i64 d, .int .i64 k], .agg #[.int .i64 p, .int .i64 q, .int .i64 r, .int .i64 s, .int .i64 l]] w (Ret (.tuple #[.agg #[.int .i64 x', .int .i64 y', .int .i64 z', .int .i64 t', .int .i64 m'], .bool ok]) w) := by
  obtain ⟨k0, k1⟩ := okd_rng h1
  obtain ⟨l0, l1⟩ := okd_rng h2
  have m0 : k ≤ M := by omega
  have m1 : l ≤ M := by omega
  have m2 : M ≤ 60 := by omega
  have HMAX : ∀ W, Calls Try.prog 104 #[.int .i64 k, .int .i64 l] W fun e w' => e = .returned (.int .i64 M) ∧ W = w' := fun W => by have := s_max k l W; rwa [hM] at this
  have HMX := Lib.hid HMAX
  clear HMAX hM
  have HU1 := Lib.hid hu1
  clear hu1
  have HU2 := Lib.hid hu2
  clear hu2
  have HA := Lib.hid ha
  clear ha
  have HN := Lib.hid hn
  clear hn
  go_enter Try.func86, Try.ntmps86
  go_wp2_with fail
  refine (s_okd_t _ h1).mono ?_
  rintro e w1 ⟨rfl, hb1⟩
  obtain ⟨hc1, hf1⟩ := bcell hb1
  have hz1 := hb1.size
  (try simp at hz1)
  have l1w0 : w.heap.size < w1.heap.size := by omega
  have m1w0 : w.heap.size ≤ w1.heap.size := by omega
  have x1w0 : ¬ w.heap.size = w1.heap.size := by omega
  have y1w0 : ¬ w1.heap.size = w.heap.size := by omega
  have l1w1 : w.heap.size + 1 < w1.heap.size := by omega
  have m1w1 : w.heap.size + 1 ≤ w1.heap.size := by omega
  have x1w1 : ¬ w.heap.size + 1 = w1.heap.size := by omega
  have y1w1 : ¬ w1.heap.size = w.heap.size + 1 := by omega
  have l1w2 : w.heap.size + 1 + 1 < w1.heap.size := by omega
  have m1w2 : w.heap.size + 1 + 1 ≤ w1.heap.size := by omega
  have x1w2 : ¬ w.heap.size + 1 + 1 = w1.heap.size := by omega
  have y1w2 : ¬ w1.heap.size = w.heap.size + 1 + 1 := by omega
  go_wp2_with fail
  refine (s_okd_t _ h2).mono ?_
  rintro e w2 ⟨rfl, hb2⟩
  obtain ⟨hc2, hf2⟩ := bcell hb2
  have hz2 := hb2.size
  (try simp at hz2)
  have l2w0 : w.heap.size < w2.heap.size := by omega
  have m2w0 : w.heap.size ≤ w2.heap.size := by omega
  have x2w0 : ¬ w.heap.size = w2.heap.size := by omega
  have y2w0 : ¬ w2.heap.size = w.heap.size := by omega
  have l2w1 : w.heap.size + 1 < w2.heap.size := by omega
  have m2w1 : w.heap.size + 1 ≤ w2.heap.size := by omega
  have x2w1 : ¬ w.heap.size + 1 = w2.heap.size := by omega
  have y2w1 : ¬ w2.heap.size = w.heap.size + 1 := by omega
  have l2w2 : w.heap.size + 1 + 1 < w2.heap.size := by omega
  have m2w2 : w.heap.size + 1 + 1 ≤ w2.heap.size := by omega
  have x2w2 : ¬ w.heap.size + 1 + 1 = w2.heap.size := by omega
  have y2w2 : ¬ w2.heap.size = w.heap.size + 1 + 1 := by omega
  go_wp2_with fail
  refine (HMX.out _).mono ?_
  rintro e w' ⟨rfl, rfl⟩
  go_wp2_with fail
  refine (s_Up_some _ (by omega) (by omega) HU1.out).mono ?_
  rintro e w3 ⟨rfl, hb3⟩
  obtain ⟨hc3, hf3⟩ := bcell hb3
  have hz3 := hb3.size
  (try simp at hz3)
  have l3w0 : w.heap.size < w3.heap.size := by omega
  have m3w0 : w.heap.size ≤ w3.heap.size := by omega
  have x3w0 : ¬ w.heap.size = w3.heap.size := by omega
  have y3w0 : ¬ w3.heap.size = w.heap.size := by omega
  have l3w1 : w.heap.size + 1 < w3.heap.size := by omega
  have m3w1 : w.heap.size + 1 ≤ w3.heap.size := by omega
  have x3w1 : ¬ w.heap.size + 1 = w3.heap.size := by omega
  have y3w1 : ¬ w3.heap.size = w.heap.size + 1 := by omega
  have l3w2 : w.heap.size + 1 + 1 < w3.heap.size := by omega
  have m3w2 : w.heap.size + 1 + 1 ≤ w3.heap.size := by omega
  have x3w2 : ¬ w.heap.size + 1 + 1 = w3.heap.size := by omega
  have y3w2 : ¬ w3.heap.size = w.heap.size + 1 + 1 := by omega
  go_wp2_with fail
  refine (s_Up_some _ (by omega) (by omega) HU2.out).mono ?_
  rintro e w4 ⟨rfl, hb4⟩
  obtain ⟨hc4, hf4⟩ := bcell hb4
  have hz4 := hb4.size
  (try simp at hz4)
  have l4w0 : w.heap.size < w4.heap.size := by omega
  have m4w0 : w.heap.size ≤ w4.heap.size := by omega
  have x4w0 : ¬ w.heap.size = w4.heap.size := by omega
  have y4w0 : ¬ w4.heap.size = w.heap.size := by omega
  have l4w1 : w.heap.size + 1 < w4.heap.size := by omega
  have m4w1 : w.heap.size + 1 ≤ w4.heap.size := by omega
  have x4w1 : ¬ w.heap.size + 1 = w4.heap.size := by omega
  have y4w1 : ¬ w4.heap.size = w.heap.size + 1 := by omega
  have l4w2 : w.heap.size + 1 + 1 < w4.heap.size := by omega
  have m4w2 : w.heap.size + 1 + 1 ≤ w4.heap.size := by omega
  have x4w2 : ¬ w.heap.size + 1 + 1 = w4.heap.size := by omega
  have y4w2 : ¬ w4.heap.size = w.heap.size + 1 + 1 := by omega
  have l4w30 : w3.heap.size < w4.heap.size := by omega
  have m4w30 : w3.heap.size ≤ w4.heap.size := by omega
  have x4w30 : ¬ w3.heap.size = w4.heap.size := by omega
  have y4w30 : ¬ w4.heap.size = w3.heap.size := by omega
  go_wp2_with fail
  refine (s_AddZ_some _ HA.out).mono ?_
  rintro e w5 ⟨rfl, hb5⟩
  obtain ⟨hc5, hf5⟩ := bcell hb5
  have hz5 := hb5.size
  (try simp at hz5)
  have l5w0 : w.heap.size < w5.heap.size := by omega
  have m5w0 : w.heap.size ≤ w5.heap.size := by omega
  have x5w0 : ¬ w.heap.size = w5.heap.size := by omega
  have y5w0 : ¬ w5.heap.size = w.heap.size := by omega
  have l5w1 : w.heap.size + 1 < w5.heap.size := by omega
  have m5w1 : w.heap.size + 1 ≤ w5.heap.size := by omega
  have x5w1 : ¬ w.heap.size + 1 = w5.heap.size := by omega
  have y5w1 : ¬ w5.heap.size = w.heap.size + 1 := by omega
  have l5w2 : w.heap.size + 1 + 1 < w5.heap.size := by omega
  have m5w2 : w.heap.size + 1 + 1 ≤ w5.heap.size := by omega
  have x5w2 : ¬ w.heap.size + 1 + 1 = w5.heap.size := by omega
  have y5w2 : ¬ w5.heap.size = w.heap.size + 1 + 1 := by omega
  have l5w30 : w3.heap.size < w5.heap.size := by omega
  have m5w30 : w3.heap.size ≤ w5.heap.size := by omega
  have x5w30 : ¬ w3.heap.size = w5.heap.size := by omega
  have y5w30 : ¬ w5.heap.size = w3.heap.size := by omega
  have l5w40 : w4.heap.size < w5.heap.size := by omega
  have m5w40 : w4.heap.size ≤ w5.heap.size := by omega
  have x5w40 : ¬ w4.heap.size = w5.heap.size := by omega
  have y5w40 : ¬ w5.heap.size = w4.heap.size := by omega
  go_wp2_with fail
  refine (HN.out _).mono ?_
  rintro e w6 ⟨rfl, hb6⟩
  obtain ⟨hc6, hf6⟩ := bcell hb6
  have hz6 := hb6.size
  (try simp at hz6)
  have l6w0 : w.heap.size < w6.heap.size := by omega
  have m6w0 : w.heap.size ≤ w6.heap.size := by omega
  have x6w0 : ¬ w.heap.size = w6.heap.size := by omega
  have y6w0 : ¬ w6.heap.size = w.heap.size := by omega
  have l6w1 : w.heap.size + 1 < w6.heap.size := by omega
  have m6w1 : w.heap.size + 1 ≤ w6.heap.size := by omega
  have x6w1 : ¬ w.heap.size + 1 = w6.heap.size := by omega
  have y6w1 : ¬ w6.heap.size = w.heap.size + 1 := by omega
  have l6w2 : w.heap.size + 1 + 1 < w6.heap.size := by omega
  have m6w2 : w.heap.size + 1 + 1 ≤ w6.heap.size := by omega
  have x6w2 : ¬ w.heap.size + 1 + 1 = w6.heap.size := by omega
  have y6w2 : ¬ w6.heap.size = w.heap.size + 1 + 1 := by omega
  have l6w30 : w3.heap.size < w6.heap.size := by omega
  have m6w30 : w3.heap.size ≤ w6.heap.size := by omega
  have x6w30 : ¬ w3.heap.size = w6.heap.size := by omega
  have y6w30 : ¬ w6.heap.size = w3.heap.size := by omega
  have l6w40 : w4.heap.size < w6.heap.size := by omega
  have m6w40 : w4.heap.size ≤ w6.heap.size := by omega
  have x6w40 : ¬ w4.heap.size = w6.heap.size := by omega
  have y6w40 : ¬ w6.heap.size = w4.heap.size := by omega
  have l6w50 : w5.heap.size < w6.heap.size := by omega
  have m6w50 : w5.heap.size ≤ w6.heap.size := by omega
  have x6w50 : ¬ w5.heap.size = w6.heap.size := by omega
  have y6w50 : ¬ w6.heap.size = w5.heap.size := by omega
  go_wp2
  refine bodyPost_ret (v := .tuple #[.agg #[.int .i64 x', .int .i64 y', .int .i64 z', .int .i64 t', .int .i64 m'], .bool ok]) (by simp [results, Try.results86, go_sem, *]) rfl (ret_mk ?_)
  repeat (first | (with_reducible exact Below.refl _ _) | (with_reducible assumption) | (with_reducible refine bl_alloc ?_ _) | (with_reducible refine bl_drew ?_) | (with_reducible refine bl_set ?_ (by simp <;> omega) _) | (with_reducible refine bl_call ?_ (by assumption)))
set_option maxHeartbeats 1000000 in
theorem s_AddD_x {a b c d k p q r s l : Int} (w : World) (h1 : okd ⟨⟨a, b, c, d⟩, k⟩ = false) : Calls Try.prog 86 #[.agg #[.int .i64 a, .int .i64 b, .int .i64 c, .int .i64 d, .int .i64 k], .agg #[.int .i64 p, .int .i64 q, .int .i64 r, .int .i64 s, .int .i64 l]] w (Ret (.tuple #[.agg #[.int .i64 0, .int .i64 0, .int .i64 0, .int .i64 0, .int .i64 0], .bool false]) w) := by
  go_enter Try.func86, Try.ntmps86
  go_wp2_with fail
  refine (s_okd_f _ h1).mono ?_
  rintro e w1 ⟨rfl, hb1⟩
  obtain ⟨hc1, hf1⟩ := bcell hb1
  have hz1 := hb1.size
  (try simp at hz1)
  have l1w0 : w.heap.size < w1.heap.size := by omega
  have m1w0 : w.heap.size ≤ w1.heap.size := by omega
  have x1w0 : ¬ w.heap.size = w1.heap.size := by omega
  have y1w0 : ¬ w1.heap.size = w.heap.size := by omega
  have l1w1 : w.heap.size + 1 < w1.heap.size := by omega
  have m1w1 : w.heap.size + 1 ≤ w1.heap.size := by omega
  have x1w1 : ¬ w.heap.size + 1 = w1.heap.size := by omega
  have y1w1 : ¬ w1.heap.size = w.heap.size + 1 := by omega
  have l1w2 : w.heap.size + 1 + 1 < w1.heap.size := by omega
  have m1w2 : w.heap.size + 1 + 1 ≤ w1.heap.size := by omega
  have x1w2 : ¬ w.heap.size + 1 + 1 = w1.heap.size := by omega
  have y1w2 : ¬ w1.heap.size = w.heap.size + 1 + 1 := by omega
  go_wp2
  refine bodyPost_ret (v := .tuple #[.agg #[.int .i64 0, .int .i64 0, .int .i64 0, .int .i64 0, .int .i64 0], .bool false]) (by simp [results, Try.results86, go_sem, *]) rfl (ret_mk ?_)
  repeat (first | (with_reducible exact Below.refl _ _) | (with_reducible assumption) | (with_reducible refine bl_alloc ?_ _) | (with_reducible refine bl_drew ?_) | (with_reducible refine bl_set ?_ (by simp <;> omega) _) | (with_reducible refine bl_call ?_ (by assumption)))
set_option maxHeartbeats 1000000 in
theorem s_AddD_y {a b c d k p q r s l : Int} (w : World) (h1 : okd ⟨⟨a, b, c, d⟩, k⟩ = true) (h2 : okd ⟨⟨p, q, r, s⟩, l⟩ = false) : Calls Try.prog 86 #[.agg #[.int .i64 a, .int .i64 b, .int .i64 c, .int .i64 d, .int .i64 k], .agg #[.int .i64 p, .int .i64 q, .int .i64 r, .int .i64 s, .int .i64 l]] w (Ret (.tuple #[.agg #[.int .i64 0, .int .i64 0, .int .i64 0, .int .i64 0, .int .i64 0], .bool false]) w) := by
  go_enter Try.func86, Try.ntmps86
  go_wp2_with fail
  refine (s_okd_t _ h1).mono ?_
  rintro e w1 ⟨rfl, hb1⟩
  obtain ⟨hc1, hf1⟩ := bcell hb1
  have hz1 := hb1.size
  (try simp at hz1)
  have l1w0 : w.heap.size < w1.heap.size := by omega
  have m1w0 : w.heap.size ≤ w1.heap.size := by omega
  have x1w0 : ¬ w.heap.size = w1.heap.size := by omega
  have y1w0 : ¬ w1.heap.size = w.heap.size := by omega
  have l1w1 : w.heap.size + 1 < w1.heap.size := by omega
  have m1w1 : w.heap.size + 1 ≤ w1.heap.size := by omega
  have x1w1 : ¬ w.heap.size + 1 = w1.heap.size := by omega
  have y1w1 : ¬ w1.heap.size = w.heap.size + 1 := by omega
  have l1w2 : w.heap.size + 1 + 1 < w1.heap.size := by omega
  have m1w2 : w.heap.size + 1 + 1 ≤ w1.heap.size := by omega
  have x1w2 : ¬ w.heap.size + 1 + 1 = w1.heap.size := by omega
  have y1w2 : ¬ w1.heap.size = w.heap.size + 1 + 1 := by omega
  go_wp2_with fail
  refine (s_okd_f _ h2).mono ?_
  rintro e w2 ⟨rfl, hb2⟩
  obtain ⟨hc2, hf2⟩ := bcell hb2
  have hz2 := hb2.size
  (try simp at hz2)
  have l2w0 : w.heap.size < w2.heap.size := by omega
  have m2w0 : w.heap.size ≤ w2.heap.size := by omega
  have x2w0 : ¬ w.heap.size = w2.heap.size := by omega
  have y2w0 : ¬ w2.heap.size = w.heap.size := by omega
  have l2w1 : w.heap.size + 1 < w2.heap.size := by omega
  have m2w1 : w.heap.size + 1 ≤ w2.heap.size := by omega
  have x2w1 : ¬ w.heap.size + 1 = w2.heap.size := by omega
  have y2w1 : ¬ w2.heap.size = w.heap.size + 1 := by omega
  have l2w2 : w.heap.size + 1 + 1 < w2.heap.size := by omega
  have m2w2 : w.heap.size + 1 + 1 ≤ w2.heap.size := by omega
  have x2w2 : ¬ w.heap.size + 1 + 1 = w2.heap.size := by omega
  have y2w2 : ¬ w2.heap.size = w.heap.size + 1 + 1 := by omega
  go_wp2
  refine bodyPost_ret (v := .tuple #[.agg #[.int .i64 0, .int .i64 0, .int .i64 0, .int .i64 0, .int .i64 0], .bool false]) (by simp [results, Try.results86, go_sem, *]) rfl (ret_mk ?_)
  repeat (first | (with_reducible exact Below.refl _ _) | (with_reducible assumption) | (with_reducible refine bl_alloc ?_ _) | (with_reducible refine bl_drew ?_) | (with_reducible refine bl_set ?_ (by simp <;> omega) _) | (with_reducible refine bl_call ?_ (by assumption)))
theorem s_AddD_none {a b c d k p q r s l : Int} (w : World) (h : addD ⟨⟨a, b, c, d⟩, k⟩ ⟨⟨p, q, r, s⟩, l⟩ = none) : Calls Try.prog 86 #[.agg #[.int .i64 a, .int .i64 b, .int .i64 c, .int .i64 d, .int .i64 k], .agg #[.int .i64 p, .int .i64 q, .int .i64 r, .int .i64 s, .int .i64 l]] w (Ret (.tuple #[.agg #[.int .i64 0, .int .i64 0, .int .i64 0, .int .i64 0, .int .i64 0], .bool false]) w) := by
  cases h1 : okd ⟨⟨a, b, c, d⟩, k⟩
  · exact s_AddD_x w h1
  cases h2 : okd ⟨⟨p, q, r, s⟩, l⟩
  · exact s_AddD_y w h1 h2
  unfold addD at h
  rw [if_pos ⟨h1, h2⟩] at h
  dsimp only at h
  obtain ⟨M, hM⟩ : ∃ M, max k l = M := ⟨_, rfl⟩
  rw [hM] at h
  rcases hu1 : upZ ⟨a, b, c, d⟩ (M - k).toNat with _ | ⟨a1, b1, c1, d1⟩ <;> rcases hu2 : upZ ⟨p, q, r, s⟩ (M - l).toNat with _ | ⟨p1, q1, r1, s1⟩
  · rcases ha : addZ ⟨0, 0, 0, 0⟩ ⟨0, 0, 0, 0⟩ with _ | ⟨x, y, z, t⟩
    · exact s_AddD_nnn (a1 := 0) (b1 := 0) (c1 := 0) (d1 := 0) (p1 := 0) (q1 := 0) (r1 := 0) (s1 := 0) (x := 0) (y := 0) (z := 0) (t := 0) w h1 h2 hM hu1 hu2 ha
    · exact s_AddD_nns (a1 := 0) (b1 := 0) (c1 := 0) (d1 := 0) (p1 := 0) (q1 := 0) (r1 := 0) (s1 := 0) w h1 h2 hM hu1 hu2 ha
  · rcases ha : addZ ⟨0, 0, 0, 0⟩ ⟨p1, q1, r1, s1⟩ with _ | ⟨x, y, z, t⟩
    · exact s_AddD_nsn (a1 := 0) (b1 := 0) (c1 := 0) (d1 := 0) (x := 0) (y := 0) (z := 0) (t := 0) w h1 h2 hM hu1 hu2 ha
    · exact s_AddD_nss (a1 := 0) (b1 := 0) (c1 := 0) (d1 := 0) w h1 h2 hM hu1 hu2 ha
  · rcases ha : addZ ⟨a1, b1, c1, d1⟩ ⟨0, 0, 0, 0⟩ with _ | ⟨x, y, z, t⟩
    · exact s_AddD_snn (p1 := 0) (q1 := 0) (r1 := 0) (s1 := 0) (x := 0) (y := 0) (z := 0) (t := 0) w h1 h2 hM hu1 hu2 ha
    · exact s_AddD_sns (p1 := 0) (q1 := 0) (r1 := 0) (s1 := 0) w h1 h2 hM hu1 hu2 ha
  · rw [hu1, hu2] at h
    dsimp only at h
    rcases ha : addZ ⟨a1, b1, c1, d1⟩ ⟨p1, q1, r1, s1⟩ with _ | ⟨x, y, z, t⟩
    · exact s_AddD_ssn (x := 0) (y := 0) (z := 0) (t := 0) w h1 h2 hM hu1 hu2 ha
    · rw [ha] at h
      exact s_AddD_sss w h1 h2 hM hu1 hu2 ha (fun W => s_New_none W h)
theorem s_AddD_some {a b c d k p q r s l x y z t m : Int} (w : World) (h : addD ⟨⟨a, b, c, d⟩, k⟩ ⟨⟨p, q, r, s⟩, l⟩ = some ⟨⟨x, y, z, t⟩, m⟩) : Calls Try.prog 86 #[.agg #[.int .i64 a, .int .i64 b, .int .i64 c, .int .i64 d, .int .i64 k], .agg #[.int .i64 p, .int .i64 q, .int .i64 r, .int .i64 s, .int .i64 l]] w (Ret (.tuple #[.agg #[.int .i64 x, .int .i64 y, .int .i64 z, .int .i64 t, .int .i64 m], .bool true]) w) := by
  unfold addD at h
  split at h
  · rename_i hc
    obtain ⟨h1, h2⟩ := hc
    dsimp only at h
    obtain ⟨M, hM⟩ : ∃ M, max k l = M := ⟨_, rfl⟩
    rw [hM] at h
    rcases hu1 : upZ ⟨a, b, c, d⟩ (M - k).toNat with _ | ⟨a1, b1, c1, d1⟩
    · rw [hu1] at h; cases h
    rcases hu2 : upZ ⟨p, q, r, s⟩ (M - l).toNat with _ | ⟨p1, q1, r1, s1⟩
    · rw [hu1, hu2] at h; cases h
    rw [hu1, hu2] at h
    dsimp only at h
    rcases ha : addZ ⟨a1, b1, c1, d1⟩ ⟨p1, q1, r1, s1⟩ with _ | ⟨x', y', z', t'⟩
    · rw [ha] at h; cases h
    · rw [ha] at h
      exact s_AddD_sss w h1 h2 hM hu1 hu2 ha (fun W => s_New_some W h)
  · cases h
end Go.Proofs.Ytaokfppadfoniaa
