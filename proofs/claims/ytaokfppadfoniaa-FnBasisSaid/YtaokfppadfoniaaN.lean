/- Contracts: lowest terms (NewDOmega). -/
import Derived.Test.YtaokfppadfoniaaD
import Derived.Test.YtaokfppadfoniaaBlk
import Derived.Test.YtaokfppadfoniaaPure2
namespace Go.Proofs.Ytaokfppadfoniaa
open Go.RowKit

/-- The loop's relation: slot k holds n, the variable n holds ⟨x, y, z, t⟩, and lowest terms are those of the start. -/
def NewRel (w : World) (tz td : TypeId) (R : ZO × Nat) (v : Value) (wr : World) : Prop :=
  ∃ (n : Nat) (x y z t : Int), v = .int .i64 (n : Int) ∧ n ≤ 120 ∧ okz ⟨x, y, z, t⟩ = true ∧ reduce ⟨x, y, z, t⟩ n = R ∧
    Blk wr w.heap.size tz #[.int .i64 x, .int .i64 y, .int .i64 z, .int .i64 t] ∧ Blk wr (w.heap.size + 1) td #[.int .i64 0, .int .i64 0, .int .i64 0, .int .i64 0, .int .i64 0] ∧ Below w.heap.size w wr

set_option maxHeartbeats 400000 in
theorem i_New_bad {a b c d k : Int} (w : World) (h : okz ⟨a, b, c, d⟩ = false) : Calls Try.prog 16 #[.agg #[.int .i64 a, .int .i64 b, .int .i64 c, .int .i64 d], .int .i64 k] w (Ret (.tuple #[.agg #[.int .i64 0, .int .i64 0, .int .i64 0, .int .i64 0, .int .i64 0], .bool false]) w) := by
  go_enter Try.func16, Try.ntmps16
  go_wp2_with fail
  refine (i_valid_f _ h).mono ?_
  rintro e w1 ⟨rfl, hb1⟩
  obtain ⟨hc1, hf1⟩ := bcell hb1
  have hz1 := hb1.size
  (try simp at hz1)
  have l1w0 : w.heap.size < w1.heap.size := by omega
  have m1w0 : w.heap.size ≤ w1.heap.size := by omega
  have x1w0 : ¬ w.heap.size = w1.heap.size := by omega
  have y1w0 : ¬ w1.heap.size = w.heap.size := by omega
  have l1w1 : w.heap.size + 1 < w1.heap.size := by omega
  have m1w1 : w.heap.size + 1 ≤ w1.heap.size := by omega
  have x1w1 : ¬ w.heap.size + 1 = w1.heap.size := by omega
  have y1w1 : ¬ w1.heap.size = w.heap.size + 1 := by omega
  go_wp2
  refine bodyPost_ret (v := .tuple #[.agg #[.int .i64 0, .int .i64 0, .int .i64 0, .int .i64 0, .int .i64 0], .bool false]) (by simp [results, Try.results16, go_sem, *]) rfl (ret_mk ?_)
  repeat (first | (with_reducible exact Below.refl _ _) | (with_reducible assumption) | (with_reducible refine bl_alloc ?_ _) | (with_reducible refine bl_drew ?_) | (with_reducible refine bl_set ?_ (by simp <;> omega) _) | (with_reducible refine bl_call ?_ (by assumption)))
set_option maxHeartbeats 400000 in
theorem i_New_out {a b c d k : Int} (w : World) (h : okz ⟨a, b, c, d⟩ = true) (hk : ¬ (0 ≤ k ∧ k ≤ 120)) : Calls Try.prog 16 #[.agg #[.int .i64 a, .int .i64 b, .int .i64 c, .int .i64 d], .int .i64 k] w (Ret (.tuple #[.agg #[.int .i64 0, .int .i64 0, .int .i64 0, .int .i64 0, .int .i64 0], .bool false]) w) := by
  have hb : (decide (0 ≤ k) && decide (k ≤ 120)) = false := by simp; omega
  have HI : ∀ W, Calls Try.prog 71 #[.int .i64 k, .int .i64 0, .int .i64 120] W fun e w' => e = .returned (.bool false) ∧ W = w' := by
    intro W
    have := i_in_any k 0 120 W
    rwa [hb] at this
  have HI' := Lib.hid HI
  clear HI hb hk
  go_enter Try.func16, Try.ntmps16
  go_wp2_with fail
  refine (i_valid_t _ h).mono ?_
  rintro e w1 ⟨rfl, hb1⟩
  obtain ⟨hc1, hf1⟩ := bcell hb1
  have hz1 := hb1.size
  (try simp at hz1)
  have l1w0 : w.heap.size < w1.heap.size := by omega
  have m1w0 : w.heap.size ≤ w1.heap.size := by omega
  have x1w0 : ¬ w.heap.size = w1.heap.size := by omega
  have y1w0 : ¬ w1.heap.size = w.heap.size := by omega
  have l1w1 : w.heap.size + 1 < w1.heap.size := by omega
  have m1w1 : w.heap.size + 1 ≤ w1.heap.size := by omega
  have x1w1 : ¬ w.heap.size + 1 = w1.heap.size := by omega
  have y1w1 : ¬ w1.heap.size = w.heap.size + 1 := by omega
  go_wp2_with fail
  refine (HI'.out _).mono ?_
  rintro e w' ⟨rfl, rfl⟩
  go_wp2
  refine bodyPost_ret (v := .tuple #[.agg #[.int .i64 0, .int .i64 0, .int .i64 0, .int .i64 0, .int .i64 0], .bool false]) (by simp [results, Try.results16, go_sem, *]) rfl (ret_mk ?_)
  repeat (first | (with_reducible exact Below.refl _ _) | (with_reducible assumption) | (with_reducible refine bl_alloc ?_ _) | (with_reducible refine bl_drew ?_) | (with_reducible refine bl_set ?_ (by simp <;> omega) _) | (with_reducible refine bl_call ?_ (by assumption)))
set_option maxHeartbeats 1000000 in
theorem i_New_go {a b c d : Int} {K : Nat} {x y z t : Int} {m : Nat} (w : World) (h : okz ⟨a, b, c, d⟩ = true) (hK : K ≤ 120) (hr : reduce ⟨a, b, c, d⟩ K = (⟨x, y, z, t⟩, m)) : Calls Try.prog 16 #[.agg #[.int .i64 a, .int .i64 b, .int .i64 c, .int .i64 d], .int .i64 (K : Int)] w (Ret (if m ≤ 60 then .tuple #[.agg #[.int .i64 x, .int .i64 y, .int .i64 z, .int .i64 t, .int .i64 (m : Int)], .bool true] else .tuple #[.agg #[.int .i64 0, .int .i64 0, .int .i64 0, .int .i64 0, .int .i64 0], .bool false]) w) := by
  have hb : (decide (0 ≤ (K : Int)) && decide ((K : Int) ≤ 120)) = true := by simp; omega
  have HI : ∀ W, Calls Try.prog 71 #[.int .i64 (K : Int), .int .i64 0, .int .i64 120] W fun e w' => e = .returned (.bool true) ∧ W = w' := by
    intro W
    have := i_in_any (K : Int) 0 120 W
    rwa [hb] at this
  have HI' := Lib.hid HI
  have HR := Lib.hid hr
  clear HI hb hr
  obtain ⟨V, hV⟩ : ∃ V : Value, V = (if m ≤ 60 then .tuple #[.agg #[.int .i64 x, .int .i64 y, .int .i64 z, .int .i64 t, .int .i64 (m : Int)], .bool true] else .tuple #[.agg #[.int .i64 0, .int .i64 0, .int .i64 0, .int .i64 0, .int .i64 0], .bool false]) := ⟨_, rfl⟩
  rw [← hV]
  have HV := Lib.hid hV
  clear hV
  go_enter Try.func16, Try.ntmps16
  go_wp2_with fail
  refine (i_valid_t _ h).mono ?_
  rintro e w1 ⟨rfl, hb1⟩
  obtain ⟨hc1, hf1⟩ := bcell hb1
  have hz1 := hb1.size
  (try simp at hz1)
  have l1w0 : w.heap.size < w1.heap.size := by omega
  have m1w0 : w.heap.size ≤ w1.heap.size := by omega
  have x1w0 : ¬ w.heap.size = w1.heap.size := by omega
  have y1w0 : ¬ w1.heap.size = w.heap.size := by omega
  have l1w1 : w.heap.size + 1 < w1.heap.size := by omega
  have m1w1 : w.heap.size + 1 ≤ w1.heap.size := by omega
  have x1w1 : ¬ w.heap.size + 1 = w1.heap.size := by omega
  have y1w1 : ¬ w1.heap.size = w.heap.size + 1 := by omega
  go_wp2_with fail
  refine (HI'.out _).mono ?_
  rintro e w' ⟨rfl, rfl⟩
  go_wp2
  go_loopw [1] (fun v wr => NewRel w 25 29 (⟨x, y, z, t⟩, m) v wr) (fun v _ => (intOf v).toNat)
  case atStart =>
    refine ⟨K, a, b, c, d, rfl, hK, h, HR.out, ((Blk.new w _ _).alloc _).call hb1, ?_, ?_⟩
    · have := (Blk.new (w.alloc (.cells #[.int .i64 a, .int .i64 b, .int .i64 c, .int .i64 d] 25)) 29 #[.int .i64 0, .int .i64 0, .int .i64 0, .int .i64 0, .int .i64 0]).call hb1
      simpa using this
    · repeat (first | (with_reducible exact Below.refl _ _) | (with_reducible assumption) | (with_reducible refine bl_alloc ?_ _) | (with_reducible refine bl_drew ?_) | (with_reducible refine bl_set ?_ (by simp <;> omega) _) | (with_reducible refine bl_call ?_ (by assumption)))
  case round =>
    obtain ⟨n, x', y', z', t', rfl, hn, ho, hred, k0, k1, hw⟩ := hrel
    clear hb1 hc1 hf1 hz1 l1w0 l1w1 m1w0 m1w1 x1w0 x1w1 y1w0 y1w1
    have HRE := Lib.hid hred
    clear hred
    have q0 := k0.lt
    have q1 := k1.lt
    have K0 := Lib.hid k0
    have K1 := Lib.hid k1
    by_cases hpos : 0 < n
    · have hd : decide (0 < (n : Int)) = true := by simp; omega
      rcases hdiv : divZ ⟨x', y', z', t'⟩ with _ | ⟨p, q, r, s⟩
      · have hfin : ((⟨x', y', z', t'⟩ : ZO), n) = (⟨x, y, z, t⟩, m) := (reduce_none hdiv).symm.trans HRE.out
        simp only [Prod.mk.injEq, ZO.mk.injEq] at hfin
        obtain ⟨⟨rfl, rfl, rfl, rfl⟩, rfl⟩ := hfin
        have HD := Lib.hid hdiv
        clear hdiv
        obtain ⟨c0, c1, c2, c3, f0, f1, f2, f3⟩ := k0.four
        clear k0 k1
        go_wp2_with fail
        refine (i_Div_none _ HD.out).mono ?_
        rintro e w2 ⟨rfl, hb2⟩
        have k2 : Blk w2 w.heap.size 25 _ := K0.out.call hb2
        have k3 : Blk w2 (w.heap.size + 1) 29 _ := K1.out.call hb2
        have hs2 := hb2.size
        obtain ⟨C0, C1, C2, C3, F0, F1, F2, F3⟩ := k2.four
        obtain ⟨D0, D1, D2, D3, D4, G0, G1, G2, G3, G4⟩ := k3.five
        have u0 : w.heap.size < w2.heap.size := by omega
        have u1 : w.heap.size + 1 < w2.heap.size := by omega
        have u2 : ¬ w.heap.size = w2.heap.size := by omega
        have u3 : ¬ w2.heap.size = w.heap.size := by omega
        have u4 : ¬ w.heap.size + 1 = w2.heap.size := by omega
        have u5 : ¬ w2.heap.size = w.heap.size + 1 := by omega
        by_cases hm60 : n ≤ 60
        · have h60 : decide (60 < (n : Int)) = false := by simp; omega
          have HVV : V = .tuple #[.agg #[.int .i64 x', .int .i64 y', .int .i64 z', .int .i64 t', .int .i64 (n : Int)], .bool true] := by rw [HV.out, if_pos hm60]
          have HVV' := Lib.hid HVV
          clear HVV
          go_wp2
          rw [HVV'.out]
          refine bodyPost_ret (v := .tuple #[.agg #[.int .i64 x', .int .i64 y', .int .i64 z', .int .i64 t', .int .i64 (n : Int)], .bool true]) (by simp [results, Try.results16, go_sem, *]) rfl (ret_mk ?_)
          repeat (first | (with_reducible exact Below.refl _ _) | (with_reducible assumption) | (with_reducible refine bl_alloc ?_ _) | (with_reducible refine bl_drew ?_) | (with_reducible refine bl_set ?_ (by simp <;> omega) _) | (with_reducible refine bl_call ?_ (by assumption)))
        · have h60 : decide (60 < (n : Int)) = true := by simp; omega
          have HVV : V = .tuple #[.agg #[.int .i64 0, .int .i64 0, .int .i64 0, .int .i64 0, .int .i64 0], .bool false] := by rw [HV.out, if_neg hm60]
          have HVV' := Lib.hid HVV
          clear HVV
          go_wp2
          rw [HVV'.out]
          refine bodyPost_ret (v := .tuple #[.agg #[.int .i64 0, .int .i64 0, .int .i64 0, .int .i64 0, .int .i64 0], .bool false]) (by simp [results, Try.results16, go_sem, *]) rfl (ret_mk ?_)
          repeat (first | (with_reducible exact Below.refl _ _) | (with_reducible assumption) | (with_reducible refine bl_alloc ?_ _) | (with_reducible refine bl_drew ?_) | (with_reducible refine bl_set ?_ (by simp <;> omega) _) | (with_reducible refine bl_call ?_ (by assumption)))
      · have hred' : reduce ⟨p, q, r, s⟩ (n - 1) = (⟨x, y, z, t⟩, m) := by
          have e : n = (n - 1) + 1 := by omega
          have h2 := HRE.out
          rw [e, reduce_some hdiv] at h2
          exact h2
        have ho' := divZ_okz hdiv
        have HD := Lib.hid hdiv
        have HRE' := Lib.hid hred'
        clear hdiv hred'
        obtain ⟨c0, c1, c2, c3, f0, f1, f2, f3⟩ := k0.four
        clear k0 k1
        go_wp2_with fail
        refine (i_Div_some _ HD.out).mono ?_
        rintro e w2 ⟨rfl, hb2⟩
        have k2 : Blk w2 w.heap.size 25 _ := K0.out.call hb2
        have k3 : Blk w2 (w.heap.size + 1) 29 _ := K1.out.call hb2
        have hs2 := hb2.size
        obtain ⟨C0, C1, C2, C3, F0, F1, F2, F3⟩ := k2.four
        obtain ⟨D0, D1, D2, D3, D4, G0, G1, G2, G3, G4⟩ := k3.five
        have u0 : w.heap.size < w2.heap.size := by omega
        have u1 : w.heap.size + 1 < w2.heap.size := by omega
        have u2 : ¬ w.heap.size = w2.heap.size := by omega
        have u3 : ¬ w2.heap.size = w.heap.size := by omega
        have u4 : ¬ w.heap.size + 1 = w2.heap.size := by omega
        have u5 : ¬ w2.heap.size = w.heap.size + 1 := by omega
        go_wp2
        go_roundw
        case rel =>
          refine ⟨n - 1, p, q, r, s, by go_num, by omega, ho', HRE'.out, (k2.put4 _ _ _ _).alloc _, (k3.far4 (by omega) _ _ _ _).alloc _, ?_⟩
          repeat (first | (with_reducible exact Below.refl _ _) | (with_reducible assumption) | (with_reducible refine bl_alloc ?_ _) | (with_reducible refine bl_drew ?_) | (with_reducible refine bl_set ?_ (by simp <;> omega) _) | (with_reducible refine bl_call ?_ (by assumption)))
        case measure => simp [intOf]; omega
    · have hd : decide (0 < (n : Int)) = false := by simp; omega
      have hn0 : n = 0 := by omega
      have hfin : ((⟨x', y', z', t'⟩ : ZO), n) = (⟨x, y, z, t⟩, m) := by
        have h2 := HRE.out
        rw [hn0] at h2 ⊢
        exact h2
      simp only [Prod.mk.injEq, ZO.mk.injEq] at hfin
      obtain ⟨⟨rfl, rfl, rfl, rfl⟩, rfl⟩ := hfin
      clear hn0
      obtain ⟨c0, c1, c2, c3, f0, f1, f2, f3⟩ := k0.four
      obtain ⟨d0, d1, d2, d3, d4, g0, g1, g2, g3, g4⟩ := k1.five
      clear k0 k1
      have h60 : decide (60 < (n : Int)) = false := by simp; omega
      have HVV : V = .tuple #[.agg #[.int .i64 x', .int .i64 y', .int .i64 z', .int .i64 t', .int .i64 (n : Int)], .bool true] := by rw [HV.out, if_pos (by omega)]
      have HVV' := Lib.hid HVV
      clear HVV
      go_wp2
      rw [HVV'.out]
      refine bodyPost_ret (v := .tuple #[.agg #[.int .i64 x', .int .i64 y', .int .i64 z', .int .i64 t', .int .i64 (n : Int)], .bool true]) (by simp [results, Try.results16, go_sem, *]) rfl (ret_mk ?_)
      repeat (first | (with_reducible exact Below.refl _ _) | (with_reducible assumption) | (with_reducible refine bl_alloc ?_ _) | (with_reducible refine bl_drew ?_) | (with_reducible refine bl_set ?_ (by simp <;> omega) _) | (with_reducible refine bl_call ?_ (by assumption)))
theorem i_New_some {a b c d k x y z t m : Int} (w : World) (h : newD ⟨a, b, c, d⟩ k = some ⟨⟨x, y, z, t⟩, m⟩) : Calls Try.prog 16 #[.agg #[.int .i64 a, .int .i64 b, .int .i64 c, .int .i64 d], .int .i64 k] w (Ret (.tuple #[.agg #[.int .i64 x, .int .i64 y, .int .i64 z, .int .i64 t, .int .i64 m], .bool true]) w) := by
  unfold newD at h
  split at h
  · rename_i hc
    obtain ⟨K, rfl⟩ := Int.eq_ofNat_of_zero_le hc.2.1
    rw [Int.toNat_natCast] at h
    split at h
    · rename_i hm
      obtain ⟨⟨⟨x', y', z', t'⟩, m'⟩, hr⟩ : ∃ z, reduce ⟨a, b, c, d⟩ K = z := ⟨_, rfl⟩
      rw [hr] at h hm
      simp only [Option.some.injEq, DW.mk.injEq, ZO.mk.injEq] at h
      obtain ⟨⟨rfl, rfl, rfl, rfl⟩, rfl⟩ := h
      have := i_New_go w hc.1 (by have := hc.2.2; omega) hr
      rwa [if_pos hm] at this
    · cases h
  · cases h
theorem i_New_none {a b c d k : Int} (w : World) (h : newD ⟨a, b, c, d⟩ k = none) : Calls Try.prog 16 #[.agg #[.int .i64 a, .int .i64 b, .int .i64 c, .int .i64 d], .int .i64 k] w (Ret (.tuple #[.agg #[.int .i64 0, .int .i64 0, .int .i64 0, .int .i64 0, .int .i64 0], .bool false]) w) := by
  cases h0 : okz ⟨a, b, c, d⟩
  · exact i_New_bad w h0
  · by_cases hk : 0 ≤ k ∧ k ≤ 120
    · unfold newD at h
      rw [if_pos ⟨h0, hk⟩] at h
      obtain ⟨K, rfl⟩ := Int.eq_ofNat_of_zero_le hk.1
      rw [Int.toNat_natCast] at h
      split at h
      · cases h
      · rename_i hm
        obtain ⟨⟨⟨x', y', z', t'⟩, m'⟩, hr⟩ : ∃ z, reduce ⟨a, b, c, d⟩ K = z := ⟨_, rfl⟩
        rw [hr] at hm
        have := i_New_go w h0 (by have := hk.2; omega) hr
        rwa [if_neg hm] at this
    · exact i_New_out w h0 hk
set_option maxHeartbeats 400000 in
theorem s_New_bad {a b c d k : Int} (w : World) (h : okz ⟨a, b, c, d⟩ = false) : Calls Try.prog 17 #[.agg #[.int .i64 a, .int .i64 b, .int .i64 c, .int .i64 d], .int .i64 k] w (Ret (.tuple #[.agg #[.int .i64 0, .int .i64 0, .int .i64 0, .int .i64 0, .int .i64 0], .bool false]) w) := by
  go_enter Try.func17, Try.ntmps17
  go_wp2_with fail
  refine (s_valid_f _ h).mono ?_
  rintro e w1 ⟨rfl, hb1⟩
  obtain ⟨hc1, hf1⟩ := bcell hb1
  have hz1 := hb1.size
  (try simp at hz1)
  have l1w0 : w.heap.size < w1.heap.size := by omega
  have m1w0 : w.heap.size ≤ w1.heap.size := by omega
  have x1w0 : ¬ w.heap.size = w1.heap.size := by omega
  have y1w0 : ¬ w1.heap.size = w.heap.size := by omega
  have l1w1 : w.heap.size + 1 < w1.heap.size := by omega
  have m1w1 : w.heap.size + 1 ≤ w1.heap.size := by omega
  have x1w1 : ¬ w.heap.size + 1 = w1.heap.size := by omega
  have y1w1 : ¬ w1.heap.size = w.heap.size + 1 := by omega
  go_wp2
  refine bodyPost_ret (v := .tuple #[.agg #[.int .i64 0, .int .i64 0, .int .i64 0, .int .i64 0, .int .i64 0], .bool false]) (by simp [results, Try.results17, go_sem, *]) rfl (ret_mk ?_)
  repeat (first | (with_reducible exact Below.refl _ _) | (with_reducible assumption) | (with_reducible refine bl_alloc ?_ _) | (with_reducible refine bl_drew ?_) | (with_reducible refine bl_set ?_ (by simp <;> omega) _) | (with_reducible refine bl_call ?_ (by assumption)))
set_option maxHeartbeats 400000 in
theorem s_New_out {a b c d k : Int} (w : World) (h : okz ⟨a, b, c, d⟩ = true) (hk : ¬ (0 ≤ k ∧ k ≤ 120)) : Calls Try.prog 17 #[.agg #[.int .i64 a, .int .i64 b, .int .i64 c, .int .i64 d], .int .i64 k] w (Ret (.tuple #[.agg #[.int .i64 0, .int .i64 0, .int .i64 0, .int .i64 0, .int .i64 0], .bool false]) w) := by
  have hb : (decide (0 ≤ k) && decide (k ≤ 120)) = false := by simp; omega
  have HI : ∀ W, Calls Try.prog 74 #[.int .i64 k, .int .i64 0, .int .i64 120] W fun e w' => e = .returned (.bool false) ∧ W = w' := by
    intro W
    have := s_in_any k 0 120 W
    rwa [hb] at this
  have HI' := Lib.hid HI
  clear HI hb hk
  go_enter Try.func17, Try.ntmps17
  go_wp2_with fail
  refine (s_valid_t _ h).mono ?_
  rintro e w1 ⟨rfl, hb1⟩
  obtain ⟨hc1, hf1⟩ := bcell hb1
  have hz1 := hb1.size
  (try simp at hz1)
  have l1w0 : w.heap.size < w1.heap.size := by omega
  have m1w0 : w.heap.size ≤ w1.heap.size := by omega
  have x1w0 : ¬ w.heap.size = w1.heap.size := by omega
  have y1w0 : ¬ w1.heap.size = w.heap.size := by omega
  have l1w1 : w.heap.size + 1 < w1.heap.size := by omega
  have m1w1 : w.heap.size + 1 ≤ w1.heap.size := by omega
  have x1w1 : ¬ w.heap.size + 1 = w1.heap.size := by omega
  have y1w1 : ¬ w1.heap.size = w.heap.size + 1 := by omega
  go_wp2_with fail
  refine (HI'.out _).mono ?_
  rintro e w' ⟨rfl, rfl⟩
  go_wp2
  refine bodyPost_ret (v := .tuple #[.agg #[.int .i64 0, .int .i64 0, .int .i64 0, .int .i64 0, .int .i64 0], .bool false]) (by simp [results, Try.results17, go_sem, *]) rfl (ret_mk ?_)
  repeat (first | (with_reducible exact Below.refl _ _) | (with_reducible assumption) | (with_reducible refine bl_alloc ?_ _) | (with_reducible refine bl_drew ?_) | (with_reducible refine bl_set ?_ (by simp <;> omega) _) | (with_reducible refine bl_call ?_ (by assumption)))
set_option maxHeartbeats 1000000 in
theorem s_New_go {a b c d : Int} {K : Nat} {x y z t : Int} {m : Nat} (w : World) (h : okz ⟨a, b, c, d⟩ = true) (hK : K ≤ 120) (hr : reduce ⟨a, b, c, d⟩ K = (⟨x, y, z, t⟩, m)) : Calls Try.prog 17 #[.agg #[.int .i64 a, .int .i64 b, .int .i64 c, .int .i64 d], .int .i64 (K : Int)] w (Ret (if m ≤ 60 then .tuple #[.agg #[.int .i64 x, .int .i64 y, .int .i64 z, .int .i64 t, .int .i64 (m : Int)], .bool true] else .tuple #[.agg #[.int .i64 0, .int .i64 0, .int .i64 0, .int .i64 0, .int .i64 0], .bool false]) w) := by
  have hb : (decide (0 ≤ (K : Int)) && decide ((K : Int) ≤ 120)) = true := by simp; omega
  have HI : ∀ W, Calls Try.prog 74 #[.int .i64 (K : Int), .int .i64 0, .int .i64 120] W fun e w' => e = .returned (.bool true) ∧ W = w' := by
    intro W
    have := s_in_any (K : Int) 0 120 W
    rwa [hb] at this
  have HI' := Lib.hid HI
  have HR := Lib.hid hr
  clear HI hb hr
  obtain ⟨V, hV⟩ : ∃ V : Value, V = (if m ≤ 60 then .tuple #[.agg #[.int .i64 x, .int .i64 y, .int .i64 z, .int .i64 t, .int .i64 (m : Int)], .bool true] else .tuple #[.agg #[.int .i64 0, .int .i64 0, .int .i64 0, .int .i64 0, .int .i64 0], .bool false]) := ⟨_, rfl⟩
  rw [← hV]
  have HV := Lib.hid hV
  clear hV
  go_enter Try.func17, Try.ntmps17
  go_wp2_with fail
  refine (s_valid_t _ h).mono ?_
  rintro e w1 ⟨rfl, hb1⟩
  obtain ⟨hc1, hf1⟩ := bcell hb1
  have hz1 := hb1.size
  (try simp at hz1)
  have l1w0 : w.heap.size < w1.heap.size := by omega
  have m1w0 : w.heap.size ≤ w1.heap.size := by omega
  have x1w0 : ¬ w.heap.size = w1.heap.size := by omega
  have y1w0 : ¬ w1.heap.size = w.heap.size := by omega
  have l1w1 : w.heap.size + 1 < w1.heap.size := by omega
  have m1w1 : w.heap.size + 1 ≤ w1.heap.size := by omega
  have x1w1 : ¬ w.heap.size + 1 = w1.heap.size := by omega
  have y1w1 : ¬ w1.heap.size = w.heap.size + 1 := by omega
  go_wp2_with fail
  refine (HI'.out _).mono ?_
  rintro e w' ⟨rfl, rfl⟩
  go_wp2
  go_loopw [1] (fun v wr => NewRel w 25 29 (⟨x, y, z, t⟩, m) v wr) (fun v _ => (intOf v).toNat)
  case atStart =>
    refine ⟨K, a, b, c, d, rfl, hK, h, HR.out, ((Blk.new w _ _).alloc _).call hb1, ?_, ?_⟩
    · have := (Blk.new (w.alloc (.cells #[.int .i64 a, .int .i64 b, .int .i64 c, .int .i64 d] 25)) 29 #[.int .i64 0, .int .i64 0, .int .i64 0, .int .i64 0, .int .i64 0]).call hb1
      simpa using this
    · repeat (first | (with_reducible exact Below.refl _ _) | (with_reducible assumption) | (with_reducible refine bl_alloc ?_ _) | (with_reducible refine bl_drew ?_) | (with_reducible refine bl_set ?_ (by simp <;> omega) _) | (with_reducible refine bl_call ?_ (by assumption)))
  case round =>
    obtain ⟨n, x', y', z', t', rfl, hn, ho, hred, k0, k1, hw⟩ := hrel
    clear hb1 hc1 hf1 hz1 l1w0 l1w1 m1w0 m1w1 x1w0 x1w1 y1w0 y1w1
    have HRE := Lib.hid hred
    clear hred
    have q0 := k0.lt
    have q1 := k1.lt
    have K0 := Lib.hid k0
    have K1 := Lib.hid k1
    by_cases hpos : 0 < n
    · have hd : decide (0 < (n : Int)) = true := by simp; omega
      rcases hdiv : divZ ⟨x', y', z', t'⟩ with _ | ⟨p, q, r, s⟩
      · have hfin : ((⟨x', y', z', t'⟩ : ZO), n) = (⟨x, y, z, t⟩, m) := (reduce_none hdiv).symm.trans HRE.out
        simp only [Prod.mk.injEq, ZO.mk.injEq] at hfin
        obtain ⟨⟨rfl, rfl, rfl, rfl⟩, rfl⟩ := hfin
        have HD := Lib.hid hdiv
        clear hdiv
        obtain ⟨c0, c1, c2, c3, f0, f1, f2, f3⟩ := k0.four
        clear k0 k1
        go_wp2_with fail
        refine (s_Div_none _ HD.out).mono ?_
        rintro e w2 ⟨rfl, hb2⟩
        have k2 : Blk w2 w.heap.size 25 _ := K0.out.call hb2
        have k3 : Blk w2 (w.heap.size + 1) 29 _ := K1.out.call hb2
        have hs2 := hb2.size
        obtain ⟨C0, C1, C2, C3, F0, F1, F2, F3⟩ := k2.four
        obtain ⟨D0, D1, D2, D3, D4, G0, G1, G2, G3, G4⟩ := k3.five
        have u0 : w.heap.size < w2.heap.size := by omega
        have u1 : w.heap.size + 1 < w2.heap.size := by omega
        have u2 : ¬ w.heap.size = w2.heap.size := by omega
        have u3 : ¬ w2.heap.size = w.heap.size := by omega
        have u4 : ¬ w.heap.size + 1 = w2.heap.size := by omega
        have u5 : ¬ w2.heap.size = w.heap.size + 1 := by omega
        by_cases hm60 : n ≤ 60
        · have h60 : decide (60 < (n : Int)) = false := by simp; omega
          have HVV : V = .tuple #[.agg #[.int .i64 x', .int .i64 y', .int .i64 z', .int .i64 t', .int .i64 (n : Int)], .bool true] := by rw [HV.out, if_pos hm60]
          have HVV' := Lib.hid HVV
          clear HVV
          go_wp2
          rw [HVV'.out]
          refine bodyPost_ret (v := .tuple #[.agg #[.int .i64 x', .int .i64 y', .int .i64 z', .int .i64 t', .int .i64 (n : Int)], .bool true]) (by simp [results, Try.results17, go_sem, *]) rfl (ret_mk ?_)
          repeat (first | (with_reducible exact Below.refl _ _) | (with_reducible assumption) | (with_reducible refine bl_alloc ?_ _) | (with_reducible refine bl_drew ?_) | (with_reducible refine bl_set ?_ (by simp <;> omega) _) | (with_reducible refine bl_call ?_ (by assumption)))
        · have h60 : decide (60 < (n : Int)) = true := by simp; omega
          have HVV : V = .tuple #[.agg #[.int .i64 0, .int .i64 0, .int .i64 0, .int .i64 0, .int .i64 0], .bool false] := by rw [HV.out, if_neg hm60]
          have HVV' := Lib.hid HVV
          clear HVV
          go_wp2
          rw [HVV'.out]
          refine bodyPost_ret (v := .tuple #[.agg #[.int .i64 0, .int .i64 0, .int .i64 0, .int .i64 0, .int .i64 0], .bool false]) (by simp [results, Try.results17, go_sem, *]) rfl (ret_mk ?_)
          repeat (first | (with_reducible exact Below.refl _ _) | (with_reducible assumption) | (with_reducible refine bl_alloc ?_ _) | (with_reducible refine bl_drew ?_) | (with_reducible refine bl_set ?_ (by simp <;> omega) _) | (with_reducible refine bl_call ?_ (by assumption)))
      · have hred' : reduce ⟨p, q, r, s⟩ (n - 1) = (⟨x, y, z, t⟩, m) := by
          have e : n = (n - 1) + 1 := by omega
          have h2 := HRE.out
          rw [e, reduce_some hdiv] at h2
          exact h2
        have ho' := divZ_okz hdiv
        have HD := Lib.hid hdiv
        have HRE' := Lib.hid hred'
        clear hdiv hred'
        obtain ⟨c0, c1, c2, c3, f0, f1, f2, f3⟩ := k0.four
        clear k0 k1
        go_wp2_with fail
        refine (s_Div_some _ HD.out).mono ?_
        rintro e w2 ⟨rfl, hb2⟩
        have k2 : Blk w2 w.heap.size 25 _ := K0.out.call hb2
        have k3 : Blk w2 (w.heap.size + 1) 29 _ := K1.out.call hb2
        have hs2 := hb2.size
        obtain ⟨C0, C1, C2, C3, F0, F1, F2, F3⟩ := k2.four
        obtain ⟨D0, D1, D2, D3, D4, G0, G1, G2, G3, G4⟩ := k3.five
        have u0 : w.heap.size < w2.heap.size := by omega
        have u1 : w.heap.size + 1 < w2.heap.size := by omega
        have u2 : ¬ w.heap.size = w2.heap.size := by omega
        have u3 : ¬ w2.heap.size = w.heap.size := by omega
        have u4 : ¬ w.heap.size + 1 = w2.heap.size := by omega
        have u5 : ¬ w2.heap.size = w.heap.size + 1 := by omega
        go_wp2
        go_roundw
        case rel =>
          refine ⟨n - 1, p, q, r, s, by go_num, by omega, ho', HRE'.out, (k2.put4 _ _ _ _).alloc _, (k3.far4 (by omega) _ _ _ _).alloc _, ?_⟩
          repeat (first | (with_reducible exact Below.refl _ _) | (with_reducible assumption) | (with_reducible refine bl_alloc ?_ _) | (with_reducible refine bl_drew ?_) | (with_reducible refine bl_set ?_ (by simp <;> omega) _) | (with_reducible refine bl_call ?_ (by assumption)))
        case measure => simp [intOf]; omega
    · have hd : decide (0 < (n : Int)) = false := by simp; omega
      have hn0 : n = 0 := by omega
      have hfin : ((⟨x', y', z', t'⟩ : ZO), n) = (⟨x, y, z, t⟩, m) := by
        have h2 := HRE.out
        rw [hn0] at h2 ⊢
        exact h2
      simp only [Prod.mk.injEq, ZO.mk.injEq] at hfin
      obtain ⟨⟨rfl, rfl, rfl, rfl⟩, rfl⟩ := hfin
      clear hn0
      obtain ⟨c0, c1, c2, c3, f0, f1, f2, f3⟩ := k0.four
      obtain ⟨d0, d1, d2, d3, d4, g0, g1, g2, g3, g4⟩ := k1.five
      clear k0 k1
      have h60 : decide (60 < (n : Int)) = false := by simp; omega
      have HVV : V = .tuple #[.agg #[.int .i64 x', .int .i64 y', .int .i64 z', .int .i64 t', .int .i64 (n : Int)], .bool true] := by rw [HV.out, if_pos (by omega)]
      have HVV' := Lib.hid HVV
      clear HVV
      go_wp2
      rw [HVV'.out]
      refine bodyPost_ret (v := .tuple #[.agg #[.int .i64 x', .int .i64 y', .int .i64 z', .int .i64 t', .int .i64 (n : Int)], .bool true]) (by simp [results, Try.results17, go_sem, *]) rfl (ret_mk ?_)
      repeat (first | (with_reducible exact Below.refl _ _) | (with_reducible assumption) | (with_reducible refine bl_alloc ?_ _) | (with_reducible refine bl_drew ?_) | (with_reducible refine bl_set ?_ (by simp <;> omega) _) | (with_reducible refine bl_call ?_ (by assumption)))
theorem s_New_some {a b c d k x y z t m : Int} (w : World) (h : newD ⟨a, b, c, d⟩ k = some ⟨⟨x, y, z, t⟩, m⟩) : Calls Try.prog 17 #[.agg #[.int .i64 a, .int .i64 b, .int .i64 c, .int .i64 d], .int .i64 k] w (Ret (.tuple #[.agg #[.int .i64 x, .int .i64 y, .int .i64 z, .int .i64 t, .int .i64 m], .bool true]) w) := by
  unfold newD at h
  split at h
  · rename_i hc
    obtain ⟨K, rfl⟩ := Int.eq_ofNat_of_zero_le hc.2.1
    rw [Int.toNat_natCast] at h
    split at h
    · rename_i hm
      obtain ⟨⟨⟨x', y', z', t'⟩, m'⟩, hr⟩ : ∃ z, reduce ⟨a, b, c, d⟩ K = z := ⟨_, rfl⟩
      rw [hr] at h hm
      simp only [Option.some.injEq, DW.mk.injEq, ZO.mk.injEq] at h
      obtain ⟨⟨rfl, rfl, rfl, rfl⟩, rfl⟩ := h
      have := s_New_go w hc.1 (by have := hc.2.2; omega) hr
      rwa [if_pos hm] at this
    · cases h
  · cases h
theorem s_New_none {a b c d k : Int} (w : World) (h : newD ⟨a, b, c, d⟩ k = none) : Calls Try.prog 17 #[.agg #[.int .i64 a, .int .i64 b, .int .i64 c, .int .i64 d], .int .i64 k] w (Ret (.tuple #[.agg #[.int .i64 0, .int .i64 0, .int .i64 0, .int .i64 0, .int .i64 0], .bool false]) w) := by
  cases h0 : okz ⟨a, b, c, d⟩
  · exact s_New_bad w h0
  · by_cases hk : 0 ≤ k ∧ k ≤ 120
    · unfold newD at h
      rw [if_pos ⟨h0, hk⟩] at h
      obtain ⟨K, rfl⟩ := Int.eq_ofNat_of_zero_le hk.1
      rw [Int.toNat_natCast] at h
      split at h
      · cases h
      · rename_i hm
        obtain ⟨⟨⟨x', y', z', t'⟩, m'⟩, hr⟩ : ∃ z, reduce ⟨a, b, c, d⟩ K = z := ⟨_, rfl⟩
        rw [hr] at hm
        have := s_New_go w h0 (by have := hk.2; omega) hr
        rwa [if_neg hm] at this
    · exact s_New_out w h0 hk
end Go.Proofs.Ytaokfppadfoniaa
