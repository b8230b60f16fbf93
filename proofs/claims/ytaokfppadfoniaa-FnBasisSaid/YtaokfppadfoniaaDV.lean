/- Contracts: the draws of states. -/
import Derived.Test.YtaokfppadfoniaaDr3
import Derived.Test.YtaokfppadfoniaaVc0
import Derived.Test.YtaokfppadfoniaaAdj0
namespace Go.Proofs.Ytaokfppadfoniaa
open Go.RowKit
set_option linter.unusedVariables false
section
variable {w w' W : World} {g n c base r : Nat} {A : Option Addr} {t : TypeId} {v : Value} {ds : List DW} {row : Option Nat}
theorem OwnS.only (h : OwnS w base t A ds) (ho : Only g w w') (hg : g < base) : OwnS w' base t A ds := fun hp => by
  obtain ⟨b, N, f, h1, h2, h3, h4, h5⟩ := h hp
  exact ⟨b, N, f, h1, h2, h3, h4.of_block (ho.2 b (by omega) h4.lt), h5⟩
theorem OwnS.set_far (h : OwnS w base t A ds) (hr : r < base) (i : Nat) (u : Value) : OwnS (w.setCell ⟨r, i, none⟩ u) base t A ds := fun hp => by
  obtain ⟨b, N, f, h1, h2, h3, h4, h5⟩ := h hp
  exact ⟨b, N, f, h1, h2, h3, h4.setOther (a := ⟨r, i, none⟩) (by show b ≠ r; omega) _, h5⟩
theorem OwnS.weak' {base' : Nat} (h : OwnS w base t A ds) (hb : base' ≤ base) : OwnS w base' t A ds := fun hp => by
  obtain ⟨b, N, f, h1, h2, h3⟩ := h hp
  exact ⟨b, N, f, h1, Nat.le_trans hb h2, h3⟩
theorem OwnS.take (h : OwnS w base t A ds) {k : Nat} (hk : k ≤ ds.length) : OwnS w base t A (ds.take k) := fun hp => by
  rw [List.length_take] at hp
  obtain ⟨b, N, f, h1, h2, h3, h4, h5⟩ := h (by omega)
  refine ⟨b, N, f, h1, h2, by rw [List.length_take]; omega, h4, fun j hj => ?_⟩
  rw [List.length_take] at hj
  rw [h5 j (by omega)]
  unfold fD
  congr 1
  rw [List.getD_eq_getElem?_getD, List.getD_eq_getElem?_getD, List.getElem?_take, if_pos (by omega)]
theorem OutS.only (h : OutS w base t v ds) (ho : Only g w w') (hg : g < base) : OutS w' base t v ds := by
  obtain ⟨h1, h2⟩ := h
  refine ⟨h1, ?_⟩
  rcases h2 with h2 | ⟨b, cap, cur, e1, e2, e3, e4⟩
  · exact .inl h2
  · refine .inr ⟨b, cap, cur, e1, e2, ?_, e4⟩
    have hlt : b < w.heap.size := by
      rcases Nat.lt_or_ge b w.heap.size with hlt | hge
      · exact hlt
      · rw [Array.getElem?_eq_none hge] at e3; cases e3
    exact (ho.2 b (by omega) hlt).trans e3
theorem OutS.slice' (h : OutS w base t v ds) : ∃ A c, v = .slice A ds.length c ∧ OwnS w base t A ds ∧ ds.length ≤ c := by
  obtain ⟨A, c, rfl, hA⟩ := h.slice
  refine ⟨A, c, rfl, hA, ?_⟩
  obtain ⟨h1, h2⟩ := h
  rcases h2 with ⟨e, h0⟩ | ⟨b, cap, cur, e1, e2, e3, e4, _⟩
  · omega
  · injection e1 with _ _ e1
    omega
theorem Cur.grown (h : Cur w g A n c) (hg : w.grownBy w' row) (hrow : ∀ k, row = some k → g < k) : Cur w' g A n c := by
  obtain ⟨j, x, h1, hB, hR, hn⟩ := h
  have hl := hB.lt
  have hb : Below g w w' := below_grown (Below.refl g w) hg (fun k hk => Nat.le_of_lt (hrow k hk)) (Nat.le_of_lt hl)
  exact ⟨j, x, h1, hB.grown hg (fun e => by have := hrow g e.symm; omega), hR.keep hb, hn⟩
theorem Only.grown (h : Only g w W) (hg : W.grownBy w' row) (hrow : ∀ k, row = some k → w.heap.size ≤ k) (hw : g < w.heap.size) : Only g w w' :=
  ⟨below_grown h.1 hg (fun k hk => by have := hrow k hk; omega) (by have := h.1.size; omega), fun b hb hl => (hg.block b (by have := h.1.size; omega) (fun e => by have := hrow b e.symm; omega)).trans (h.2 b hb hl)⟩
theorem Blk.newN (W : World) (s : Nat) (t : TypeId) (cs : Array Value) (h : W.heap.size = s) : Blk (W.alloc (.cells cs t)) s t cs := by
  subst h
  exact Blk.new _ _ _
end
/-- A state was drawn. -/
def VRet (g : Nat) (A : Option Addr) (n c : Nat) (w : World) (e : Ending) (w' : World) : Prop :=
  ∃ A' c' ds, e = .returned (.slice A' ds.length c') ∧ (0 < ds.length ∧ ds.length ≤ 16 ∧ ds.length ≤ c') ∧ OwnS w' w.heap.size 29 A' ds ∧ Cur w' g A n c ∧ Only g w w'
def BRet (g : Nat) (A : Option Addr) (n c : Nat) (w : World) (e : Ending) (w' : World) : Prop :=
  ∃ A' c' ds, e = .returned (.slice A' ds.length c') ∧ ds.length ≤ 16 ∧ OwnS w' w.heap.size 29 A' ds ∧ Cur w' g A n c ∧ Only g w w'
def VecRel (w : World) (g : Nat) (A : Option Addr) (n c M : Nat) (v i : Value) (wr : World) : Prop :=
  ∃ (k : Nat) (ds : List DW), k ≤ M ∧ i = .int .i64 (k : Int) ∧ ds.length = k ∧ OutS wr w.heap.size 29 v ds ∧ Cur wr g A n c ∧ Only g w wr ∧ w.heap.size ≤ wr.heap.size
set_option maxHeartbeats 4000000 in
theorem d_vec (m : Int) (g : Nat) (A : Option Addr) (n c : Nat) (w : World) (hC : Cur w g A n c) (hm : 1 ≤ m ∧ m ≤ 3) : Calls Try.prog 93 #[.pointer (some ⟨g, 0, none⟩), .int .i64 m] w (VRet g A n c w) := by
  have hgw := hC.lt
  have HC := Lib.hid hC
  clear hC
  rcases (by omega : m = 1 ∨ m = 2 ∨ m = 3) with rfl | rfl | rfl
  · go_enter Try.func93, Try.ntmps93
    go_wp2
    go_loopw [5, 6] (fun v i wr => VecRel w g A n c 2 v i wr) (fun _ i _ => 2 - (intOf i).toNat)
    case atStart => exact ⟨0, [], by omega, rfl, rfl, OutS.start w _ _ _ (Nat.le_refl _) rfl, HC.out.alloc _, Only.of_below (below_alloc w _) hgw, by simp⟩
    case round =>
      obtain ⟨k, ds, hk, rfl, hl, hO, hC, hOn, hs⟩ := hrel
      by_cases hlt : k < 2
      · have hd : decide ((k : Int) < 2) = true := by simp; omega
        have S0 := Lib.hid ((CS.start hC).push 29 #[.int .i64 0, .int .i64 0, .int .i64 0, .int .i64 0, .int .i64 0])
        have HO := Lib.hid hO
        have hln : ds.length ≤ 16 := by omega
        have HL := Lib.hid hl
        clear hC hO hl
        go_wp2_with fail
        refine (d_once 2 g A n c _ S0.out.cur (by omega)).mono ?_
        rintro e w1 ⟨v, rfl, ⟨o, rfl⟩, hC1, hO1⟩
        have S1 := Lib.hid (S0.out.cret hC1 hO1)
        clear hC1 hO1
        have hs1 := S1.out.size
        cases o
        · obtain ⟨k0, k1, k2, k3, k4, -, -, -, -, -⟩ := S1.out.head.five
          have gl := S1.out.head.lt
          have gn : ¬ wr.heap.size = w1.heap.size := by omega
          have hl := HL.out
          clear HL
          have HO1 := Lib.hid (HO.out.only S1.out.2.1 hgw)
          have HC1 := Lib.hid (S1.out.cur)
          have HP1 := Lib.hid (S1.out.2.1)
          go_wp2_with (at_builtin; refine app_step _ rfl (.tmp 21) (.tmp 23) rfl w.heap.size _ _ rfl (HO1.out.alloc _) w1.heap.size 0 0 0 0 0 rfl (Blk.newN _ _ _ _ (by simp)) (by omega) (by simp; omega) ?_; intro v' w' hO' hg' hrow')
          go_roundw
          case rel =>
            have hz := hg'.size
            refine ⟨k + 1, _, by omega, by go_num, by simp; omega, hO', (HC1.out.alloc _).grown hg' (fun q hq => by have := hrow' q hq; omega), Only.grown ((hOn.trans HP1.out).trans (Only.of_below (below_alloc _ _) HC1.out.lt)) hg' hrow' hgw, ?_⟩
            simp at hz
            omega
          case measure => simp [intOf]; omega
        · go_wp2_with fail
          refine (d_dw g A n c _ S1.out.cur).mono ?_
          rintro e w2 ⟨v, rfl, ⟨x, y, z, t, l, rfl⟩, hC2, hO2⟩
          have S2 := Lib.hid (S1.out.cret hC2 hO2)
          clear hC2 hO2
          have hs2 := S2.out.size
          obtain ⟨k0, k1, k2, k3, k4, f0, f1, f2, f3, f4⟩ := S2.out.head.five
          have gl := S2.out.head.lt
          have gn : ¬ wr.heap.size = w2.heap.size := by omega
          have hl := HL.out
          clear HL
          have fin := setfin5 S2.out (Nat.le_refl _) (p := .int .i64 x) (q := .int .i64 y) (s := .int .i64 z) (t := .int .i64 t) (u := .int .i64 l)
          have HO2 := Lib.hid (HO.out.only fin.2 hgw)
          have HC2 := Lib.hid (fin.1)
          have HP2 := Lib.hid (fin.2)
          clear fin
          go_wp2_with (at_builtin; refine app_step _ rfl (.tmp 21) (.tmp 23) rfl w.heap.size _ _ rfl (HO2.out.alloc _) w2.heap.size x y z t l rfl (Blk.newN _ _ _ _ (by simp)) (by omega) (by simp; omega) ?_; intro v' w' hO' hg' hrow')
          go_roundw
          case rel =>
            have hz := hg'.size
            refine ⟨k + 1, _, by omega, by go_num, by simp; omega, hO', (HC2.out.alloc _).grown hg' (fun q hq => by have := hrow' q hq; omega), Only.grown ((hOn.trans HP2.out).trans (Only.of_below (below_alloc _ _) HC2.out.lt)) hg' hrow' hgw, ?_⟩
            simp at hz
            omega
          case measure => simp [intOf]; omega
      · have hd : decide ((k : Int) < 2) = false := by simp; omega
        have HC1 := Lib.hid hC
        have HO1 := Lib.hid hO
        have HN := Lib.hid hOn
        have hl1 : 0 < ds.length := by omega
        have hl2 : ds.length ≤ 16 := by omega
        clear hC hO hOn hl
        go_wp2
        go_ret
        obtain ⟨A', c', rfl, hA, hcap⟩ := HO1.out.slice'
        exact ⟨A', c', ds, rfl, ⟨hl1, hl2, hcap⟩, hA, HC1.out, HN.out⟩
  · go_enter Try.func93, Try.ntmps93
    go_wp2
    go_loopw [5, 6] (fun v i wr => VecRel w g A n c 4 v i wr) (fun _ i _ => 4 - (intOf i).toNat)
    case atStart => exact ⟨0, [], by omega, rfl, rfl, OutS.start w _ _ _ (Nat.le_refl _) rfl, HC.out.alloc _, Only.of_below (below_alloc w _) hgw, by simp⟩
    case round =>
      obtain ⟨k, ds, hk, rfl, hl, hO, hC, hOn, hs⟩ := hrel
      by_cases hlt : k < 4
      · have hd : decide ((k : Int) < 4) = true := by simp; omega
        have S0 := Lib.hid ((CS.start hC).push 29 #[.int .i64 0, .int .i64 0, .int .i64 0, .int .i64 0, .int .i64 0])
        have HO := Lib.hid hO
        have hln : ds.length ≤ 16 := by omega
        have HL := Lib.hid hl
        clear hC hO hl
        go_wp2_with fail
        refine (d_once 2 g A n c _ S0.out.cur (by omega)).mono ?_
        rintro e w1 ⟨v, rfl, ⟨o, rfl⟩, hC1, hO1⟩
        have S1 := Lib.hid (S0.out.cret hC1 hO1)
        clear hC1 hO1
        have hs1 := S1.out.size
        cases o
        · obtain ⟨k0, k1, k2, k3, k4, -, -, -, -, -⟩ := S1.out.head.five
          have gl := S1.out.head.lt
          have gn : ¬ wr.heap.size = w1.heap.size := by omega
          have hl := HL.out
          clear HL
          have HO1 := Lib.hid (HO.out.only S1.out.2.1 hgw)
          have HC1 := Lib.hid (S1.out.cur)
          have HP1 := Lib.hid (S1.out.2.1)
          go_wp2_with (at_builtin; refine app_step _ rfl (.tmp 21) (.tmp 23) rfl w.heap.size _ _ rfl (HO1.out.alloc _) w1.heap.size 0 0 0 0 0 rfl (Blk.newN _ _ _ _ (by simp)) (by omega) (by simp; omega) ?_; intro v' w' hO' hg' hrow')
          go_roundw
          case rel =>
            have hz := hg'.size
            refine ⟨k + 1, _, by omega, by go_num, by simp; omega, hO', (HC1.out.alloc _).grown hg' (fun q hq => by have := hrow' q hq; omega), Only.grown ((hOn.trans HP1.out).trans (Only.of_below (below_alloc _ _) HC1.out.lt)) hg' hrow' hgw, ?_⟩
            simp at hz
            omega
          case measure => simp [intOf]; omega
        · go_wp2_with fail
          refine (d_dw g A n c _ S1.out.cur).mono ?_
          rintro e w2 ⟨v, rfl, ⟨x, y, z, t, l, rfl⟩, hC2, hO2⟩
          have S2 := Lib.hid (S1.out.cret hC2 hO2)
          clear hC2 hO2
          have hs2 := S2.out.size
          obtain ⟨k0, k1, k2, k3, k4, f0, f1, f2, f3, f4⟩ := S2.out.head.five
          have gl := S2.out.head.lt
          have gn : ¬ wr.heap.size = w2.heap.size := by omega
          have hl := HL.out
          clear HL
          have fin := setfin5 S2.out (Nat.le_refl _) (p := .int .i64 x) (q := .int .i64 y) (s := .int .i64 z) (t := .int .i64 t) (u := .int .i64 l)
          have HO2 := Lib.hid (HO.out.only fin.2 hgw)
          have HC2 := Lib.hid (fin.1)
          have HP2 := Lib.hid (fin.2)
          clear fin
          go_wp2_with (at_builtin; refine app_step _ rfl (.tmp 21) (.tmp 23) rfl w.heap.size _ _ rfl (HO2.out.alloc _) w2.heap.size x y z t l rfl (Blk.newN _ _ _ _ (by simp)) (by omega) (by simp; omega) ?_; intro v' w' hO' hg' hrow')
          go_roundw
          case rel =>
            have hz := hg'.size
            refine ⟨k + 1, _, by omega, by go_num, by simp; omega, hO', (HC2.out.alloc _).grown hg' (fun q hq => by have := hrow' q hq; omega), Only.grown ((hOn.trans HP2.out).trans (Only.of_below (below_alloc _ _) HC2.out.lt)) hg' hrow' hgw, ?_⟩
            simp at hz
            omega
          case measure => simp [intOf]; omega
      · have hd : decide ((k : Int) < 4) = false := by simp; omega
        have HC1 := Lib.hid hC
        have HO1 := Lib.hid hO
        have HN := Lib.hid hOn
        have hl1 : 0 < ds.length := by omega
        have hl2 : ds.length ≤ 16 := by omega
        clear hC hO hOn hl
        go_wp2
        go_ret
        obtain ⟨A', c', rfl, hA, hcap⟩ := HO1.out.slice'
        exact ⟨A', c', ds, rfl, ⟨hl1, hl2, hcap⟩, hA, HC1.out, HN.out⟩
  · go_enter Try.func93, Try.ntmps93
    go_wp2
    go_loopw [5, 6] (fun v i wr => VecRel w g A n c 8 v i wr) (fun _ i _ => 8 - (intOf i).toNat)
    case atStart => exact ⟨0, [], by omega, rfl, rfl, OutS.start w _ _ _ (Nat.le_refl _) rfl, HC.out.alloc _, Only.of_below (below_alloc w _) hgw, by simp⟩
    case round =>
      obtain ⟨k, ds, hk, rfl, hl, hO, hC, hOn, hs⟩ := hrel
      by_cases hlt : k < 8
      · have hd : decide ((k : Int) < 8) = true := by simp; omega
        have S0 := Lib.hid ((CS.start hC).push 29 #[.int .i64 0, .int .i64 0, .int .i64 0, .int .i64 0, .int .i64 0])
        have HO := Lib.hid hO
        have hln : ds.length ≤ 16 := by omega
        have HL := Lib.hid hl
        clear hC hO hl
        go_wp2_with fail
        refine (d_once 2 g A n c _ S0.out.cur (by omega)).mono ?_
        rintro e w1 ⟨v, rfl, ⟨o, rfl⟩, hC1, hO1⟩
        have S1 := Lib.hid (S0.out.cret hC1 hO1)
        clear hC1 hO1
        have hs1 := S1.out.size
        cases o
        · obtain ⟨k0, k1, k2, k3, k4, -, -, -, -, -⟩ := S1.out.head.five
          have gl := S1.out.head.lt
          have gn : ¬ wr.heap.size = w1.heap.size := by omega
          have hl := HL.out
          clear HL
          have HO1 := Lib.hid (HO.out.only S1.out.2.1 hgw)
          have HC1 := Lib.hid (S1.out.cur)
          have HP1 := Lib.hid (S1.out.2.1)
          go_wp2_with (at_builtin; refine app_step _ rfl (.tmp 21) (.tmp 23) rfl w.heap.size _ _ rfl (HO1.out.alloc _) w1.heap.size 0 0 0 0 0 rfl (Blk.newN _ _ _ _ (by simp)) (by omega) (by simp; omega) ?_; intro v' w' hO' hg' hrow')
          go_roundw
          case rel =>
            have hz := hg'.size
            refine ⟨k + 1, _, by omega, by go_num, by simp; omega, hO', (HC1.out.alloc _).grown hg' (fun q hq => by have := hrow' q hq; omega), Only.grown ((hOn.trans HP1.out).trans (Only.of_below (below_alloc _ _) HC1.out.lt)) hg' hrow' hgw, ?_⟩
            simp at hz
            omega
          case measure => simp [intOf]; omega
        · go_wp2_with fail
          refine (d_dw g A n c _ S1.out.cur).mono ?_
          rintro e w2 ⟨v, rfl, ⟨x, y, z, t, l, rfl⟩, hC2, hO2⟩
          have S2 := Lib.hid (S1.out.cret hC2 hO2)
          clear hC2 hO2
          have hs2 := S2.out.size
          obtain ⟨k0, k1, k2, k3, k4, f0, f1, f2, f3, f4⟩ := S2.out.head.five
          have gl := S2.out.head.lt
          have gn : ¬ wr.heap.size = w2.heap.size := by omega
          have hl := HL.out
          clear HL
          have fin := setfin5 S2.out (Nat.le_refl _) (p := .int .i64 x) (q := .int .i64 y) (s := .int .i64 z) (t := .int .i64 t) (u := .int .i64 l)
          have HO2 := Lib.hid (HO.out.only fin.2 hgw)
          have HC2 := Lib.hid (fin.1)
          have HP2 := Lib.hid (fin.2)
          clear fin
          go_wp2_with (at_builtin; refine app_step _ rfl (.tmp 21) (.tmp 23) rfl w.heap.size _ _ rfl (HO2.out.alloc _) w2.heap.size x y z t l rfl (Blk.newN _ _ _ _ (by simp)) (by omega) (by simp; omega) ?_; intro v' w' hO' hg' hrow')
          go_roundw
          case rel =>
            have hz := hg'.size
            refine ⟨k + 1, _, by omega, by go_num, by simp; omega, hO', (HC2.out.alloc _).grown hg' (fun q hq => by have := hrow' q hq; omega), Only.grown ((hOn.trans HP2.out).trans (Only.of_below (below_alloc _ _) HC2.out.lt)) hg' hrow' hgw, ?_⟩
            simp at hz
            omega
          case measure => simp [intOf]; omega
      · have hd : decide ((k : Int) < 8) = false := by simp; omega
        have HC1 := Lib.hid hC
        have HO1 := Lib.hid hO
        have HN := Lib.hid hOn
        have hl1 : 0 < ds.length := by omega
        have hl2 : ds.length ≤ 16 := by omega
        clear hC hO hOn hl
        go_wp2
        go_ret
        obtain ⟨A', c', rfl, hA, hcap⟩ := HO1.out.slice'
        exact ⟨A', c', ds, rfl, ⟨hl1, hl2, hcap⟩, hA, HC1.out, HN.out⟩
set_option maxHeartbeats 2000000 in
theorem d_lbent (g : Nat) (A : Option Addr) (n c : Nat) (w : World) (hC : Cur w g A n c) : Calls Try.prog 90 #[.pointer (some ⟨g, 0, none⟩)] w (BRet g A n c w) := by
  have hgw := hC.lt
  have S0 := Lib.hid (CS.start hC)
  clear hC
  go_enter Try.func90, Try.ntmps90
  go_wp2_with fail
  refine (d_below 3 g A n c _ S0.out.cur (by omega)).mono ?_
  rintro e w1 ⟨v, rfl, ⟨x1, rfl, l1, u1⟩, hC1, hO1⟩
  have S1 := Lib.hid (S0.out.cret hC1 hO1)
  clear hC1 hO1
  go_wp2_with fail
  refine (d_vec (1 + x1) g A n c _ S1.out.cur (by omega)).mono ?_
  rintro e w2 ⟨A2, c2, ds, rfl, hln, O2, hC2, hO2⟩
  have S2 := Lib.hid (S1.out.cret hC2 hO2)
  have hw1 := S1.out.size
  have hdn : (ds.length : Int) ≤ 16 := by omega
  have HO2 := Lib.hid O2
  clear hC2 hO2 O2
  go_wp2_with fail
  refine (d_below 8 g A n c _ S2.out.cur (by omega)).mono ?_
  rintro e w3 ⟨v, rfl, ⟨x3, rfl, l3, u3⟩, hC3, hOn3⟩
  have S3 := Lib.hid (S2.out.cret hC3 hOn3)
  clear hC3
  have HO3 := Lib.hid (HO2.out.only hOn3 (by omega))
  clear hOn3 HO2
  rcases (by omega : x3 = 0 ∨ x3 = 1 ∨ 2 ≤ x3) with rfl | rfl | h2
  · go_wp2_with fail
    refine (d_below (ds.length : Int) g A n c _ S3.out.cur (by omega)).mono ?_
    rintro e w4 ⟨v, rfl, ⟨x4, rfl, x40, x41⟩, hC4, hO4⟩
    have S4 := Lib.hid (S3.out.cret hC4 hO4)
    have HO4 := Lib.hid (HO3.out.only hO4 (by omega))
    clear hC4 hO4 HO3
    obtain ⟨j, rfl⟩ := Int.eq_ofNat_of_zero_le x40
    have hj : j < ds.length := by omega
    go_wp2_with fail
    refine (d_bent g A n c _ S4.out.cur).mono ?_
    rintro e w5 ⟨v, rfl, ⟨x, y, z, t, l, rfl⟩, hC5, hO5⟩
    have S5 := Lib.hid (S4.out.cret hC5 hO5)
    have HO5 := HO4.out.only hO5 (by omega)
    clear hC5 hO5 HO4
    obtain ⟨b, N, f, rfl, -, -, -, -⟩ := HO5 (by omega)
    obtain ⟨d, hd⟩ : ∃ d, ds[j]? = some d := ⟨_, List.getElem?_eq_getElem hj⟩
    obtain ⟨⟨c0, c1, c2', c3, c4⟩, ⟨f0, f1, f2, f3, f4⟩, hbb, hbl⟩ := HO5.five hd
    have HP := Lib.hid (HO5.put5 (d := ⟨⟨x, y, z, t⟩, l⟩) hj)
    have i0 : (0 : Int) ≤ (j : Int) := by omega
    have i1 : (j : Int) < (ds.length : Int) := by omega
    have hgb : g < b := by omega
    have hwb : w.heap.size ≤ b := by omega
    clear HO5 hd
    go_wp2
    go_ret
    refine ⟨some ⟨b, 0, none⟩, c2, ds.set j ⟨⟨x, y, z, t⟩, l⟩, by rw [List.length_set]; rfl, by rw [List.length_set]; omega, OwnS.weak' HP.out hw1, ?_, ?_⟩
    · exact ((((S5.out.cur.set_far hgb _ _).set_far hgb _ _).set_far hgb _ _).set_far hgb _ _).set_far hgb _ _
    · exact ((((S5.out.2.1.set_new hwb hgb _ _).set_new hwb hgb _ _).set_new hwb hgb _ _).set_new hwb hgb _ _).set_new hwb hgb _ _
  · go_wp2_with fail
    refine (d_below (ds.length : Int) g A n c _ S3.out.cur (by omega)).mono ?_
    rintro e w4 ⟨v, rfl, ⟨x4, rfl, x40, x41⟩, hC4, hO4⟩
    have S4 := Lib.hid (S3.out.cret hC4 hO4)
    have HO4 := HO3.out.only hO4 (by omega)
    clear hC4 hO4 HO3
    obtain ⟨j, rfl⟩ := Int.eq_ofNat_of_zero_le x40
    have hj : j < ds.length := by omega
    obtain ⟨b, N, f, rfl, -, -, -, -⟩ := HO4 (by omega)
    have HT := Lib.hid (HO4.take (k := j) (by omega))
    have i0 : (0 : Int) ≤ (j : Int) := by omega
    have i1 : (j : Int) ≤ (c2 : Int) := by omega
    have i2 : j ≤ c2 := by omega
    have i3 : 0 < c2 := by omega
    clear HO4
    go_wp2
    go_ret
    exact ⟨some ⟨b, 0, none⟩, c2, ds.take j, by rw [List.length_take, Nat.min_eq_left (by omega)]; rfl, by rw [List.length_take]; omega, OwnS.weak' HT.out hw1, S4.out.cur, S4.out.2.1⟩
  · have e0 : (x3 == 0) = false := by rw [beq_eq_false_iff_ne]; omega
    have e1 : (x3 == 1) = false := by rw [beq_eq_false_iff_ne]; omega
    go_wp2
    go_ret
    exact ⟨A2, c2, ds, rfl, hln.2.1, OwnS.weak' HO3.out hw1, S3.out.cur, S3.out.2.1⟩
end Go.Proofs.Ytaokfppadfoniaa
