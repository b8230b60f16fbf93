/- Contracts: columns, transposed and adjoint matrices. -/
import Derived.Test.YtccbaffendfneaaAdj0
import Derived.Test.YtccbaffendfneaaD2
namespace Go.Proofs.Ytccbaffendfneaa
open Go.RowKit
set_option linter.unusedVariables false

def ColRel (w : World) (B n k : Nat) (rows : List (List DW)) (v i : Value) (wr : World) : Prop :=
  ∃ j : Nat, j ≤ n ∧ i = .int .i64 (j : Int) ∧ OutS wr B 51 v (colL (rows.take j) k) ∧ Below B w wr ∧ B ≤ wr.heap.size
set_option maxHeartbeats 1000000 in
theorem s_col (A : Option Addr) (n c k : Nat) (rows : List (List DW)) (w : World) (hR : RM w w.heap.size A n rows) (hk : ∀ r ∈ rows, k < r.length) (hn : n ≤ 1000000) (hk16 : k ≤ 1000000) :
    Calls Try.prog 26 #[.slice A n c, .int .i64 (k : Int)] w (RetO w 51 (colL rows k)) := by
  have HR := Lib.hid hR
  have HK := Lib.hid hk
  have HN := Lib.hid hR.1
  clear hR hk
  go_enter Try.func26, Try.ntmps26
  go_wp2
  go_loopw [5, 6] (fun v i wr => ColRel w w.heap.size n k rows v i wr) (fun _ i _ => n - (intOf i).toNat)
  case atStart => exact ⟨0, by omega, rfl, OutS.start w _ _ _ (Nat.le_refl _) rfl, below_alloc w _, by simp⟩
  case round =>
    obtain ⟨j, hj, rfl, hO, hb, hs⟩ := hrel
    have HO := Lib.hid hO
    clear hO
    by_cases hlt : j < n
    · have hd : decide ((j : Int) < (n : Int)) = true := by simp; omega
      obtain ⟨b, off, A', c', r, rfl, hb1, hr, q0, hRD⟩ := (HR.out.keep hb).at hlt
      have hkr : k < r.length := HK.out r (List.mem_of_getElem? hr)
      obtain ⟨b2, off2, x, y, z, t, l, rfl, hb2, hx, c0, c1, c2, c3, c4⟩ := hRD.at hkr
      have HS := Lib.hid (colL_succ hr hx)
      have hl := colL_length (rows.take j) k
      rw [List.length_take] at hl
      have hl' : (colL (rows.take j) k).length ≤ 2000000 := by omega
      clear hr hx hRD hl
      have i0 : (0 : Int) ≤ (j : Int) := by omega
      have i1 : (j : Int) < (n : Int) := by omega
      have k0 : (0 : Int) ≤ (k : Int) := by omega
      have k1 : (k : Int) < (r.length : Int) := by omega
      go_wp2_with (at_builtin; refine app_step _ rfl (.tmp 14) (.tmp 22) rfl w.heap.size _ _ rfl (HO.out.alloc _) wr.heap.size x y z t l rfl (Blk.new wr _ _) hl' (by simp; omega) ?_; intro v' w' hO' hg' hrow')
      rw [← HS.out] at hO'
      go_roundw
      case rel =>
        have hz := hg'.size
        refine ⟨j + 1, by omega, by go_num, hO', below_grown (bl_alloc hb _) hg' hrow' (by simp; omega), ?_⟩
        simp at hz
        omega
      case measure => simp [intOf]; omega
    · have hd : decide ((j : Int) < (n : Int)) = false := by simp; omega
      have HC := Lib.hid (colL_all (rows := rows) (j := j) (k := k) (by have := HN.out; omega))
      go_wp2
      go_ret
      have h := HO.out
      rw [HC.out] at h
      obtain ⟨A, c, rfl, hA⟩ := h.slice
      exact ⟨A, c, rfl, hA, hb⟩
/-- What both compute. -/
def adjD (rows : List (List DW)) : List (List DW) := if okM rows = true then adjL rows rows.length else []
def AdjRel (w : World) (n : Nat) (rows : List (List DW)) (v i : Value) (wr : World) : Prop :=
  ∃ j : Nat, j ≤ n ∧ i = .int .i64 (j : Int) ∧ OutM wr w.heap.size v (adjL rows j) ∧ Below w.heap.size w wr ∧ w.heap.size ≤ wr.heap.size
def ConjRel (w : World) (base g : Nat) (ds : List DW) (i : Value) (wr : World) : Prop :=
  ∃ q : Nat, q ≤ ds.length ∧ i = .int .i64 (q : Int) ∧ OwnS wr base 51 (some ⟨g, 0, none⟩) (mixC ds q) ∧ Below base w wr ∧ w.heap.size ≤ wr.heap.size ∧ ∀ b, b < w.heap.size → b ≠ g → wr.heap[b]? = w.heap[b]?
theorem frame_call {w W W' : World} {g : Nat} (h : ∀ b, b < w.heap.size → b ≠ g → W.heap[b]? = w.heap[b]?) (hs : w.heap.size ≤ W.heap.size) (hb : Below W.heap.size W W') : ∀ b, b < w.heap.size → b ≠ g → W'.heap[b]? = w.heap[b]? :=
  fun b h1 h2 => (hb.block b (by omega)).trans (h b h1 h2)
theorem frame_set' {w W : World} {g i : Nat} (h : ∀ b, b < w.heap.size → b ≠ g → W.heap[b]? = w.heap[b]?) (u : Value) : ∀ b, b < w.heap.size → b ≠ g → (W.setCell ⟨g, i, none⟩ u).heap[b]? = w.heap[b]? :=
  fun b h1 hb => (Below.heap_setCell W ⟨g, i, none⟩ u b hb).trans (h b h1 hb)
theorem adj_row {rows : List (List DW)} {n : Nat} (hl : rows.length = n) (h : ∀ r ∈ rows, r.length = n ∧ ∀ d ∈ r, okd d = true) {j : Nat} (hj : j < n) : ∀ d ∈ colL rows j, okd d = true := by
  intro d hd
  obtain ⟨r, hr, rfl⟩ := List.mem_map.1 hd
  obtain ⟨h1, h2⟩ := h r hr
  rw [List.getD_eq_getElem?_getD, List.getElem?_eq_getElem (by omega)]
  exact h2 _ (List.getElem_mem _)
set_option maxHeartbeats 2000000 in
theorem s_Adj_ok (A : Option Addr) (n c : Nat) (rows : List (List DW)) (w : World) (hR : RM w w.heap.size A n rows) (hok : okM rows = true) :
    Calls Try.prog 12 #[.slice A n c] w (RetOM w (adjL rows n)) := by
  obtain ⟨hp, h16, hrows⟩ := okM_parts hok
  have hn : rows.length = n := hR.1.symm
  rw [hn] at hp h16 hrows
  have HV : ∀ W, RM W W.heap.size A n rows → Calls Try.prog 25 #[.slice A n c] W (Ret (.bool true) W) := fun W h => by
    have := s_VM A n c rows W h (by omega) (fun r hr => by have := (hrows r hr).1; omega)
    rwa [hok] at this
  have HV' := Lib.hid HV
  have HROWS := Lib.hid hrows
  have HR := Lib.hid hR
  have HN := Lib.hid hn
  clear HV hrows hR hn hok
  go_enter Try.func12, Try.ntmps12
  go_wp2
  go_loopw [3, 4] (fun v i wr => AdjRel w n rows v i wr) (fun _ i _ => n - (intOf i).toNat)
  case atStart => exact ⟨0, by omega, rfl, OutM.start w _ _ (Nat.le_refl _) rfl, below_alloc w _, by simp⟩
  case round =>
    obtain ⟨j, hj, rfl, hO, hb, hs⟩ := hrel
    obtain ⟨wo, rfl⟩ : ∃ wo : World, wo = wr := ⟨_, rfl⟩
    have HO := Lib.hid hO
    clear hO
    have R0 := Lib.hid ((HR.out.keep hb).more hs)
    go_wp2_with fail
    refine (HV'.out _ R0.out).mono ?_
    rintro e w1 ⟨rfl, hb1⟩
    have hs1 := hb1.size
    have R1 := Lib.hid (R0.out.call hb1)
    have HO1 := Lib.hid (HO.out.call hb1)
    have hw1 : Below w.heap.size w w1 := bl_call hb hb1
    clear R0 HO hb hb1
    by_cases hlt : j < n
    · have hd : decide ((j : Int) < (n : Int)) = true := by simp; omega
      go_wp2_with fail
      refine (s_col A n c j rows _ R1.out (fun r hr => by have := (HROWS.out r hr).1; omega) (by omega) (by omega)).mono ?_
      rintro e w2 ⟨A2, c2, rfl, O2, hb2⟩
      obtain ⟨ds, hds⟩ : ∃ ds, colL rows j = ds := ⟨_, rfl⟩
      have hokd : ∀ d ∈ ds, okd d = true := by rw [← hds]; exact adj_row HN.out HROWS.out hlt
      have hlen : ds.length = n := by rw [← hds, colL_length]; exact HN.out
      have hsucc : adjL rows (j + 1) = adjL rows j ++ [ds.map conjDW] := by rw [adjL_succ, hds]
      rw [hds] at O2 ⊢
      have HD := Lib.hid hokd
      have HL := Lib.hid hlen
      have HS := Lib.hid hsucc
      clear hds hokd hlen hsucc
      obtain ⟨g, N, f, rfl, hg, -, -, -⟩ := O2 (by rw [HL.out]; exact hp)
      have hs2 := hb2.size
      have HO2 := Lib.hid O2
      clear O2
      go_wp2
      go_loopw [6] (fun i wx => ConjRel w2 w1.heap.size g ds i wx) (fun i _ => ds.length - (intOf i).toNat)
      case atStart => exact ⟨0, by omega, rfl, by rw [mixC_zero]; exact HO2.out, Below.refl _ _, Nat.le_refl _, fun _ _ _ => rfl⟩
      case round =>
        obtain ⟨q, hq, rfl, hO, hb, hs', hfr⟩ := hrel
        have HQ := Lib.hid hO
        have HF := Lib.hid hfr
        clear hO hfr
        by_cases hlq : q < ds.length
        · have hdq : decide ((q : Int) < (ds.length : Int)) = true := by simp; omega
          obtain ⟨⟨⟨x, y, z, t⟩, l⟩, hd0⟩ : ∃ d, ds[q]? = some d := ⟨_, List.getElem?_eq_getElem hlq⟩
          have hokx := HD.out _ (List.mem_of_getElem? hd0)
          obtain ⟨⟨c0, c1, c2, c3, c4⟩, -, -, hgw⟩ := HQ.out.five (mixC_get hd0)
          have HT := Lib.hid (mixC_step hd0)
          have HD0 := Lib.hid (mixC_get hd0)
          clear hd0
          have i0 : (0 : Int) ≤ (q : Int) := by omega
          have i1 : (q : Int) < (ds.length : Int) := by omega
          have hq9 : ds.length ≤ 1000000 := by rw [HL.out]; omega
          go_wp2_with fail
          refine (s_ConjD_t _ hokx).mono ?_
          rintro e w3 ⟨rfl, hb3⟩
          obtain ⟨⟨c0, c1, c2, c3, c4⟩, ⟨f0, f1, f2, f3, f4⟩, -, hgw3⟩ := (HQ.out.call hb3).five HD0.out
          have HQ3 := Lib.hid (HQ.out.call hb3)
          have HF3 := Lib.hid (frame_call HF.out hs' hb3)
          have hs3 := hb3.size
          have hbw : Below w1.heap.size w2 w3 := hb.trans (hb3.mono (by omega))
          clear hb3
          go_wp2
          go_roundw
          case rel =>
            refine ⟨q + 1, by omega, by go_num, ?_, bel_set (bel_set (bel_set (bel_set (bel_set hbw hg _) hg _) hg _) hg _) hg _, by simp; omega, frame_set' (frame_set' (frame_set' (frame_set' (frame_set' HF3.out _) _) _) _) _⟩
            have := HQ3.out.put5 (d := ⟨⟨x, -t, -z, -y⟩, l⟩) (k := q) (by rw [mixC_length]; exact hlq)
            rw [← HT.out]
            exact this
          case measure => simp [intOf]; omega
        · have hdq : decide ((q : Int) < (ds.length : Int)) = false := by simp; omega
          have HA := Lib.hid (mixC_all (ds := ds) (k := q) (by omega))
          have hb' : Below w1.heap.size w1 wr := hb2.trans hb
          have HB' := Lib.hid hb'
          have h := HQ.out
          rw [HA.out] at h
          have HNW := Lib.hid (NewRow.of_own (base := w.heap.size) h (by rw [List.length_map, HL.out]; exact hp) (by omega))
          clear h hb'
          have hlj : (adjL rows j).length ≤ 2000000 := by rw [adjL_length]; omega
          have hml : ds.length = (ds.map conjDW).length := by rw [List.length_map]
          have HML := Lib.hid hml
          clear hml
          go_wp2_with (at_builtin; refine app_stepM _ rfl (.tmp 35) (.tmp 37) rfl w.heap.size _ _ rfl w1 HO1.out (bl_alloc HB'.out _) wr.heap.size (some ⟨g, 0, none⟩) (ds.map conjDW) c2 rfl (by rw [← HML.out]; simp) (HNW.out.call (below_alloc _ _)) hlj (by simp; omega) ?_; intro v' w' hO' hg' hrow')
          rw [← HS.out] at hO'
          go_roundw
          case rel =>
            have hz := hg'.size
            refine ⟨j + 1, by omega, by go_num, hO', below_grown (bl_alloc (hw1.trans (HB'.out.mono (by omega))) _) hg' hrow' (by simp; omega), ?_⟩
            simp at hz
            omega
          case measure => simp [intOf]; omega
    · have hd : decide ((j : Int) < (n : Int)) = false := by simp; omega
      have HK := Lib.hid (show j = n by omega)
      go_wp2
      go_ret
      have h := HO1.out
      rw [HK.out] at h
      obtain ⟨A, c, rfl, hA⟩ := h.own
      exact ⟨A, c, rfl, hA, hw1⟩
set_option maxHeartbeats 400000 in
theorem s_Adj_bad (A : Option Addr) (n c : Nat) (rows : List (List DW)) (w : World) (hR : RM w w.heap.size A n rows) (hn : n ≤ 9223372036854775807) (hr : ∀ r ∈ rows, r.length ≤ 9223372036854775807) (hok : okM rows = false) :
    Calls Try.prog 12 #[.slice A n c] w (RetOM w []) := by
  have HV : ∀ W, RM W W.heap.size A n rows → Calls Try.prog 25 #[.slice A n c] W (Ret (.bool false) W) := fun W h => by
    have := s_VM A n c rows W h hn hr
    rwa [hok] at this
  have HV' := Lib.hid HV
  have HR := Lib.hid hR
  clear HV hR hok hr
  go_enter Try.func12, Try.ntmps12
  go_wp2
  refine wp_loop_rounds 1 ?_
  rw [rounds_succ]
  go_wp2_with fail
  refine (HV'.out _ (HR.out.call (below_alloc w _))).mono ?_
  rintro e w1 ⟨rfl, hb1⟩
  go_wp2
  go_ret
  refine ⟨_, _, rfl, OwnM.nil, ?_⟩
  repeat (first | (with_reducible exact Below.refl _ _) | (with_reducible assumption) | (with_reducible refine bl_alloc ?_ _) | (with_reducible refine bl_drew ?_) | (with_reducible refine bl_set ?_ (by simp <;> omega) _) | (with_reducible refine bl_call ?_ (by assumption)))
end Go.Proofs.Ytccbaffendfneaa
