/- Contracts: the program's transposed and adjoint matrices. -/
import Derived.Test.YtccbaffendfneaaAdj
import Derived.Deep.RegionHeld3
import Derived.Deep.RegionWith
namespace Go.Proofs.Ytccbaffendfneaa
open Go.RowKit
set_option linter.unusedVariables false

def FlipRel (w : World) (n : Nat) (rows : List (List DW)) (v i : Value) (wr : World) : Prop :=
  ∃ j : Nat, j ≤ n ∧ i = .int .i64 (j : Int) ∧ OutM wr w.heap.size v (flipL rows j) ∧ Below w.heap.size w wr ∧ w.heap.size ≤ wr.heap.size
set_option maxHeartbeats 2000000 in
theorem i_flip (A : Option Addr) (n c : Nat) (rows : List (List DW)) (w : World) (hR : RM w w.heap.size A n rows) (hp : 0 < n) (hn : n ≤ 1000000) (hrows : ∀ r ∈ rows, r.length = n) :
    Calls Try.prog 30 #[.slice A n c] w (RetOM w (flipL rows n)) := by
  have HROWS := Lib.hid hrows
  have HR := Lib.hid hR
  have HN := Lib.hid hR.1.symm
  clear hrows hR
  go_enter Try.func30, Try.ntmps30
  go_wp2
  go_loopw [3, 11] (fun v i wr => FlipRel w n rows v i wr) (fun _ i _ => n - (intOf i).toNat)
  case atStart => exact ⟨0, by omega, rfl, OutM.start w _ _ (Nat.le_refl _) rfl, below_alloc w _, by simp⟩
  case round =>
    obtain ⟨k, hk, rfl, hO, hb, hs⟩ := hrel
    obtain ⟨wo, rfl⟩ : ∃ wo : World, wo = wr := ⟨_, rfl⟩
    have HO := Lib.hid hO
    clear hO
    by_cases hlt : k < n
    · have hd : decide ((k : Int) < (n : Int)) = true := by simp; omega
      go_wp2
      go_loopw [5, 17] (fun v i wx => ColRel wo wo.heap.size n k rows v i wx) (fun _ i _ => n - (intOf i).toNat)
      case atStart => exact ⟨0, by omega, rfl, OutS.start wo _ _ _ (Nat.le_refl _) rfl, below_alloc wo _, by simp⟩
      case round =>
        obtain ⟨j, hj, rfl, hO, hb', hs'⟩ := hrel
        have HQ := Lib.hid hO
        clear hO
        by_cases hlj : j < n
        · have hdj : decide ((j : Int) < (n : Int)) = true := by simp; omega
          obtain ⟨b, off, A', c', r, rfl, hb1, hr, q0, hRD⟩ := ((HR.out.keep hb).keep (hb'.mono hs)).at hlj
          have hkr : k < r.length := by have := HROWS.out r (List.mem_of_getElem? hr); omega
          obtain ⟨b2, off2, x, y, z, t, l, rfl, hb2, hx, c0, c1, c2, c3, c4⟩ := hRD.at hkr
          have HS := Lib.hid (colL_succ hr hx)
          have hl := colL_length (rows.take j) k
          rw [List.length_take] at hl
          have hl' : (colL (rows.take j) k).length ≤ 2000000 := by omega
          clear hr hx hRD hl
          have i0 : (0 : Int) ≤ (j : Int) := by omega
          have i1 : (j : Int) < (n : Int) := by omega
          have k0 : (0 : Int) ≤ (k : Int) := by omega
          have k1 : (k : Int) < (r.length : Int) := by omega
          go_wp2_with (at_builtin; refine app_step _ rfl (.tmp 21) (.tmp 26) rfl wo.heap.size _ _ rfl (HQ.out.alloc _) wr.heap.size x y z t l rfl (Blk.new wr _ _) hl' (by simp; omega) ?_; intro v' w' hO' hg' hrow')
          rw [← HS.out] at hO'
          go_roundw
          case rel =>
            have hz := hg'.size
            refine ⟨j + 1, by omega, by go_num, hO', below_grown (hb'.alloc hs' _) hg' hrow' (by simp; omega), ?_⟩
            simp at hz
            omega
          case measure => simp [intOf]; omega
        · have hdj : decide ((j : Int) < (n : Int)) = false := by simp; omega
          have hcl : (colL rows k).length = n := by rw [colL_length]; exact HN.out
          have h := HQ.out
          rw [colL_all (rows := rows) (j := j) (k := k) (by have := HN.out; omega)] at h
          obtain ⟨A2, c2, rfl, hA⟩ := h.slice
          have HNW := Lib.hid (NewRow.of_own (base := w.heap.size) hA (by rw [hcl]; exact hp) hs)
          have HB' := Lib.hid hb'
          have HCL := Lib.hid hcl
          have HSU := Lib.hid (flipL_succ rows k)
          clear h hA hcl hb'
          have hlj' : (flipL rows k).length ≤ 2000000 := by rw [flipL_length]; omega
          go_wp2_with (at_builtin; refine app_stepM _ rfl (.tmp 29) (.tmp 31) rfl w.heap.size _ _ rfl wo HO.out (bl_alloc HB'.out _) wr.heap.size A2 (colL rows k) c2 rfl (by simp) (HNW.out.call (below_alloc _ _)) hlj' (by simp; omega) ?_; intro v' w' hO' hg' hrow')
          rw [← HSU.out] at hO'
          go_roundw
          case rel =>
            have hz := hg'.size
            refine ⟨k + 1, by omega, by go_num, hO', below_grown (bl_alloc (hb.trans (HB'.out.mono hs)) _) hg' hrow' (by simp; omega), ?_⟩
            simp at hz
            omega
          case measure => simp [intOf]; omega
    · have hd : decide ((k : Int) < (n : Int)) = false := by simp; omega
      have HK := Lib.hid (show k = n by omega)
      go_wp2
      go_ret
      have h := HO.out
      rw [HK.out] at h
      obtain ⟨A, c, rfl, hA⟩ := h.own
      exact ⟨A, c, rfl, hA, hb⟩
theorem OwnS.drew {w : World} {base : Nat} {t : TypeId} {A : Option Addr} {ds : List DW} (h : OwnS w base t A ds) : OwnS w.drew base t A ds := h
def AdjI (w : World) (base g N : Nat) (rows : List (List DW)) (F : Nat → Value) (G : Nat → Nat) (i : Value) (wr : World) : Prop :=
  ∃ k : Nat, k ≤ rows.length ∧ i = .int .i64 (k : Int) ∧ wr.rowIs g 48 N F ∧ RowsTo wr base 51 (mixR rows k) rows.length F G ∧ Below base w wr ∧ w.heap.size ≤ wr.heap.size
set_option maxHeartbeats 400000 in
theorem i_Adj_bad (A : Option Addr) (n c : Nat) (rows : List (List DW)) (w : World) (hR : RM w w.heap.size A n rows) (hn : n ≤ 9223372036854775807) (hr : ∀ r ∈ rows, r.length ≤ 9223372036854775807) (hok : okM rows = false) :
    Calls Try.prog 14 #[.slice A n c] w (RetOM w []) := by
  have HV : ∀ W, RM W W.heap.size A n rows → Calls Try.prog 29 #[.slice A n c] W (Ret (.bool false) W) := fun W h => by
    have := i_VM A n c rows W h hn hr
    rwa [hok] at this
  have HV' := Lib.hid HV
  have HR := Lib.hid hR
  clear HV hR hok hr
  go_enter Try.func14, Try.ntmps14
  go_wp2_with fail
  refine (HV'.out _ HR.out).mono ?_
  rintro e w1 ⟨rfl, hb1⟩
  go_wp2
  go_ret
  exact ⟨none, 0, rfl, OwnM.nil, hb1⟩
set_option maxHeartbeats 2000000 in
theorem i_Adj_ok (A : Option Addr) (n c : Nat) (rows : List (List DW)) (w : World) (hR : RM w w.heap.size A n rows) (hok : okM rows = true) :
    Calls Try.prog 14 #[.slice A n c] w (RetOM w (adjL rows n)) := by
  obtain ⟨hp, h16, hrows⟩ := okM_parts hok
  have hn : rows.length = n := hR.1.symm
  rw [hn] at hp h16 hrows
  have HV : ∀ W, RM W W.heap.size A n rows → Calls Try.prog 29 #[.slice A n c] W (Ret (.bool true) W) := fun W h => by
    have := i_VM A n c rows W h (by omega) (fun r hr => by have := (hrows r hr).1; omega)
    rwa [hok] at this
  have HV' := Lib.hid HV
  have HROWS := Lib.hid hrows
  have HR := Lib.hid hR
  have HN := Lib.hid hn
  clear HV hrows hR hn hok
  go_enter Try.func14, Try.ntmps14
  go_wp2_with fail
  refine (HV'.out _ HR.out).mono ?_
  rintro e w1 ⟨rfl, hb1⟩
  have hs1 := hb1.size
  go_wp2_with fail
  refine (i_flip A n c rows _ (HR.out.call hb1) hp (by omega) (fun r hr => (HROWS.out r hr).1)).mono ?_
  rintro e w2 ⟨A2, c2, rfl, O2, hb2⟩
  obtain ⟨fl, hfl⟩ : ∃ fl, flipL rows n = fl := ⟨_, rfl⟩
  have hfln : fl.length = n := by rw [← hfl, flipL_length]
  have hadj : adjL rows n = fl.map (fun r => r.map conjDW) := by rw [← hfl, flip_conj]
  have hrw : ∀ (i : Nat) (r : List DW), fl[i]? = some r → r.length = n ∧ ∀ d ∈ r, okd d = true := by
    intro i r hr
    have hi : i < n := by rw [← hfln]; exact (List.getElem?_eq_some_iff.1 hr).1
    rw [← hfl, flipL_at hi] at hr
    injection hr with hr
    subst hr
    exact ⟨by rw [colL_length]; exact HN.out, adj_row HN.out HROWS.out hi⟩
  rw [hfl] at O2
  rw [hfl, hfln]
  have hw2 : Below w.heap.size w w2 := bl_call hb1 hb2
  have hs2 := hb2.size
  obtain ⟨g, N, F, G, rfl, hg, hN, hrow, hto⟩ := O2 (by rw [hfln]; exact hp)
  have hto' := hto.weak (base' := w.heap.size) (by omega)
  have HROW := Lib.hid hrow
  have HTO := Lib.hid hto'
  have HF := Lib.hid hfln
  have HA := Lib.hid hadj
  have HRW := Lib.hid hrw
  rw [hfln] at hN
  clear O2 hfl hfln hadj hrw hto hto' hrow hb1 hb2
  go_wp2
  go_loopw [13] (fun i wr => AdjI w2 w.heap.size g N fl F G i wr) (fun i _ => n - (intOf i).toNat)
  case atStart => exact ⟨0, by omega, rfl, HROW.out, by rw [mixR_zero]; exact HTO.out, Below.refl _ _, Nat.le_refl _⟩
  case round =>
    obtain ⟨k, hk, rfl, hrow, hto, hb, hs⟩ := hrel
    obtain ⟨wo, rfl⟩ : ∃ wo : World, wo = wr := ⟨_, rfl⟩
    have hk' : k ≤ n := by rw [← HF.out]; exact hk
    have HKK := Lib.hid hk
    have HR2 := Lib.hid hrow
    have HT2 := Lib.hid hto
    clear hk hrow hto
    by_cases hlt : k < n
    · have hd : decide ((k : Int) < (n : Int)) = true := by simp; omega
      obtain ⟨r, hr⟩ : ∃ r, fl[k]? = some r := ⟨_, List.getElem?_eq_getElem (by rw [HF.out]; exact hlt)⟩
      obtain ⟨hrn, hrd⟩ := HRW.out k r hr
      have e1 := mixR_at (k := k) hr
      rw [if_neg (by omega)] at e1
      obtain ⟨p1, c', M, f, p2, p3, p4, p5⟩ := HT2.out.2 k r (by rw [HF.out]; exact hlt) e1
      have hO := HT2.out.row (by rw [HF.out]; exact hlt) e1
      have hne : g ≠ G k := by
        intro e
        obtain ⟨cs, hcs, _⟩ := HR2.out
        obtain ⟨cs', hcs', _⟩ := p4
        rw [← e, hcs] at hcs'
        simp at hcs'
      have q0 := HR2.out.cell (i := k) (by omega)
      rw [p2, hrn] at q0
      have HO := Lib.hid hO
      have HX := Lib.hid hr
      have HL := Lib.hid hrn
      have HD := Lib.hid hrd
      have hgl := HR2.out.lt
      have hkl := p4.lt
      clear e1 p2 p3 p4 p5 hO hr hrd hrn
      have i0 : (0 : Int) ≤ (k : Int) := by omega
      have i1 : (k : Int) < (n : Int) := by omega
      go_wp2
      go_loopw [21] (fun i wx => ConjRel wo w.heap.size (G k) r i wx) (fun i _ => n - (intOf i).toNat)
      case atStart => exact ⟨0, by omega, rfl, by rw [mixC_zero]; exact HO.out, Below.refl _ _, Nat.le_refl _, fun _ _ _ => rfl⟩
      case round =>
        obtain ⟨q, hq, rfl, hO, hb', hs', hfr⟩ := hrel
        have hq' : q ≤ n := by rw [← HL.out]; exact hq
        have HQQ := Lib.hid hq
        have HQ := Lib.hid hO
        have HFR := Lib.hid hfr
        clear hO hfr hq
        by_cases hlq : q < n
        · have hdq : decide ((q : Int) < (n : Int)) = true := by simp; omega
          obtain ⟨⟨⟨x, y, z, t⟩, l⟩, hd0⟩ : ∃ d, r[q]? = some d := ⟨_, List.getElem?_eq_getElem (by rw [HL.out]; exact hlq)⟩
          have hokx := HD.out _ (List.mem_of_getElem? hd0)
          obtain ⟨⟨c0, c1, c2', c3, c4⟩, -, -, hgw⟩ := HQ.out.five (mixC_get hd0)
          have HT := Lib.hid (mixC_step hd0)
          have HD0 := Lib.hid (mixC_get hd0)
          clear hd0
          have j0 : (0 : Int) ≤ (q : Int) := by omega
          have j1 : (q : Int) < (n : Int) := by omega
          have h0 : wr.cell? ⟨g, k, none⟩ = some (.slice (some ⟨G k, 0, none⟩) n c') := ((HR2.out.of_block (HFR.out g hgl hne)).cell (i := k) (by omega)).trans (by rw [← q0]; exact (HR2.out.cell (i := k) (by omega)).symm)
          have HC := Lib.hid (show Below w.heap.size wo wr.drew from hb'.drew)
          have HFD := Lib.hid (show ∀ b, b < wo.heap.size → b ≠ G k → wr.drew.heap[b]? = wo.heap[b]? from HFR.out)
          go_upto_region 10 with fail
          go_region_with (go_at_call 31; refine (i_ConjD_t _ hokx).mono ?_; rintro e w3 ⟨rfl, hb3⟩; have h0 := (hb3.cell (p := ⟨g, k, none⟩) (show g < _ from Nat.lt_of_lt_of_le hgl hs')).trans h0; obtain ⟨⟨c0, c1, c2', c3, c4⟩, ⟨f0, f1, f2, f3, f4⟩, -, hgw3⟩ := (HQ.out.drew.call hb3).five HD0.out; have HQ3 := Lib.hid (HQ.out.drew.call hb3); have HF3 := Lib.hid (frame_call HFD.out hs' hb3); have hs3 : wo.heap.size ≤ w3.heap.size := Nat.le_trans hs' hb3.size; have HB3 := Lib.hid (HC.out.trans (hb3.mono (show w.heap.size ≤ wr.heap.size by omega))); clear hb3)
          all_goals
            go_wp2
            go_roundw
            case rel =>
              refine ⟨q + 1, by rw [HL.out]; omega, by go_num, ?_, bel_set (bel_set (bel_set (bel_set (bel_set HB3.out p1 _) p1 _) p1 _) p1 _) p1 _, by simp; omega, frame_set' (frame_set' (frame_set' (frame_set' (frame_set' HF3.out _) _) _) _) _⟩
              have := HQ3.out.put5 (d := ⟨⟨x, -t, -z, -y⟩, l⟩) (k := q) (by rw [mixC_length, HL.out]; exact hlq)
              rw [← HT.out]
              exact this
            case measure => simp [intOf]; omega
        · have hdq : decide ((q : Int) < (n : Int)) = false := by simp; omega
          have HMA := Lib.hid (mixC_all (ds := r) (k := q) (by rw [HL.out]; omega))
          go_wp2
          go_roundw
          case rel =>
            refine ⟨k + 1, by rw [HF.out]; omega, by go_num, HR2.out.of_block (HFR.out g hgl hne), ?_, hb.trans hb', by omega⟩
            have h := HQ.out
            rw [HMA.out] at h
            exact HT2.out.put HX.out h (by rw [HL.out]; exact hp) HFR.out
          case measure => simp [intOf]; omega
    · have hd : decide ((k : Int) < (n : Int)) = false := by simp; omega
      have HK := Lib.hid (mixR_all (rows := fl) (k := k) (by rw [HF.out]; omega))
      go_wp2
      go_ret
      have h := HT2.out
      rw [HK.out] at h
      refine ⟨some ⟨g, 0, none⟩, c2, by rw [adjL_length]; rfl, fun _ => ⟨g, N, F, G, rfl, by omega, by rw [adjL_length]; exact hN, HR2.out, ?_⟩, hw2.trans hb⟩
      rw [adjL_length, HA.out, ← HF.out]
      exact h
theorem i_Adj (A : Option Addr) (n c : Nat) (rows : List (List DW)) (w : World) (hR : RM w w.heap.size A n rows) (hn : n ≤ 9223372036854775807) (hr : ∀ r ∈ rows, r.length ≤ 9223372036854775807) :
    Calls Try.prog 14 #[.slice A n c] w (RetOM w (adjD rows)) := by
  unfold adjD
  cases h : okM rows
  · exact i_Adj_bad A n c rows w hR hn hr h
  · rw [if_pos rfl, ← hR.1]
    exact i_Adj_ok A n c rows w hR h
theorem s_Adj (A : Option Addr) (n c : Nat) (rows : List (List DW)) (w : World) (hR : RM w w.heap.size A n rows) (hn : n ≤ 9223372036854775807) (hr : ∀ r ∈ rows, r.length ≤ 9223372036854775807) :
    Calls Try.prog 12 #[.slice A n c] w (RetOM w (adjD rows)) := by
  unfold adjD
  cases h : okM rows
  · exact s_Adj_bad A n c rows w hR hn hr h
  · rw [if_pos rfl, ← hR.1]
    exact s_Adj_ok A n c rows w hR h
theorem ownT_kept {w w' : World} {base top : Nat} {A : Option Addr} {rows : List (List DW)} (h : OwnT w base top A rows) (hk : Kept base w w') : OwnT w' base top A rows := fun hp => by
  obtain ⟨g, N, F, G, h1, h2, h3, h4, h5, h6⟩ := h hp
  exact ⟨g, N, F, G, h1, h2, h3, h4.of_block (hk g h2), h5.keep fun i r hi hr => hk _ (h5.2 i r hi hr).1, h6⟩
theorem adjL_tot {rows : List (List DW)} {m : Nat} (h1 : rows.length ≤ 16) (h2 : m ≤ 16) : tot (adjL rows m) ≤ 272 := by
  have e : (adjL rows m).map List.length = List.replicate m rows.length := by
    unfold adjL
    rw [List.map_map]
    have : (List.length ∘ fun i => (colL rows i).map conjDW) = fun _ => rows.length := funext fun i => by simp [colL_length]
    rw [this, List.map_const', List.length_range]
  unfold tot
  rw [e, adjL_length, List.sum_replicate_nat]
  have : m * rows.length ≤ 16 * 16 := Nat.mul_le_mul h2 h1
  omega
theorem adjD_tot (rows : List (List DW)) : tot (adjD rows) ≤ 272 := by
  unfold adjD
  split
  · rename_i h
    obtain ⟨_, h16, _⟩ := okM_parts h
    exact adjL_tot h16 h16
  · decide
end Go.Proofs.Ytccbaffendfneaa
