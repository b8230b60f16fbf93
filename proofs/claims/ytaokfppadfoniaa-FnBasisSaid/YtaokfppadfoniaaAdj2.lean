/- Contracts: the program's transposed and adjoint matrices. -/
import Derived.Test.YtaokfppadfoniaaAdj
import Derived.Deep.RegionHeld3
import Derived.Deep.RegionWith
namespace Go.Proofs.Ytaokfppadfoniaa
open Go.RowKit
set_option linter.unusedVariables false

def FlipRel (w : World) (n : Nat) (rows : List (List DW)) (v i : Value) (wr : World) : Prop :=
  ∃ j : Nat, j ≤ n ∧ i = .int .i64 (j : Int) ∧ OutM wr w.heap.size v (flipL rows j) ∧ Below w.heap.size w wr ∧ w.heap.size ≤ wr.heap.size
set_option maxHeartbeats 2000000 in
theorem i_flip (A : Option Addr) (n c : Nat) (rows : List (List DW)) (w : World) (hR : RM w w.heap.size A n rows) (hp : 0 < n) (hn : n ≤ 1000000) (hrows : ∀ r ∈ rows, r.length = n) :
    Calls Try.prog 98 #[.slice A n c] w (RetOM w (flipL rows n)) := by
  have HROWS := Lib.hid hrows
  have HR := Lib.hid hR
  have HN := Lib.hid hR.1.symm
  clear hrows hR
  go_enter Try.func98, Try.ntmps98
  go_wp2
  go_loopw [3, 11] (fun v i wr => FlipRel w n rows v i wr) (fun _ i _ => n - (intOf i).toNat)
  case atStart => exact ⟨0, by omega, rfl, OutM.start w _ _ (Nat.le_refl _) rfl, below_alloc w _, by simp⟩
  case round =>
    obtain ⟨k, hk, rfl, hO, hb, hs⟩ := hrel
    obtain ⟨wo, rfl⟩ : ∃ wo : World, wo = wr := ⟨_, rfl⟩
    have HO := Lib.hid hO
    clear hO
    by_cases hlt : k < n
    · have hd : decide ((k : Int) < (n : Int)) = true := by simp; omega
      go_wp2
      go_loopw [5, 17] (fun v i wx => ColRel wo wo.heap.size n k rows v i wx) (fun _ i _ => n - (intOf i).toNat)
      case atStart => exact ⟨0, by omega, rfl, OutS.start wo _ _ _ (Nat.le_refl _) rfl, below_alloc wo _, by simp⟩
      case round =>
        obtain ⟨j, hj, rfl, hO, hb', hs'⟩ := hrel
        have HQ := Lib.hid hO
        clear hO
        by_cases hlj : j < n
        · have hdj : decide ((j : Int) < (n : Int)) = true := by simp; omega
          obtain ⟨b, off, A', c', r, rfl, hb1, hr, q0, hRD⟩ := ((HR.out.keep hb).keep (hb'.mono hs)).at hlj
          have hkr : k < r.length := by have := HROWS.out r (List.mem_of_getElem? hr); omega
          obtain ⟨b2, off2, x, y, z, t, l, rfl, hb2, hx, c0, c1, c2, c3, c4⟩ := hRD.at hkr
          have HS := Lib.hid (colL_succ hr hx)
          have hl := colL_length (rows.take j) k
          rw [List.length_take] at hl
          have hl' : (colL (rows.take j) k).length ≤ 2000000 := by omega
          clear hr hx hRD hl
          have i0 : (0 : Int) ≤ (j : Int) := by omega
          have i1 : (j : Int) < (n : Int) := by omega
          have k0 : (0 : Int) ≤ (k : Int) := by omega
          have k1 : (k : Int) < (r.length : Int) := by omega
          go_wp2_with (at_builtin; refine app_step _ rfl (.tmp 21) (.tmp 26) rfl wo.heap.size _ _ rfl (HQ.out.alloc _) wr.heap.size x y z t l rfl (Blk.new wr _ _) hl' (by simp; omega) ?_; intro v' w' hO' hg' hrow')
          rw [← HS.out] at hO'
          go_roundw
          case rel =>
            have hz := hg'.size
            refine ⟨j + 1, by omega, by go_num, hO', below_grown (hb'.alloc hs' _) hg' hrow' (by simp; omega), ?_⟩
            simp at hz
            omega
          case measure => simp [intOf]; omega
        · have hdj : decide ((j : Int) < (n : Int)) = false := by simp; omega
          have hcl : (colL rows k).length = n := by rw [colL_length]; exact HN.out
          have h := HQ.out
          rw [colL_all (rows := rows) (j := j) (k := k) (by have := HN.out; omega)] at h
          obtain ⟨A2, c2, rfl, hA⟩ := h.slice
          have HNW := Lib.hid (NewRow.of_own (base := w.heap.size) hA (by rw [hcl]; exact hp) hs)
          have HB' := Lib.hid hb'
          have HCL := Lib.hid hcl
          have HSU := Lib.hid (flipL_succ rows k)
          clear h hA hcl hb'
          have hlj' : (flipL rows k).length ≤ 2000000 := by rw [flipL_length]; omega
          go_wp2_with (at_builtin; refine app_stepM _ rfl (.tmp 29) (.tmp 31) rfl w.heap.size _ _ rfl wo HO.out (bl_alloc HB'.out _) wr.heap.size A2 (colL rows k) c2 rfl (by simp) (HNW.out.call (below_alloc _ _)) hlj' (by simp; omega) ?_; intro v' w' hO' hg' hrow')
          rw [← HSU.out] at hO'
          go_roundw
          case rel =>
            have hz := hg'.size
            refine ⟨k + 1, by omega, by go_num, hO', below_grown (bl_alloc (hb.trans (HB'.out.mono hs)) _) hg' hrow' (by simp; omega), ?_⟩
            simp at hz
            omega
          case measure => simp [intOf]; omega
    · have hd : decide ((k : Int) < (n : Int)) = false := by simp; omega
      have HK := Lib.hid (show k = n by omega)
      go_wp2
      go_ret
      have h := HO.out
      rw [HK.out] at h
      obtain ⟨A, c, rfl, hA⟩ := h.own
      exact ⟨A, c, rfl, hA, hb⟩
theorem OwnS.drew {w : World} {base : Nat} {t : TypeId} {A : Option Addr} {ds : List DW} (h : OwnS w base t A ds) : OwnS w.drew base t A ds := h
def AdjI (w : World) (base g N : Nat) (rows : List (List DW)) (F : Nat → Value) (G : Nat → Nat) (i : Value) (wr : World) : Prop :=
  ∃ k : Nat, k ≤ rows.length ∧ i = .int .i64 (k : Int) ∧ wr.rowIs g 44 N F ∧ RowsTo wr base 29 (mixR rows k) rows.length F G ∧ Below base w wr ∧ w.heap.size ≤ wr.heap.size
theorem ownT_kept {w w' : World} {base top : Nat} {A : Option Addr} {rows : List (List DW)} (h : OwnT w base top A rows) (hk : Kept base w w') : OwnT w' base top A rows := fun hp => by
  obtain ⟨g, N, F, G, h1, h2, h3, h4, h5, h6⟩ := h hp
  exact ⟨g, N, F, G, h1, h2, h3, h4.of_block (hk g h2), h5.keep fun i r hi hr => hk _ (h5.2 i r hi hr).1, h6⟩
theorem adjL_tot {rows : List (List DW)} {m : Nat} (h1 : rows.length ≤ 16) (h2 : m ≤ 16) : tot (adjL rows m) ≤ 272 := by
  have e : (adjL rows m).map List.length = List.replicate m rows.length := by
    unfold adjL
    rw [List.map_map]
    have : (List.length ∘ fun i => (colL rows i).map conjDW) = fun _ => rows.length := funext fun i => by simp [colL_length]
    rw [this, List.map_const', List.length_range]
  unfold tot
  rw [e, adjL_length, List.sum_replicate_nat]
  have : m * rows.length ≤ 16 * 16 := Nat.mul_le_mul h2 h1
  omega
theorem adjD_tot (rows : List (List DW)) : tot (adjD rows) ≤ 272 := by
  unfold adjD
  split
  · rename_i h
    obtain ⟨_, h16, _⟩ := okM_parts h
    exact adjL_tot h16 h16
  · decide
end Go.Proofs.Ytaokfppadfoniaa
