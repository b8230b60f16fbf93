/- Slices that a call made itself; the marks that the laws write into them. -/
import Derived.Test.YtaokfppadfoniaaS4
namespace Go.Proofs.Ytaokfppadfoniaa
open Go.RowKit

/-- The slice at A holds ds in a block from 'base' on that may be written. -/
def OwnS (w : World) (base : Nat) (t : TypeId) (A : Option Addr) (ds : List DW) : Prop :=
  0 < ds.length → ∃ (g N : Nat) (f : Nat → Value), A = some ⟨g, 0, none⟩ ∧ base ≤ g ∧ ds.length * 5 ≤ N ∧ w.rowIs g t N f ∧ ∀ j, j < ds.length * 5 → f j = fD ds j
theorem OwnS.of_row {w : World} {base g N : Nat} {t : TypeId} {ds : List DW} (h : w.rowIs g t N (fD ds)) (hg : base ≤ g) (hN : ds.length * 5 ≤ N) : OwnS w base t (some ⟨g, 0, none⟩) ds :=
  fun _ => ⟨g, N, _, rfl, hg, hN, h, fun _ _ => rfl⟩
theorem OwnS.call {w w' : World} {base : Nat} {t : TypeId} {A : Option Addr} {ds : List DW} (h : OwnS w base t A ds) (hb : Below w.heap.size w w') : OwnS w' base t A ds := fun hp => by
  obtain ⟨g, N, f, h1, h2, h3, h4, h5⟩ := h hp
  exact ⟨g, N, f, h1, h2, h3, h4.of_block (hb.block g h4.lt), h5⟩
theorem OwnS.read {w : World} {base : Nat} {t : TypeId} {A : Option Addr} {ds : List DW} (h : OwnS w base t A ds) : RD w w.heap.size A ds.length ds :=
  ⟨rfl, fun i d hi => by
    have hl : i < ds.length := (List.getElem?_eq_some_iff.1 hi).1
    obtain ⟨g, N, f, rfl, h2, h3, h4, h5⟩ := h (by omega)
    have q : ∀ j, j < 5 → w.cell? ⟨g, i * 5 + j, none⟩ = some (cellOf d j) := fun j hj => by
      rw [h4.cell (i := i * 5 + j) (by omega), h5 _ (by omega), fD_at hi hj]
    refine ⟨g, 0, rfl, h4.lt, ?_, ?_, ?_, ?_, ?_⟩ <;> rw [Nat.zero_add]
    · exact q 0 (by omega)
    · exact q 1 (by omega)
    · exact q 2 (by omega)
    · exact q 3 (by omega)
    · exact q 4 (by omega)⟩
theorem OwnS.nil {w : World} {base : Nat} {t : TypeId} {A : Option Addr} : OwnS w base t A [] := fun h => absurd h (by simp)

def marks (K n : Nat) : List DW := (List.range n).map fun i => ⟨⟨(K + i * 5 : Nat), (K + i * 5 + 1 : Nat), (K + i * 5 + 2 : Nat), (K + i * 5 + 3 : Nat)⟩, (K + i * 5 + 4 : Nat)⟩
theorem marks_length (K n : Nat) : (marks K n).length = n := by simp [marks]
theorem fD_marks {K n j : Nat} (h : j < n * 5) : fD (marks K n) j = .int .i64 ((K + j : Nat) : Int) := by
  have h1 : (marks K n)[j / 5]? = some ⟨⟨(K + j / 5 * 5 : Nat), (K + j / 5 * 5 + 1 : Nat), (K + j / 5 * 5 + 2 : Nat), (K + j / 5 * 5 + 3 : Nat)⟩, (K + j / 5 * 5 + 4 : Nat)⟩ := by
    unfold marks
    rw [List.getElem?_map, List.getElem?_range (by omega)]
    rfl
  have e : j = j / 5 * 5 + j % 5 := by omega
  rw [e, fD_at h1 (by omega)]
  have h5 : j % 5 < 5 := Nat.mod_lt _ (by omega)
  generalize j / 5 = a
  generalize j % 5 = m at h5
  match m, h5 with
  | 0, _ => rfl
  | 1, _ => rfl
  | 2, _ => rfl
  | 3, _ => rfl
  | 4, _ => rfl
def mkf (K i : Nat) (f : Nat → Value) (j : Nat) : Value := if j < i * 5 then .int .i64 ((K + j : Nat) : Int) else f j
theorem mkf_zero (K : Nat) (f : Nat → Value) (j : Nat) : mkf K 0 f j = f j := by unfold mkf; rw [if_neg (by omega)]
theorem mark_store {w : World} {g : Nat} {t : TypeId} {N K i m : Nat} {f : Nat → Value} (h : w.rowIs g t N (mkf K i f)) (hm : m = K + i * 5) :
    (((((w.setCell ⟨g, i * 5, none⟩ (.int .i64 (m : Int))).setCell ⟨g, i * 5 + 1, none⟩ (.int .i64 ((m : Int) + 1))).setCell ⟨g, i * 5 + 2, none⟩ (.int .i64 ((m : Int) + 1 + 1))).setCell ⟨g, i * 5 + 3, none⟩ (.int .i64 ((m : Int) + 1 + 1 + 1))).setCell ⟨g, i * 5 + 4, none⟩ (.int .i64 ((m : Int) + 1 + 1 + 1 + 1))).rowIs g t N (mkf K (i + 1) f) := by
  subst hm
  refine (((((h.set (i * 5) _).set (i * 5 + 1) _).set (i * 5 + 2) _).set (i * 5 + 3) _).set (i * 5 + 4) _).congr ?_
  intro j _
  have vi : ∀ a b : Int, a = b → Value.int IntKind.i64 a = Value.int IntKind.i64 b := fun a b e => by rw [e]
  by_cases e4 : j = i * 5 + 4
  · subst e4; rw [if_pos rfl]; unfold mkf; rw [if_pos (by omega)]; exact vi _ _ (by omega)
  by_cases e3 : j = i * 5 + 3
  · subst e3; rw [if_neg (by omega), if_pos rfl]; unfold mkf; rw [if_pos (by omega)]; exact vi _ _ (by omega)
  by_cases e2 : j = i * 5 + 2
  · subst e2; rw [if_neg (by omega), if_neg (by omega), if_pos rfl]; unfold mkf; rw [if_pos (by omega)]; exact vi _ _ (by omega)
  by_cases e1 : j = i * 5 + 1
  · subst e1; rw [if_neg (by omega), if_neg (by omega), if_neg (by omega), if_pos rfl]; unfold mkf; rw [if_pos (by omega)]; exact vi _ _ (by omega)
  by_cases e0 : j = i * 5
  · subst e0; rw [if_neg (by omega), if_neg (by omega), if_neg (by omega), if_neg (by omega), if_pos rfl]; unfold mkf; rw [if_pos (by omega)]
  rw [if_neg e4, if_neg e3, if_neg e2, if_neg e1, if_neg e0]
  unfold mkf
  by_cases h1 : j < i * 5
  · rw [if_pos h1, if_pos (by omega)]
  · rw [if_neg h1, if_neg (by omega)]
theorem bel_set {B : Nat} {a W : World} (h : Below B a W) {g i : Nat} (hp : B ≤ g) (u : Value) : Below B a (W.setCell ⟨g, i, none⟩ u) := h.setCell hp u
def MarkRel (w : World) (base g N n K : Nat) (t : TypeId) (f : Nat → Value) (v i : Value) (wr : World) : Prop :=
  ∃ k m : Nat, k ≤ n ∧ i = .int .i64 (k : Int) ∧ v = .int .i64 (m : Int) ∧ m = K + k * 5 ∧ wr.rowIs g t N (mkf K k f) ∧ Below base w wr
/-- The marks were written: the slice holds them, and below 'base' nothing has changed. -/
def RetM (w : World) (base : Nat) (t : TypeId) (A : Option Addr) (K n : Nat) (e : Ending) (w' : World) : Prop :=
  e = .returned (.int .i64 ((K + n * 5 : Nat) : Int)) ∧ OwnS w' base t A (marks K n) ∧ Below base w w'
set_option maxHeartbeats 400000 in
theorem mark_any (A : Option Addr) (n c K base : Nat) (t : TypeId) (ds : List DW) (w : World) (hO : OwnS w base t A ds) (hn : n = ds.length) (hs : K + n * 5 ≤ 4611686018427387904) :
    Calls Try.prog 43 #[.slice A n c, .int .i64 (K : Int)] w (RetM w base t A K n) := by
  by_cases h0 : n = 0
  · subst h0
    clear hO
    go_enter Try.func43, Try.ntmps43
    go_wp2
    refine wp_loop_rounds 1 ?_
    rw [rounds_succ]
    go_wp2
    go_ret
    exact ⟨by simp, OwnS.nil, Below.refl _ _⟩
  · obtain ⟨g, N, f, rfl, hg, hN, hrow, hf⟩ := hO (by omega)
    have HROW := Lib.hid hrow
    have HN := Lib.hid hn
    clear hO hrow hf
    have hN' : n * 5 ≤ N := by rw [hn]; exact hN
    clear hN hn
    go_enter Try.func43, Try.ntmps43
    go_wp2
    go_loopw [1, 5] (fun v i wr => MarkRel w base g N n K t f v i wr) (fun _ i _ => n - (intOf i).toNat)
    case atStart => exact ⟨0, K, by omega, rfl, rfl, by omega, HROW.out.congr (fun j _ => (mkf_zero K f j).symm), Below.refl _ _⟩
    case round =>
      obtain ⟨k, m, hk, rfl, rfl, hm, hrow, hb⟩ := hrel
      by_cases hlt : k < n
      · have hd : decide ((k : Int) < (n : Int)) = true := by simp; omega
        have hm2 : m + 5 ≤ 4611686018427387904 := by omega
        have HM := Lib.hid hm
        clear hm
        have q0 := hrow.cell (i := k * 5) (by omega)
        have q1 := hrow.cell (i := k * 5 + 1) (by omega)
        have q2 := hrow.cell (i := k * 5 + 2) (by omega)
        have q3 := hrow.cell (i := k * 5 + 3) (by omega)
        have q4 := hrow.cell (i := k * 5 + 4) (by omega)
        have r0 := hrow.frozen (k * 5)
        have r1 := hrow.frozen (k * 5 + 1)
        have r2 := hrow.frozen (k * 5 + 2)
        have r3 := hrow.frozen (k * 5 + 3)
        have r4 := hrow.frozen (k * 5 + 4)
        have HR := Lib.hid hrow
        clear hrow
        go_wp2
        go_roundw
        case rel => exact ⟨k + 1, m + 5, by omega, by go_num, by go_num, by have := HM.out; omega, mark_store HR.out HM.out, bel_set (bel_set (bel_set (bel_set (bel_set hb hg _) hg _) hg _) hg _) hg _⟩
        case measure => simp [intOf]; omega
      · have hd : decide ((k : Int) < (n : Int)) = false := by simp; omega
        have hkn : k = n := by omega
        have HK := Lib.hid hkn
        have HM := Lib.hid hm
        have HR := Lib.hid hrow
        clear hkn hm hrow
        go_wp2
        go_ret
        have e := HK.out
        subst e
        refine ⟨by rw [← HM.out]; rfl, fun _ => ⟨g, N, _, rfl, hg, by rw [marks_length]; exact hN', HR.out, fun j hj => ?_⟩, hb⟩
        rw [marks_length] at hj
        rw [fD_marks hj]
        unfold mkf
        rw [if_pos hj]
set_option maxHeartbeats 400000 in
theorem held_any (A : Option Addr) (n c K base : Nat) (t : TypeId) (w : World) (hO : OwnS w base t A (marks K n)) (hs : K + n * 5 ≤ 4611686018427387904) :
    Calls Try.prog 44 #[.slice A n c, .int .i64 (K : Int)] w fun e w' => e = .returned (.int .i64 ((K + n * 5 : Nat) : Int)) ∧ w = w' := by
  by_cases h0 : n = 0
  · subst h0
    clear hO
    go_enter Try.func44, Try.ntmps44
    go_wp2
    refine wp_loop_rounds 1 ?_
    rw [rounds_succ]
    go_wp2
    go_ret
    exact ⟨by simp, rfl⟩
  · obtain ⟨g, N, f, rfl, hg, hN, hrow, hf⟩ := hO (by rw [marks_length]; omega)
    rw [marks_length] at hN hf
    have hcell : ∀ j, j < n * 5 → w.cell? ⟨g, j, none⟩ = some (.int .i64 ((K + j : Nat) : Int)) := fun j hj => by rw [hrow.cell (by omega), hf j hj, fD_marks hj]
    have HC := Lib.hid hcell
    clear hO hrow hf hcell
    go_enter Try.func44, Try.ntmps44
    go_wp2
    go_loop [1, 5] (fun v i => ∃ k m : Nat, k ≤ n ∧ i = .int .i64 (k : Int) ∧ v = .int .i64 (m : Int) ∧ Hid (m = K + k * 5)) (fun _ i => n - (intOf i).toNat)
    case atStart => exact ⟨0, K, by omega, rfl, rfl, Lib.hid (by omega)⟩
    case round =>
      obtain ⟨k, m, hk, rfl, rfl, HM⟩ := hrel
      by_cases hlt : k < n
      · have hd : decide ((k : Int) < (n : Int)) = true := by simp; omega
        have hm2 : m + 5 ≤ 4611686018427387904 := by have := HM.out; omega
        have vi : ∀ a b : Int, a = b → some (Value.int IntKind.i64 a) = some (Value.int IntKind.i64 b) := fun a b e => by rw [e]
        have q0 : w.cell? ⟨g, k * 5, none⟩ = some (.int .i64 (m : Int)) := (HC.out _ (by omega)).trans (vi _ _ (by have := HM.out; omega))
        have q1 : w.cell? ⟨g, k * 5 + 1, none⟩ = some (.int .i64 ((m : Int) + 1)) := (HC.out _ (by omega)).trans (vi _ _ (by have := HM.out; omega))
        have q2 : w.cell? ⟨g, k * 5 + 2, none⟩ = some (.int .i64 ((m : Int) + 1 + 1)) := (HC.out _ (by omega)).trans (vi _ _ (by have := HM.out; omega))
        have q3 : w.cell? ⟨g, k * 5 + 3, none⟩ = some (.int .i64 ((m : Int) + 1 + 1 + 1)) := (HC.out _ (by omega)).trans (vi _ _ (by have := HM.out; omega))
        have q4 : w.cell? ⟨g, k * 5 + 4, none⟩ = some (.int .i64 ((m : Int) + 1 + 1 + 1 + 1)) := (HC.out _ (by omega)).trans (vi _ _ (by have := HM.out; omega))
        clear vi
        go_wp2
        go_round
        case rel => exact ⟨k + 1, m + 5, by omega, by go_num, by go_num, Lib.hid (by have := HM.out; omega)⟩
        case measure => simp [intOf]; omega
      · have hd : decide ((k : Int) < (n : Int)) = false := by simp; omega
        have hkn : k = n := by omega
        have HK := Lib.hid hkn
        clear hkn
        go_wp2
        go_ret
        have e := HK.out
        subst e
        refine ⟨?_, rfl⟩
        have := HM.out
        simp
        omega
end Go.Proofs.Ytaokfppadfoniaa
