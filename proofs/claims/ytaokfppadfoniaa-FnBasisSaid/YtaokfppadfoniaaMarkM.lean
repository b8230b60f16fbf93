/- The marks that the laws write into matrices of a call's own. -/
import Derived.Test.YtaokfppadfoniaaAppM
namespace Go.Proofs.Ytaokfppadfoniaa
open Go.RowKit
set_option linter.unusedVariables false

def Kept (top : Nat) (w w' : World) : Prop := ∀ b, top ≤ b → w'.heap[b]? = w.heap[b]?
/-- As OwnM, with all blocks below 'top'. -/
def OwnT (w : World) (base top : Nat) (A : Option Addr) (rows : List (List DW)) : Prop :=
  0 < rows.length → ∃ (g N : Nat) (F : Nat → Value) (G : Nat → Nat), A = some ⟨g, 0, none⟩ ∧ base ≤ g ∧ rows.length ≤ N ∧ w.rowIs g 44 N F ∧ RowsTo w base 29 rows rows.length F G ∧ ∀ i, i < rows.length → G i < top
theorem OwnM.top {w : World} {base : Nat} {A : Option Addr} {rows : List (List DW)} (h : OwnM w base 44 29 A rows) : OwnT w base w.heap.size A rows := fun hp => by
  obtain ⟨g, N, F, G, h1, h2, h3, h4, h5⟩ := h hp
  exact ⟨g, N, F, G, h1, h2, h3, h4, h5, fun i hi => h5.lt hi (List.getElem?_eq_getElem hi)⟩
theorem OwnT.own {w : World} {base top : Nat} {A : Option Addr} {rows : List (List DW)} (h : OwnT w base top A rows) : OwnM w base 44 29 A rows := fun hp => by
  obtain ⟨g, N, F, G, h1, h2, h3, h4, h5, _⟩ := h hp
  exact ⟨g, N, F, G, h1, h2, h3, h4, h5⟩
theorem OwnT.call {w w' : World} {base top : Nat} {A : Option Addr} {rows : List (List DW)} (h : OwnT w base top A rows) (hb : Below w.heap.size w w') : OwnT w' base top A rows := fun hp => by
  obtain ⟨g, N, F, G, h1, h2, h3, h4, h5, h6⟩ := h hp
  exact ⟨g, N, F, G, h1, h2, h3, h4.of_block (hb.block g h4.lt), h5.call hb, h6⟩
theorem OwnM.kept {w w' : World} {base : Nat} {A : Option Addr} {rows : List (List DW)} (h : OwnM w base 44 29 A rows) (hk : Kept base w w') : OwnM w' base 44 29 A rows := fun hp => by
  obtain ⟨g, N, F, G, h1, h2, h3, h4, h5⟩ := h hp
  exact ⟨g, N, F, G, h1, h2, h3, h4.of_block (hk g h2), h5.keep fun i r hi hr => hk _ (h5.2 i r hi hr).1⟩
theorem OwnS.kept {w w' : World} {base : Nat} {t : TypeId} {A : Option Addr} {ds : List DW} (h : OwnS w base t A ds) (hk : Kept base w w') : OwnS w' base t A ds := fun hp => by
  obtain ⟨g, N, f, h1, h2, h3, h4, h5⟩ := h hp
  exact ⟨g, N, f, h1, h2, h3, h4.of_block (hk g h2), h5⟩

def MarkRow (w : World) (g N n K : Nat) (t : TypeId) (f : Nat → Value) (v i : Value) (wr : World) : Prop :=
  ∃ k m : Nat, k ≤ n ∧ i = .int .i64 (k : Int) ∧ v = .int .i64 (m : Int) ∧ m = K + k * 5 ∧ wr.rowIs g t N (mkf K k f) ∧ Below g w wr ∧ ∀ b, b ≠ g → wr.heap[b]? = w.heap[b]?
theorem frame_set {w W : World} {g i : Nat} (h : ∀ b, b ≠ g → W.heap[b]? = w.heap[b]?) (u : Value) : ∀ b, b ≠ g → (W.setCell ⟨g, i, none⟩ u).heap[b]? = w.heap[b]? :=
  fun b hb => (Below.heap_setCell W ⟨g, i, none⟩ u b hb).trans (h b hb)
set_option maxHeartbeats 400000 in
theorem mark_row (g N n c K : Nat) (t : TypeId) (f : Nat → Value) (w : World) (hrow : w.rowIs g t N f) (hN' : n * 5 ≤ N) (hs : K + n * 5 ≤ 4611686018427387904) :
    Calls Try.prog 43 #[.slice (some ⟨g, 0, none⟩) n c, .int .i64 (K : Int)] w fun e w' => e = .returned (.int .i64 ((K + n * 5 : Nat) : Int)) ∧ w'.rowIs g t N (mkf K n f) ∧ Below g w w' ∧ ∀ b, b ≠ g → w'.heap[b]? = w.heap[b]? := by
  have HROW := Lib.hid hrow
  clear hrow
  go_enter Try.func43, Try.ntmps43
  go_wp2
  go_loopw [1, 5] (fun v i wr => MarkRow w g N n K t f v i wr) (fun _ i _ => n - (intOf i).toNat)
  case atStart => exact ⟨0, K, by omega, rfl, rfl, by omega, HROW.out.congr (fun j _ => (mkf_zero K f j).symm), Below.refl _ _, fun _ _ => rfl⟩
  case round =>
    obtain ⟨k, m, hk, rfl, rfl, hm, hrow, hb, hfr⟩ := hrel
    have HF := Lib.hid hfr
    clear hfr
    by_cases hlt : k < n
    · have hd : decide ((k : Int) < (n : Int)) = true := by simp; omega
      have hm2 : m + 5 ≤ 4611686018427387904 := by omega
      have HM := Lib.hid hm
      clear hm
      have q0 := hrow.cell (i := k * 5) (by omega)
      have q1 := hrow.cell (i := k * 5 + 1) (by omega)
      have q2 := hrow.cell (i := k * 5 + 2) (by omega)
      have q3 := hrow.cell (i := k * 5 + 3) (by omega)
      have q4 := hrow.cell (i := k * 5 + 4) (by omega)
      have r0 := hrow.frozen (k * 5)
      have r1 := hrow.frozen (k * 5 + 1)
      have r2 := hrow.frozen (k * 5 + 2)
      have r3 := hrow.frozen (k * 5 + 3)
      have r4 := hrow.frozen (k * 5 + 4)
      have HR := Lib.hid hrow
      clear hrow
      go_wp2
      go_roundw
      case rel => exact ⟨k + 1, m + 5, by omega, by go_num, by go_num, by have := HM.out; omega, mark_store HR.out HM.out, bel_set (bel_set (bel_set (bel_set (bel_set hb (Nat.le_refl _) _) (Nat.le_refl _) _) (Nat.le_refl _) _) (Nat.le_refl _) _) (Nat.le_refl _) _, frame_set (frame_set (frame_set (frame_set (frame_set HF.out _) _) _) _) _⟩
      case measure => simp [intOf]; omega
    · have hd : decide ((k : Int) < (n : Int)) = false := by simp; omega
      have hkn : k = n := by omega
      have HK := Lib.hid hkn
      have HM := Lib.hid hm
      have HR := Lib.hid hrow
      clear hkn hm hrow
      go_wp2
      go_ret
      have e := HK.out
      subst e
      exact ⟨by rw [← HM.out]; rfl, HR.out, hb, HF.out⟩
def mixM (K : Nat) (rows : List (List DW)) (k : Nat) : List (List DW) := (List.range rows.length).map fun i => if i < k then marks (K + part rows i * 5) (rows.getD i []).length else rows.getD i []
def marksM (K : Nat) (rows : List (List DW)) : List (List DW) := mixM K rows rows.length
theorem mixM_length (K : Nat) (rows : List (List DW)) (k : Nat) : (mixM K rows k).length = rows.length := by simp [mixM]
theorem mixM_zero (K : Nat) (rows : List (List DW)) : mixM K rows 0 = rows := by
  apply List.ext_getElem?
  intro i
  by_cases h : i < rows.length
  · unfold mixM
    rw [List.getElem?_map, List.getElem?_range h]
    simp [List.getD_eq_getElem?_getD, h]
  · rw [List.getElem?_eq_none (by rw [mixM_length]; omega), List.getElem?_eq_none (by omega)]
theorem mixM_at {K : Nat} {rows : List (List DW)} {k i : Nat} {r : List DW} (h : rows[i]? = some r) : (mixM K rows k)[i]? = some (if i < k then marks (K + part rows i * 5) r.length else r) := by
  have hi : i < rows.length := (List.getElem?_eq_some_iff.1 h).1
  unfold mixM
  rw [List.getElem?_map, List.getElem?_range hi]
  simp [List.getD_eq_getElem?_getD, h]
theorem RowsTo.mark {w w1 : World} {base K k : Nat} {rows : List (List DW)} {F : Nat → Value} {G : Nat → Nat} {r : List DW} {M : Nat} {f : Nat → Value} (h : RowsTo w base 29 (mixM K rows k) rows.length F G) (hr : rows[k]? = some r)
    (hM : r.length * 5 ≤ M) (hrow : w1.rowIs (G k) 29 M (mkf (K + part rows k * 5) r.length f)) (hfr : ∀ b, b ≠ G k → w1.heap[b]? = w.heap[b]?) :
    RowsTo w1 base 29 (mixM K rows (k + 1)) rows.length F G := by
  refine ⟨h.1, fun i r' hi hr' => ?_⟩
  have hk : k < rows.length := (List.getElem?_eq_some_iff.1 hr).1
  by_cases e : i = k
  · subst e
    have e1 := mixM_at (K := K) (k := i) hr
    have e2 := mixM_at (K := K) (k := i + 1) hr
    rw [if_neg (by omega)] at e1
    rw [if_pos (by omega), hr'] at e2
    injection e2 with e2
    subst e2
    obtain ⟨q1, c', M', f', q2, q3, q4, q5⟩ := h.2 i r hi e1
    rw [marks_length]
    refine ⟨q1, c', M, _, q2, hM, hrow, fun j hj => ?_⟩
    rw [fD_marks hj]
    unfold mkf
    rw [if_pos hj]
  · have e1 : (mixM K rows k)[i]? = some r' := by
      have e2 := mixM_at (K := K) (k := k) (List.getElem?_eq_getElem hi)
      have e3 := mixM_at (K := K) (k := k + 1) (List.getElem?_eq_getElem hi)
      rw [hr'] at e3
      rw [e2, e3]
      by_cases hik : i < k
      · rw [if_pos hik, if_pos (by omega)]
      · rw [if_neg hik, if_neg (by omega)]
    obtain ⟨q1, c', M', f', q2, q3, q4, q5⟩ := h.2 i r' hi e1
    have hne : G i ≠ G k := by
      rcases Nat.lt_or_gt_of_ne e with hl | hl
      · have := h.1 i k hl hk; omega
      · have := h.1 k i hl hi; omega
    exact ⟨q1, c', M', f', q2, q3, q4.of_block (hfr _ hne), q5⟩
def MarkMRel (w : World) (base top g N K : Nat) (rows : List (List DW)) (F : Nat → Value) (G : Nat → Nat) (v i : Value) (wr : World) : Prop :=
  ∃ k m : Nat, k ≤ rows.length ∧ i = .int .i64 (k : Int) ∧ v = .int .i64 (m : Int) ∧ m = K + part rows k * 5 ∧ wr.rowIs g 44 N F ∧ RowsTo wr base 29 (mixM K rows k) rows.length F G ∧ Below base w wr ∧ Kept top w wr
def RetMM (w : World) (base top : Nat) (A : Option Addr) (K : Nat) (rows : List (List DW)) (e : Ending) (w' : World) : Prop :=
  e = .returned (.int .i64 ((K + part rows rows.length * 5 : Nat) : Int)) ∧ OwnT w' base top A (marksM K rows) ∧ Below base w w' ∧ Kept top w w'
set_option maxHeartbeats 400000 in
theorem markM (A : Option Addr) (c K base top : Nat) (rows : List (List DW)) (w : World) (hO : OwnT w base top A rows) (hs : K + tot rows * 5 ≤ 4611686018427387904) :
    Calls Try.prog 59 #[.slice A rows.length c, .int .i64 (K : Int)] w (RetMM w base top A K rows) := by
  by_cases h0 : rows.length = 0
  · have e : rows = [] := List.eq_nil_of_length_eq_zero h0
    subst e
    clear hO h0
    go_enter Try.func59, Try.ntmps59
    go_wp2
    refine wp_loop_rounds 1 ?_
    rw [rounds_succ]
    go_wp2
    go_ret
    exact ⟨by simp [part], fun h => absurd h (by simp [marksM, mixM]), Below.refl _ _, fun _ _ => rfl⟩
  · obtain ⟨g, N, F, G, rfl, hg, hN, hrow, hto, htop⟩ := hO (by omega)
    have HROW := Lib.hid hrow
    have HTO := Lib.hid hto
    have HTOP := Lib.hid htop
    obtain ⟨n, hn⟩ : ∃ n, rows.length = n := ⟨_, rfl⟩
    have HN := Lib.hid hn
    have HS := Lib.hid hs
    rw [hn] at hN
    clear hO hrow hto htop h0 hs
    rw [hn]
    have hn9 : n ≤ 4611686018427387904 := by have := part_le rows 0; have := HS.out; omega
    clear hn
    go_enter Try.func59, Try.ntmps59
    go_wp2
    go_loopw [1, 5] (fun v i wr => MarkMRel w base top g N K rows F G v i wr) (fun _ i _ => n - (intOf i).toNat)
    case atStart => exact ⟨0, K, by omega, rfl, rfl, by simp [part], HROW.out, by rw [mixM_zero]; exact HTO.out, Below.refl _ _, fun _ _ => rfl⟩
    case round =>
      obtain ⟨k, m, hk, rfl, rfl, hm, hrow, hto, hb, hkt⟩ := hrel
      have HK := Lib.hid hk
      have hk' : k ≤ n := by rw [← HN.out]; exact hk
      clear hk
      have HT := Lib.hid hto
      have HM := Lib.hid hm
      have HKT := Lib.hid hkt
      clear hto hm hkt
      by_cases hlt : k < n
      · have hd : decide ((k : Int) < (n : Int)) = true := by simp; omega
        have hx : rows[k]? = some (rows[k]'(by rw [HN.out]; exact hlt)) := List.getElem?_eq_getElem _
        obtain ⟨r, hr⟩ : ∃ r, rows[k]? = some r := ⟨_, hx⟩
        clear hx
        have HX := Lib.hid hr
        clear hr
        have e1 := mixM_at (K := K) (k := k) HX.out
        rw [if_neg (by omega)] at e1
        obtain ⟨p1, c', M, f, p2, p3, p4, p5⟩ := HT.out.2 k r (by rw [HN.out]; exact hlt) e1
        clear e1 p5
        have P4 := Lib.hid p4
        have q0 := hrow.cell (i := k) (by omega)
        rw [p2] at q0
        have HR := Lib.hid hrow
        have hne : g ≠ G k := by
          intro e
          obtain ⟨cs, hcs, _⟩ := hrow
          obtain ⟨cs', hcs', _⟩ := p4
          rw [← e, hcs] at hcs'
          simp at hcs'
        clear hrow p4 p2
        have hmr : m + r.length * 5 ≤ 4611686018427387904 := by have := part_succ HX.out; have := part_le rows (k + 1); have := HM.out; have := HS.out; omega
        have hkn : k < 9223372036854775807 := by omega
        go_wp2_with fail
        refine (mark_row (G k) M r.length c' m 29 f _ P4.out p3 hmr).mono ?_
        rintro e w1 ⟨rfl, hrow1, hb1, hfr1⟩
        have HR1 := Lib.hid hrow1
        have HF1 := Lib.hid hfr1
        clear hrow1 hfr1
        go_wp2
        go_roundw
        case rel =>
          refine ⟨k + 1, m + r.length * 5, by rw [HN.out]; omega, by go_num, by go_num, by have := HM.out; have := part_succ HX.out; omega, HR.out.of_block (HF1.out _ hne), ?_, hb.trans (hb1.mono p1), fun b hbt => ?_⟩
          · have h1 := HR1.out
            rw [HM.out] at h1
            exact HT.out.mark HX.out p3 h1 HF1.out
          · rw [HF1.out b (by have := HTOP.out k (by rw [HN.out]; exact hlt); omega)]
            exact HKT.out b hbt
        case measure => simp [intOf]; omega
      · have hd : decide ((k : Int) < (n : Int)) = false := by simp; omega
        have hkn : k = n := by omega
        have HKN := Lib.hid hkn
        have HR := Lib.hid hrow
        clear hkn hrow
        go_wp2
        go_ret
        have ek : k = rows.length := by rw [HN.out]; exact HKN.out
        refine ⟨by rw [← ek, ← HM.out]; rfl, fun _ => ⟨g, N, F, G, rfl, hg, by unfold marksM; rw [mixM_length, HN.out]; exact hN, HR.out, ?_, ?_⟩, hb, HKT.out⟩
        · have := HT.out
          rw [ek] at this
          unfold marksM
          rw [mixM_length]
          exact this
        · unfold marksM
          rw [mixM_length]
          exact HTOP.out
set_option maxHeartbeats 400000 in
theorem heldM (A : Option Addr) (c K base : Nat) (rows : List (List DW)) (w : World) (hO : OwnM w base 44 29 A (marksM K rows)) (hs : K + tot rows * 5 ≤ 4611686018427387904) :
    Calls Try.prog 62 #[.slice A rows.length c, .int .i64 (K : Int)] w fun e w' => e = .returned (.int .i64 ((K + part rows rows.length * 5 : Nat) : Int)) ∧ w = w' := by
  by_cases h0 : rows.length = 0
  · have e : rows = [] := List.eq_nil_of_length_eq_zero h0
    subst e
    clear hO h0
    go_enter Try.func62, Try.ntmps62
    go_wp2
    refine wp_loop_rounds 1 ?_
    rw [rounds_succ]
    go_wp2
    go_ret
    exact ⟨by simp [part], rfl⟩
  · have hml : (marksM K rows).length = rows.length := by unfold marksM; exact mixM_length _ _ _
    obtain ⟨g, N, F, G, rfl, hg, hN, hrow, hto⟩ := hO (by omega)
    rw [hml] at hN hto
    have HROW := Lib.hid hrow
    have HTO := Lib.hid hto
    obtain ⟨n, hn⟩ : ∃ n, rows.length = n := ⟨_, rfl⟩
    have HN := Lib.hid hn
    have HS := Lib.hid hs
    rw [hn] at hN
    clear hO hrow hto h0 hml hs
    rw [hn]
    have hn9 : n ≤ 4611686018427387904 := by have := part_le rows 0; have := HS.out; omega
    clear hn
    go_enter Try.func62, Try.ntmps62
    go_wp2
    go_loop [1, 5] (fun v i => ∃ k m : Nat, k ≤ n ∧ i = .int .i64 (k : Int) ∧ v = .int .i64 (m : Int) ∧ Hid (m = K + part rows k * 5)) (fun _ i => n - (intOf i).toNat)
    case atStart => exact ⟨0, K, by omega, rfl, rfl, Lib.hid (by simp [part])⟩
    case round =>
      obtain ⟨k, m, hk, rfl, rfl, HM⟩ := hrel
      by_cases hlt : k < n
      · have hd : decide ((k : Int) < (n : Int)) = true := by simp; omega
        obtain ⟨r, hr⟩ : ∃ r, rows[k]? = some r := ⟨_, List.getElem?_eq_getElem (by rw [HN.out]; exact hlt)⟩
        have HX := Lib.hid hr
        clear hr
        have e1 := mixM_at (K := K) (k := rows.length) HX.out
        rw [if_pos (by rw [HN.out]; exact hlt), ← HM.out] at e1
        have hrow' := HTO.out.row (by rw [HN.out]; exact hlt) e1
        obtain ⟨p1, c', M, f, p2, p3, p4, p5⟩ := HTO.out.2 k _ (by rw [HN.out]; exact hlt) e1
        rw [marks_length] at p2
        have HO := Lib.hid hrow'
        have q0 := HROW.out.cell (i := k) (by omega)
        rw [p2] at q0
        clear e1 hrow' p2 p3 p4 p5
        have hmr : m + r.length * 5 ≤ 4611686018427387904 := by have := part_succ HX.out; have := part_le rows (k + 1); have := HM.out; have := HS.out; omega
        go_wp2_with fail
        refine (held_any _ r.length c' m base 29 _ HO.out hmr).mono ?_
        rintro e w' ⟨rfl, rfl⟩
        have hge : decide (((m + r.length * 5 : Nat) : Int) < 0) = false := by simp; omega
        go_wp2
        go_round
        case rel => exact ⟨k + 1, m + r.length * 5, by omega, by go_num, by go_num, Lib.hid (by have := HM.out; have := part_succ HX.out; omega)⟩
        case measure => simp [intOf]; omega
      · have hd : decide ((k : Int) < (n : Int)) = false := by simp; omega
        have hkn : k = n := by omega
        have HK := Lib.hid hkn
        clear hkn
        go_wp2
        go_ret
        refine ⟨?_, rfl⟩
        have e := HK.out
        subst e
        have := HM.out
        simp
        omega
end Go.Proofs.Ytaokfppadfoniaa
