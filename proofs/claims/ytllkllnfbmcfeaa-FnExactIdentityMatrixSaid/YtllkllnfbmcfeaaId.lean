/- Contracts: identity matrices. -/
import Derived.Test.YtllkllnfbmcfeaaMarkM
namespace Go.Proofs.Ytllkllnfbmcfeaa
open Go.RowKit
set_option linter.unusedVariables false

/-- A matrix of the call's own was returned. -/
def RetOM (w : World) (rows : List (List DW)) (e : Ending) (w' : World) : Prop :=
  ∃ A c, e = .returned (.slice A rows.length c) ∧ OwnM w' w.heap.size 33 42 A rows ∧ Below w.heap.size w w'
theorem below_grown {B : Nat} {w W W' : World} {row : Option Nat} (h : Below B w W) (hg : W.grownBy W' row) (hrow : ∀ k, row = some k → B ≤ k) (hB : B ≤ W.heap.size) : Below B w W' :=
  h.grown hg hB hrow
def idL (m : Nat) (k : Nat) : List (List DW) := (List.range k).map fun i => basisL m i
theorem idL_length (m k : Nat) : (idL m k).length = k := by simp [idL]
theorem idL_succ (m k : Nat) : idL m (k + 1) = idL m k ++ [basisL m k] := by simp [idL, List.range_succ]
def idD (n : Int) : List (List DW) := idL (pw n) (pw n)
theorem pw_cases (n : Int) : (n = 1 ∧ pw n = 2) ∨ (n = 2 ∧ pw n = 4) ∨ (n = 3 ∧ pw n = 8) ∨ (n = 4 ∧ pw n = 16) ∨ ((n < 1 ∨ 4 < n) ∧ pw n = 0) := by
  unfold pw
  by_cases h1 : n = 1
  · exact .inl ⟨h1, by simp [h1]⟩
  by_cases h2 : n = 2
  · exact .inr (.inl ⟨h2, by simp [h2]⟩)
  by_cases h3 : n = 3
  · exact .inr (.inr (.inl ⟨h3, by simp [h3]⟩))
  by_cases h4 : n = 4
  · exact .inr (.inr (.inr (.inl ⟨h4, by simp [h4]⟩)))
  · exact .inr (.inr (.inr (.inr ⟨by omega, by simp [h1, h2, h3, h4]⟩)))
def IdRel (w : World) (m : Nat) (v i : Value) (wr : World) : Prop :=
  ∃ k : Nat, k ≤ m ∧ i = .int .i64 (k : Int) ∧ OutM wr w.heap.size v (idL m k) ∧ Below w.heap.size w wr ∧ w.heap.size ≤ wr.heap.size
theorem idD_tot (n : Int) : tot (idD n) ≤ 272 := by
  unfold idD
  rcases pw_cases n with ⟨h, e⟩ | ⟨h, e⟩ | ⟨h, e⟩ | ⟨h, e⟩ | ⟨h, e⟩ <;> rw [e] <;> decide
set_option maxHeartbeats 1000000 in
theorem i_Id_ok (n : Int) (m : Nat) (w : World) (hc : (n = 1 ∧ m = 2) ∨ (n = 2 ∧ m = 4) ∨ (n = 3 ∧ m = 8) ∨ (n = 4 ∧ m = 16)) : Calls Try.prog 48 #[.int .i64 n] w (RetOM w (idL m m)) := by
  have hpw : pw n = m := by rcases hc with ⟨rfl, rfl⟩ | ⟨rfl, rfl⟩ | ⟨rfl, rfl⟩ | ⟨rfl, rfl⟩ <;> rfl
  have HB : ∀ (k : Nat) W, k < m → Calls Try.prog 33 #[.int .i64 n, .int .i64 (k : Int)] W (RetO W 42 (basisL m k)) := fun k W hk => i_Basis_ok n m k W hpw hk
  have HB' := Lib.hid HB
  clear HB hpw
  rcases hc with ⟨rfl, rfl⟩ | ⟨rfl, rfl⟩ | ⟨rfl, rfl⟩ | ⟨rfl, rfl⟩
  · go_enter Try.func48, Try.ntmps48
    go_wp2_with fail
    refine (i_in_any _ _ _ _).mono ?_
    rintro e w' ⟨rfl, rfl⟩
    go_wp2
    go_loopw [3, 4] (fun v i wr => IdRel w 2 v i wr) (fun _ i _ => 2 - (intOf i).toNat)
    case atStart => exact ⟨0, by omega, rfl, OutM.start w _ _ (Nat.le_refl _) rfl, below_alloc w _, by simp⟩
    case round =>
      obtain ⟨k, hk, rfl, hO, hb, hs⟩ := hrel
      have HO := Lib.hid hO
      clear hO
      by_cases hlt : k < 2
      · have hd : decide ((k : Int) < 2) = true := by simp; omega
        go_wp2_with fail
        refine (HB'.out k _ hlt).mono ?_
        rintro e w1 ⟨A1, c1, rfl, O1, hb1⟩
        have hs1 := hb1.size
        have HN := Lib.hid (NewRow.of_own (base := w.heap.size) O1 (by rw [basisL_length]; omega) hs)
        clear O1
        go_wp2_with (at_builtin; refine app_stepM _ rfl (.tmp 15) (.tmp 19) rfl w.heap.size _ _ rfl wr HO.out (bl_alloc hb1 _) w1.heap.size A1 _ c1 rfl (by simp) (HN.out.call (below_alloc _ _)) (by rw [idL_length]; omega) (by simp; omega) ?_; intro v' w' hO' hg' hrow')
        rw [← idL_succ] at hO'
        go_roundw
        case rel =>
          have hz := hg'.size
          refine ⟨k + 1, by omega, by go_num, hO', below_grown (bl_alloc (bl_call hb hb1) _) hg' hrow' (by simp; omega), ?_⟩
          simp at hz
          omega
        case measure => simp [intOf]; omega
      · have hd : decide ((k : Int) < 2) = false := by simp; omega
        have hkn : k = 2 := by omega
        have HK := Lib.hid hkn
        clear hkn
        go_wp2
        go_ret
        have e := HK.out
        subst e
        obtain ⟨A, c, rfl, hA⟩ := HO.out.own
        exact ⟨A, c, rfl, hA, hb⟩
  · go_enter Try.func48, Try.ntmps48
    go_wp2_with fail
    refine (i_in_any _ _ _ _).mono ?_
    rintro e w' ⟨rfl, rfl⟩
    go_wp2
    go_loopw [3, 4] (fun v i wr => IdRel w 4 v i wr) (fun _ i _ => 4 - (intOf i).toNat)
    case atStart => exact ⟨0, by omega, rfl, OutM.start w _ _ (Nat.le_refl _) rfl, below_alloc w _, by simp⟩
    case round =>
      obtain ⟨k, hk, rfl, hO, hb, hs⟩ := hrel
      have HO := Lib.hid hO
      clear hO
      by_cases hlt : k < 4
      · have hd : decide ((k : Int) < 4) = true := by simp; omega
        go_wp2_with fail
        refine (HB'.out k _ hlt).mono ?_
        rintro e w1 ⟨A1, c1, rfl, O1, hb1⟩
        have hs1 := hb1.size
        have HN := Lib.hid (NewRow.of_own (base := w.heap.size) O1 (by rw [basisL_length]; omega) hs)
        clear O1
        go_wp2_with (at_builtin; refine app_stepM _ rfl (.tmp 15) (.tmp 19) rfl w.heap.size _ _ rfl wr HO.out (bl_alloc hb1 _) w1.heap.size A1 _ c1 rfl (by simp) (HN.out.call (below_alloc _ _)) (by rw [idL_length]; omega) (by simp; omega) ?_; intro v' w' hO' hg' hrow')
        rw [← idL_succ] at hO'
        go_roundw
        case rel =>
          have hz := hg'.size
          refine ⟨k + 1, by omega, by go_num, hO', below_grown (bl_alloc (bl_call hb hb1) _) hg' hrow' (by simp; omega), ?_⟩
          simp at hz
          omega
        case measure => simp [intOf]; omega
      · have hd : decide ((k : Int) < 4) = false := by simp; omega
        have hkn : k = 4 := by omega
        have HK := Lib.hid hkn
        clear hkn
        go_wp2
        go_ret
        have e := HK.out
        subst e
        obtain ⟨A, c, rfl, hA⟩ := HO.out.own
        exact ⟨A, c, rfl, hA, hb⟩
  · go_enter Try.func48, Try.ntmps48
    go_wp2_with fail
    refine (i_in_any _ _ _ _).mono ?_
    rintro e w' ⟨rfl, rfl⟩
    go_wp2
    go_loopw [3, 4] (fun v i wr => IdRel w 8 v i wr) (fun _ i _ => 8 - (intOf i).toNat)
    case atStart => exact ⟨0, by omega, rfl, OutM.start w _ _ (Nat.le_refl _) rfl, below_alloc w _, by simp⟩
    case round =>
      obtain ⟨k, hk, rfl, hO, hb, hs⟩ := hrel
      have HO := Lib.hid hO
      clear hO
      by_cases hlt : k < 8
      · have hd : decide ((k : Int) < 8) = true := by simp; omega
        go_wp2_with fail
        refine (HB'.out k _ hlt).mono ?_
        rintro e w1 ⟨A1, c1, rfl, O1, hb1⟩
        have hs1 := hb1.size
        have HN := Lib.hid (NewRow.of_own (base := w.heap.size) O1 (by rw [basisL_length]; omega) hs)
        clear O1
        go_wp2_with (at_builtin; refine app_stepM _ rfl (.tmp 15) (.tmp 19) rfl w.heap.size _ _ rfl wr HO.out (bl_alloc hb1 _) w1.heap.size A1 _ c1 rfl (by simp) (HN.out.call (below_alloc _ _)) (by rw [idL_length]; omega) (by simp; omega) ?_; intro v' w' hO' hg' hrow')
        rw [← idL_succ] at hO'
        go_roundw
        case rel =>
          have hz := hg'.size
          refine ⟨k + 1, by omega, by go_num, hO', below_grown (bl_alloc (bl_call hb hb1) _) hg' hrow' (by simp; omega), ?_⟩
          simp at hz
          omega
        case measure => simp [intOf]; omega
      · have hd : decide ((k : Int) < 8) = false := by simp; omega
        have hkn : k = 8 := by omega
        have HK := Lib.hid hkn
        clear hkn
        go_wp2
        go_ret
        have e := HK.out
        subst e
        obtain ⟨A, c, rfl, hA⟩ := HO.out.own
        exact ⟨A, c, rfl, hA, hb⟩
  · go_enter Try.func48, Try.ntmps48
    go_wp2_with fail
    refine (i_in_any _ _ _ _).mono ?_
    rintro e w' ⟨rfl, rfl⟩
    go_wp2
    go_loopw [3, 4] (fun v i wr => IdRel w 16 v i wr) (fun _ i _ => 16 - (intOf i).toNat)
    case atStart => exact ⟨0, by omega, rfl, OutM.start w _ _ (Nat.le_refl _) rfl, below_alloc w _, by simp⟩
    case round =>
      obtain ⟨k, hk, rfl, hO, hb, hs⟩ := hrel
      have HO := Lib.hid hO
      clear hO
      by_cases hlt : k < 16
      · have hd : decide ((k : Int) < 16) = true := by simp; omega
        go_wp2_with fail
        refine (HB'.out k _ hlt).mono ?_
        rintro e w1 ⟨A1, c1, rfl, O1, hb1⟩
        have hs1 := hb1.size
        have HN := Lib.hid (NewRow.of_own (base := w.heap.size) O1 (by rw [basisL_length]; omega) hs)
        clear O1
        go_wp2_with (at_builtin; refine app_stepM _ rfl (.tmp 15) (.tmp 19) rfl w.heap.size _ _ rfl wr HO.out (bl_alloc hb1 _) w1.heap.size A1 _ c1 rfl (by simp) (HN.out.call (below_alloc _ _)) (by rw [idL_length]; omega) (by simp; omega) ?_; intro v' w' hO' hg' hrow')
        rw [← idL_succ] at hO'
        go_roundw
        case rel =>
          have hz := hg'.size
          refine ⟨k + 1, by omega, by go_num, hO', below_grown (bl_alloc (bl_call hb hb1) _) hg' hrow' (by simp; omega), ?_⟩
          simp at hz
          omega
        case measure => simp [intOf]; omega
      · have hd : decide ((k : Int) < 16) = false := by simp; omega
        have hkn : k = 16 := by omega
        have HK := Lib.hid hkn
        clear hkn
        go_wp2
        go_ret
        have e := HK.out
        subst e
        obtain ⟨A, c, rfl, hA⟩ := HO.out.own
        exact ⟨A, c, rfl, hA, hb⟩
set_option maxHeartbeats 400000 in
theorem i_Id_bad (n : Int) (w : World) (h : n < 1 ∨ 4 < n) : Calls Try.prog 48 #[.int .i64 n] w (RetOM w []) := by
  have HI : ∀ W, Calls Try.prog 63 #[.int .i64 n, .int .i64 1, .int .i64 4] W fun e w' => e = .returned (.bool false) ∧ W = w' := by
    intro W
    have := i_in_any n 1 4 W
    have e : (decide ((1 : Int) ≤ n) && decide (n ≤ 4)) = false := by simp; omega
    rwa [e] at this
  have HI' := Lib.hid HI
  clear HI h
  go_enter Try.func48, Try.ntmps48
  go_wp2_with fail
  refine (HI'.out _).mono ?_
  rintro e w' ⟨rfl, rfl⟩
  go_wp2
  go_ret
  exact ⟨none, 0, rfl, OwnM.nil, Below.refl _ _⟩
theorem i_Id (n : Int) (w : World) : Calls Try.prog 48 #[.int .i64 n] w (RetOM w (idD n)) := by
  unfold idD
  rcases pw_cases n with ⟨h, e⟩ | ⟨h, e⟩ | ⟨h, e⟩ | ⟨h, e⟩ | ⟨h, e⟩
  · rw [e]; exact i_Id_ok n 2 w (.inl ⟨h, rfl⟩)
  · rw [e]; exact i_Id_ok n 4 w (.inr (.inl ⟨h, rfl⟩))
  · rw [e]; exact i_Id_ok n 8 w (.inr (.inr (.inl ⟨h, rfl⟩)))
  · rw [e]; exact i_Id_ok n 16 w (.inr (.inr (.inr ⟨h, rfl⟩)))
  · rw [e]; exact i_Id_bad n w h
set_option maxHeartbeats 1000000 in
theorem s_Id_ok (n : Int) (m : Nat) (w : World) (hc : (n = 1 ∧ m = 2) ∨ (n = 2 ∧ m = 4) ∨ (n = 3 ∧ m = 8) ∨ (n = 4 ∧ m = 16)) : Calls Try.prog 47 #[.int .i64 n] w (RetOM w (idL m m)) := by
  have hpw : pw n = m := by rcases hc with ⟨rfl, rfl⟩ | ⟨rfl, rfl⟩ | ⟨rfl, rfl⟩ | ⟨rfl, rfl⟩ <;> rfl
  have HB : ∀ (k : Nat) W, k < m → Calls Try.prog 32 #[.int .i64 n, .int .i64 (k : Int)] W (RetO W 42 (basisL m k)) := fun k W hk => s_Basis_ok n m k W hpw hk
  have HB' := Lib.hid HB
  clear HB hpw
  rcases hc with ⟨rfl, rfl⟩ | ⟨rfl, rfl⟩ | ⟨rfl, rfl⟩ | ⟨rfl, rfl⟩
  · go_enter Try.func47, Try.ntmps47
    go_wp2
    go_loopw [3, 4] (fun v i wr => IdRel w 2 v i wr) (fun _ i _ => 2 - (intOf i).toNat)
    case atStart => exact ⟨0, by omega, rfl, OutM.start w _ _ (Nat.le_refl _) rfl, below_alloc w _, by simp⟩
    case round =>
      obtain ⟨k, hk, rfl, hO, hb, hs⟩ := hrel
      have HO := Lib.hid hO
      clear hO
      go_wp2_with fail
      refine (s_in_any _ _ _ _).mono ?_
      rintro e w' ⟨rfl, rfl⟩
      by_cases hlt : k < 2
      · have hd : decide ((k : Int) < 2) = true := by simp; omega
        go_wp2_with fail
        refine (HB'.out k _ hlt).mono ?_
        rintro e w1 ⟨A1, c1, rfl, O1, hb1⟩
        have hs1 := hb1.size
        have HN := Lib.hid (NewRow.of_own (base := w.heap.size) O1 (by rw [basisL_length]; omega) hs)
        clear O1
        go_wp2_with (at_builtin; refine app_stepM _ rfl (.tmp 17) (.tmp 21) rfl w.heap.size _ _ rfl wr HO.out (bl_alloc hb1 _) w1.heap.size A1 _ c1 rfl (by simp) (HN.out.call (below_alloc _ _)) (by rw [idL_length]; omega) (by simp; omega) ?_; intro v' w' hO' hg' hrow')
        rw [← idL_succ] at hO'
        go_roundw
        case rel =>
          have hz := hg'.size
          refine ⟨k + 1, by omega, by go_num, hO', below_grown (bl_alloc (bl_call hb hb1) _) hg' hrow' (by simp; omega), ?_⟩
          simp at hz
          omega
        case measure => simp [intOf]; omega
      · have hd : decide ((k : Int) < 2) = false := by simp; omega
        have hkn : k = 2 := by omega
        have HK := Lib.hid hkn
        clear hkn
        go_wp2
        go_ret
        have e := HK.out
        subst e
        obtain ⟨A, c, rfl, hA⟩ := HO.out.own
        exact ⟨A, c, rfl, hA, hb⟩
  · go_enter Try.func47, Try.ntmps47
    go_wp2
    go_loopw [3, 4] (fun v i wr => IdRel w 4 v i wr) (fun _ i _ => 4 - (intOf i).toNat)
    case atStart => exact ⟨0, by omega, rfl, OutM.start w _ _ (Nat.le_refl _) rfl, below_alloc w _, by simp⟩
    case round =>
      obtain ⟨k, hk, rfl, hO, hb, hs⟩ := hrel
      have HO := Lib.hid hO
      clear hO
      go_wp2_with fail
      refine (s_in_any _ _ _ _).mono ?_
      rintro e w' ⟨rfl, rfl⟩
      by_cases hlt : k < 4
      · have hd : decide ((k : Int) < 4) = true := by simp; omega
        go_wp2_with fail
        refine (HB'.out k _ hlt).mono ?_
        rintro e w1 ⟨A1, c1, rfl, O1, hb1⟩
        have hs1 := hb1.size
        have HN := Lib.hid (NewRow.of_own (base := w.heap.size) O1 (by rw [basisL_length]; omega) hs)
        clear O1
        go_wp2_with (at_builtin; refine app_stepM _ rfl (.tmp 17) (.tmp 21) rfl w.heap.size _ _ rfl wr HO.out (bl_alloc hb1 _) w1.heap.size A1 _ c1 rfl (by simp) (HN.out.call (below_alloc _ _)) (by rw [idL_length]; omega) (by simp; omega) ?_; intro v' w' hO' hg' hrow')
        rw [← idL_succ] at hO'
        go_roundw
        case rel =>
          have hz := hg'.size
          refine ⟨k + 1, by omega, by go_num, hO', below_grown (bl_alloc (bl_call hb hb1) _) hg' hrow' (by simp; omega), ?_⟩
          simp at hz
          omega
        case measure => simp [intOf]; omega
      · have hd : decide ((k : Int) < 4) = false := by simp; omega
        have hkn : k = 4 := by omega
        have HK := Lib.hid hkn
        clear hkn
        go_wp2
        go_ret
        have e := HK.out
        subst e
        obtain ⟨A, c, rfl, hA⟩ := HO.out.own
        exact ⟨A, c, rfl, hA, hb⟩
  · go_enter Try.func47, Try.ntmps47
    go_wp2
    go_loopw [3, 4] (fun v i wr => IdRel w 8 v i wr) (fun _ i _ => 8 - (intOf i).toNat)
    case atStart => exact ⟨0, by omega, rfl, OutM.start w _ _ (Nat.le_refl _) rfl, below_alloc w _, by simp⟩
    case round =>
      obtain ⟨k, hk, rfl, hO, hb, hs⟩ := hrel
      have HO := Lib.hid hO
      clear hO
      go_wp2_with fail
      refine (s_in_any _ _ _ _).mono ?_
      rintro e w' ⟨rfl, rfl⟩
      by_cases hlt : k < 8
      · have hd : decide ((k : Int) < 8) = true := by simp; omega
        go_wp2_with fail
        refine (HB'.out k _ hlt).mono ?_
        rintro e w1 ⟨A1, c1, rfl, O1, hb1⟩
        have hs1 := hb1.size
        have HN := Lib.hid (NewRow.of_own (base := w.heap.size) O1 (by rw [basisL_length]; omega) hs)
        clear O1
        go_wp2_with (at_builtin; refine app_stepM _ rfl (.tmp 17) (.tmp 21) rfl w.heap.size _ _ rfl wr HO.out (bl_alloc hb1 _) w1.heap.size A1 _ c1 rfl (by simp) (HN.out.call (below_alloc _ _)) (by rw [idL_length]; omega) (by simp; omega) ?_; intro v' w' hO' hg' hrow')
        rw [← idL_succ] at hO'
        go_roundw
        case rel =>
          have hz := hg'.size
          refine ⟨k + 1, by omega, by go_num, hO', below_grown (bl_alloc (bl_call hb hb1) _) hg' hrow' (by simp; omega), ?_⟩
          simp at hz
          omega
        case measure => simp [intOf]; omega
      · have hd : decide ((k : Int) < 8) = false := by simp; omega
        have hkn : k = 8 := by omega
        have HK := Lib.hid hkn
        clear hkn
        go_wp2
        go_ret
        have e := HK.out
        subst e
        obtain ⟨A, c, rfl, hA⟩ := HO.out.own
        exact ⟨A, c, rfl, hA, hb⟩
  · go_enter Try.func47, Try.ntmps47
    go_wp2
    go_loopw [3, 4] (fun v i wr => IdRel w 16 v i wr) (fun _ i _ => 16 - (intOf i).toNat)
    case atStart => exact ⟨0, by omega, rfl, OutM.start w _ _ (Nat.le_refl _) rfl, below_alloc w _, by simp⟩
    case round =>
      obtain ⟨k, hk, rfl, hO, hb, hs⟩ := hrel
      have HO := Lib.hid hO
      clear hO
      go_wp2_with fail
      refine (s_in_any _ _ _ _).mono ?_
      rintro e w' ⟨rfl, rfl⟩
      by_cases hlt : k < 16
      · have hd : decide ((k : Int) < 16) = true := by simp; omega
        go_wp2_with fail
        refine (HB'.out k _ hlt).mono ?_
        rintro e w1 ⟨A1, c1, rfl, O1, hb1⟩
        have hs1 := hb1.size
        have HN := Lib.hid (NewRow.of_own (base := w.heap.size) O1 (by rw [basisL_length]; omega) hs)
        clear O1
        go_wp2_with (at_builtin; refine app_stepM _ rfl (.tmp 17) (.tmp 21) rfl w.heap.size _ _ rfl wr HO.out (bl_alloc hb1 _) w1.heap.size A1 _ c1 rfl (by simp) (HN.out.call (below_alloc _ _)) (by rw [idL_length]; omega) (by simp; omega) ?_; intro v' w' hO' hg' hrow')
        rw [← idL_succ] at hO'
        go_roundw
        case rel =>
          have hz := hg'.size
          refine ⟨k + 1, by omega, by go_num, hO', below_grown (bl_alloc (bl_call hb hb1) _) hg' hrow' (by simp; omega), ?_⟩
          simp at hz
          omega
        case measure => simp [intOf]; omega
      · have hd : decide ((k : Int) < 16) = false := by simp; omega
        have hkn : k = 16 := by omega
        have HK := Lib.hid hkn
        clear hkn
        go_wp2
        go_ret
        have e := HK.out
        subst e
        obtain ⟨A, c, rfl, hA⟩ := HO.out.own
        exact ⟨A, c, rfl, hA, hb⟩
set_option maxHeartbeats 400000 in
theorem s_Id_bad (n : Int) (w : World) (h : n < 1 ∨ 4 < n) : Calls Try.prog 47 #[.int .i64 n] w (RetOM w []) := by
  have HI : ∀ W, Calls Try.prog 61 #[.int .i64 n, .int .i64 1, .int .i64 4] W fun e w' => e = .returned (.bool false) ∧ W = w' := by
    intro W
    have := s_in_any n 1 4 W
    have e : (decide ((1 : Int) ≤ n) && decide (n ≤ 4)) = false := by simp; omega
    rwa [e] at this
  have HI' := Lib.hid HI
  clear HI h
  go_enter Try.func47, Try.ntmps47
  go_wp2
  refine wp_loop_rounds 1 ?_
  rw [rounds_succ]
  go_wp2_with fail
  refine (HI'.out _).mono ?_
  rintro e w' ⟨rfl, rfl⟩
  go_wp2
  go_ret
  exact ⟨_, _, rfl, OwnM.nil, below_alloc w _⟩
theorem s_Id (n : Int) (w : World) : Calls Try.prog 47 #[.int .i64 n] w (RetOM w (idD n)) := by
  unfold idD
  rcases pw_cases n with ⟨h, e⟩ | ⟨h, e⟩ | ⟨h, e⟩ | ⟨h, e⟩ | ⟨h, e⟩
  · rw [e]; exact s_Id_ok n 2 w (.inl ⟨h, rfl⟩)
  · rw [e]; exact s_Id_ok n 4 w (.inr (.inl ⟨h, rfl⟩))
  · rw [e]; exact s_Id_ok n 8 w (.inr (.inr (.inl ⟨h, rfl⟩)))
  · rw [e]; exact s_Id_ok n 16 w (.inr (.inr (.inr ⟨h, rfl⟩)))
  · rw [e]; exact s_Id_bad n w h
end Go.Proofs.Ytllkllnfbmcfeaa
