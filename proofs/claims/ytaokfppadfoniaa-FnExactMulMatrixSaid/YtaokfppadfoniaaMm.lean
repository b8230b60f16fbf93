/- Contracts: matrices multiplied. -/
import Derived.Test.YtaokfppadfoniaaAp
import Derived.Test.YtaokfppadfoniaaMarkM
import Derived.ArgAppend
namespace Go.Proofs.Ytaokfppadfoniaa
open Go.RowKit
set_option linter.unusedVariables false
/-- A matrix of the call's own and a mark were returned. -/
def RetVM (w : World) (rows : List (List DW)) (ok : Bool) (e : Ending) (w' : World) : Prop :=
  ∃ A c, e = .returned (.tuple #[.slice A rows.length c, .bool ok]) ∧ OwnM w' w.heap.size 44 29 A rows ∧ Below w.heap.size w w'
theorem OwnM.weak {w : World} {base base' : Nat} {ts td : TypeId} {A : Option Addr} {rows : List (List DW)} (h : OwnM w base ts td A rows) (hb : base' ≤ base) : OwnM w base' ts td A rows := fun hp => by
  obtain ⟨g, N, F, G, h1, h2, h3, h4, h5⟩ := h hp
  exact ⟨g, N, F, G, h1, Nat.le_trans hb h2, h3, h4, h5.weak hb⟩
theorem OwnS.weak {w : World} {base base' : Nat} {t : TypeId} {A : Option Addr} {ds : List DW} (h : OwnS w base t A ds) (hb : base' ≤ base) : OwnS w base' t A ds := fun hp => by
  obtain ⟨g, N, f, h1, h2, h3⟩ := h hp
  exact ⟨g, N, f, h1, Nat.le_trans hb h2, h3⟩
/-- As OutM, or the empty slice as it was made: of its block nothing is said. -/
def OutM2 (w : World) (base : Nat) (v : Value) (rows : List (List DW)) : Prop := (rows = [] ∧ ∃ g : Nat, v = .slice (some ⟨g, 0, none⟩) 0 0) ∨ OutM w base v rows
theorem OutM2.call {w w' : World} {base : Nat} {v : Value} {rows : List (List DW)} (h : OutM2 w base v rows) (hb : Below w.heap.size w w') : OutM2 w' base v rows := h.elim .inl fun h => .inr (h.call hb)
theorem OutM2.own {w : World} {base : Nat} {v : Value} {rows : List (List DW)} (h : OutM2 w base v rows) : ∃ A c, v = .slice A rows.length c ∧ OwnM w base 44 29 A rows := by
  rcases h with ⟨rfl, g, rfl⟩ | h
  · exact ⟨_, _, rfl, OwnM.nil⟩
  · exact h.own
/-- The world behind an append: new blocks, and of those that were there only such from 'base' on have changed. -/
def Grown (base : Nat) (w w' : World) : Prop := ∃ row, w.grownBy w' row ∧ ∀ k, row = some k → base ≤ k
theorem Grown.below {B base : Nat} {w W W' : World} (h : Below B w W) (hg : Grown base W W') (hB : B ≤ base) (hW : B ≤ W.heap.size) : Below B w W' := by
  obtain ⟨row, h1, h2⟩ := hg
  exact below_grown h h1 (fun k hk => Nat.le_trans hB (h2 k hk)) hW
theorem Grown.size {base : Nat} {W W' : World} (hg : Grown base W W') : W.heap.size ≤ W'.heap.size := by
  obtain ⟨row, h1, h2⟩ := hg
  exact h1.size
theorem app_stepM2 {ops : Array Oper} {rest : List Oper} {o : Oper} {a : Act} {Q : Exit → Act → World → Prop} (w : World) (hgd : o.guard = none) (s x : Operand)
    (ho : o.op = .call { callee := .builtin .append, args := #[s, x], argTypes := #[70, 70] }) (base : Nat) (v : Value) (rows : List (List DW)) (hs : a.eval s = v)
    (w0 : World) (hown0 : OutM2 w0 base v rows) (hb0 : Below w0.heap.size w0 w) (g : Nat) (A : Option Addr) (r : List DW) (c : Nat) (hx : a.eval x = .slice (some ⟨g, 0, none⟩) 1 1) (hB : w.cell? ⟨g, 0, none⟩ = some (.slice A r.length c))
    (hN : NewRow w base w0.heap.size A r) (hl : rows.length ≤ 2000000) (hbase : base ≤ w.heap.size)
    (h : ∀ (v' : Value) (w' : World), OutM w' base v' (rows ++ [r]) → Grown base w w' → wpList Try.prog ops Q rest (a.put o.dst v') w') :
    wpList Try.prog ops Q (o :: rest) a w := by
  rcases hown0 with ⟨rfl, g0, rfl⟩ | hown0
  · obtain ⟨i0, hi, hz0, hz1, hz2⟩ := info_parts infoS'
    refine wpList_append_grows w hgd s x _ ho _ i0 _ 1 24 Try.underlying70 hi hz0 hz1 hz2 rfl (by decide) (some ⟨g0, 0, none⟩) 0 0 [] hs (by simp) rfl (by simp) ⟨g, 0, none⟩ 1 1
      [.slice A r.length c] hx rfl ?_ ?_ (by omega) (by unfold maxLen; omega) (by omega) ?_
    · intro j u hj
      match j, hj with
      | 0, hj =>
        simp at hj
        subst hj
        have e : (⟨g, 0, none⟩ : Addr).add 0 = ⟨g, 0, none⟩ := by simp [Addr.add]
        rw [e, hB]
      | j + 1, hj => simp at hj
    · intro u hu
      simp at hu
      subst hu
      rfl
    · intro v' w' hown' hg
      obtain ⟨b, M, f, rfl, hb1, hb2, hM, hrow, hf⟩ := hN
      refine h v' w' ⟨[.slice (some ⟨b, 0, none⟩) r.length c], fun _ => b, ?_, fun i j hij hj => absurd hj (by simp; omega), fun i r' hi hr' => ?_⟩ ⟨none, hg, by simp⟩
      · obtain ⟨q1, q2⟩ := hown'
        refine ⟨by simp, ?_⟩
        rcases q2 with ⟨e1, e2⟩ | ⟨g', cap, cur, e1, e2, e3⟩
        · simp at e2
        · exact .inr ⟨g', cap, cur, by simpa using e1, Nat.le_trans hbase e2, by simpa using e3⟩
      · simp at hi
        subst hi
        simp at hr'
        subst hr'
        exact ⟨hb1, c, M, f, rfl, hM, hrow.of_block (hg.block b hrow.lt (by simp)), hf⟩
  · exact app_stepM w hgd s x ho base v rows hs w0 hown0 hb0 g A r c hx hB hN hl hbase fun v' w' h1 h2 h3 => h v' w' h1 ⟨_, h2, h3⟩
/-- wB: the world from which on the columns are made. -/
def ColsRel (wB : World) (xs ys : List (List DW)) (n : Nat) (v i : Value) (wr : World) : Prop :=
  ∃ (k : Nat) (o : List (List DW)), k ≤ n ∧ i = .int .i64 (k : Int) ∧ mulCols xs ys k = some o ∧ OutM2 wr wB.heap.size v o ∧ Below wB.heap.size wB wr ∧ wB.heap.size ≤ wr.heap.size
theorem mulCols_at {xs ys : List (List DW)} {n : Nat} {o : List (List DW)} (h : mulCols xs ys n = some o) : ∀ r ∈ o, r.length = xs.length := by
  intro r hr
  obtain ⟨i, hi⟩ := List.getElem?_of_mem hr
  have hl := mapAll_len h
  have hin : i < n := by have := (List.getElem?_eq_some_iff.1 hi).1; omega
  have e := mapAll_get h i hin
  rw [hi] at e
  exact applyD_len e.symm
def FlRel (w : World) (n : Nat) (rows : List (List DW)) (v i : Value) (wr : World) : Prop :=
  ∃ j : Nat, j ≤ n ∧ i = .int .i64 (j : Int) ∧ OutM wr w.heap.size v (flipL rows j) ∧ Below w.heap.size w wr ∧ w.heap.size ≤ wr.heap.size
set_option maxHeartbeats 2000000 in
theorem s_cols (A : Option Addr) (n c : Nat) (rows : List (List DW)) (w : World) (hR : RM w w.heap.size A n rows) (hp : 0 < n) (hn : n ≤ 1000000) (hrows : ∀ r ∈ rows, r.length = n) :
    Calls Try.prog 97 #[.slice A n c] w (RetOM w (flipL rows n)) := by
  have HROWS := Lib.hid hrows
  have HR := Lib.hid hR
  have HN := Lib.hid hR.1.symm
  clear hrows hR
  go_enter Try.func97, Try.ntmps97
  go_wp2
  go_loopw [3, 4] (fun v i wr => FlRel w n rows v i wr) (fun _ i _ => n - (intOf i).toNat)
  case atStart => exact ⟨0, by omega, rfl, OutM.start w _ _ (Nat.le_refl _) rfl, below_alloc w _, by simp⟩
  case round =>
    obtain ⟨k, hk, rfl, hO, hb, hs⟩ := hrel
    obtain ⟨wo, rfl⟩ : ∃ wo : World, wo = wr := ⟨_, rfl⟩
    have HO := Lib.hid hO
    have R0 := Lib.hid ((HR.out.keep hb).more hs)
    clear hO
    by_cases hlt : k < n
    · have hd : decide ((k : Int) < (n : Int)) = true := by simp; omega
      go_wp2_with fail
      refine (s_col A n c k rows _ R0.out (fun r hr => by have := HROWS.out r hr; omega) hn (by omega)).mono ?_
      rintro e w2 ⟨A2, c2, rfl, O2, hb2⟩
      have hcl : (colL rows k).length = n := by rw [colL_length]; exact HN.out
      have HNW := Lib.hid (NewRow.of_own (base := w.heap.size) O2 (by rw [hcl]; exact hp) hs)
      have HB' := Lib.hid hb2
      have HCL := Lib.hid hcl
      have HSU := Lib.hid (flipL_succ rows k)
      have hs2 := hb2.size
      clear O2 hcl hb2
      have hlj' : (flipL rows k).length ≤ 2000000 := by rw [flipL_length]; omega
      go_wp2_with (at_builtin; refine app_stepM _ rfl (.tmp 12) (.tmp 16) rfl w.heap.size _ _ rfl wo HO.out (bl_alloc HB'.out _) w2.heap.size A2 (colL rows k) c2 rfl (by simp) (HNW.out.call (below_alloc _ _)) hlj' (by simp; omega) ?_; intro v' w' hO' hg' hrow')
      rw [← HSU.out] at hO'
      go_roundw
      case rel =>
        have hz := hg'.size
        refine ⟨k + 1, by omega, by go_num, hO', below_grown (bl_alloc (hb.trans (HB'.out.mono hs)) _) hg' hrow' (by simp; omega), ?_⟩
        simp at hz
        omega
      case measure => simp [intOf]; omega
    · have hd : decide ((k : Int) < (n : Int)) = false := by simp; omega
      have HK := Lib.hid (show k = n by omega)
      go_wp2
      go_ret
      have h := HO.out
      rw [HK.out] at h
      obtain ⟨A, c, rfl, hA⟩ := h.own
      exact ⟨A, c, rfl, hA, hb⟩
set_option maxHeartbeats 400000 in
theorem i_MulM_bad (A B : Option Addr) (n m c c' : Nat) (us vs : List (List DW)) (w : World) (hA : RM w w.heap.size A n us) (hB : RM w w.heap.size B m vs) (hn : n ≤ 9223372036854775807) (hm : m ≤ 9223372036854775807) (hr1 : ∀ r ∈ us, r.length ≤ 9223372036854775807) (hr2 : ∀ r ∈ vs, r.length ≤ 9223372036854775807) (hbad : ¬ (okM us = true ∧ okM vs = true ∧ us.length = vs.length)) :
    Calls Try.prog 61 #[.slice A n c, .slice B m c'] w (RetVM w [] false) := by
  have HA := Lib.hid hA
  have HB := Lib.hid hB
  clear hA hB
  cases hous : okM us
  · have hvus : ∀ W, RM W W.heap.size A n us → Calls Try.prog 92 #[.slice A n c] W (Ret (.bool false) W) := fun W h => by have := i_VM A n c us W h hn hr1; rwa [hous] at this
    have HVus := Lib.hid hvus
    clear hvus
    clear hbad hous
    go_enter Try.func61, Try.ntmps61
    go_wp2_with fail
    refine (HVus.out _ HA.out).mono ?_
    rintro e w1 ⟨rfl, hb1⟩
    go_wp2
    go_ret2
    refine ⟨none, 0, rfl, OwnM.nil, ?_⟩
    repeat (first | (with_reducible exact Below.refl _ _) | (with_reducible assumption) | (with_reducible refine bl_alloc ?_ _) | (with_reducible refine bl_drew ?_) | (with_reducible refine bl_set ?_ (by simp <;> omega) _) | (with_reducible refine bl_call ?_ (by assumption)))
  · have hvus : ∀ W, RM W W.heap.size A n us → Calls Try.prog 92 #[.slice A n c] W (Ret (.bool true) W) := fun W h => by have := i_VM A n c us W h hn hr1; rwa [hous] at this
    have HVus := Lib.hid hvus
    clear hvus
    cases hovs : okM vs
    · have hvvs : ∀ W, RM W W.heap.size B m vs → Calls Try.prog 92 #[.slice B m c'] W (Ret (.bool false) W) := fun W h => by have := i_VM B m c' vs W h hm hr2; rwa [hovs] at this
      have HVvs := Lib.hid hvvs
      clear hvvs
      clear hbad hous hovs
      go_enter Try.func61, Try.ntmps61
      go_wp2_with fail
      refine (HVus.out _ HA.out).mono ?_
      rintro e w1 ⟨rfl, hb1⟩
      have HW1 := Lib.hid (bl_call (Below.refl _ _) hb1)
      have RB1 := Lib.hid (HB.out.call HW1.out)
      clear hb1
      go_wp2_with fail
      refine (HVvs.out _ RB1.out).mono ?_
      rintro e w2 ⟨rfl, hb2⟩
      have hw2 := bl_call HW1.out hb2
      clear hb2
      go_wp2
      go_ret2
      refine ⟨none, 0, rfl, OwnM.nil, ?_⟩
      repeat (first | (with_reducible exact Below.refl _ _) | (with_reducible assumption) | (with_reducible refine bl_alloc ?_ _) | (with_reducible refine bl_drew ?_) | (with_reducible refine bl_set ?_ (by simp <;> omega) _) | (with_reducible refine bl_call ?_ (by assumption)))
    · have hvvs : ∀ W, RM W W.heap.size B m vs → Calls Try.prog 92 #[.slice B m c'] W (Ret (.bool true) W) := fun W h => by have := i_VM B m c' vs W h hm hr2; rwa [hovs] at this
      have HVvs := Lib.hid hvvs
      clear hvvs
      have hne : n ≠ m := fun e => hbad ⟨hous, hovs, by rw [← HA.out.1, ← HB.out.1]; exact e⟩
      clear hbad hous hovs
      have hq : ((n : Int) != (m : Int)) = true := by simp; omega
      clear hne
      go_enter Try.func61, Try.ntmps61
      go_wp2_with fail
      refine (HVus.out _ HA.out).mono ?_
      rintro e w1 ⟨rfl, hb1⟩
      have HW1 := Lib.hid (bl_call (Below.refl _ _) hb1)
      have RB1 := Lib.hid (HB.out.call HW1.out)
      clear hb1
      go_wp2_with fail
      refine (HVvs.out _ RB1.out).mono ?_
      rintro e w2 ⟨rfl, hb2⟩
      have hw2 := bl_call HW1.out hb2
      clear hb2
      go_wp2
      go_ret2
      refine ⟨none, 0, rfl, OwnM.nil, ?_⟩
      repeat (first | (with_reducible exact Below.refl _ _) | (with_reducible assumption) | (with_reducible refine bl_alloc ?_ _) | (with_reducible refine bl_drew ?_) | (with_reducible refine bl_set ?_ (by simp <;> omega) _) | (with_reducible refine bl_call ?_ (by assumption)))
set_option maxHeartbeats 4000000 in
theorem i_MulM_ok (A B : Option Addr) (n c c' : Nat) (us vs : List (List DW)) (V : Option (List (List DW))) (w : World) (hA : RM w w.heap.size A n us) (hB : RM w w.heap.size B n vs) (hous : okM us = true) (hovs : okM vs = true) (hV : mulCols us vs n = V) :
    Calls Try.prog 61 #[.slice A n c, .slice B n c'] w (RetVM w ((V.map fun l => flipL l n).getD []) V.isSome) := by
  have HV := Lib.hid hV
  have hl0 : us.length = n := hA.1.symm
  have hl1 : vs.length = n := hB.1.symm
  have hparts := okM_parts hous
  rw [hl0] at hparts
  obtain ⟨hp, h16, hrows⟩ := hparts
  have hparts' := okM_parts hovs
  rw [hl1] at hparts'
  obtain ⟨-, -, hrows'⟩ := hparts'
  have HL0 := Lib.hid hl0
  have HL1 := Lib.hid hl1
  have hr1 : ∀ r ∈ us, r.length ≤ 9223372036854775807 := fun r hr => by have := (hrows r hr).1; omega
  have hr2 : ∀ r ∈ vs, r.length ≤ 9223372036854775807 := fun r hr => by have := (hrows' r hr).1; omega
  have hap0 : ∀ (A B : Option Addr) (c c' k : Nat) (W : World), RM W W.heap.size A n us → RD W W.heap.size B n (colL vs k) → Calls Try.prog 58 #[.slice A n c, .slice B n c'] W (RetV W 29 ((applyD us (colL vs k)).getD []) (applyD us (colL vs k)).isSome) := fun A B c c' k W h1 h2 => i_Apply W h1 h2 (by omega) hr1 (by omega)
  have HAP := Lib.hid hap0
  clear hap0
  have HROW' := Lib.hid (fun r hr => (hrows' r hr).1)
  clear hV hrows hrows' hl0 hl1
  have hvus : ∀ W, RM W W.heap.size A n us → Calls Try.prog 92 #[.slice A n c] W (Ret (.bool true) W) := fun W h => by have := i_VM A n c us W h (by omega) hr1; rwa [hous] at this
  have HVus := Lib.hid hvus
  clear hvus
  have hvvs : ∀ W, RM W W.heap.size B n vs → Calls Try.prog 92 #[.slice B n c'] W (Ret (.bool true) W) := fun W h => by have := i_VM B n c' vs W h (by omega) hr2; rwa [hovs] at this
  have HVvs := Lib.hid hvvs
  clear hvvs
  have HA := Lib.hid hA
  have HB := Lib.hid hB
  clear hA hB hous hovs
  have hq : ((n : Int) != (n : Int)) = false := by simp
  go_enter Try.func61, Try.ntmps61
  go_wp2_with fail
  refine (HVus.out _ HA.out).mono ?_
  rintro e w1 ⟨rfl, hb1⟩
  have HW1 := Lib.hid (bl_call (Below.refl _ _) hb1)
  have RB1 := Lib.hid (HB.out.call HW1.out)
  clear hb1
  go_wp2_with fail
  refine (HVvs.out _ RB1.out).mono ?_
  rintro e w2 ⟨rfl, hb2⟩
  have HW2 := Lib.hid (bl_call HW1.out hb2)
  clear hb2 HVus HVvs RB1 HW1
  clear hr1 hr2
  have hs2 := HW2.out.size
  go_wp2_with fail
  refine (i_flip B n c' vs _ ((HB.out.call HW2.out).call (below_alloc _ _)) hp (by omega) HROW'.out).mono ?_
  rintro e wB ⟨A3, c3, rfl, O3, hb3⟩
  rw [flipL_length]
  have hsB : w.heap.size ≤ wB.heap.size := by have := hb3.size; simp at this; omega
  have HWB := Lib.hid (bl_call (bl_alloc HW2.out _) hb3)
  have hrd := O3.read
  rw [flipL_length] at hrd
  have R3 := Lib.hid hrd
  clear hb3 O3 hrd
  go_wp2
  go_loopw [6, 30] (fun v i wr => ColsRel wB us vs n v i wr) (fun _ i _ => n - (intOf i).toNat)
  case atStart => exact ⟨0, [], by omega, rfl, rfl, .inl ⟨rfl, _, rfl⟩, Below.refl _ _, Nat.le_refl _⟩
  case round =>
    obtain ⟨j, o, hj, rfl, hm, hO, hbB, hsB'⟩ := hrel
    obtain ⟨wo, rfl⟩ : ∃ wo : World, wo = wr := ⟨_, rfl⟩
    have HO := Lib.hid hO
    have HM := Lib.hid hm
    have hb : Below w.heap.size w wo := HWB.out.trans (hbB.mono hsB)
    have hs : w.heap.size ≤ wo.heap.size := by omega
    clear hO hm HW2
    by_cases hlt : j < n
    · have hd : decide ((j : Int) < (n : Int)) = true := by simp; omega
      have R0 := Lib.hid ((HA.out.keep hb).more hs)
      obtain ⟨ds, ok, hds, hok⟩ : ∃ ds ok, (applyD us (colL vs j)).getD [] = ds ∧ (applyD us (colL vs j)).isSome = ok := ⟨_, _, rfl, rfl⟩
      have hap1 : ∀ (A B : Option Addr) (c c' : Nat) (W : World), RM W W.heap.size A n us → RD W W.heap.size B n (colL vs j) → Calls Try.prog 58 #[.slice A n c, .slice B n c'] W (RetV W 29 ds ok) := fun A B c c' W h1 h2 => by
        have := HAP.out A B c c' j W h1 h2
        rwa [hds, hok] at this
      have HAP' := Lib.hid hap1
      clear hap1
      have hT : ok = true → applyD us (colL vs j) = some ds ∧ ds.length = n := fun e => by
        rw [e] at hok
        obtain ⟨d', hd'⟩ := Option.isSome_iff_exists.1 hok
        rw [hd'] at hds
        rw [hd', ← hds]
        exact ⟨rfl, by rw [← HL0.out]; exact applyD_len hd'⟩
      have hF : ok = false → applyD us (colL vs j) = none := fun e => by
        rw [e] at hok
        simpa using hok
      have HT := Lib.hid hT
      have HF := Lib.hid hF
      clear hT hF hds hok
      have i0 : (0 : Int) ≤ (j : Int) := by omega
      have i1 : (j : Int) < (n : Int) := by omega
      obtain ⟨b0, off, A1, c1, r, rfl, hbl, hdx, c0, hRD⟩ := (R3.out.keep hbB).elem hsB' hlt
      rw [flipL_at hlt] at hdx
      injection hdx with hdx
      subst hdx
      rw [show (colL vs j).length = n by rw [colL_length]; exact HL1.out] at c0 hRD
      have RC := Lib.hid hRD
      have RA := Lib.hid R0.out
      have HO4 := Lib.hid HO.out
      have HB4 := Lib.hid hb
      have HBB4 := Lib.hid hbB
      obtain ⟨w4, rfl⟩ : ∃ w4, w4 = wo := ⟨_, rfl⟩
      have hs4 : wB.heap.size ≤ w4.heap.size := hsB'
      clear hRD
      go_wp2_with fail
      refine (HAP'.out _ _ _ _ _ RA.out RC.out).mono ?_
      rintro e w5 ⟨A5, c5, rfl, O5, hb5⟩
      have hs5 := hb5.size
      have HB5 := Lib.hid (bl_call HB4.out hb5)
      have HBB5 := Lib.hid (bl_call HBB4.out hb5)
      cases ok
      · have e : V = none := HV.out.symm.trans (mapAll_stop (k := j) (HF.out rfl) hlt)
        subst e
        have HBB := HB5.out
        clear hb5 O5
        go_wp2
        go_ret2
        refine ⟨none, 0, rfl, OwnM.nil, ?_⟩
        repeat (first | (with_reducible exact Below.refl _ _) | (with_reducible assumption) | (with_reducible refine bl_alloc ?_ _) | (with_reducible refine bl_drew ?_) | (with_reducible refine bl_set ?_ (by simp <;> omega) _) | (with_reducible refine bl_call ?_ (by assumption)))
      · obtain ⟨hap, hdl⟩ := HT.out rfl
        have HS := Lib.hid (show mulCols us vs (j + 1) = some (o ++ [ds]) from mapAll_succ HM.out hap)
        have hl := mapAll_len HM.out
        have hl' : o.length ≤ 2000000 := by omega
        have HNW := Lib.hid (NewRow.of_own (base := wB.heap.size) O5 (by rw [hdl]; exact hp) (by omega))
        have HO5 := Lib.hid (HO4.out.call hb5)
        have HB5' := Lib.hid hb5
        have HDL := Lib.hid hdl
        clear hl hap hb5 O5 hdl
        go_wp2_with (at_builtin; refine app_stepM2 _ rfl (.tmp 42) (.tmp 44) rfl wB.heap.size _ _ rfl w4 HO4.out (bl_alloc HB5'.out _) w5.heap.size A5 ds c5 rfl (by simp) (HNW.out.call (below_alloc _ _)) hl' (by simp; omega) ?_; intro v' w' hO' hg')
        go_roundw
        case rel =>
          have hz := hg'.size
          refine ⟨j + 1, _, by omega, by go_num, HS.out, .inr hO', Grown.below (bl_alloc HBB5.out _) hg' (Nat.le_refl _) (by simp; omega), ?_⟩
          simp at hz
          omega
        case measure => simp [intOf]; omega
    · have hd : decide ((j : Int) < (n : Int)) = false := by simp; omega
      have e : V = some o := HV.out.symm.trans (by rw [show n = j by omega]; exact HM.out)
      subst e
      have hol : o.length = n := by rw [mapAll_len HM.out]; omega
      obtain ⟨A3, c3, rfl, hA3⟩ := HO.out.own
      have hread := hA3.read
      rw [hol] at hread
      rw [hol]
      have HRE := Lib.hid hread
      have HRL := Lib.hid (fun r hr => (mulCols_at HM.out r hr).trans HL0.out)
      clear hread hA3 hol
      go_wp2_with fail
      refine (i_flip A3 n c3 o _ HRE.out hp (by omega) HRL.out).mono ?_
      rintro e w6 ⟨A6, c6, rfl, O6, hb6⟩
      have hw6 : Below w.heap.size w w6 := bl_call hb hb6
      have O6' := Lib.hid (O6.weak hs)
      clear O6 hb6
      go_wp2
      go_ret2
      exact ⟨A6, c6, rfl, O6'.out, hw6⟩
theorem i_MulM {A B : Option Addr} {n m c c' : Nat} {us vs : List (List DW)} (w : World) (hA : RM w w.heap.size A n us) (hB : RM w w.heap.size B m vs) (hn : n ≤ 9223372036854775807) (hr1 : ∀ r ∈ us, r.length ≤ 9223372036854775807) (hm : m ≤ 9223372036854775807) (hr2 : ∀ r ∈ vs, r.length ≤ 9223372036854775807) :
    Calls Try.prog 61 #[.slice A n c, .slice B m c'] w (RetVM w ((mulMD us vs).getD []) (mulMD us vs).isSome) := by
  by_cases h : okM us = true ∧ okM vs = true ∧ us.length = vs.length
  · obtain rfl : m = n := by rw [hA.1, hB.1]; exact h.2.2.symm
    have := i_MulM_ok A B m c c' us vs _ w hA hB h.1 h.2.1 rfl
    have e : mulMD us vs = (mulCols us vs m).map fun l => flipL l m := by unfold mulMD; rw [if_pos h, ← hA.1]
    rw [e, Option.isSome_map]
    exact this
  · have e : mulMD us vs = none := by unfold mulMD; rw [if_neg h]
    rw [e]
    exact i_MulM_bad A B n m c c' us vs w hA hB hn hm hr1 hr2 h
set_option maxHeartbeats 400000 in
theorem s_MulM_bad (A B : Option Addr) (n m c c' : Nat) (us vs : List (List DW)) (w : World) (hA : RM w w.heap.size A n us) (hB : RM w w.heap.size B m vs) (hn : n ≤ 9223372036854775807) (hm : m ≤ 9223372036854775807) (hr1 : ∀ r ∈ us, r.length ≤ 9223372036854775807) (hr2 : ∀ r ∈ vs, r.length ≤ 9223372036854775807) (hbad : ¬ (okM us = true ∧ okM vs = true ∧ us.length = vs.length)) :
    Calls Try.prog 60 #[.slice A n c, .slice B m c'] w (RetVM w [] false) := by
  have HA := Lib.hid hA
  have HB := Lib.hid hB
  clear hA hB
  cases hous : okM us
  · have hvus : ∀ W, RM W W.heap.size A n us → Calls Try.prog 91 #[.slice A n c] W (Ret (.bool false) W) := fun W h => by have := s_VM A n c us W h hn hr1; rwa [hous] at this
    have HVus := Lib.hid hvus
    clear hvus
    clear hbad hous
    go_enter Try.func60, Try.ntmps60
    go_wp2_with fail
    refine (HVus.out _ HA.out).mono ?_
    rintro e w1 ⟨rfl, hb1⟩
    go_wp2
    go_ret2
    refine ⟨_, _, rfl, OwnM.nil, ?_⟩
    repeat (first | (with_reducible exact Below.refl _ _) | (with_reducible assumption) | (with_reducible refine bl_alloc ?_ _) | (with_reducible refine bl_drew ?_) | (with_reducible refine bl_set ?_ (by simp <;> omega) _) | (with_reducible refine bl_call ?_ (by assumption)))
  · have hvus : ∀ W, RM W W.heap.size A n us → Calls Try.prog 91 #[.slice A n c] W (Ret (.bool true) W) := fun W h => by have := s_VM A n c us W h hn hr1; rwa [hous] at this
    have HVus := Lib.hid hvus
    clear hvus
    cases hovs : okM vs
    · have hvvs : ∀ W, RM W W.heap.size B m vs → Calls Try.prog 91 #[.slice B m c'] W (Ret (.bool false) W) := fun W h => by have := s_VM B m c' vs W h hm hr2; rwa [hovs] at this
      have HVvs := Lib.hid hvvs
      clear hvvs
      clear hbad hous hovs
      go_enter Try.func60, Try.ntmps60
      go_wp2_with fail
      refine (HVus.out _ HA.out).mono ?_
      rintro e w1 ⟨rfl, hb1⟩
      have HW1 := Lib.hid (bl_call (Below.refl _ _) hb1)
      have RB1 := Lib.hid (HB.out.call HW1.out)
      clear hb1
      go_wp2_with fail
      refine (HVvs.out _ RB1.out).mono ?_
      rintro e w2 ⟨rfl, hb2⟩
      have hw2 := bl_call HW1.out hb2
      clear hb2
      go_wp2
      go_ret2
      refine ⟨_, _, rfl, OwnM.nil, ?_⟩
      repeat (first | (with_reducible exact Below.refl _ _) | (with_reducible assumption) | (with_reducible refine bl_alloc ?_ _) | (with_reducible refine bl_drew ?_) | (with_reducible refine bl_set ?_ (by simp <;> omega) _) | (with_reducible refine bl_call ?_ (by assumption)))
    · have hvvs : ∀ W, RM W W.heap.size B m vs → Calls Try.prog 91 #[.slice B m c'] W (Ret (.bool true) W) := fun W h => by have := s_VM B m c' vs W h hm hr2; rwa [hovs] at this
      have HVvs := Lib.hid hvvs
      clear hvvs
      have hne : n ≠ m := fun e => hbad ⟨hous, hovs, by rw [← HA.out.1, ← HB.out.1]; exact e⟩
      clear hbad hous hovs
      have hq : ((n : Int) != (m : Int)) = true := by simp; omega
      clear hne
      go_enter Try.func60, Try.ntmps60
      go_wp2_with fail
      refine (HVus.out _ HA.out).mono ?_
      rintro e w1 ⟨rfl, hb1⟩
      have HW1 := Lib.hid (bl_call (Below.refl _ _) hb1)
      have RB1 := Lib.hid (HB.out.call HW1.out)
      clear hb1
      go_wp2_with fail
      refine (HVvs.out _ RB1.out).mono ?_
      rintro e w2 ⟨rfl, hb2⟩
      have hw2 := bl_call HW1.out hb2
      clear hb2
      go_wp2
      go_ret2
      refine ⟨_, _, rfl, OwnM.nil, ?_⟩
      repeat (first | (with_reducible exact Below.refl _ _) | (with_reducible assumption) | (with_reducible refine bl_alloc ?_ _) | (with_reducible refine bl_drew ?_) | (with_reducible refine bl_set ?_ (by simp <;> omega) _) | (with_reducible refine bl_call ?_ (by assumption)))
set_option maxHeartbeats 4000000 in
theorem s_MulM_ok (A B : Option Addr) (n c c' : Nat) (us vs : List (List DW)) (V : Option (List (List DW))) (w : World) (hA : RM w w.heap.size A n us) (hB : RM w w.heap.size B n vs) (hous : okM us = true) (hovs : okM vs = true) (hV : mulCols us vs n = V) :
    Calls Try.prog 60 #[.slice A n c, .slice B n c'] w (RetVM w ((V.map fun l => flipL l n).getD []) V.isSome) := by
  have HV := Lib.hid hV
  have hl0 : us.length = n := hA.1.symm
  have hl1 : vs.length = n := hB.1.symm
  have hparts := okM_parts hous
  rw [hl0] at hparts
  obtain ⟨hp, h16, hrows⟩ := hparts
  have hparts' := okM_parts hovs
  rw [hl1] at hparts'
  obtain ⟨-, -, hrows'⟩ := hparts'
  have HL0 := Lib.hid hl0
  have HL1 := Lib.hid hl1
  have hr1 : ∀ r ∈ us, r.length ≤ 9223372036854775807 := fun r hr => by have := (hrows r hr).1; omega
  have hr2 : ∀ r ∈ vs, r.length ≤ 9223372036854775807 := fun r hr => by have := (hrows' r hr).1; omega
  have hap0 : ∀ (A B : Option Addr) (c c' k : Nat) (W : World), RM W W.heap.size A n us → RD W W.heap.size B n (colL vs k) → Calls Try.prog 57 #[.slice A n c, .slice B n c'] W (RetV W 29 ((applyD us (colL vs k)).getD []) (applyD us (colL vs k)).isSome) := fun A B c c' k W h1 h2 => s_Apply W h1 h2 (by omega) hr1 (by omega)
  have HAP := Lib.hid hap0
  clear hap0
  have HROW' := Lib.hid (fun r hr => (hrows' r hr).1)
  clear hV hrows hrows' hl0 hl1
  have hvus : ∀ W, RM W W.heap.size A n us → Calls Try.prog 91 #[.slice A n c] W (Ret (.bool true) W) := fun W h => by have := s_VM A n c us W h (by omega) hr1; rwa [hous] at this
  have HVus := Lib.hid hvus
  clear hvus
  have hvvs : ∀ W, RM W W.heap.size B n vs → Calls Try.prog 91 #[.slice B n c'] W (Ret (.bool true) W) := fun W h => by have := s_VM B n c' vs W h (by omega) hr2; rwa [hovs] at this
  have HVvs := Lib.hid hvvs
  clear hvvs
  have HA := Lib.hid hA
  have HB := Lib.hid hB
  clear hA hB hous hovs
  have hq : ((n : Int) != (n : Int)) = false := by simp
  go_enter Try.func60, Try.ntmps60
  go_wp2_with fail
  refine (HVus.out _ HA.out).mono ?_
  rintro e w1 ⟨rfl, hb1⟩
  have HW1 := Lib.hid (bl_call (Below.refl _ _) hb1)
  have RB1 := Lib.hid (HB.out.call HW1.out)
  clear hb1
  go_wp2_with fail
  refine (HVvs.out _ RB1.out).mono ?_
  rintro e w2 ⟨rfl, hb2⟩
  have HW2 := Lib.hid (bl_call HW1.out hb2)
  clear hb2 HVus HVvs RB1 HW1
  clear hr1 hr2
  have hs2 := HW2.out.size
  obtain ⟨wB, rfl⟩ : ∃ wB, wB = w2 := ⟨_, rfl⟩
  have hsB : w.heap.size ≤ wB.heap.size := hs2
  have HWB := Lib.hid HW2.out
  go_wp2
  go_loopw [6, 7] (fun v i wr => ColsRel wB us vs n v i wr) (fun _ i _ => n - (intOf i).toNat)
  case atStart => exact ⟨0, [], by omega, rfl, rfl, .inl ⟨rfl, _, rfl⟩, below_alloc _ _, by simp⟩
  case round =>
    obtain ⟨j, o, hj, rfl, hm, hO, hbB, hsB'⟩ := hrel
    obtain ⟨wo, rfl⟩ : ∃ wo : World, wo = wr := ⟨_, rfl⟩
    have HO := Lib.hid hO
    have HM := Lib.hid hm
    have hb : Below w.heap.size w wo := HWB.out.trans (hbB.mono hsB)
    have hs : w.heap.size ≤ wo.heap.size := by omega
    clear hO hm HW2
    by_cases hlt : j < n
    · have hd : decide ((j : Int) < (n : Int)) = true := by simp; omega
      have R0 := Lib.hid ((HA.out.keep hb).more hs)
      obtain ⟨ds, ok, hds, hok⟩ : ∃ ds ok, (applyD us (colL vs j)).getD [] = ds ∧ (applyD us (colL vs j)).isSome = ok := ⟨_, _, rfl, rfl⟩
      have hap1 : ∀ (A B : Option Addr) (c c' : Nat) (W : World), RM W W.heap.size A n us → RD W W.heap.size B n (colL vs j) → Calls Try.prog 57 #[.slice A n c, .slice B n c'] W (RetV W 29 ds ok) := fun A B c c' W h1 h2 => by
        have := HAP.out A B c c' j W h1 h2
        rwa [hds, hok] at this
      have HAP' := Lib.hid hap1
      clear hap1
      have hT : ok = true → applyD us (colL vs j) = some ds ∧ ds.length = n := fun e => by
        rw [e] at hok
        obtain ⟨d', hd'⟩ := Option.isSome_iff_exists.1 hok
        rw [hd'] at hds
        rw [hd', ← hds]
        exact ⟨rfl, by rw [← HL0.out]; exact applyD_len hd'⟩
      have hF : ok = false → applyD us (colL vs j) = none := fun e => by
        rw [e] at hok
        simpa using hok
      have HT := Lib.hid hT
      have HF := Lib.hid hF
      clear hT hF hds hok
      have i0 : (0 : Int) ≤ (j : Int) := by omega
      have i1 : (j : Int) < (n : Int) := by omega
      go_wp2_with fail
      refine (s_col B n c' j vs _ ((HB.out.keep hb).more hs) (fun r hr => by have := HROW'.out r hr; omega) (by omega) (by omega)).mono ?_
      rintro e w4 ⟨A4, c4, rfl, O4, hb4⟩
      have hcl : (colL vs j).length = n := by rw [colL_length]; exact HL1.out
      have hrd := O4.read
      rw [hcl] at hrd
      rw [hcl]
      have RC := Lib.hid hrd
      have RA := Lib.hid (R0.out.call hb4)
      have HO4 := Lib.hid (HO.out.call hb4)
      have HB4 := Lib.hid (bl_call hb hb4)
      have HBB4 := Lib.hid (bl_call hbB hb4)
      have hs4 : wB.heap.size ≤ w4.heap.size := by have := hb4.size; omega
      clear O4 hrd hcl hb4
      go_wp2_with fail
      refine (HAP'.out _ _ _ _ _ RA.out RC.out).mono ?_
      rintro e w5 ⟨A5, c5, rfl, O5, hb5⟩
      have hs5 := hb5.size
      have HB5 := Lib.hid (bl_call HB4.out hb5)
      have HBB5 := Lib.hid (bl_call HBB4.out hb5)
      cases ok
      · have e : V = none := HV.out.symm.trans (mapAll_stop (k := j) (HF.out rfl) hlt)
        subst e
        have HBB := HB5.out
        clear hb5 O5
        go_wp2
        go_ret2
        refine ⟨_, _, rfl, OwnM.nil, ?_⟩
        repeat (first | (with_reducible exact Below.refl _ _) | (with_reducible assumption) | (with_reducible refine bl_alloc ?_ _) | (with_reducible refine bl_drew ?_) | (with_reducible refine bl_set ?_ (by simp <;> omega) _) | (with_reducible refine bl_call ?_ (by assumption)))
      · obtain ⟨hap, hdl⟩ := HT.out rfl
        have HS := Lib.hid (show mulCols us vs (j + 1) = some (o ++ [ds]) from mapAll_succ HM.out hap)
        have hl := mapAll_len HM.out
        have hl' : o.length ≤ 2000000 := by omega
        have HNW := Lib.hid (NewRow.of_own (base := wB.heap.size) O5 (by rw [hdl]; exact hp) (by omega))
        have HO5 := Lib.hid (HO4.out.call hb5)
        have HB5' := Lib.hid hb5
        have HDL := Lib.hid hdl
        clear hl hap hb5 O5 hdl
        go_wp2_with (at_builtin; refine app_stepM2 _ rfl (.tmp 44) (.tmp 46) rfl wB.heap.size _ _ rfl w4 HO4.out (bl_alloc HB5'.out _) w5.heap.size A5 ds c5 rfl (by simp) (HNW.out.call (below_alloc _ _)) hl' (by simp; omega) ?_; intro v' w' hO' hg')
        go_roundw
        case rel =>
          have hz := hg'.size
          refine ⟨j + 1, _, by omega, by go_num, HS.out, .inr hO', Grown.below (bl_alloc HBB5.out _) hg' (Nat.le_refl _) (by simp; omega), ?_⟩
          simp at hz
          omega
        case measure => simp [intOf]; omega
    · have hd : decide ((j : Int) < (n : Int)) = false := by simp; omega
      have e : V = some o := HV.out.symm.trans (by rw [show n = j by omega]; exact HM.out)
      subst e
      have hol : o.length = n := by rw [mapAll_len HM.out]; omega
      obtain ⟨A3, c3, rfl, hA3⟩ := HO.out.own
      have hread := hA3.read
      rw [hol] at hread
      rw [hol]
      have HRE := Lib.hid hread
      have HRL := Lib.hid (fun r hr => (mulCols_at HM.out r hr).trans HL0.out)
      clear hread hA3 hol
      go_wp2_with fail
      refine (s_cols A3 n c3 o _ HRE.out hp (by omega) HRL.out).mono ?_
      rintro e w6 ⟨A6, c6, rfl, O6, hb6⟩
      have hw6 : Below w.heap.size w w6 := bl_call hb hb6
      have O6' := Lib.hid (O6.weak hs)
      clear O6 hb6
      go_wp2
      go_ret2
      exact ⟨A6, c6, rfl, O6'.out, hw6⟩
theorem s_MulM {A B : Option Addr} {n m c c' : Nat} {us vs : List (List DW)} (w : World) (hA : RM w w.heap.size A n us) (hB : RM w w.heap.size B m vs) (hn : n ≤ 9223372036854775807) (hr1 : ∀ r ∈ us, r.length ≤ 9223372036854775807) (hm : m ≤ 9223372036854775807) (hr2 : ∀ r ∈ vs, r.length ≤ 9223372036854775807) :
    Calls Try.prog 60 #[.slice A n c, .slice B m c'] w (RetVM w ((mulMD us vs).getD []) (mulMD us vs).isSome) := by
  by_cases h : okM us = true ∧ okM vs = true ∧ us.length = vs.length
  · obtain rfl : m = n := by rw [hA.1, hB.1]; exact h.2.2.symm
    have := s_MulM_ok A B m c c' us vs _ w hA hB h.1 h.2.1 rfl
    have e : mulMD us vs = (mulCols us vs m).map fun l => flipL l m := by unfold mulMD; rw [if_pos h, ← hA.1]
    rw [e, Option.isSome_map]
    exact this
  · have e : mulMD us vs = none := by unfold mulMD; rw [if_neg h]
    rw [e]
    exact s_MulM_bad A B n m c c' us vs w hA hB hn hm hr1 hr2 h
end Go.Proofs.Ytaokfppadfoniaa
