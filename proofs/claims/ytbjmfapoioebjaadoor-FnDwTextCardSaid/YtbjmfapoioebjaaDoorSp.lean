/- Contracts: cutting a text at a byte; the marks in slices of strings. -/
import Derived.Test.YtbjmfapoioebjaaDoorSt
import Derived.Test.YtbjmfapoioebjaaDoorShS
namespace Go.Proofs.YtbjmfapoioebjaaDoor
open Go.RowKit
set_option linter.unusedVariables false
set_option maxRecDepth 20000

def SpOk (b : UInt8) (l : List UInt8) (k f : Nat) (done : List (List UInt8)) : Prop :=
  (k ≤ l.length ∧ f ≤ k ∧ done ++ spl b (l.drop f) = spl b l ∧ b ∉ (l.drop f).take (k - f)) ∨ (k = l.length + 1 ∧ done = spl b l)
theorem sp_start (b : UInt8) (l : List UInt8) : SpOk b l 0 0 [] := .inl ⟨by omega, by omega, by simp, by simp⟩
theorem sp_last {b : UInt8} {l : List UInt8} {f : Nat} {done : List (List UInt8)} (h : SpOk b l l.length f done) : f ≤ l.length ∧ SpOk b l (l.length + 1) (l.length + 1) (done ++ [(l.drop f).take (l.length - f)]) := by
  rcases h with ⟨_, h2, h3, h4⟩ | ⟨h1, _⟩
  · refine ⟨h2, .inr ⟨rfl, ?_⟩⟩
    have e : (l.drop f).take (l.length - f) = l.drop f := List.take_of_length_le (by simp)
    rw [e] at h4 ⊢
    rw [spl_none h4] at h3
    exact h3
  · omega
theorem sp_hit {b : UInt8} {l : List UInt8} {k f : Nat} {done : List (List UInt8)} (h : SpOk b l k f done) (hk : k < l.length) (hb : l[k]? = some b) : f ≤ k ∧ SpOk b l (k + 1) (k + 1) (done ++ [(l.drop f).take (k - f)]) := by
  rcases h with ⟨_, h2, h3, h4⟩ | ⟨h1, _⟩
  · refine ⟨h2, .inl ⟨by omega, by omega, ?_, by simp⟩⟩
    have e : l.drop f = (l.drop f).take (k - f) ++ b :: l.drop (k + 1) := by
      have e1 : (l.drop f)[k - f]? = some b := by rw [List.getElem?_drop]; have : f + (k - f) = k := by omega
                                                  rw [this]; exact hb
      have hlt : k - f < (l.drop f).length := (List.getElem?_eq_some_iff.1 e1).1
      have e2 : (l.drop f)[k - f] = b := (List.getElem?_eq_some_iff.1 e1).2
      have e3 : l.drop (k + 1) = (l.drop f).drop (k - f + 1) := by rw [List.drop_drop]; congr 1; omega
      rw [e3, ← e2, ← List.drop_eq_getElem_cons hlt, List.take_append_drop]
    rw [e, spl_hit _ h4] at h3
    rw [← h3, List.append_assoc]
    rfl
  · omega
theorem sp_miss {b : UInt8} {l : List UInt8} {k f : Nat} {done : List (List UInt8)} (h : SpOk b l k f done) (hk : k < l.length) {c : UInt8} (hc : l[k]? = some c) (hb : c ≠ b) : SpOk b l (k + 1) f done := by
  rcases h with ⟨_, h2, h3, h4⟩ | ⟨h1, _⟩
  · refine .inl ⟨by omega, by omega, h3, ?_⟩
    have e1 : (l.drop f)[k - f]? = some c := by
      rw [List.getElem?_drop]
      have : f + (k - f) = k := by omega
      rw [this]
      exact hc
    have e : k + 1 - f = (k - f) + 1 := by omega
    rw [e, List.take_add_one, e1]
    intro hm
    rcases List.mem_append.1 hm with hm | hm
    · exact h4 hm
    · simp at hm
      exact hb hm.symm
  · omega
def SpRel (w : World) (b : UInt8) (l : List UInt8) (v f i : Value) (wr : World) : Prop :=
  ∃ (k g : Nat) (done : List (List UInt8)), k ≤ l.length + 1 ∧ g ≤ l.length + 1 ∧ i = .int .i64 (k : Int) ∧ f = .int .i64 (g : Int) ∧ OutX wr w.heap.size v done ∧ done.length ≤ k ∧ SpOk b l k g done ∧ Below w.heap.size w wr ∧ w.heap.size ≤ wr.heap.size
set_option maxHeartbeats 1000000 in
theorem s_Split (s : ByteArray) (b : UInt8) (w : World) (hs : s.size ≤ 1048576) : Calls Tryd.prog 14 #[.string s, .int .u8 (b.toNat : Int)] w (RetX w (spl b s.data.toList)) := by
  have hlen : s.data.toList.length = s.size := by simp
  have HL := Lib.hid hlen
  clear hlen
  go_enter Tryd.func14, Tryd.ntmps14
  go_wp2
  go_loopw [5, 6, 7] (fun v f i wr => SpRel w b s.data.toList v f i wr) (fun _ _ i _ => s.size + 1 - (intOf i).toNat)
  case atStart => exact ⟨0, 0, [], by omega, by omega, rfl, rfl, OutX.start w _ _ (Nat.le_refl _) rfl, by simp, sp_start _ _, bl_alloc (Below.refl _ _) _, by simp⟩
  case round =>
    obtain ⟨k, g, done, hk, hg, rfl, rfl, hO, hdl, hok, hb, hw⟩ := hrel
    rw [HL.out] at hk hg
    have HO := Lib.hid hO
    have HK := Lib.hid hok
    clear hO hok
    have i0 : (0 : Int) ≤ (g : Int) := by omega
    have k0 : (0 : Int) ≤ (k : Int) := by omega
    by_cases hlt : k ≤ s.size
    · have d1 : decide ((k : Int) ≤ (s.size : Int)) = true := by simp; omega
      have d1' : decide (k ≤ s.size) = true := by simp; omega
      by_cases hkn : k = s.size
      · have q1 : ((k : Int) == (s.size : Int)) = true := by rw [beq_iff_eq]; omega
        obtain ⟨hgl, hnext⟩ := sp_last (b := b) (l := s.data.toList) (f := g) (done := done) (by have := HK.out; rwa [hkn, ← HL.out] at this)
        rw [HL.out] at hgl hnext
        have hx : s.extract g k = str ((s.data.toList.drop g).take (s.size - g)) := by rw [hkn]; exact Lib.extract_eq s g s.size
        have HX := Lib.hid hx
        have HNX := Lib.hid hnext
        have HKN := Lib.hid hkn
        clear hx hnext hkn
        have i1 : (g : Int) ≤ (k : Int) := by have := HKN.out; omega
        have i2 : (k : Int) ≤ (s.size : Int) := by omega
        go_wp2_with (at_builtin; refine app_stepX _ rfl (.tmp 26) (.tmp 31) rfl w.heap.size _ _ rfl (HO.out.alloc _) wr.heap.size ((s.data.toList.drop g).take (s.size - g)) rfl (by rw [← HX.out]; simp) (by omega) (by simp; omega) ?_; intro v' w' hO' hg' hrow')
        go_roundw
        case rel =>
          have hz := hg'.size
          have hkn := HKN.out
          refine ⟨k + 1, k + 1, _, by rw [HL.out]; omega, by rw [HL.out]; omega, by go_num, by go_num, hO', by simp; omega, ?_, below_grownX (bl_alloc hb _) hg' hrow' (by simp; omega), ?_⟩
          · rw [hkn]
            exact HNX.out
          · simp at hz
            omega
        case measure => simp [intOf]; omega
      · have q1 : ((k : Int) == (s.size : Int)) = false := by rw [beq_eq_false_iff_ne]; omega
        have hk1 : k < s.size := by omega
        have hat := at_of hk1
        by_cases hc : s[k] = b
        · obtain ⟨hgl, hnext⟩ := sp_hit (b := b) HK.out (by rw [HL.out]; exact hk1) (by rw [hat, hc])
          have q2 : (((s[k]).toNat : Int) == (b.toNat : Int)) = true := by rw [hc]; simp
          have hx : s.extract g k = str ((s.data.toList.drop g).take (k - g)) := Lib.extract_eq s g k
          have HX := Lib.hid hx
          have HNX := Lib.hid hnext
          clear hx hnext hat hc
          have i1 : (g : Int) ≤ (k : Int) := by omega
          have i2 : (k : Int) ≤ (s.size : Int) := by omega
          go_wp2_with (at_builtin; refine app_stepX _ rfl (.tmp 26) (.tmp 31) rfl w.heap.size _ _ rfl (HO.out.alloc _) wr.heap.size ((s.data.toList.drop g).take (k - g)) rfl (by rw [← HX.out]; simp) (by omega) (by simp; omega) ?_; intro v' w' hO' hg' hrow')
          go_roundw
          case rel =>
            have hz := hg'.size
            refine ⟨k + 1, k + 1, _, by rw [HL.out]; omega, by rw [HL.out]; omega, by go_num, by go_num, hO', by simp; omega, HNX.out, below_grownX (bl_alloc hb _) hg' hrow' (by simp; omega), ?_⟩
            simp at hz
            omega
          case measure => simp [intOf]; omega
        · have hnext := sp_miss (b := b) HK.out (by rw [HL.out]; exact hk1) hat hc
          have q2 : (((s[k]).toNat : Int) == (b.toNat : Int)) = false := by
            rw [beq_eq_false_iff_ne]
            intro e
            exact hc (UInt8.toNat_inj.1 (by omega))
          have HNX := Lib.hid hnext
          clear hnext hat hc
          go_wp2
          go_roundw
          case rel => exact ⟨k + 1, g, done, by rw [HL.out]; omega, by rw [HL.out]; omega, by go_num, rfl, HO.out, by omega, HNX.out, hb, hw⟩
          case measure => simp [intOf]; omega
    · have d1 : decide ((k : Int) ≤ (s.size : Int)) = false := by simp; omega
      have d1' : decide (k ≤ s.size) = false := by simp; omega
      have hd : done = spl b s.data.toList := by
        rcases HK.out with ⟨h1, _⟩ | ⟨_, h2⟩
        · rw [HL.out] at h1; omega
        · exact h2
      have HD := Lib.hid hd
      clear hd
      go_wp2
      go_ret
      have h := HO.out
      rw [HD.out] at h
      obtain ⟨A, c, rfl, hc, hA⟩ := h.slice
      exact ⟨A, c, rfl, hc, hA, hb⟩
theorem OwnX.made (W : World) (base : Nat) (ls : List (List UInt8)) (hb : base ≤ W.heap.size) : OwnX (W.alloc (.cells (cellsX ls).toArray 9)) base (some ⟨W.heap.size, 0, none⟩) ls := fun _ => by
  refine ⟨W.heap.size, (cellsX ls).toArray.size, fun j => (cellsX ls).getD j undef, rfl, hb, by simp [cellsX], World.rowIs_alloc W _ _ _ (fun i hi => ?_), fun j l hj => ?_⟩
  · simp at hi
    simp [List.getD_eq_getElem?_getD, hi]
  · show (cellsX ls).getD j undef = _
    rw [List.getD_eq_getElem?_getD]
    unfold cellsX
    rw [List.getElem?_map, hj]
    rfl
theorem spl_len (b : UInt8) (s : ByteArray) : (spl b s.data.toList).length ≤ s.size + 2 := by
  obtain ⟨_, q2⟩ := split_spl b s.data.toList.length s.data.toList (Nat.le_refl _)
  have := Lib.count_le s.data.toList [b]
  have e : s.data.toList.length = s.size := by simp
  omega
theorem spl_pos (b : UInt8) (l : List UInt8) : 0 < (spl b l).length := by
  obtain ⟨p, ps, h⟩ := spl_ne b l
  rw [h]
  simp
set_option maxHeartbeats 400000 in
theorem i_Split (s : ByteArray) (b : UInt8) (w : World) (hs : s.size ≤ 1048576) (hE : EnvS w) : Calls Tryd.prog 15 #[.string s, .int .u8 (b.toNat : Int)] w (RetX w (spl b s.data.toList)) := by
  obtain ⟨q1, q2⟩ := splitB_spl b s
  have hu : b.toNat < 256 := UInt8.toNat_lt _
  have hk := one_byte w (b.toNat : Int) (by omega) (by omega)
  have eb : UInt8.ofNat (b.toNat : Int).toNat = b := by simp
  rw [eb] at hk
  have H : ∀ (m : Int) W, W.cell? ⟨1, 0, none⟩ = some (.int .i64 m) → Calls Tryd.prog 38 #[.string s, .string (str [b])] W fun e w' =>
      e = .returned (.slice (some ⟨W.heap.size, 0, none⟩) (spl b s.data.toList).length (spl b s.data.toList).length) ∧ w' = W.alloc (.cells (cellsX (spl b s.data.toList)).toArray 9) := fun m W hm => by
    have := Tryd.strings_Split s (str [b]) m W (by omega) hm (by rw [str_size]; simp)
    rw [← q2, q1] at this
    unfold cellsX
    rw [List.map_map] at this
    exact this
  have K := Lib.hid H
  obtain ⟨m, hm⟩ := hE.call (bl_alloc (Below.refl w.heap.size w) (.cells #[.int .u8 (b.toNat : Int)] 5))
  have HM := Lib.hid hm
  obtain ⟨S1, hS1⟩ : ∃ S, str [b] = S := ⟨_, rfl⟩
  obtain ⟨ls, hls⟩ : ∃ ls, spl b s.data.toList = ls := ⟨_, rfl⟩
  have hp : 0 < ls.length := by rw [← hls]; exact spl_pos _ _
  rw [hS1] at hk
  rw [hls] at K ⊢
  rw [hS1] at K
  clear H hm q1 q2 hE eb hS1 hls
  go_enter Tryd.func15, Tryd.ntmps15
  go_wp2_with fail
  refine (K.out m _ HM.out).mono ?_
  rintro e w1 ⟨rfl, rfl⟩
  go_wp2
  go_ret
  refine ⟨_, _, rfl, Nat.le_refl _, ?_, bl_alloc (bl_alloc (Below.refl _ _) _) _⟩
  simpa using OwnX.made (w.alloc (.cells #[.int .u8 (b.toNat : Int)] 5)) w.heap.size ls (by simp)
def marksX (K n : Nat) : List (List UInt8) := (List.range n).map fun i => mark (K + i)
theorem marksX_length (K n : Nat) : (marksX K n).length = n := by simp [marksX]
theorem marksX_at {K n i : Nat} (h : i < n) : (marksX K n)[i]? = some (mark (K + i)) := by
  unfold marksX
  rw [List.getElem?_map, List.getElem?_range h]
  rfl
def mkx (K i : Nat) (f : Nat → Value) (j : Nat) : Value := if j < i then .string (str (mark (K + j))) else f j
theorem mkx_zero (K : Nat) (f : Nat → Value) (j : Nat) : mkx K 0 f j = f j := by unfold mkx; rw [if_neg (by omega)]
theorem mkx_store {w : World} {g N K i : Nat} {t : TypeId} {f : Nat → Value} (h : w.rowIs g t N (mkx K i f)) : (w.setCell ⟨g, i, none⟩ (.string (str (mark (K + i))))).rowIs g t N (mkx K (i + 1) f) := by
  refine (h.set i _).congr ?_
  intro j _
  by_cases e : j = i
  · subst e
    rw [if_pos rfl]
    unfold mkx
    rw [if_pos (by omega)]
  · rw [if_neg e]
    unfold mkx
    by_cases h1 : j < i
    · rw [if_pos h1, if_pos (by omega)]
    · rw [if_neg h1, if_neg (by omega)]
def MkRel (w : World) (base g N n K : Nat) (f : Nat → Value) (v i : Value) (wr : World) : Prop :=
  ∃ k : Nat, k ≤ n ∧ i = .int .i64 (k : Int) ∧ v = .int .i64 ((K + k : Nat) : Int) ∧ wr.rowIs g 9 N (mkx K k f) ∧ Below base w wr ∧ w.heap.size ≤ wr.heap.size
def RetMX (w : World) (base : Nat) (A : Option Addr) (K n : Nat) (e : Ending) (w' : World) : Prop :=
  e = .returned (.int .i64 ((K + n : Nat) : Int)) ∧ OwnX w' base A (marksX K n) ∧ Below base w w' ∧ w.heap.size ≤ w'.heap.size
set_option maxHeartbeats 400000 in
theorem markX (A : Option Addr) (n c K base : Nat) (ls : List (List UInt8)) (w : World) (hO : OwnX w base A ls) (hn : n = ls.length) (hp : 0 < n) (hK : 1 ≤ K) (hs : K + n ≤ 4611686018427387904) :
    Calls Tryd.prog 17 #[.slice A n c, .int .i64 (K : Int)] w (RetMX w base A K n) := by
  obtain ⟨g, N, f, rfl, hg, hN, hrow, hf⟩ := hO (by omega)
  have HROW := Lib.hid hrow
  rw [← hn] at hN
  clear hO hrow hf hn
  go_enter Tryd.func17, Tryd.ntmps17
  go_wp2
  go_loopw [1, 5] (fun v i wr => MkRel w base g N n K f v i wr) (fun _ i _ => n - (intOf i).toNat)
  case atStart => exact ⟨0, by omega, rfl, rfl, HROW.out.congr (fun j _ => (mkx_zero K f j).symm), Below.refl _ _, Nat.le_refl _⟩
  case round =>
    obtain ⟨k, hk, rfl, rfl, hrow, hb, hw⟩ := hrel
    have HR := Lib.hid hrow
    clear hrow
    by_cases hlt : k < n
    · have hd : decide ((k : Int) < (n : Int)) = true := by simp; omega
      obtain ⟨m, hm⟩ : ∃ m, K + k = m := ⟨_, rfl⟩
      have HM := Lib.hid hm
      rw [hm]
      have hm1 : 1 ≤ m := by omega
      have hm2 : m ≤ 4611686018427387904 := by omega
      clear hm
      have i0 : (0 : Int) ≤ (k : Int) := by omega
      have i1 : (k : Int) < (n : Int) := by omega
      go_wp2_with fail
      refine (markT m _ hm1 (by omega)).mono ?_
      rintro e w1 ⟨rfl, hb1⟩
      have hr1 := HR.out.of_block (hb1.block g HR.out.lt)
      have c0 := hr1.cell (i := k) (by omega)
      have f0 := hr1.frozen k
      have HR1 := Lib.hid hr1
      have hs1 := hb1.size
      have hw1 : Below base w w1 := hb.trans (hb1.mono (by have := HR.out.lt; omega))
      clear hr1 hb1
      go_wp2
      go_roundw
      case rel =>
        refine ⟨k + 1, by omega, by go_num, ?_, ?_, hw1.setCell hg _, by simp; omega⟩
        · have := HM.out
          congr 1
          omega
        · have := mkx_store HR1.out
          rw [HM.out] at this
          exact this
      case measure => simp [intOf]; omega
    · have hd : decide ((k : Int) < (n : Int)) = false := by simp; omega
      have HK := Lib.hid (show k = n by omega)
      go_wp2
      go_ret
      have e := HK.out
      subst e
      refine ⟨rfl, fun _ => ⟨g, N, _, rfl, hg, by rw [marksX_length]; exact hN, HR.out, fun j l hj => ?_⟩, hb, hw⟩
      have hjn : j < k := by rw [← marksX_length K k]; exact (List.getElem?_eq_some_iff.1 hj).1
      rw [marksX_at hjn] at hj
      injection hj with hj
      unfold mkx
      rw [if_pos hjn, hj]
def HxRel (w : World) (n K : Nat) (v i : Value) (wr : World) : Prop := ∃ k : Nat, k ≤ n ∧ i = .int .i64 (k : Int) ∧ v = .int .i64 ((K + k : Nat) : Int) ∧ Below w.heap.size w wr
set_option maxHeartbeats 400000 in
theorem heldX (A : Option Addr) (n c K base : Nat) (w : World) (hO : OwnX w base A (marksX K n)) (hp : 0 < n) (hK : 1 ≤ K) (hs : K + n ≤ 4611686018427387904) :
    Calls Tryd.prog 18 #[.slice A n c, .int .i64 (K : Int)] w (Ret (.int .i64 ((K + n : Nat) : Int)) w) := by
  have HO := Lib.hid hO.read
  rw [marksX_length] at HO
  clear hO
  go_enter Tryd.func18, Tryd.ntmps18
  go_wp2
  go_loopw [1, 5] (fun v i wr => HxRel w n K v i wr) (fun _ i _ => n - (intOf i).toNat)
  case atStart => exact ⟨0, by omega, rfl, rfl, Below.refl _ _⟩
  case round =>
    obtain ⟨k, hk, rfl, rfl, hb⟩ := hrel
    by_cases hlt : k < n
    · have hd : decide ((k : Int) < (n : Int)) = true := by simp; omega
      obtain ⟨b1, o1, l1, rfl, hl1, e1, c1⟩ := (HO.out.keep hb).at hlt
      rw [marksX_at hlt] at e1
      injection e1 with e1
      obtain ⟨m, hm⟩ : ∃ m, K + k = m := ⟨_, rfl⟩
      have HM := Lib.hid hm
      rw [hm] at e1 ⊢
      subst e1
      have hm1 : 1 ≤ m := by omega
      have hm2 : m ≤ 4611686018427387904 := by omega
      clear hm
      have i0 : (0 : Int) ≤ (k : Int) := by omega
      have i1 : (k : Int) < (n : Int) := by omega
      have eq := tl_eq (rfl : str (mark m) = str (mark m))
      have hlw : b1 < wr.heap.size := Nat.lt_of_lt_of_le hl1 hb.size
      have T := Lib.hid hb
      go_wp2_with fail
      go_region_held3 (fun w' => w'.cell? ⟨b1, o1 + k, none⟩ = some (.string (str (mark m)))) (first | exact c1 | go_keep) (first | (go_at_call 39; refine (markT m _ hm1 (by omega)).mono ?_; rintro e w1 ⟨rfl, hb1⟩; have c1 := (hb1.cell (p := ⟨b1, o1 + k, none⟩) hlw).trans c1; (first | have T := Lib.hid (bl_call T.out hb1) | have T := Lib.hid (bl_call (bl_drew T.out) hb1))))
      all_goals
        go_wp2
        go_roundw
        case rel =>
          refine ⟨k + 1, by omega, by go_num, ?_, ?_⟩
          · have := HM.out
            congr 1
            omega
          · first | exact T.out | exact T.out.drew
        case measure => simp [intOf]; omega
    · have hd : decide ((k : Int) < (n : Int)) = false := by simp; omega
      have HK := Lib.hid (show k = n by omega)
      go_wp2
      go_ret
      have e := HK.out
      subst e
      exact ret_mk hb
end Go.Proofs.YtbjmfapoioebjaaDoor
