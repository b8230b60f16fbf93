/- Contracts: reading the text of an element. -/
import Derived.Test.YtbjmfapoioebjaaDoorPd
import Derived.Test.YtbjmfapoioebjaaDoorSp
import Derived.Test.YtbjmfapoioebjaaDoorPa
namespace Go.Proofs.YtbjmfapoioebjaaDoor
open Go.RowKit
set_option linter.unusedVariables false
set_option maxRecDepth 20000

/-- A slice of texts of the call's own came back, n of them. -/
def RetC (w : World) (n : Nat) (ls : List (List UInt8)) (e : Ending) (w' : World) : Prop :=
  ∃ g c, e = .returned (.slice (some ⟨g, 0, none⟩) n c) ∧ n ≤ c ∧ w.heap.size ≤ g ∧ g < w'.heap.size ∧ (∀ i l, ls[i]? = some l → w'.cell? ⟨g, i, none⟩ = some (.string (str l))) ∧ Below w.heap.size w w'
theorem RetX.to {w w' : World} {ls : List (List UInt8)} {e : Ending} {n : Nat} (hn : ls.length = n) (hp : 0 < ls.length) (h : RetX w ls e w') : RetC w n ls e w' := by
  obtain ⟨A, c, rfl, hc, hO, hb⟩ := h
  obtain ⟨g, N, f, rfl, hg, hN, hrow, hf⟩ := hO hp
  refine ⟨g, c, by rw [hn], by omega, hg, hrow.lt, fun i l hl => ?_, hb⟩
  have hi : i < ls.length := (List.getElem?_eq_some_iff.1 hl).1
  rw [hrow.cell (by omega), hf i l hl]
theorem s_SplitC (s : ByteArray) (b : UInt8) (n : Nat) (w : World) (hs : s.size ≤ 1048576) (hn : (spl b s.data.toList).length = n) : Calls Tryd.prog 14 #[.string s, .int .u8 (b.toNat : Int)] w (RetC w n (spl b s.data.toList)) :=
  (s_Split s b w hs).mono fun _ _ h => h.to hn (spl_pos _ _)
theorem i_SplitC (s : ByteArray) (b : UInt8) (n : Nat) (w : World) (hs : s.size ≤ 1048576) (hE : EnvS w) (hn : (spl b s.data.toList).length = n) : Calls Tryd.prog 15 #[.string s, .int .u8 (b.toNat : Int)] w (RetC w n (spl b s.data.toList)) :=
  (i_Split s b w hs hE).mono fun _ _ h => h.to hn (spl_pos _ _)
theorem spl_head_len {b : UInt8} {l p : List UInt8} {r : List (List UInt8)} (h : spl b l = p :: r) : p.length ≤ l.length := by
  have a := join_spl b l
  rw [h, Lib.join_cons] at a
  rw [← a, List.length_append]
  omega
def z5 : Array Value := #[.int .i64 0, .int .i64 0, .int .i64 0, .int .i64 0, .int .i64 0]
/-- The answer. -/
def parV : Option DW → Value
  | none => .tuple #[.agg #[.int .i64 0, .int .i64 0, .int .i64 0, .int .i64 0, .int .i64 0], .bool false]
  | some x => .tuple #[.agg #[.int .i64 x.n.a, .int .i64 x.n.b, .int .i64 x.n.c, .int .i64 x.n.d, .int .i64 x.k], .bool true]
def PS (w X : World) (tx : TypeId) (gx : Nat) (vals : Array Value) (L : List (Nat × Nat × List UInt8)) : Prop :=
  Below w.heap.size w X ∧ Blk X w.heap.size 36 z5 ∧ Blk X gx tx vals ∧ w.heap.size < gx ∧ ∀ c ∈ L, X.cell? ⟨c.1, c.2.1, none⟩ = some (.string (str c.2.2)) ∧ c.1 ≠ gx ∧ c.1 < X.heap.size
section
variable {w X Y : World} {tx : TypeId} {gx : Nat} {vals : Array Value} {L : List (Nat × Nat × List UInt8)}
theorem PS.call (h : PS w X tx gx vals L) (hb : Below X.heap.size X Y) : PS w Y tx gx vals L := by
  obtain ⟨h1, h2, h3, h4, h5⟩ := h
  refine ⟨bl_call h1 hb, h2.call hb, h3.call hb, h4, fun c hc => ?_⟩
  obtain ⟨a, b, d⟩ := h5 c hc
  exact ⟨(hb.cell (p := ⟨c.1, c.2.1, none⟩) d).trans a, b, Nat.lt_of_lt_of_le d hb.size⟩
theorem PS.put (h : PS w X tx gx vals L) (i : Nat) (u : Value) : PS w (X.setCell ⟨gx, i, none⟩ u) tx gx (vals.setIfInBounds i u) L := by
  obtain ⟨h1, h2, h3, h4, h5⟩ := h
  refine ⟨bl_set h1 (Nat.le_of_lt h4) u, h2.far (Nat.ne_of_lt h4) u, h3.put i u, h4, fun c hc => ?_⟩
  obtain ⟨a, b, d⟩ := h5 c hc
  exact ⟨(World.cell?_setCell_other _ _ _ _ (by intro e; injection e with e _; exact b e.symm)).trans a, b, by simpa using d⟩
theorem PS.text (h : PS w X tx gx vals L) {c : Nat × Nat × List UInt8} (hc : c ∈ L) : X.cell? ⟨c.1, c.2.1, none⟩ = some (.string (str c.2.2)) := (h.2.2.2.2 c hc).1
end
set_option maxHeartbeats 1000000 in
theorem s_PD_bad (s : ByteArray) (n2 n4 : Nat) (h0 : List UInt8) (r : List (List UInt8)) (w : World) (hs : s.size ≤ 1048576) (e1 : spl 47 s.data.toList = h0 :: r) (e2 : (spl 47 s.data.toList).length = n2) (e4 : (spl 44 h0).length = n4) (hbad : n2 ≠ 2 ∨ n4 ≠ 4) :
    Calls Tryd.prog 31 #[.string s] w (Ret (parV none) w) := by
  have hp : 0 < n2 := by rw [← e2]; exact spl_pos _ _
  have hz0 : (str h0).size ≤ 1048576 := by
    rw [str_size]
    have := spl_head_len e1
    have e : s.data.toList.length = s.size := by simp
    omega
  have H1 := Lib.hid (fun W => s_SplitC s 47 n2 W hs e2)
  have H2 := Lib.hid (fun W => s_SplitC (str h0) 44 n4 W hz0 (by rw [str_data]; exact e4))
  have E1 := Lib.hid e1
  clear e1 e2 e4
  go_enter Tryd.func31, Tryd.ntmps31
  go_wp2_with fail
  refine (H1.out _).mono ?_
  rintro e w1 ⟨g2, c2, rfl, hc2, hg2, hl2, ht2, hb1⟩
  have q0 := ht2 0 h0 (by rw [E1.out]; rfl)
  have T1 : Own w w1 [(w.heap.size, 36, z5)] := by simpa using ((Own.start w).push 36 z5).call hb1
  clear ht2 hb1
  go_wp2_with fail
  refine (H2.out _).mono ?_
  rintro e w2 ⟨g4, c4, rfl, hc4, hg4, hl4, ht4, hb2⟩
  have T2 := T1.call hb2
  clear ht4 hb2 T1 q0
  obtain ⟨k0, k1, k2, k3, k4, f0, f1, f2, f3, f4⟩ := (show Blk w2 w.heap.size 36 #[.int .i64 0, .int .i64 0, .int .i64 0, .int .i64 0, .int .i64 0] from T2.head).five
  have hw := T2.below
  have hlt := T2.head.lt
  clear T2
  by_cases c1 : n2 = 2
  · have d1 : ((n2 : Int) != 2) = false := by simp; omega
    have d2 : ((n4 : Int) != 4) = true := by rw [bne_iff_ne]; omega
    have C1 := Lib.hid c1
    clear c1
    go_wp2
    refine bodyPost_ret (v := .tuple #[.agg #[.int .i64 0, .int .i64 0, .int .i64 0, .int .i64 0, .int .i64 0], .bool false]) (by simp [results, Tryd.results31, go_sem, *]) rfl (ret_mk ?_)
    repeat (first | (with_reducible exact Below.refl _ _) | (with_reducible assumption) | (with_reducible refine bl_alloc ?_ _) | (with_reducible refine bl_drew ?_) | (with_reducible refine bl_set ?_ (by simp <;> omega) _) | (with_reducible refine bl_call ?_ (by assumption)))
  · have d1 : ((n2 : Int) != 2) = true := by rw [bne_iff_ne]; omega
    go_wp2
    refine bodyPost_ret (v := .tuple #[.agg #[.int .i64 0, .int .i64 0, .int .i64 0, .int .i64 0, .int .i64 0], .bool false]) (by simp [results, Tryd.results31, go_sem, *]) rfl (ret_mk ?_)
    repeat (first | (with_reducible exact Below.refl _ _) | (with_reducible assumption) | (with_reducible refine bl_alloc ?_ _) | (with_reducible refine bl_drew ?_) | (with_reducible refine bl_set ?_ (by simp <;> omega) _) | (with_reducible refine bl_call ?_ (by assumption)))
set_option maxHeartbeats 2000000 in
theorem s_PD_ok (s : ByteArray) (h0 h1 t0 t1 t2 t3 : List UInt8) (a b c d k : Int) (V : Option DW) (w : World) (hs : s.size ≤ 1048576) (e1 : spl 47 s.data.toList = [h0, h1]) (e2 : spl 44 h0 = [t0, t1, t2, t3]) (va : (P12 t0).getD 0 = a) (vb : (P12 t1).getD 0 = b) (vc : (P12 t2).getD 0 = c) (vd : (P12 t3).getD 0 = d) (vk : (P6 h1).getD 0 = k) (hV : V = if fmtD a b c d k = s.data.toList then some ⟨⟨a, b, c, d⟩, k⟩ else none) :
    Calls Tryd.prog 31 #[.string s] w (Ret (parV V) w) := by
  have es : s.data.toList.length = s.size := by simp
  have hz0 : (str h0).size ≤ 1048576 := by rw [str_size]; have := spl_head_len e1; omega
  have hpt := parts_text e1 e2
  have hpl := congrArg List.length hpt
  simp only [List.length_append] at hpl
  have H1 := Lib.hid (fun W => s_SplitC s 47 2 W hs (by rw [e1]; rfl))
  have H2 := Lib.hid (fun W => s_SplitC (str h0) 44 4 W hz0 (by rw [str_data, e2]; rfl))
  obtain ⟨o0, p0⟩ : ∃ ok, ∀ W, Calls Tryd.prog 25 #[.string (str t0)] W (Ret (.tuple #[.int .i64 a, .bool ok]) W) := ⟨(P12 t0).isSome, fun W => by have := s_PInt (str t0) W (by rw [str_size]; omega); rw [str_data] at this; unfold optV at this; rw [← va]; exact this⟩
  obtain ⟨o1, p1⟩ : ∃ ok, ∀ W, Calls Tryd.prog 25 #[.string (str t1)] W (Ret (.tuple #[.int .i64 b, .bool ok]) W) := ⟨(P12 t1).isSome, fun W => by have := s_PInt (str t1) W (by rw [str_size]; omega); rw [str_data] at this; unfold optV at this; rw [← vb]; exact this⟩
  obtain ⟨o2, p2⟩ : ∃ ok, ∀ W, Calls Tryd.prog 25 #[.string (str t2)] W (Ret (.tuple #[.int .i64 c, .bool ok]) W) := ⟨(P12 t2).isSome, fun W => by have := s_PInt (str t2) W (by rw [str_size]; omega); rw [str_data] at this; unfold optV at this; rw [← vc]; exact this⟩
  obtain ⟨o3, p3⟩ : ∃ ok, ∀ W, Calls Tryd.prog 25 #[.string (str t3)] W (Ret (.tuple #[.int .i64 d, .bool ok]) W) := ⟨(P12 t3).isSome, fun W => by have := s_PInt (str t3) W (by rw [str_size]; omega); rw [str_data] at this; unfold optV at this; rw [← vd]; exact this⟩
  obtain ⟨o4, p4⟩ : ∃ ok, ∀ W, Calls Tryd.prog 27 #[.string (str h1)] W (Ret (.tuple #[.int .i64 k, .bool ok]) W) := ⟨(P6 h1).isSome, fun W => by have := s_PNum (str h1) W (by rw [str_size]; omega); rw [str_data] at this; unfold optV at this; rw [← vk]; exact this⟩
  have P0 := Lib.hid p0
  have P1 := Lib.hid p1
  have P2 := Lib.hid p2
  have P3 := Lib.hid p3
  have P4 := Lib.hid p4
  have E1 := Lib.hid e1
  have E2 := Lib.hid e2
  have HV := Lib.hid hV
  clear p0 p1 p2 p3 p4 e1 e2 hV va vb vc vd vk hpt hpl es
  go_enter Tryd.func31, Tryd.ntmps31
  go_wp2_with fail
  refine (H1.out _).mono ?_
  rintro e w1 ⟨g2, c2, rfl, hc2, hg2, hl2, ht2, hb1⟩
  have q0 := ht2 0 h0 (by rw [E1.out]; rfl)
  have q1 := ht2 1 h1 (by rw [E1.out]; rfl)
  have T1 : Own w w1 [(w.heap.size, 36, z5)] := by simpa using ((Own.start w).push 36 z5).call hb1
  clear ht2 hb1
  simp at hg2
  go_wp2_with fail
  refine (H2.out _).mono ?_
  rintro e w2 ⟨g4, c4, rfl, hc4, hg4, hl4, ht4, hb2⟩
  rw [str_data] at ht4
  have r0 := ht4 0 t0 (by rw [E2.out]; rfl)
  have r1 := ht4 1 t1 (by rw [E2.out]; rfl)
  have r2 := ht4 2 t2 (by rw [E2.out]; rfl)
  have r3 := ht4 3 t3 (by rw [E2.out]; rfl)
  have q1' := (hb2.cell (p := ⟨g2, 1, none⟩) hl2).trans q1
  have hs2 := hb2.size
  have T2 := T1.call hb2
  have S0 : PS w (w2.alloc (.cells z5 36)) 36 w2.heap.size #[.int .i64 0, .int .i64 0, .int .i64 0, .int .i64 0, .int .i64 0] [(g2, 1, h1), (g4, 0, t0), (g4, 1, t1), (g4, 2, t2), (g4, 3, t3)] := by
    refine ⟨(T2.push 36 z5).below, (T2.push 36 z5).tail.head, Blk.new w2 _ _, T2.head.lt, fun c hc => ?_⟩
    have ha : Below w2.heap.size w2 (w2.alloc (.cells z5 36)) := bl_alloc (Below.refl _ _) _
    simp only [List.mem_cons, List.mem_nil_iff, or_false] at hc
    rcases hc with rfl | rfl | rfl | rfl | rfl
    · exact ⟨(ha.cell (p := ⟨g2, 1, none⟩) (show g2 < w2.heap.size by omega)).trans q1', (show g2 ≠ w2.heap.size by omega), by simp; omega⟩
    · exact ⟨(ha.cell (p := ⟨g4, 0, none⟩) (show g4 < w2.heap.size by omega)).trans r0, (show g4 ≠ w2.heap.size by omega), by simp; omega⟩
    · exact ⟨(ha.cell (p := ⟨g4, 1, none⟩) (show g4 < w2.heap.size by omega)).trans r1, (show g4 ≠ w2.heap.size by omega), by simp; omega⟩
    · exact ⟨(ha.cell (p := ⟨g4, 2, none⟩) (show g4 < w2.heap.size by omega)).trans r2, (show g4 ≠ w2.heap.size by omega), by simp; omega⟩
    · exact ⟨(ha.cell (p := ⟨g4, 3, none⟩) (show g4 < w2.heap.size by omega)).trans r3, (show g4 ≠ w2.heap.size by omega), by simp; omega⟩
  have K0 := Lib.hid S0
  have l4 : g4 < w2.heap.size := by omega
  have n4 : ¬ g4 = w2.heap.size := by omega
  have n4' : ¬ w2.heap.size = g4 := by omega
  clear S0 q0 q1 q1' r1 r2 r3 ht4 hb2 T1 T2 hg2 hl2 hg4 hl4 hs2 hc2 hc4
  go_wp2_with fail
  refine (P0.out _).mono ?_
  rintro e w3 ⟨rfl, hb3⟩
  clear r0 l4 n4 n4'
  have K1 := Lib.hid (K0.out.call hb3)
  clear hb3 K0
  have S1 := K1.out.put 0 (.int .i64 a)
  have y1 := K1.out.text (List.mem_cons_of_mem _ (List.mem_cons_of_mem _ List.mem_cons_self))
  have y1' := S1.text (List.mem_cons_of_mem _ (List.mem_cons_of_mem _ List.mem_cons_self))
  obtain ⟨k0, k1, k2, k3, k4, f0, f1, f2, f3, f4⟩ := (show Blk w3 w2.heap.size 36 #[.int .i64 0, .int .i64 0, .int .i64 0, .int .i64 0, .int .i64 0] from K1.out.2.2.1).five
  have gl := K1.out.2.2.1.lt
  have SS := Lib.hid S1
  clear S1
  go_wp2_with fail
  refine (P1.out _).mono ?_
  rintro e w4 ⟨rfl, hb4⟩
  have K2 := Lib.hid (show PS w w4 36 w2.heap.size #[.int .i64 a, .int .i64 0, .int .i64 0, .int .i64 0, .int .i64 0] _ from SS.out.call hb4)
  clear hb4 K1 SS y1 y1' k0 k1 k2 k3 k4 f0 f1 f2 f3 f4 gl
  have S2 := K2.out.put 1 (.int .i64 b)
  have y2 := K2.out.text (List.mem_cons_of_mem _ (List.mem_cons_of_mem _ (List.mem_cons_of_mem _ List.mem_cons_self)))
  have y2' := S2.text (List.mem_cons_of_mem _ (List.mem_cons_of_mem _ (List.mem_cons_of_mem _ List.mem_cons_self)))
  obtain ⟨k0, k1, k2, k3, k4, f0, f1, f2, f3, f4⟩ := (show Blk w4 w2.heap.size 36 #[.int .i64 a, .int .i64 0, .int .i64 0, .int .i64 0, .int .i64 0] from K2.out.2.2.1).five
  have gl := K2.out.2.2.1.lt
  have SS := Lib.hid S2
  clear S2
  go_wp2_with fail
  refine (P2.out _).mono ?_
  rintro e w5 ⟨rfl, hb5⟩
  have K3 := Lib.hid (show PS w w5 36 w2.heap.size #[.int .i64 a, .int .i64 b, .int .i64 0, .int .i64 0, .int .i64 0] _ from SS.out.call hb5)
  clear hb5 K2 SS y2 y2' k0 k1 k2 k3 k4 f0 f1 f2 f3 f4 gl
  have S3 := K3.out.put 2 (.int .i64 c)
  have y3 := K3.out.text (List.mem_cons_of_mem _ (List.mem_cons_of_mem _ (List.mem_cons_of_mem _ (List.mem_cons_of_mem _ List.mem_cons_self))))
  have y3' := S3.text (List.mem_cons_of_mem _ (List.mem_cons_of_mem _ (List.mem_cons_of_mem _ (List.mem_cons_of_mem _ List.mem_cons_self))))
  obtain ⟨k0, k1, k2, k3, k4, f0, f1, f2, f3, f4⟩ := (show Blk w5 w2.heap.size 36 #[.int .i64 a, .int .i64 b, .int .i64 0, .int .i64 0, .int .i64 0] from K3.out.2.2.1).five
  have gl := K3.out.2.2.1.lt
  have SS := Lib.hid S3
  clear S3
  go_wp2_with fail
  refine (P3.out _).mono ?_
  rintro e w6 ⟨rfl, hb6⟩
  have K4 := Lib.hid (show PS w w6 36 w2.heap.size #[.int .i64 a, .int .i64 b, .int .i64 c, .int .i64 0, .int .i64 0] _ from SS.out.call hb6)
  clear hb6 K3 SS y3 y3' k0 k1 k2 k3 k4 f0 f1 f2 f3 f4 gl
  have S4 := K4.out.put 3 (.int .i64 d)
  have y4 := K4.out.text List.mem_cons_self
  have y4' := S4.text List.mem_cons_self
  obtain ⟨k0, k1, k2, k3, k4, f0, f1, f2, f3, f4⟩ := (show Blk w6 w2.heap.size 36 #[.int .i64 a, .int .i64 b, .int .i64 c, .int .i64 0, .int .i64 0] from K4.out.2.2.1).five
  have gl := K4.out.2.2.1.lt
  have SS := Lib.hid S4
  clear S4
  go_wp2_with fail
  refine (P4.out _).mono ?_
  rintro e w7 ⟨rfl, hb7⟩
  have K5 := Lib.hid (show PS w w7 36 w2.heap.size #[.int .i64 a, .int .i64 b, .int .i64 c, .int .i64 d, .int .i64 0] _ from SS.out.call hb7)
  clear hb7 K4 SS y4 y4' k0 k1 k2 k3 k4 f0 f1 f2 f3 f4 gl
  have S5 := K5.out.put 4 (.int .i64 k)
  obtain ⟨k0, k1, k2, k3, k4, f0, f1, f2, f3, f4⟩ := (show Blk w7 w2.heap.size 36 #[.int .i64 a, .int .i64 b, .int .i64 c, .int .i64 d, .int .i64 0] from K5.out.2.2.1).five
  have gl := K5.out.2.2.1.lt
  have SS := Lib.hid S5
  clear S5
  obtain ⟨F, hF⟩ : ∃ F, str (fmtD a b c d k) = F := ⟨_, rfl⟩
  have hfd : ∀ W, Calls Tryd.prog 19 #[.agg #[.int .i64 a, .int .i64 b, .int .i64 c, .int .i64 d, .int .i64 k]] W (Ret (.string F) W) := fun W => by rw [← hF]; exact s_FD W
  have HFD := Lib.hid hfd
  have HF := Lib.hid hF
  clear hfd hF
  go_wp2_with fail
  refine (HFD.out _).mono ?_
  rintro e w8 ⟨rfl, hb8⟩
  have K6 := Lib.hid (show PS w w8 36 w2.heap.size #[.int .i64 a, .int .i64 b, .int .i64 c, .int .i64 d, .int .i64 k] _ from SS.out.call hb8)
  clear hb8 K5 SS k0 k1 k2 k3 k4 f0 f1 f2 f3 f4 gl
  obtain ⟨x0, x1, x2, x3, x4, -, -, -, -, -⟩ := (show Blk w8 w2.heap.size 36 #[.int .i64 a, .int .i64 b, .int .i64 c, .int .i64 d, .int .i64 k] from K6.out.2.2.1).five
  obtain ⟨k0, k1, k2, k3, k4, f0, f1, f2, f3, f4⟩ := (show Blk w8 w.heap.size 36 #[.int .i64 0, .int .i64 0, .int .i64 0, .int .i64 0, .int .i64 0] from K6.out.2.1).five
  have hw := K6.out.1
  have gl := K6.out.2.1.lt
  by_cases hi : fmtD a b c d k = s.data.toList
  · have eq : (F.toList == s.toList) = true := tl_eq (by rw [← HF.out, hi, str_of])
    have ev := HV.out
    rw [if_pos hi] at ev
    subst ev
    have HH := Lib.hid hi
    clear hi
    go_wp2
    refine bodyPost_ret (v := .tuple #[.agg #[.int .i64 a, .int .i64 b, .int .i64 c, .int .i64 d, .int .i64 k], .bool true]) (by simp [results, Tryd.results31, go_sem, *]) rfl (ret_mk ?_)
    repeat (first | (with_reducible exact Below.refl _ _) | (with_reducible assumption) | (with_reducible refine bl_alloc ?_ _) | (with_reducible refine bl_drew ?_) | (with_reducible refine bl_set ?_ (by simp <;> omega) _) | (with_reducible refine bl_call ?_ (by assumption)))
  · have eq : (F.toList == s.toList) = false := tl_ne (fun e => hi (by rw [← e, ← HF.out, str_data]))
    have ev := HV.out
    rw [if_neg hi] at ev
    subst ev
    clear hi
    go_wp2
    refine bodyPost_ret (v := .tuple #[.agg #[.int .i64 0, .int .i64 0, .int .i64 0, .int .i64 0, .int .i64 0], .bool false]) (by simp [results, Tryd.results31, go_sem, *]) rfl (ret_mk ?_)
    repeat (first | (with_reducible exact Below.refl _ _) | (with_reducible assumption) | (with_reducible refine bl_alloc ?_ _) | (with_reducible refine bl_drew ?_) | (with_reducible refine bl_set ?_ (by simp <;> omega) _) | (with_reducible refine bl_call ?_ (by assumption)))
theorem s_PD (s : ByteArray) (V : Option DW) (w : World) (hs : s.size ≤ 1048576) (hV : IsPar s.data.toList V) : Calls Tryd.prog 31 #[.string s] w (Ret (parV V) w) := by
  obtain ⟨h0, r, e1⟩ := spl_ne 47 s.data.toList
  by_cases c2 : (spl 47 s.data.toList).length = 2
  · obtain ⟨h1, rfl⟩ : ∃ h1, r = [h1] := by
      rw [e1] at c2
      match r, c2 with
      | [h1], _ => exact ⟨h1, rfl⟩
    by_cases c4 : (spl 44 h0).length = 4
    · obtain ⟨t0, t1, t2, t3, e2⟩ : ∃ t0 t1 t2 t3, spl 44 h0 = [t0, t1, t2, t3] := by
        match hm : spl 44 h0, c4 with
        | [t0, t1, t2, t3], _ => exact ⟨t0, t1, t2, t3, rfl⟩
      exact s_PD_ok s h0 h1 t0 t1 t2 t3 _ _ _ _ _ V w hs e1 e2 rfl rfl rfl rfl rfl (parD_ref hV e1 e2)
    · have := parD_len4 hV e1 c4
      subst this
      exact s_PD_bad s _ _ h0 _ w hs e1 rfl rfl (.inr c4)
  · have := parD_len hV c2
    subst this
    exact s_PD_bad s _ _ h0 r w hs e1 rfl rfl (.inl c2)
/-- A slice of texts that may grow came back. -/
def RetOX (w : World) (n : Nat) (ls : List (List UInt8)) (e : Ending) (w' : World) : Prop := ∃ A c, e = .returned (.slice A n c) ∧ OutX w' w.heap.size (.slice A n c) ls ∧ Below w.heap.size w w'
theorem OutX.made (W : World) (base : Nat) (ls : List (List UInt8)) (hb : base ≤ W.heap.size) (hl : ls.length ≤ 2000000) : OutX (W.alloc (.cells (cellsX ls).toArray 9)) base (.slice (some ⟨W.heap.size, 0, none⟩) ls.length ls.length) ls := by
  refine ⟨by simp [cellsX], .inr ⟨W.heap.size, ls.length, (cellsX ls).toArray, rfl, hb, heap_alloc_new W _, Nat.le_refl _, by unfold maxLen; omega, by simp [cellsX], ?_⟩⟩
  simp [cellsX]
  exact List.take_of_length_le (by simp)
set_option maxHeartbeats 400000 in
theorem i_SplitO (s : ByteArray) (b : UInt8) (n : Nat) (w : World) (hs : s.size ≤ 1048576) (hE : EnvS w) (hn : (spl b s.data.toList).length = n) : Calls Tryd.prog 15 #[.string s, .int .u8 (b.toNat : Int)] w (RetOX w n (spl b s.data.toList)) := by
  obtain ⟨q1, q2⟩ := splitB_spl b s
  have hu : b.toNat < 256 := UInt8.toNat_lt _
  have hk := one_byte w (b.toNat : Int) (by omega) (by omega)
  have eb : UInt8.ofNat (b.toNat : Int).toNat = b := by simp
  rw [eb] at hk
  have H : ∀ (m : Int) W, W.cell? ⟨1, 0, none⟩ = some (.int .i64 m) → Calls Tryd.prog 38 #[.string s, .string (str [b])] W fun e w' =>
      e = .returned (.slice (some ⟨W.heap.size, 0, none⟩) n n) ∧ w' = W.alloc (.cells (cellsX (spl b s.data.toList)).toArray 9) := fun m W hm => by
    have := Tryd.strings_Split s (str [b]) m W (by omega) hm (by rw [str_size]; simp)
    rw [← q2, q1, hn] at this
    unfold cellsX
    rw [List.map_map] at this
    exact this
  have K := Lib.hid H
  obtain ⟨m, hm⟩ := hE.call (bl_alloc (Below.refl w.heap.size w) (.cells #[.int .u8 (b.toNat : Int)] 5))
  have HM := Lib.hid hm
  obtain ⟨S1, hS1⟩ : ∃ S, str [b] = S := ⟨_, rfl⟩
  have hlen := spl_len b s
  obtain ⟨ls, hls⟩ : ∃ ls, spl b s.data.toList = ls := ⟨_, rfl⟩
  rw [hls] at K hn hlen ⊢
  rw [hS1] at hk K
  have HN := Lib.hid hn
  clear H hm q1 q2 hE eb hS1 hls hn
  go_enter Tryd.func15, Tryd.ntmps15
  go_wp2_with fail
  refine (K.out m _ HM.out).mono ?_
  rintro e w1 ⟨rfl, rfl⟩
  go_wp2
  go_ret
  have h := OutX.made (w.alloc (.cells #[.int .u8 (b.toNat : Int)] 5)) w.heap.size ls (by simp) (by omega)
  rw [HN.out] at h
  refine ⟨_, _, rfl, ?_, bl_alloc (bl_alloc (Below.refl _ _) _) _⟩
  simpa using h
set_option maxHeartbeats 1000000 in
theorem i_PD_bad2 (s : ByteArray) (n2 : Nat) (w : World) (hs : s.size ≤ 1048576) (hE : EnvS w) (e2 : (spl 47 s.data.toList).length = n2) (hbad : n2 ≠ 2) : Calls Tryd.prog 32 #[.string s] w (Ret (parV none) w) := by
  have H1 := Lib.hid (fun W (h : EnvS W) => i_SplitC s 47 n2 W hs h e2)
  have HE := Lib.hid hE
  clear e2 hE
  have d1 : ((n2 : Int) != 2) = true := by rw [bne_iff_ne]; omega
  go_enter Tryd.func32, Tryd.ntmps32
  go_wp2_with fail
  refine (H1.out _ (HE.out.call (bl_alloc (Below.refl _ _) _))).mono ?_
  rintro e w1 ⟨g2, c2, rfl, hc2, hg2, hl2, ht2, hb1⟩
  have T1 : Own w w1 [(w.heap.size, 36, z5)] := by simpa using ((Own.start w).push 36 z5).call hb1
  clear ht2 hb1
  obtain ⟨k0, k1, k2, k3, k4, f0, f1, f2, f3, f4⟩ := (show Blk w1 w.heap.size 36 #[.int .i64 0, .int .i64 0, .int .i64 0, .int .i64 0, .int .i64 0] from T1.head).five
  have hw := T1.below
  have hlt := T1.head.lt
  clear T1
  go_wp2
  refine bodyPost_ret (v := .tuple #[.agg #[.int .i64 0, .int .i64 0, .int .i64 0, .int .i64 0, .int .i64 0], .bool false]) (by simp [results, Tryd.results32, go_sem, *]) rfl (ret_mk ?_)
  repeat (first | (with_reducible exact Below.refl _ _) | (with_reducible assumption) | (with_reducible refine bl_alloc ?_ _) | (with_reducible refine bl_drew ?_) | (with_reducible refine bl_set ?_ (by simp <;> omega) _) | (with_reducible refine bl_call ?_ (by assumption)))
set_option maxHeartbeats 1000000 in
theorem i_PD_bad4 (s : ByteArray) (n4 : Nat) (h0 h1 : List UInt8) (w : World) (hs : s.size ≤ 1048576) (hE : EnvS w) (e1 : spl 47 s.data.toList = [h0, h1]) (e4 : (spl 44 h0).length = n4) (hbad : n4 ≠ 4) : Calls Tryd.prog 32 #[.string s] w (Ret (parV none) w) := by
  have hz0 : (str h0).size ≤ 1048576 := by
    rw [str_size]
    have := spl_head_len e1
    have e : s.data.toList.length = s.size := by simp
    omega
  have H1 := Lib.hid (fun W (h : EnvS W) => i_SplitC s 47 2 W hs h (by rw [e1]; rfl))
  have H2 := Lib.hid (fun W (h : EnvS W) => i_SplitC (str h0) 44 n4 W hz0 h (by rw [str_data]; exact e4))
  have E1 := Lib.hid e1
  have HE := Lib.hid hE
  clear e1 e4 hE
  have d1 : ((n4 : Int) != 4) = true := by rw [bne_iff_ne]; omega
  go_enter Tryd.func32, Tryd.ntmps32
  go_wp2_with fail
  refine (H1.out _ (HE.out.call (bl_alloc (Below.refl _ _) _))).mono ?_
  rintro e w1 ⟨g2, c2, rfl, hc2, hg2, hl2, ht2, hb1⟩
  have q0 := ht2 0 h0 (by rw [E1.out]; rfl)
  have T1 : Own w w1 [(w.heap.size, 36, z5)] := by simpa using ((Own.start w).push 36 z5).call hb1
  have ES := Lib.hid (HE.out.call T1.below)
  clear ht2 hb1
  go_wp2_with fail
  refine (H2.out _ ES.out).mono ?_
  rintro e w2 ⟨g4, c4, rfl, hc4, hg4, hl4, ht4, hb2⟩
  have T2 := T1.call hb2
  clear ht4 hb2 T1 q0
  obtain ⟨k0, k1, k2, k3, k4, f0, f1, f2, f3, f4⟩ := (show Blk w2 w.heap.size 36 #[.int .i64 0, .int .i64 0, .int .i64 0, .int .i64 0, .int .i64 0] from T2.head).five
  have hw := T2.below
  have hlt := T2.head.lt
  clear T2
  go_wp2
  refine bodyPost_ret (v := .tuple #[.agg #[.int .i64 0, .int .i64 0, .int .i64 0, .int .i64 0, .int .i64 0], .bool false]) (by simp [results, Tryd.results32, go_sem, *]) rfl (ret_mk ?_)
  repeat (first | (with_reducible exact Below.refl _ _) | (with_reducible assumption) | (with_reducible refine bl_alloc ?_ _) | (with_reducible refine bl_drew ?_) | (with_reducible refine bl_set ?_ (by simp <;> omega) _) | (with_reducible refine bl_call ?_ (by assumption)))
def arrK (x0 x1 x2 x3 x4 : Int) (k : Nat) : Array Value := #[.int .i64 (if 0 < k then x0 else 0), .int .i64 (if 1 < k then x1 else 0), .int .i64 (if 2 < k then x2 else 0), .int .i64 (if 3 < k then x3 else 0), .int .i64 (if 4 < k then x4 else 0)]
def LRel (w : World) (gA g5 : Nat) (t0 t1 t2 t3 h1 : List UInt8) (x0 x1 x2 x3 x4 : Int) (i : Value) (wr : World) : Prop :=
  ∃ k : Nat, k ≤ 5 ∧ i = .int .i64 (k : Int) ∧ (0 < k → P12 t0 = some x0) ∧ (1 < k → P12 t1 = some x1) ∧ (2 < k → P12 t2 = some x2) ∧ (3 < k → P12 t3 = some x3) ∧ (4 < k → P12 h1 = some x4) ∧
    PS w wr 65 gA (arrK x0 x1 x2 x3 x4 k) [(g5, 0, t0), (g5, 1, t1), (g5, 2, t2), (g5, 3, t3), (g5, 4, h1)]
set_option maxHeartbeats 2000000 in
theorem i_PD_ok (s : ByteArray) (h0 h1 t0 t1 t2 t3 : List UInt8) (x0 x1 x2 x3 x4 : Int) (V : Option DW) (w : World) (hs : s.size ≤ 1048576) (hS : EnvS w) (hI : EnvI w) (hE : EnvE w) (hV : IsPar s.data.toList V) (e1 : spl 47 s.data.toList = [h0, h1]) (e2 : spl 44 h0 = [t0, t1, t2, t3]) (v0 : (P12 t0).getD 0 = x0) (v1 : (P12 t1).getD 0 = x1) (v2 : (P12 t2).getD 0 = x2) (v3 : (P12 t3).getD 0 = x3) (v4 : (P12 h1).getD 0 = x4) :
    Calls Tryd.prog 32 #[.string s] w (Ret (parV V) w) := by
  have es : s.data.toList.length = s.size := by simp
  have hz0 : (str h0).size ≤ 1048576 := by rw [str_size]; have := spl_head_len e1; omega
  have hpt := parts_text e1 e2
  have hpl := congrArg List.length hpt
  simp only [List.length_append] at hpl
  have H1 := Lib.hid (fun W (h : EnvS W) => i_SplitC s 47 2 W hs h (by rw [e1]; rfl))
  have H2 := Lib.hid (fun W (h : EnvS W) => i_SplitO (str h0) 44 4 W hz0 h (by rw [str_data, e2]; rfl))
  have p0 : ∀ W, EnvI W → EnvE W → Calls Tryd.prog 26 #[.string (str t0)] W (Ret (.tuple #[.int .i64 x0, .bool (P12 t0).isSome]) W) := fun W a b => by have := i_PInt (str t0) W (by rw [str_size]; omega) a b; rw [str_data] at this; unfold optV at this; rw [← v0]; exact this
  have P0 := Lib.hid p0
  have p1 : ∀ W, EnvI W → EnvE W → Calls Tryd.prog 26 #[.string (str t1)] W (Ret (.tuple #[.int .i64 x1, .bool (P12 t1).isSome]) W) := fun W a b => by have := i_PInt (str t1) W (by rw [str_size]; omega) a b; rw [str_data] at this; unfold optV at this; rw [← v1]; exact this
  have P1 := Lib.hid p1
  have p2 : ∀ W, EnvI W → EnvE W → Calls Tryd.prog 26 #[.string (str t2)] W (Ret (.tuple #[.int .i64 x2, .bool (P12 t2).isSome]) W) := fun W a b => by have := i_PInt (str t2) W (by rw [str_size]; omega) a b; rw [str_data] at this; unfold optV at this; rw [← v2]; exact this
  have P2 := Lib.hid p2
  have p3 : ∀ W, EnvI W → EnvE W → Calls Tryd.prog 26 #[.string (str t3)] W (Ret (.tuple #[.int .i64 x3, .bool (P12 t3).isSome]) W) := fun W a b => by have := i_PInt (str t3) W (by rw [str_size]; omega) a b; rw [str_data] at this; unfold optV at this; rw [← v3]; exact this
  have P3 := Lib.hid p3
  have p4 : ∀ W, EnvI W → EnvE W → Calls Tryd.prog 26 #[.string (str h1)] W (Ret (.tuple #[.int .i64 x4, .bool (P12 h1).isSome]) W) := fun W a b => by have := i_PInt (str h1) W (by rw [str_size]; omega) a b; rw [str_data] at this; unfold optV at this; rw [← v4]; exact this
  have P4 := Lib.hid p4
  have m0 : P12 t0 = none → V = none := fun h => parD_miss hV e1 e2 (.inl h)
  have s0 : (P12 t0).isSome = true → P12 t0 = some x0 := fun h => by obtain ⟨y, hy⟩ := Option.isSome_iff_exists.1 h; rw [hy] at v0 ⊢; rw [← v0]; rfl
  have M0 := Lib.hid m0
  have N0 := Lib.hid s0
  have m1 : P12 t1 = none → V = none := fun h => parD_miss hV e1 e2 (.inr (.inl h))
  have s1 : (P12 t1).isSome = true → P12 t1 = some x1 := fun h => by obtain ⟨y, hy⟩ := Option.isSome_iff_exists.1 h; rw [hy] at v1 ⊢; rw [← v1]; rfl
  have M1 := Lib.hid m1
  have N1 := Lib.hid s1
  have m2 : P12 t2 = none → V = none := fun h => parD_miss hV e1 e2 (.inr (.inr (.inl h)))
  have s2 : (P12 t2).isSome = true → P12 t2 = some x2 := fun h => by obtain ⟨y, hy⟩ := Option.isSome_iff_exists.1 h; rw [hy] at v2 ⊢; rw [← v2]; rfl
  have M2 := Lib.hid m2
  have N2 := Lib.hid s2
  have m3 : P12 t3 = none → V = none := fun h => parD_miss hV e1 e2 (.inr (.inr (.inr (.inl h))))
  have s3 : (P12 t3).isSome = true → P12 t3 = some x3 := fun h => by obtain ⟨y, hy⟩ := Option.isSome_iff_exists.1 h; rw [hy] at v3 ⊢; rw [← v3]; rfl
  have M3 := Lib.hid m3
  have N3 := Lib.hid s3
  have m4 : P12 h1 = none → V = none := fun h => parD_miss hV e1 e2 (.inr (.inr (.inr (.inr h))))
  have s4 : (P12 h1).isSome = true → P12 h1 = some x4 := fun h => by obtain ⟨y, hy⟩ := Option.isSome_iff_exists.1 h; rw [hy] at v4 ⊢; rw [← v4]; rfl
  have M4 := Lib.hid m4
  have N4 := Lib.hid s4
  have h5 : P12 t0 = some x0 → P12 t1 = some x1 → P12 t2 = some x2 → P12 t3 = some x3 → P12 h1 = some x4 → V = if okd ⟨⟨x0, x1, x2, x3⟩, x4⟩ = true then some ⟨⟨x0, x1, x2, x3⟩, x4⟩ else none := fun a b c d k => parD_five hV e1 e2 a b c d k
  have H5 := Lib.hid h5
  have E1 := Lib.hid e1
  have E2 := Lib.hid e2
  have HS := Lib.hid hS
  have HI := Lib.hid hI
  have HE := Lib.hid hE
  clear p0 m0 s0 p1 m1 s1 p2 m2 s2 p3 m3 s3 p4 m4 s4 v0 v1 v2 v3 v4 e1 e2 h5 hV hpt hpl es hS hI hE
  go_enter Tryd.func32, Tryd.ntmps32
  go_wp2_with fail
  refine (H1.out _ (HS.out.call (bl_alloc (Below.refl _ _) _))).mono ?_
  rintro e w1 ⟨g2, c2, rfl, hc2, hg2, hl2, ht2, hb1⟩
  have q0 := ht2 0 h0 (by rw [E1.out]; rfl)
  have q1 := ht2 1 h1 (by rw [E1.out]; rfl)
  have T1 : Own w w1 [(w.heap.size, 36, z5)] := by simpa using ((Own.start w).push 36 z5).call hb1
  have ES := Lib.hid (HS.out.call T1.below)
  clear ht2 hb1
  simp at hg2
  go_wp2_with fail
  refine (H2.out _ ES.out).mono ?_
  rintro e w2 ⟨A4, c4, rfl, hO4, hb2⟩
  rw [str_data, E2.out] at hO4
  have T2 := T1.call hb2
  have q1' := (hb2.cell (p := ⟨g2, 1, none⟩) hl2).trans q1
  have hs2 := hb2.size
  have lw := T1.head.lt
  have l2 : g2 < w2.heap.size := by omega
  have n2 : ¬ g2 = w2.heap.size := by omega
  have n2' : ¬ w2.heap.size = g2 := by omega
  have HO4 := Lib.hid hO4
  have HT2 := Lib.hid T2
  clear q0 q1 T1 T2 hb2 hO4 hg2 hl2
  go_wp2_with (at_builtin; refine app_stepX _ rfl (.tmp 27) (.tmp 31) rfl w1.heap.size _ _ rfl ((HO4.out.alloc _).alloc _) (w2.heap.size + 1) h1 rfl (by simp) (by simp) (by simp; omega) ?_; intro v' w3 hO' hg' hrow'; refine Hid.out ?_)
  refine Lib.hid ?_
  have hT3 := (HT2.out.push 65 z5).alloc (.cells #[.string (str h1)] 9)
  have hob : ∀ k, (Value.slice A4 4 c4).ownBlock = some k → k < w2.heap.size := fun k hk => (World.ownsRow.lt HO4.out k hk).2
  have hb3 : Below w.heap.size w w3 := below_grownX hT3.below hg' (fun k hk => by have := hrow' k hk; omega) (by simp; omega)
  have hR3 : Blk w3 w.heap.size 36 z5 := (hg'.block _ hT3.tail.head.lt (fun e => by have := hrow' _ e.symm; omega)).trans hT3.tail.head
  have hA3 : Blk w3 w2.heap.size 65 z5 := (hg'.block _ hT3.head.lt (fun e => by have := hob _ e.symm; omega)).trans hT3.head
  obtain ⟨A5, c5, rfl, hc5, hX5⟩ := hO'.slice
  rw [show ([t0, t1, t2, t3] ++ [h1]).length = 5 from rfl]
  obtain ⟨g5, N5, f5, rfl, hg5, hN5, hrow5, hf5⟩ := hX5 (by simp)
  have hne5 : g5 ≠ w2.heap.size := by
    intro e
    obtain ⟨cs, hcs, _⟩ := hrow5
    unfold Blk at hA3
    rw [e, hA3] at hcs
    simp at hcs
  have hl5 := hrow5.lt
  have y0 : w3.cell? ⟨g5, 0, none⟩ = some (.string (str t0)) := by rw [hrow5.cell (by simp at hN5; omega), hf5 0 t0 rfl]
  have y1 : w3.cell? ⟨g5, 1, none⟩ = some (.string (str t1)) := by rw [hrow5.cell (by simp at hN5; omega), hf5 1 t1 rfl]
  have y2 : w3.cell? ⟨g5, 2, none⟩ = some (.string (str t2)) := by rw [hrow5.cell (by simp at hN5; omega), hf5 2 t2 rfl]
  have y3 : w3.cell? ⟨g5, 3, none⟩ = some (.string (str t3)) := by rw [hrow5.cell (by simp at hN5; omega), hf5 3 t3 rfl]
  have y4 : w3.cell? ⟨g5, 4, none⟩ = some (.string (str h1)) := by rw [hrow5.cell (by simp at hN5; omega), hf5 4 h1 rfl]
  have S0 : PS w w3 65 w2.heap.size (arrK x0 x1 x2 x3 x4 0) [(g5, 0, t0), (g5, 1, t1), (g5, 2, t2), (g5, 3, t3), (g5, 4, h1)] := by
    refine ⟨hb3, hR3, hA3, HT2.out.head.lt, fun c hc => ?_⟩
    simp only [List.mem_cons, List.mem_nil_iff, or_false] at hc
    rcases hc with rfl | rfl | rfl | rfl | rfl
    · exact ⟨y0, hne5, hl5⟩
    · exact ⟨y1, hne5, hl5⟩
    · exact ⟨y2, hne5, hl5⟩
    · exact ⟨y3, hne5, hl5⟩
    · exact ⟨y4, hne5, hl5⟩
  have K0 := Lib.hid S0
  clear S0 y0 y1 y2 y3 y4 hrow5 hf5 hX5 hO' hg' hrow' hT3 hob hb3 hR3 hA3 q1' l2 n2 n2' hN5 HO4 HT2
  go_wp2
  go_loopw [34] (fun i wr => LRel w w2.heap.size g5 t0 t1 t2 t3 h1 x0 x1 x2 x3 x4 i wr) (fun i _ => 5 - (intOf i).toNat)
  case atStart => exact ⟨0, by omega, rfl, fun h => absurd h (by omega), fun h => absurd h (by omega), fun h => absurd h (by omega), fun h => absurd h (by omega), fun h => absurd h (by omega), K0.out⟩
  case round =>
    obtain ⟨k, hk, rfl, z0, z1, z2, z3, z4, hPS⟩ := hrel
    have Z0 := Lib.hid z0
    have Z1 := Lib.hid z1
    have Z2 := Lib.hid z2
    have Z3 := Lib.hid z3
    have Z4 := Lib.hid z4
    have HP := Lib.hid hPS
    clear z0 z1 z2 z3 z4 hPS K0
    have EI := Lib.hid (HI.out.call HP.out.1)
    have EE := Lib.hid (HE.out.call HP.out.1)
    rcases (by omega : k = 0 ∨ k = 1 ∨ k = 2 ∨ k = 3 ∨ k = 4 ∨ k = 5) with rfl | rfl | rfl | rfl | rfl | rfl
    · rw [show ((0 : Nat) : Int) = 0 from rfl]
      have y := HP.out.text List.mem_cons_self
      have hok : ∀ b, (P12 t0).isSome = b → ∀ W, EnvI W → EnvE W → Calls Tryd.prog 26 #[.string (str t0)] W (Ret (.tuple #[.int .i64 x0, .bool b]) W) := fun b hb W a c => by rw [← hb]; exact P0.out W a c
      cases ho : (P12 t0).isSome
      · have PP := Lib.hid (hok false ho)
        have ev := M0.out (by simpa using ho)
        subst ev
        clear hok ho
        go_wp2_with fail
        refine (PP.out _ EI.out EE.out).mono ?_
        rintro e w9 ⟨rfl, hb9⟩
        have HQ := HP.out.call hb9
        obtain ⟨k0, k1, k2, k3, k4, f0, f1, f2, f3, f4⟩ := (show Blk w9 w.heap.size 36 #[.int .i64 0, .int .i64 0, .int .i64 0, .int .i64 0, .int .i64 0] from HQ.2.1).five
        have hw := HQ.1
        have gl := HQ.2.1.lt
        clear HQ y hb9
        go_wp2
        refine bodyPost_ret (v := .tuple #[.agg #[.int .i64 0, .int .i64 0, .int .i64 0, .int .i64 0, .int .i64 0], .bool false]) (by simp [results, Tryd.results32, go_sem, *]) rfl (ret_mk ?_)
        repeat (first | (with_reducible exact Below.refl _ _) | (with_reducible assumption) | (with_reducible refine bl_alloc ?_ _) | (with_reducible refine bl_drew ?_) | (with_reducible refine bl_set ?_ (by simp <;> omega) _) | (with_reducible refine bl_call ?_ (by assumption)))
      · have PP := Lib.hid (hok true ho)
        have HX := Lib.hid (N0.out ho)
        clear hok ho
        go_wp2_with fail
        refine (PP.out _ EI.out EE.out).mono ?_
        rintro e w9 ⟨rfl, hb9⟩
        have HQ := Lib.hid (HP.out.call hb9)
        obtain ⟨k0, k1, k2, k3, k4, f0, f1, f2, f3, f4⟩ := (show Blk w9 w2.heap.size 65 #[.int .i64 0, .int .i64 0, .int .i64 0, .int .i64 0, .int .i64 0] from HQ.out.2.2.1).five
        clear y hb9
        go_wp2
        go_roundw
        case rel => exact ⟨1, by omega, rfl, fun _ => HX.out, fun h => absurd h (by omega), fun h => absurd h (by omega), fun h => absurd h (by omega), fun h => absurd h (by omega), HQ.out.put 0 (.int .i64 x0)⟩
        case measure => simp [intOf]
    · rw [show ((1 : Nat) : Int) = 1 from rfl]
      have y := HP.out.text (List.mem_cons_of_mem _ List.mem_cons_self)
      have hok : ∀ b, (P12 t1).isSome = b → ∀ W, EnvI W → EnvE W → Calls Tryd.prog 26 #[.string (str t1)] W (Ret (.tuple #[.int .i64 x1, .bool b]) W) := fun b hb W a c => by rw [← hb]; exact P1.out W a c
      cases ho : (P12 t1).isSome
      · have PP := Lib.hid (hok false ho)
        have ev := M1.out (by simpa using ho)
        subst ev
        clear hok ho
        go_wp2_with fail
        refine (PP.out _ EI.out EE.out).mono ?_
        rintro e w9 ⟨rfl, hb9⟩
        have HQ := HP.out.call hb9
        obtain ⟨k0, k1, k2, k3, k4, f0, f1, f2, f3, f4⟩ := (show Blk w9 w.heap.size 36 #[.int .i64 0, .int .i64 0, .int .i64 0, .int .i64 0, .int .i64 0] from HQ.2.1).five
        have hw := HQ.1
        have gl := HQ.2.1.lt
        clear HQ y hb9
        go_wp2
        refine bodyPost_ret (v := .tuple #[.agg #[.int .i64 0, .int .i64 0, .int .i64 0, .int .i64 0, .int .i64 0], .bool false]) (by simp [results, Tryd.results32, go_sem, *]) rfl (ret_mk ?_)
        repeat (first | (with_reducible exact Below.refl _ _) | (with_reducible assumption) | (with_reducible refine bl_alloc ?_ _) | (with_reducible refine bl_drew ?_) | (with_reducible refine bl_set ?_ (by simp <;> omega) _) | (with_reducible refine bl_call ?_ (by assumption)))
      · have PP := Lib.hid (hok true ho)
        have HX := Lib.hid (N1.out ho)
        clear hok ho
        go_wp2_with fail
        refine (PP.out _ EI.out EE.out).mono ?_
        rintro e w9 ⟨rfl, hb9⟩
        have HQ := Lib.hid (HP.out.call hb9)
        obtain ⟨k0, k1, k2, k3, k4, f0, f1, f2, f3, f4⟩ := (show Blk w9 w2.heap.size 65 #[.int .i64 x0, .int .i64 0, .int .i64 0, .int .i64 0, .int .i64 0] from HQ.out.2.2.1).five
        clear y hb9
        go_wp2
        go_roundw
        case rel => exact ⟨2, by omega, rfl, fun _ => Z0.out (by omega), fun _ => HX.out, fun h => absurd h (by omega), fun h => absurd h (by omega), fun h => absurd h (by omega), HQ.out.put 1 (.int .i64 x1)⟩
        case measure => simp [intOf]
    · rw [show ((2 : Nat) : Int) = 2 from rfl]
      have y := HP.out.text (List.mem_cons_of_mem _ (List.mem_cons_of_mem _ List.mem_cons_self))
      have hok : ∀ b, (P12 t2).isSome = b → ∀ W, EnvI W → EnvE W → Calls Tryd.prog 26 #[.string (str t2)] W (Ret (.tuple #[.int .i64 x2, .bool b]) W) := fun b hb W a c => by rw [← hb]; exact P2.out W a c
      cases ho : (P12 t2).isSome
      · have PP := Lib.hid (hok false ho)
        have ev := M2.out (by simpa using ho)
        subst ev
        clear hok ho
        go_wp2_with fail
        refine (PP.out _ EI.out EE.out).mono ?_
        rintro e w9 ⟨rfl, hb9⟩
        have HQ := HP.out.call hb9
        obtain ⟨k0, k1, k2, k3, k4, f0, f1, f2, f3, f4⟩ := (show Blk w9 w.heap.size 36 #[.int .i64 0, .int .i64 0, .int .i64 0, .int .i64 0, .int .i64 0] from HQ.2.1).five
        have hw := HQ.1
        have gl := HQ.2.1.lt
        clear HQ y hb9
        go_wp2
        refine bodyPost_ret (v := .tuple #[.agg #[.int .i64 0, .int .i64 0, .int .i64 0, .int .i64 0, .int .i64 0], .bool false]) (by simp [results, Tryd.results32, go_sem, *]) rfl (ret_mk ?_)
        repeat (first | (with_reducible exact Below.refl _ _) | (with_reducible assumption) | (with_reducible refine bl_alloc ?_ _) | (with_reducible refine bl_drew ?_) | (with_reducible refine bl_set ?_ (by simp <;> omega) _) | (with_reducible refine bl_call ?_ (by assumption)))
      · have PP := Lib.hid (hok true ho)
        have HX := Lib.hid (N2.out ho)
        clear hok ho
        go_wp2_with fail
        refine (PP.out _ EI.out EE.out).mono ?_
        rintro e w9 ⟨rfl, hb9⟩
        have HQ := Lib.hid (HP.out.call hb9)
        obtain ⟨k0, k1, k2, k3, k4, f0, f1, f2, f3, f4⟩ := (show Blk w9 w2.heap.size 65 #[.int .i64 x0, .int .i64 x1, .int .i64 0, .int .i64 0, .int .i64 0] from HQ.out.2.2.1).five
        clear y hb9
        go_wp2
        go_roundw
        case rel => exact ⟨3, by omega, rfl, fun _ => Z0.out (by omega), fun _ => Z1.out (by omega), fun _ => HX.out, fun h => absurd h (by omega), fun h => absurd h (by omega), HQ.out.put 2 (.int .i64 x2)⟩
        case measure => simp [intOf]
    · rw [show ((3 : Nat) : Int) = 3 from rfl]
      have y := HP.out.text (List.mem_cons_of_mem _ (List.mem_cons_of_mem _ (List.mem_cons_of_mem _ List.mem_cons_self)))
      have hok : ∀ b, (P12 t3).isSome = b → ∀ W, EnvI W → EnvE W → Calls Tryd.prog 26 #[.string (str t3)] W (Ret (.tuple #[.int .i64 x3, .bool b]) W) := fun b hb W a c => by rw [← hb]; exact P3.out W a c
      cases ho : (P12 t3).isSome
      · have PP := Lib.hid (hok false ho)
        have ev := M3.out (by simpa using ho)
        subst ev
        clear hok ho
        go_wp2_with fail
        refine (PP.out _ EI.out EE.out).mono ?_
        rintro e w9 ⟨rfl, hb9⟩
        have HQ := HP.out.call hb9
        obtain ⟨k0, k1, k2, k3, k4, f0, f1, f2, f3, f4⟩ := (show Blk w9 w.heap.size 36 #[.int .i64 0, .int .i64 0, .int .i64 0, .int .i64 0, .int .i64 0] from HQ.2.1).five
        have hw := HQ.1
        have gl := HQ.2.1.lt
        clear HQ y hb9
        go_wp2
        refine bodyPost_ret (v := .tuple #[.agg #[.int .i64 0, .int .i64 0, .int .i64 0, .int .i64 0, .int .i64 0], .bool false]) (by simp [results, Tryd.results32, go_sem, *]) rfl (ret_mk ?_)
        repeat (first | (with_reducible exact Below.refl _ _) | (with_reducible assumption) | (with_reducible refine bl_alloc ?_ _) | (with_reducible refine bl_drew ?_) | (with_reducible refine bl_set ?_ (by simp <;> omega) _) | (with_reducible refine bl_call ?_ (by assumption)))
      · have PP := Lib.hid (hok true ho)
        have HX := Lib.hid (N3.out ho)
        clear hok ho
        go_wp2_with fail
        refine (PP.out _ EI.out EE.out).mono ?_
        rintro e w9 ⟨rfl, hb9⟩
        have HQ := Lib.hid (HP.out.call hb9)
        obtain ⟨k0, k1, k2, k3, k4, f0, f1, f2, f3, f4⟩ := (show Blk w9 w2.heap.size 65 #[.int .i64 x0, .int .i64 x1, .int .i64 x2, .int .i64 0, .int .i64 0] from HQ.out.2.2.1).five
        clear y hb9
        go_wp2
        go_roundw
        case rel => exact ⟨4, by omega, rfl, fun _ => Z0.out (by omega), fun _ => Z1.out (by omega), fun _ => Z2.out (by omega), fun _ => HX.out, fun h => absurd h (by omega), HQ.out.put 3 (.int .i64 x3)⟩
        case measure => simp [intOf]
    · rw [show ((4 : Nat) : Int) = 4 from rfl]
      have y := HP.out.text (List.mem_cons_of_mem _ (List.mem_cons_of_mem _ (List.mem_cons_of_mem _ (List.mem_cons_of_mem _ List.mem_cons_self))))
      have hok : ∀ b, (P12 h1).isSome = b → ∀ W, EnvI W → EnvE W → Calls Tryd.prog 26 #[.string (str h1)] W (Ret (.tuple #[.int .i64 x4, .bool b]) W) := fun b hb W a c => by rw [← hb]; exact P4.out W a c
      cases ho : (P12 h1).isSome
      · have PP := Lib.hid (hok false ho)
        have ev := M4.out (by simpa using ho)
        subst ev
        clear hok ho
        go_wp2_with fail
        refine (PP.out _ EI.out EE.out).mono ?_
        rintro e w9 ⟨rfl, hb9⟩
        have HQ := HP.out.call hb9
        obtain ⟨k0, k1, k2, k3, k4, f0, f1, f2, f3, f4⟩ := (show Blk w9 w.heap.size 36 #[.int .i64 0, .int .i64 0, .int .i64 0, .int .i64 0, .int .i64 0] from HQ.2.1).five
        have hw := HQ.1
        have gl := HQ.2.1.lt
        clear HQ y hb9
        go_wp2
        refine bodyPost_ret (v := .tuple #[.agg #[.int .i64 0, .int .i64 0, .int .i64 0, .int .i64 0, .int .i64 0], .bool false]) (by simp [results, Tryd.results32, go_sem, *]) rfl (ret_mk ?_)
        repeat (first | (with_reducible exact Below.refl _ _) | (with_reducible assumption) | (with_reducible refine bl_alloc ?_ _) | (with_reducible refine bl_drew ?_) | (with_reducible refine bl_set ?_ (by simp <;> omega) _) | (with_reducible refine bl_call ?_ (by assumption)))
      · have PP := Lib.hid (hok true ho)
        have HX := Lib.hid (N4.out ho)
        clear hok ho
        go_wp2_with fail
        refine (PP.out _ EI.out EE.out).mono ?_
        rintro e w9 ⟨rfl, hb9⟩
        have HQ := Lib.hid (HP.out.call hb9)
        obtain ⟨k0, k1, k2, k3, k4, f0, f1, f2, f3, f4⟩ := (show Blk w9 w2.heap.size 65 #[.int .i64 x0, .int .i64 x1, .int .i64 x2, .int .i64 x3, .int .i64 0] from HQ.out.2.2.1).five
        clear y hb9
        go_wp2
        go_roundw
        case rel => exact ⟨5, by omega, rfl, fun _ => Z0.out (by omega), fun _ => Z1.out (by omega), fun _ => Z2.out (by omega), fun _ => Z3.out (by omega), fun _ => HX.out, HQ.out.put 4 (.int .i64 x4)⟩
        case measure => simp [intOf]
    · have ev := H5.out (Z0.out (by omega)) (Z1.out (by omega)) (Z2.out (by omega)) (Z3.out (by omega)) (Z4.out (by omega))
      have EV := Lib.hid ev
      clear ev
      obtain ⟨k0, k1, k2, k3, k4, -, -, -, -, -⟩ := (show Blk wr w2.heap.size 65 #[.int .i64 x0, .int .i64 x1, .int .i64 x2, .int .i64 x3, .int .i64 x4] from HP.out.2.2.1).five
      cases ho : okd ⟨⟨x0, x1, x2, x3⟩, x4⟩
      · have ev := EV.out
        rw [ho] at ev
        simp at ev
        subst ev
        go_wp2_with fail
        refine (i_okd_f _ ho).mono ?_
        rintro e w9 ⟨rfl, hb9⟩
        have HQ := (show PS w (wr.alloc (.cells #[.int .i64 x0, .int .i64 x1, .int .i64 x2, .int .i64 x3, .int .i64 x4] 36)) _ _ _ _ from HP.out.call (bl_alloc (Below.refl _ _) _)).call hb9
        obtain ⟨u0, u1, u2, u3, u4, -, -, -, -, -⟩ := ((Blk.new wr 36 #[.int .i64 x0, .int .i64 x1, .int .i64 x2, .int .i64 x3, .int .i64 x4]).call hb9).five
        obtain ⟨j0, j1, j2, j3, j4, f0, f1, f2, f3, f4⟩ := (show Blk w9 w.heap.size 36 #[.int .i64 0, .int .i64 0, .int .i64 0, .int .i64 0, .int .i64 0] from HQ.2.1).five
        have hw := HQ.1
        have gl := HQ.2.1.lt
        clear HQ hb9 k0 k1 k2 k3 k4
        go_wp2
        refine bodyPost_ret (v := .tuple #[.agg #[.int .i64 0, .int .i64 0, .int .i64 0, .int .i64 0, .int .i64 0], .bool false]) (by simp [results, Tryd.results32, go_sem, *]) rfl (ret_mk ?_)
        repeat (first | (with_reducible exact Below.refl _ _) | (with_reducible assumption) | (with_reducible refine bl_alloc ?_ _) | (with_reducible refine bl_drew ?_) | (with_reducible refine bl_set ?_ (by simp <;> omega) _) | (with_reducible refine bl_call ?_ (by assumption)))
      · have ev := EV.out
        rw [ho] at ev
        simp at ev
        subst ev
        go_wp2_with fail
        refine (i_okd_t _ ho).mono ?_
        rintro e w9 ⟨rfl, hb9⟩
        have HQ := (show PS w (wr.alloc (.cells #[.int .i64 x0, .int .i64 x1, .int .i64 x2, .int .i64 x3, .int .i64 x4] 36)) _ _ _ _ from HP.out.call (bl_alloc (Below.refl _ _) _)).call hb9
        obtain ⟨u0, u1, u2, u3, u4, -, -, -, -, -⟩ := ((Blk.new wr 36 #[.int .i64 x0, .int .i64 x1, .int .i64 x2, .int .i64 x3, .int .i64 x4]).call hb9).five
        obtain ⟨j0, j1, j2, j3, j4, f0, f1, f2, f3, f4⟩ := (show Blk w9 w.heap.size 36 #[.int .i64 0, .int .i64 0, .int .i64 0, .int .i64 0, .int .i64 0] from HQ.2.1).five
        have hw := HQ.1
        have gl := HQ.2.1.lt
        clear HQ hb9 k0 k1 k2 k3 k4
        go_wp2
        refine bodyPost_ret (v := .tuple #[.agg #[.int .i64 x0, .int .i64 x1, .int .i64 x2, .int .i64 x3, .int .i64 x4], .bool true]) (by simp [results, Tryd.results32, go_sem, *]) rfl (ret_mk ?_)
        repeat (first | (with_reducible exact Below.refl _ _) | (with_reducible assumption) | (with_reducible refine bl_alloc ?_ _) | (with_reducible refine bl_drew ?_) | (with_reducible refine bl_set ?_ (by simp <;> omega) _) | (with_reducible refine bl_call ?_ (by assumption)))
theorem i_PD (s : ByteArray) (V : Option DW) (w : World) (hs : s.size ≤ 1048576) (hS : EnvS w) (hI : EnvI w) (hE : EnvE w) (hV : IsPar s.data.toList V) : Calls Tryd.prog 32 #[.string s] w (Ret (parV V) w) := by
  obtain ⟨h0, r, e1⟩ := spl_ne 47 s.data.toList
  by_cases c2 : (spl 47 s.data.toList).length = 2
  · obtain ⟨h1, rfl⟩ : ∃ h1, r = [h1] := by
      rw [e1] at c2
      match r, c2 with
      | [h1], _ => exact ⟨h1, rfl⟩
    by_cases c4 : (spl 44 h0).length = 4
    · obtain ⟨t0, t1, t2, t3, e2⟩ : ∃ t0 t1 t2 t3, spl 44 h0 = [t0, t1, t2, t3] := by
        match hm : spl 44 h0, c4 with
        | [t0, t1, t2, t3], _ => exact ⟨t0, t1, t2, t3, rfl⟩
      exact i_PD_ok s h0 h1 t0 t1 t2 t3 _ _ _ _ _ V w hs hS hI hE hV e1 e2 rfl rfl rfl rfl rfl
    · have := parD_len4 hV e1 c4
      subst this
      exact i_PD_bad4 s _ h0 h1 w hs hS e1 rfl c4
  · have := parD_len hV c2
    subst this
    exact i_PD_bad2 s _ w hs hS rfl c2
/-- The two readers answer alike: five numbers and a bool. -/
theorem PD_u (s : ByteArray) (hs : s.size ≤ 1048576) : ∃ (x y z t m : Int) (ok : Bool), (∀ W, Calls Tryd.prog 31 #[.string s] W (Ret (.tuple #[.agg #[.int .i64 x, .int .i64 y, .int .i64 z, .int .i64 t, .int .i64 m], .bool ok]) W)) ∧ (∀ W, EnvS W → EnvI W → EnvE W → Calls Tryd.prog 32 #[.string s] W (Ret (.tuple #[.agg #[.int .i64 x, .int .i64 y, .int .i64 z, .int .i64 t, .int .i64 m], .bool ok]) W)) ∧ (ok = true → isText s.data.toList ⟨⟨x, y, z, t⟩, m⟩) ∧ (ok = false → ∀ X, ¬ isText s.data.toList X) := by
  obtain ⟨V, hV⟩ := par_ex s.data.toList
  cases V with
  | none =>
    exact ⟨0, 0, 0, 0, 0, false, fun W => s_PD s none W hs hV, fun W a b c => i_PD s none W hs a b c hV, (fun h => by cases h), (fun _ X hX => by have := (hV X).2 hX; cases this)⟩
  | some X =>
    obtain ⟨⟨x, y, z, t⟩, m⟩ := X
    exact ⟨x, y, z, t, m, true, fun W => s_PD s _ W hs hV, fun W a b c => i_PD s _ W hs a b c hV, (fun _ => (hV _).1 rfl), (fun h => by cases h)⟩
end Go.Proofs.YtbjmfapoioebjaaDoor
