/- Contracts: the cursor of the draws. Any number may be drawn; what counts is that a draw returns and changes nothing that was there. -/
import Derived.Test.YtaokfppadfoniaaOwn
import Derived.Laws.BitsLemmas
namespace Go.Proofs.Ytaokfppadfoniaa
open Go.RowKit
set_option linter.unusedVariables false

theorem and255 (n : Int) : bits .and .i64 n 255 = n % 256 := by
  have h255 : (BitVec.ofInt 64 255).toNat = 2 ^ 8 - 1 := by decide
  have key : (BitVec.ofInt 64 n &&& BitVec.ofInt 64 255).toNat = (n % ((2 ^ 64 : Nat) : Int)).toNat % 2 ^ 8 := by
    rw [BitVec.toNat_and, BitVec.toNat_ofInt, h255, Nat.and_two_pow_sub_one_eq_mod]
  show IntKind.i64.wrap ((BitVec.ofInt 64 n &&& BitVec.ofInt 64 255).toNat : Nat) = n % 256
  rw [key, IntKind.wrap_i64]
  omega

/-- The bytes at A lie below block B. -/
def RB (w : World) (B : Nat) (A : Option Addr) (n : Nat) : Prop := ∀ i, i < n → ∃ b off x, A = some ⟨b, off, none⟩ ∧ b < B ∧ w.cell? ⟨b, off + i, none⟩ = some (.int .u8 x) ∧ 0 ≤ x ∧ x ≤ 255
theorem RB.keep {w w' : World} {B n : Nat} {A : Option Addr} (h : RB w B A n) (hb : Below B w w') : RB w' B A n := fun i hi => by
  obtain ⟨b, off, x, h1, h2, h3, h4⟩ := h i hi
  exact ⟨b, off, x, h1, h2, (hb.cell (p := ⟨b, off + i, none⟩) h2).trans h3, h4⟩
theorem RB.more {w : World} {B B' n : Nat} {A : Option Addr} (h : RB w B A n) (hB : B ≤ B') : RB w B' A n := fun i hi => by
  obtain ⟨b, off, x, h1, h2, h3⟩ := h i hi
  exact ⟨b, off, x, h1, by omega, h3⟩
theorem RB.call {w w' : World} {n : Nat} {A : Option Addr} (h : RB w w.heap.size A n) (hb : Below w.heap.size w w') : RB w' w'.heap.size A n := (h.keep hb).more hb.size
/-- A cursor in block g, over n bytes at A that lie below it. -/
def Cur (w : World) (g : Nat) (A : Option Addr) (n c : Nat) : Prop := ∃ (i : Nat) (h : Int), i ≤ n ∧ Blk w g 105 #[.slice A n c, .int .i64 (i : Int), .int .i64 h] ∧ RB w g A n ∧ n ≤ 9223372036854775807
/-- Of the blocks that were there only g has changed. -/
def Only (g : Nat) (w w' : World) : Prop := Below g w w' ∧ ∀ b, g < b → b < w.heap.size → w'.heap[b]? = w.heap[b]?
section
variable {w w' w'' : World} {g n c : Nat} {A : Option Addr}
theorem Only.refl (g : Nat) (w : World) : Only g w w := ⟨Below.refl _ _, fun _ _ _ => rfl⟩
theorem Only.trans (h : Only g w w') (k : Only g w' w'') : Only g w w'' :=
  ⟨h.1.trans k.1, fun b hb hl => (k.2 b hb (Nat.lt_of_lt_of_le hl h.1.size)).trans (h.2 b hb hl)⟩
theorem Only.drew (h : Only g w w') : Only g w w'.drew := ⟨h.1.drew, h.2⟩
theorem Only.set (h : Only g w w') (i : Nat) (u : Value) : Only g w (w'.setCell ⟨g, i, none⟩ u) := ⟨h.1.setCell (Nat.le_refl _) u, fun b hb hl => (Below.heap_setCell _ _ _ _ (by show b ≠ g; omega)).trans (h.2 b hb hl)⟩
theorem Only.of_below (h : Below w.heap.size w w') (hg : g < w.heap.size) : Only g w w' := ⟨h.mono (Nat.le_of_lt hg), fun b _ hl => h.block b hl⟩
theorem Only.below {w0 : World} (h : Only g w w') (h0 : Below w0.heap.size w0 w) (hg : w0.heap.size ≤ g) : Below w0.heap.size w0 w' := h0.trans (h.1.mono hg)
theorem Only.blk {b : Nat} {t : TypeId} {cs : Array Value} (h : Only g w w') (hb : Blk w b t cs) (hne : b ≠ g) : Blk w' b t cs := by
  rcases Nat.lt_or_gt_of_ne hne with hl | hl
  · exact hb.below h.1 hl
  · exact (h.2 b hl hb.lt).trans hb
theorem Cur.lt (h : Cur w g A n c) : g < w.heap.size := by
  obtain ⟨i, x, _, hB, _⟩ := h
  exact hB.lt
theorem Cur.call (h : Cur w g A n c) (hb : Below w.heap.size w w') : Cur w' g A n c := by
  have hl := h.lt
  obtain ⟨i, x, h1, hB, hR, hn⟩ := h
  exact ⟨i, x, h1, hB.call hb, hR.keep (hb.mono (Nat.le_of_lt hl)), hn⟩
theorem Cur.drew (h : Cur w g A n c) : Cur w.drew g A n c := h
theorem Cur.alloc (h : Cur w g A n c) (o : Obj) : Cur (w.alloc o) g A n c := h.call (bl_alloc (Below.refl _ _) o)
end
/-- A draw: some value with Q came back, the cursor is one still, nothing else has changed. -/
def CRet (g : Nat) (A : Option Addr) (n c : Nat) (w : World) (Q : Value → Prop) (e : Ending) (w' : World) : Prop := ∃ v, e = .returned v ∧ Q v ∧ Cur w' g A n c ∧ Only g w w'
theorem bel_at {B : Nat} {a W : World} (h : Below B a W) {g i : Nat} (hp : B ≤ g) (u : Value) : Below B a (W.setCell ⟨g, i, none⟩ u) := h.setCell hp u
def isInt (lo hi : Int) (v : Value) : Prop := ∃ x : Int, v = .int .i64 x ∧ lo ≤ x ∧ x ≤ hi
set_option maxHeartbeats 1000000 in
theorem d_byte (g : Nat) (A : Option Addr) (n c : Nat) (w : World) (hC : Cur w g A n c) : Calls Try.prog 100 #[.pointer (some ⟨g, 0, none⟩)] w (CRet g A n c w (isInt 0 255)) := by
  obtain ⟨i, h, hi, hB, hR, hn⟩ := hC
  have HR := Lib.hid hR
  have HB := Lib.hid hB
  have c0 := hB.cell 0
  have c1 := hB.cell 1
  have c2 := hB.cell 2
  have f0 := hB.free 0
  have f1 := hB.free 1
  have f2 := hB.free 2
  simp at c0 c1 c2
  clear hB hR
  go_enter Try.func100, Try.ntmps100
  go_wp2_with fail
  obtain ⟨h1, hh1⟩ : ∃ h1, wrap64 (wrap64 (h * 6364136223846793005) + 1442695040888963407) = h1 := ⟨_, rfl⟩
  rw [hh1]
  clear hh1
  obtain ⟨W, hW⟩ : ∃ W, w.setCell ⟨g, 2, none⟩ (.int .i64 h1) = W := ⟨_, rfl⟩
  have B1 : Blk W g 105 #[.slice A n c, .int .i64 (i : Int), .int .i64 h1] := by rw [← hW]; exact HB.out.put 2 _
  have O1 : Only g w W := by rw [← hW]; exact ⟨bel_at (Below.refl _ _) (Nat.le_refl _) _, fun b hb _ => Below.heap_setCell _ _ _ _ (by show b ≠ g; omega)⟩
  rw [hW]
  clear hW c0 c1 c2 f0 f1 f2
  have c0 := B1.cell 0
  have c1 := B1.cell 1
  have c2 := B1.cell 2
  have f1 := B1.free 1
  simp at c0 c1 c2
  have BB1 := Lib.hid B1
  have OO1 := Lib.hid O1
  clear B1 O1
  go_region_held3 (fun w' => w'.cell? ⟨g, 0, none⟩ = some (.slice A n c) ∧ w'.cell? ⟨g, 1, none⟩ = some (.int .i64 (i : Int)) ∧ w'.cell? ⟨g, 2, none⟩ = some (.int .i64 h1)) (first | exact ⟨c0, c1, c2⟩ | go_keep) (first | fail)
  rw [and255]
  obtain ⟨x, hx⟩ : ∃ x, bits .xor .i64 (h1 / 8589934592) (h1 / 35184372088832) % 256 = x := ⟨_, rfl⟩
  have hx0 : 0 ≤ x ∧ x ≤ 255 := by omega
  rw [hx]
  clear hx
  have d0 : W.drew.cell? ⟨g, 0, none⟩ = some (.slice A n c) := c0
  have d1 : W.drew.cell? ⟨g, 1, none⟩ = some (.int .i64 (i : Int)) := c1
  have BB2 : Hid (Blk W.drew g 105 #[.slice A n c, .int .i64 (i : Int), .int .i64 h1]) := BB1
  have OO2 : Hid (Only g w W.drew) := Lib.hid (OO1.out.drew)
  generalize W.drew = V at *
  clear c0 c1 c2 f1 BB1 OO1
  have g1 := BB2.out.free 1
  by_cases hlt : i < n
  · have hd : decide ((i : Int) < (n : Int)) = true := by simp; omega
    obtain ⟨b, off, y, rfl, hb, hy, y0, y1⟩ := HR.out i hlt
    have q0 : V.cell? ⟨b, off + i, none⟩ = some (.int .u8 y) := (OO2.out.1.cell (p := ⟨b, off + i, none⟩) hb).trans hy
    have i0 : (0 : Int) ≤ (i : Int) := by omega
    have i1 : (i : Int) < (n : Int) := by omega
    go_wp2_with fail
    go_region_held3 (fun w' => w'.cell? ⟨g, 0, none⟩ = some (.slice (some ⟨b, off, none⟩) n c) ∧ w'.cell? ⟨g, 1, none⟩ = some (.int .i64 (i : Int)) ∧ w'.cell? ⟨b, off + i, none⟩ = some (.int .u8 y)) (first | exact ⟨d0, d1, q0⟩ | go_keep) (first | fail)
    go_wp2_with fail
    go_region_held3 (fun w' => w'.cell? ⟨g, 0, none⟩ = some (.slice (some ⟨b, off, none⟩) n c) ∧ w'.cell? ⟨g, 1, none⟩ = some (.int .i64 (i : Int)) ∧ w'.cell? ⟨b, off + i, none⟩ = some (.int .u8 y)) (first | exact ⟨d0, d1, q0⟩ | go_keep) (first | fail)
    go_wp2
    go_ret
    refine ⟨_, rfl, ⟨_, rfl, ?_, ?_⟩, ⟨i + 1, h1, by omega, ?_, ?_, hn⟩, ?_⟩
    · rw [and255]; omega
    · rw [and255]; omega
    · exact BB2.out.put 1 _
    · exact HR.out.keep (bel_at OO2.out.1 (Nat.le_refl _) _).drew.drew
    · exact (OO2.out.set _ _).drew.drew
  · have hd : decide ((i : Int) < (n : Int)) = false := by simp; omega
    go_wp2_with fail
    go_region_held3 (fun w' => w'.cell? ⟨g, 0, none⟩ = some (.slice A n c) ∧ w'.cell? ⟨g, 1, none⟩ = some (.int .i64 (i : Int))) (first | exact ⟨d0, d1⟩ | go_keep) (first | fail)
    go_wp2
    go_ret
    exact ⟨_, rfl, ⟨_, rfl, hx0.1, hx0.2⟩, ⟨i, h1, hi, BB2.out, HR.out.keep OO2.out.1.drew, hn⟩, OO2.out.drew⟩
/-- Inside a function that draws: the cursor is one still, only it has changed of what was there at w, and the listed new blocks are known. -/
def CS (w X : World) (g : Nat) (A : Option Addr) (n c : Nat) (L : List (Nat × TypeId × Array Value)) : Prop := Cur X g A n c ∧ Only g w X ∧ g < w.heap.size ∧ ∀ b ∈ L, Blk X b.1 b.2.1 b.2.2 ∧ b.1 ≠ g
section
variable {w X Y : World} {g n c r : Nat} {A : Option Addr} {t : TypeId} {cs : Array Value} {L : List (Nat × TypeId × Array Value)}
theorem CS.start (h : Cur w g A n c) : CS w w g A n c [] := ⟨h, Only.refl _ _, h.lt, by simp⟩
theorem CS.cur (h : CS w X g A n c L) : Cur X g A n c := h.1
theorem CS.size (h : CS w X g A n c L) : w.heap.size ≤ X.heap.size := h.2.1.1.size
theorem CS.push (h : CS w X g A n c L) (t : TypeId) (cs : Array Value) : CS w (X.alloc (.cells cs t)) g A n c ((X.heap.size, t, cs) :: L) :=
  ⟨h.1.alloc _, h.2.1.trans (Only.of_below (bl_alloc (Below.refl _ _) _) h.1.lt), h.2.2.1, fun b hm => by
    rcases List.mem_cons.1 hm with e | e
    · rw [e]; exact ⟨Blk.new X t cs, Nat.ne_of_gt h.1.lt⟩
    · exact ⟨(h.2.2.2 b e).1.alloc _, (h.2.2.2 b e).2⟩⟩
theorem CS.cret (h : CS w X g A n c L) (hC : Cur Y g A n c) (hO : Only g X Y) : CS w Y g A n c L :=
  ⟨hC, h.2.1.trans hO, h.2.2.1, fun b hm => ⟨hO.blk (h.2.2.2 b hm).1 (h.2.2.2 b hm).2, (h.2.2.2 b hm).2⟩⟩
theorem CS.call (h : CS w X g A n c L) (hb : Below X.heap.size X Y) : CS w Y g A n c L :=
  h.cret (h.1.call hb) (Only.of_below hb h.1.lt)
theorem CS.drew (h : CS w X g A n c L) : CS w X.drew g A n c L := ⟨h.1, h.2.1.drew, h.2.2⟩
theorem CS.head (h : CS w X g A n c ((r, t, cs) :: L)) : Blk X r t cs := (h.2.2.2 _ List.mem_cons_self).1
theorem CS.tail {b : Nat × TypeId × Array Value} (h : CS w X g A n c (b :: L)) : CS w X g A n c L := ⟨h.1, h.2.1, h.2.2.1, fun b' hm => h.2.2.2 b' (List.mem_cons_of_mem _ hm)⟩
theorem Cur.set_far (h : Cur X g A n c) (hr : g < r) (i : Nat) (u : Value) : Cur (X.setCell ⟨r, i, none⟩ u) g A n c := by
  obtain ⟨j, x, h1, hB, hR, hn⟩ := h
  exact ⟨j, x, h1, hB.far (Nat.ne_of_lt hr) u, hR.keep (bel_at (Below.refl _ _) (Nat.le_of_lt hr) u), hn⟩
theorem Only.set_new (h : Only g w X) (hr : w.heap.size ≤ r) (hg : g < r) (i : Nat) (u : Value) : Only g w (X.setCell ⟨r, i, none⟩ u) :=
  ⟨h.1.setCell (Nat.le_of_lt hg) u, fun b hb hl => (Below.heap_setCell _ _ _ _ (by show b ≠ r; omega)).trans (h.2 b hb hl)⟩
theorem CS.set (h : CS w X g A n c L) (hr : w.heap.size ≤ r) (i : Nat) (u : Value) : Cur (X.setCell ⟨r, i, none⟩ u) g A n c ∧ Only g w (X.setCell ⟨r, i, none⟩ u) :=
  ⟨h.1.set_far (Nat.lt_of_lt_of_le h.2.2.1 hr) i u, h.2.1.set_new hr (Nat.lt_of_lt_of_le h.2.2.1 hr) i u⟩
theorem CS.base (h : CS w X g A n c L) (hr : w.heap.size ≤ r) (i : Nat) (u : Value) : CS w (X.setCell ⟨r, i, none⟩ u) g A n c [] :=
  ⟨(h.set hr i u).1, (h.set hr i u).2, h.2.2.1, by simp⟩
end
def isZ (v : Value) : Prop := ∃ a b c d : Int, v = .agg #[.int .i64 a, .int .i64 b, .int .i64 c, .int .i64 d]
def isD (v : Value) : Prop := ∃ a b c d k : Int, v = .agg #[.int .i64 a, .int .i64 b, .int .i64 c, .int .i64 d, .int .i64 k]
set_option maxHeartbeats 1000000 in
theorem d_new (A : Option Addr) (n c : Nat) (w : World) (hR : RB w w.heap.size A n) (hn : n ≤ 9223372036854775807) : Calls Try.prog 63 #[.slice A n c] w fun e w' => e = .returned (.pointer (some ⟨w.heap.size, 0, none⟩)) ∧ Cur w' w.heap.size A n c ∧ Below w.heap.size w w' := by
  have HR := Lib.hid hR
  clear hR
  go_enter Try.func63, Try.ntmps63
  go_wp2
  go_loop [3, 4] (fun h i => ∃ (k : Nat) (x : Int), k ≤ n ∧ h = .int .i64 x ∧ i = .int .i64 (k : Int)) (fun _ i => n - (intOf i).toNat)
  case atStart => exact ⟨0, _, by omega, rfl, rfl⟩
  case round =>
    obtain ⟨k, x, hk, rfl, rfl⟩ := hrel
    by_cases hlt : k < n
    · have hd : decide ((k : Int) < (n : Int)) = true := by simp; omega
      by_cases h4 : k < 4000
      · have hd4 : decide ((k : Int) < 4000) = true := by simp; omega
        obtain ⟨b, off, y, rfl, hb, hy, y0, y1⟩ := HR.out k hlt
        have i0 : (0 : Int) ≤ (k : Int) := by omega
        have i1 : (k : Int) < (n : Int) := by omega
        go_wp2
        go_round
        case rel => exact ⟨k + 1, _, by omega, rfl, by go_num⟩
        case measure => simp [intOf]; omega
      · have hd4 : decide ((k : Int) < 4000) = false := by simp; omega
        go_wp2
        go_ret
        exact ⟨rfl, ⟨0, _, by omega, Blk.new _ _ _, HR.out.keep (bl_alloc (Below.refl _ _) _), hn⟩, bl_alloc (Below.refl _ _) _⟩
    · have hd : decide ((k : Int) < (n : Int)) = false := by simp; omega
      go_wp2
      go_ret
      exact ⟨rfl, ⟨0, _, by omega, Blk.new _ _ _, HR.out.keep (bl_alloc (Below.refl _ _) _), hn⟩, bl_alloc (Below.refl _ _) _⟩
theorem rem_in {x n : Int} (hn : 0 < n) : 0 ≤ x % n ∧ x % n ≤ n - 1 := by
  have := Int.emod_nonneg x (Int.ne_of_gt hn)
  have := Int.emod_lt_of_pos x hn
  omega
set_option maxHeartbeats 1000000 in
theorem d_below (m : Int) (g : Nat) (A : Option Addr) (n c : Nat) (w : World) (hC : Cur w g A n c) (hm : 0 < m) : Calls Try.prog 68 #[.pointer (some ⟨g, 0, none⟩), .int .i64 m] w (CRet g A n c w (isInt 0 (m - 1))) := by
  have HC := Lib.hid hC
  clear hC
  by_cases hs : m ≤ 256
  · go_enter Try.func68, Try.ntmps68
    go_wp2_with fail
    refine (d_byte g A n c _ HC.out).mono ?_
    rintro e w1 ⟨v, rfl, ⟨x, rfl, x0, x1⟩, hC1, hO1⟩
    have H1 := Lib.hid hC1
    have H2 := Lib.hid hO1
    clear hC1 hO1
    go_wp2
    go_ret
    exact ⟨_, rfl, ⟨_, rfl, rem_in hm⟩, H1.out, H2.out⟩
  · go_enter Try.func68, Try.ntmps68
    go_wp2_with fail
    refine (d_byte g A n c _ HC.out).mono ?_
    rintro e w1 ⟨v, rfl, ⟨x, rfl, x0, x1⟩, hC1, hO1⟩
    have S1 := Lib.hid ((CS.start HC.out).cret hC1 hO1)
    clear hC1 hO1
    go_wp2_with fail
    refine (d_byte g A n c _ S1.out.cur).mono ?_
    rintro e w2 ⟨v, rfl, ⟨y, rfl, y0, y1⟩, hC1, hO1⟩
    have S2 := Lib.hid (S1.out.cret hC1 hO1)
    clear hC1 hO1
    go_wp2_with fail
    refine (d_byte g A n c _ S2.out.cur).mono ?_
    rintro e w3 ⟨v, rfl, ⟨z, rfl, z0, z1⟩, hC1, hO1⟩
    have S3 := Lib.hid (S2.out.cret hC1 hO1)
    clear hC1 hO1
    go_wp2_with fail
    refine (d_byte g A n c _ S3.out.cur).mono ?_
    rintro e w4 ⟨v, rfl, ⟨t, rfl, t0, t1⟩, hC1, hO1⟩
    have S4 := Lib.hid (S3.out.cret hC1 hO1)
    clear hC1 hO1
    have b1 : 0 ≤ x * 16777216 ∧ x * 16777216 ≤ 4278190080 := by omega
    have b2 : 0 ≤ y * 65536 ∧ y * 65536 ≤ 16711680 := by omega
    have b3 : 0 ≤ z * 256 ∧ z * 256 ≤ 65280 := by omega
    go_wp2
    go_ret
    exact ⟨_, rfl, ⟨_, rfl, rem_in hm⟩, S4.out.cur, S4.out.2.1⟩
set_option maxHeartbeats 1000000 in
theorem d_pick (b m c' : Nat) (t : TypeId) (cs : Array Value) (p : Int → Prop) (g : Nat) (A : Option Addr) (n c : Nat) (w : World) (hC : Cur w g A n c) (hB : Blk w b t cs) (hne : b ≠ g) (hm : 0 < m) (hm2 : m ≤ 1000) (hp : ∀ j, j < m → ∃ x, cs[j]? = some (.int .i64 x) ∧ p x) :
    Calls Try.prog 69 #[.pointer (some ⟨g, 0, none⟩), .slice (some ⟨b, 0, none⟩) m c'] w (CRet g A n c w fun v => ∃ x : Int, v = .int .i64 x ∧ p x) := by
  have HC := Lib.hid hC
  have HB := Lib.hid hB
  have HP := Lib.hid hp
  have HNE := Lib.hid hne
  clear hC hB hp hne
  go_enter Try.func69, Try.ntmps69
  go_wp2_with fail
  refine (d_below (m : Int) g A n c _ HC.out (by omega)).mono ?_
  rintro e w1 ⟨v, rfl, ⟨x, rfl, x0, x1⟩, hC1, hO1⟩
  obtain ⟨j, rfl⟩ := Int.eq_ofNat_of_zero_le x0
  have hj : j < m := by omega
  have i1 : (j : Int) < (m : Int) := by omega
  obtain ⟨y, hy, hpy⟩ := HP.out j hj
  have q0 : w1.cell? ⟨b, j, none⟩ = some (.int .i64 y) := by rw [(hO1.blk HB.out HNE.out).cell j]; exact hy
  have HY := Lib.hid hpy
  have H1 := Lib.hid hC1
  have H2 := Lib.hid hO1
  clear hC1 hO1 hpy hy
  go_wp2
  go_ret
  exact ⟨_, rfl, ⟨_, rfl, HY.out⟩, H1.out, H2.out⟩
end Go.Proofs.Ytaokfppadfoniaa
