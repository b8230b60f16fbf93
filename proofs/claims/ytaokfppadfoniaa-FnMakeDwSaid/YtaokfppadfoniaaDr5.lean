/- Contracts: the draw for lowest terms. -/
import Derived.Test.YtaokfppadfoniaaDr4
namespace Go.Proofs.Ytaokfppadfoniaa
open Go.RowKit
set_option linter.unusedVariables false

theorem up_u (a b c d : Int) (T : Nat) (hT : T ≤ 60) : ∃ (x y z t : Int) (ok : Bool), ∀ W, Calls Try.prog 66 #[.agg #[.int .i64 a, .int .i64 b, .int .i64 c, .int .i64 d], .int .i64 (T : Int)] W (Ret (.tuple #[.agg #[.int .i64 x, .int .i64 y, .int .i64 z, .int .i64 t], .bool ok]) W) := by
  rcases h : upZ ⟨a, b, c, d⟩ T with _ | ⟨x, y, z, t⟩
  · exact ⟨0, 0, 0, 0, false, fun W => s_Up W hT h⟩
  · exact ⟨x, y, z, t, true, fun W => s_Up W hT h⟩
section
variable {w X Y : World} {g n c r : Nat} {A : Option Addr} {t : TypeId} {cs : Array Value} {L : List (Nat × TypeId × Array Value)}
theorem DS.head (h : DS w X g A n c ((r, t, cs) :: L)) : Blk X r t cs := (h.2.2.2 _ List.mem_cons_self).1
/-- The cursor and another new block after a store into the block that leads the list. -/
theorem DS.put4 {p q s u p' q' s' u' : Value} {b : Nat} {tb : TypeId} {cb : Array Value} (h : DS w X g A n c [(r, t, #[p, q, s, u]), (b, tb, cb)]) (hr : w.heap.size ≤ r) (hg : g < r) (hb : b ≠ r) :
    DS w ((((X.setCell ⟨r, 0, none⟩ p').setCell ⟨r, 1, none⟩ q').setCell ⟨r, 2, none⟩ s').setCell ⟨r, 3, none⟩ u') g A n c [(r, t, #[p', q', s', u']), (b, tb, cb)] := by
  have hc : ∀ {Y : World}, Cur Y g A n c → ∀ i v, Cur (Y.setCell ⟨r, i, none⟩ v) g A n c := fun hY i v => hY.set_far hg i v
  refine ⟨hc (hc (hc (hc h.1 0 _) 1 _) 2 _) 3 _, bl_set (bl_set (bl_set (bl_set h.2.1 hr _) hr _) hr _) hr _, h.2.2.1, fun x hm => ?_⟩
  simp only [List.mem_cons, List.not_mem_nil, or_false] at hm
  rcases hm with rfl | rfl
  · exact ⟨h.head.put4 _ _ _ _, (h.2.2.2 _ List.mem_cons_self).2⟩
  · have q := h.2.2.2 (b, tb, cb) (List.mem_cons_of_mem _ List.mem_cons_self)
    exact ⟨q.1.far4 hb _ _ _ _, q.2⟩
end
def RetZI (w : World) (e : Ending) (w' : World) : Prop := ∃ a b c d k : Int, e = .returned (.tuple #[.agg #[.int .i64 a, .int .i64 b, .int .i64 c, .int .i64 d], .int .i64 k]) ∧ Below w.heap.size w w'
set_option maxHeartbeats 1000000 in
theorem d_DrawNew (A : Option Addr) (n c : Nat) (w : World) (hR : RB w w.heap.size A n) (hn : n ≤ 9223372036854775807) : Calls Try.prog 15 #[.slice A n c] w (RetZI w) := by
  have HR := Lib.hid hR
  clear hR
  go_enter Try.func15, Try.ntmps15
  go_wp2_with fail
  have T0 : Own w (w.alloc (.cells #[.int .i64 0, .int .i64 0, .int .i64 0, .int .i64 0] 25)) [(w.heap.size, 25, #[.int .i64 0, .int .i64 0, .int .i64 0, .int .i64 0])] := by simpa using ((Own.start w).push 25 #[.int .i64 0, .int .i64 0, .int .i64 0, .int .i64 0])
  refine (d_newE A n c w _ _ HR.out hn T0).mono ?_
  rintro e w1 ⟨g, rfl, s1⟩
  have S1 := Lib.hid s1
  clear s1 T0
  go_wp2_with fail
  refine (d_zw g A n c _ S1.out.cur).mono ?_
  rintro e w2 ⟨v, rfl, ⟨a, b, cc, d, rfl⟩, hC2, hO2⟩
  have S2 := Lib.hid (S1.out.cret hC2 hO2)
  clear hC2 hO2
  have S2p := Lib.hid (S2.out.push 25 #[.int .i64 a, .int .i64 b, .int .i64 cc, .int .i64 d])
  have hgr : g < w2.heap.size := S2.out.cur.lt
  have hwr : w.heap.size ≤ w2.heap.size := S2.out.below.size
  have hrr : w.heap.size < w2.heap.size := S2.out.own.head.lt
  have hn1 := Nat.ne_of_lt hrr
  have hn2 := Nat.ne_of_gt hrr
  go_wp2_with fail
  refine (d_once 2 g A n c _ S2p.out.cur (by omega)).mono ?_
  rintro e w3 ⟨v, rfl, ⟨o, rfl⟩, hC3, hO3⟩
  have S3 := Lib.hid (S2p.out.cret hC3 hO3)
  clear hC3 hO3
  cases o
  · go_wp2_with fail
    obtain ⟨k0, k1, k2, k3, -, -, -, -⟩ := S3.out.own.head.four
    go_region_held3 (fun w' => w'.cell? ⟨w2.heap.size, 0, none⟩ = some (.int .i64 a) ∧ w'.cell? ⟨w2.heap.size, 1, none⟩ = some (.int .i64 b) ∧ w'.cell? ⟨w2.heap.size, 2, none⟩ = some (.int .i64 cc) ∧ w'.cell? ⟨w2.heap.size, 3, none⟩ = some (.int .i64 d)) (first | exact ⟨k0, k1, k2, k3⟩ | go_keep) (first | (go_at_call 69; (first | (refine (d_pick _ 11 _ _ _ (fun _ => True) g A n c _ (S3.out.push _ _).cur (S3.out.push _ _).head (Nat.ne_of_gt S3.out.cur.lt) (by omega) (by omega) (by intro j hj; (rcases j with _ | j; exact ⟨_, rfl, trivial⟩); (rcases j with _ | j; exact ⟨_, rfl, trivial⟩); (rcases j with _ | j; exact ⟨_, rfl, trivial⟩); (rcases j with _ | j; exact ⟨_, rfl, trivial⟩); (rcases j with _ | j; exact ⟨_, rfl, trivial⟩); (rcases j with _ | j; exact ⟨_, rfl, trivial⟩); (rcases j with _ | j; exact ⟨_, rfl, trivial⟩); (rcases j with _ | j; exact ⟨_, rfl, trivial⟩); (rcases j with _ | j; exact ⟨_, rfl, trivial⟩); (rcases j with _ | j; exact ⟨_, rfl, trivial⟩); (rcases j with _ | j; exact ⟨_, rfl, trivial⟩); omega)).mono ?_; rintro e w9 ⟨v, rfl, ⟨x9, rfl, -⟩, hC9, hO9⟩; have S9 := (S3.out.push _ _).cret hC9 hO9) | (refine (d_pick _ 11 _ _ _ (fun _ => True) g A n c _ ((S3.out.push _ _).drew).cur ((S3.out.push _ _).drew).head (Nat.ne_of_gt S3.out.cur.lt) (by omega) (by omega) (by intro j hj; (rcases j with _ | j; exact ⟨_, rfl, trivial⟩); (rcases j with _ | j; exact ⟨_, rfl, trivial⟩); (rcases j with _ | j; exact ⟨_, rfl, trivial⟩); (rcases j with _ | j; exact ⟨_, rfl, trivial⟩); (rcases j with _ | j; exact ⟨_, rfl, trivial⟩); (rcases j with _ | j; exact ⟨_, rfl, trivial⟩); (rcases j with _ | j; exact ⟨_, rfl, trivial⟩); (rcases j with _ | j; exact ⟨_, rfl, trivial⟩); (rcases j with _ | j; exact ⟨_, rfl, trivial⟩); (rcases j with _ | j; exact ⟨_, rfl, trivial⟩); (rcases j with _ | j; exact ⟨_, rfl, trivial⟩); omega)).mono ?_; rintro e w9 ⟨v, rfl, ⟨x9, rfl, -⟩, hC9, hO9⟩; have S9 := ((S3.out.push _ _).drew).cret hC9 hO9) | (refine (d_pick _ 11 _ _ _ (fun _ => True) g A n c _ (S3.out.drew.push _ _).cur (S3.out.drew.push _ _).head (Nat.ne_of_gt S3.out.cur.lt) (by omega) (by omega) (by intro j hj; (rcases j with _ | j; exact ⟨_, rfl, trivial⟩); (rcases j with _ | j; exact ⟨_, rfl, trivial⟩); (rcases j with _ | j; exact ⟨_, rfl, trivial⟩); (rcases j with _ | j; exact ⟨_, rfl, trivial⟩); (rcases j with _ | j; exact ⟨_, rfl, trivial⟩); (rcases j with _ | j; exact ⟨_, rfl, trivial⟩); (rcases j with _ | j; exact ⟨_, rfl, trivial⟩); (rcases j with _ | j; exact ⟨_, rfl, trivial⟩); (rcases j with _ | j; exact ⟨_, rfl, trivial⟩); (rcases j with _ | j; exact ⟨_, rfl, trivial⟩); (rcases j with _ | j; exact ⟨_, rfl, trivial⟩); omega)).mono ?_; rintro e w9 ⟨v, rfl, ⟨x9, rfl, -⟩, hC9, hO9⟩; have S9 := (S3.out.drew.push _ _).cret hC9 hO9)); obtain ⟨k0, k1, k2, k3, -, -, -, -⟩ := S9.own.tail.head.four; obtain ⟨r0, r1, r2, r3, f0, f1, f2, f3⟩ := S9.own.tail.tail.head.four; have hbe := S9.below; have lr := S9.own.tail.tail.head.lt))
    all_goals
      go_wp2
      refine bodyPost_ret (v := .tuple #[.agg #[.int .i64 a, .int .i64 b, .int .i64 cc, .int .i64 d], .int .i64 x9]) (by simp [results, Try.results15, go_sem, *]) rfl ⟨_, _, _, _, _, rfl, ?_⟩
      repeat (first | (with_reducible exact Below.refl _ _) | (with_reducible assumption) | (with_reducible refine bl_alloc ?_ _) | (with_reducible refine bl_drew ?_) | (with_reducible refine bl_set ?_ (by simp <;> omega) _) | (with_reducible refine bl_call ?_ (by assumption)))
  · go_wp2_with fail
    refine (d_small g A n c _ S3.out.cur).mono ?_
    rintro e w4 ⟨v, rfl, ⟨a4, b4, c4, d4, rfl⟩, hC4, hO4⟩
    have S4 := Lib.hid (S3.out.cret hC4 hO4)
    clear hC4 hO4
    go_wp2_with fail
    refine (d_below 8 g A n c _ S4.out.cur (by omega)).mono ?_
    rintro e w5 ⟨v, rfl, ⟨x5, rfl, l5, u5⟩, hC5, hO5⟩
    have S5 := Lib.hid (S4.out.cret hC5 hO5)
    clear hC5 hO5
    obtain ⟨T, rfl⟩ := Int.eq_ofNat_of_zero_le l5
    obtain ⟨x, y, z, t, ok, hS⟩ := up_u a4 b4 c4 d4 T (by omega)
    have HS := Lib.hid hS
    clear hS
    go_wp2_with fail
    refine (HS.out _).mono ?_
    rintro e w6 ⟨rfl, hb6⟩
    have S6 := Lib.hid (S5.out.call hb6)
    clear hb6
    obtain ⟨k0, k1, k2, k3, e0, e1, e2, e3⟩ := S6.out.own.head.four
    go_wp2_with fail
    have S7 := Lib.hid (S6.out.put4 (p' := .int .i64 x) (q' := .int .i64 y) (s' := .int .i64 z) (u' := .int .i64 t) hwr hgr (Nat.ne_of_lt hrr))
    obtain ⟨w7, hw7⟩ : ∃ w7, (((w6.setCell ⟨w2.heap.size, 0, none⟩ (.int .i64 x)).setCell ⟨w2.heap.size, 1, none⟩ (.int .i64 y)).setCell ⟨w2.heap.size, 2, none⟩ (.int .i64 z)).setCell ⟨w2.heap.size, 3, none⟩ (.int .i64 t) = w7 := ⟨_, rfl⟩
    rw [hw7] at S7 ⊢
    clear hw7 k0 k1 k2 k3 e0 e1 e2 e3
    obtain ⟨k0, k1, k2, k3, -, -, -, -⟩ := S7.out.own.head.four
    go_region_held3 (fun w' => w'.cell? ⟨w2.heap.size, 0, none⟩ = some (.int .i64 x) ∧ w'.cell? ⟨w2.heap.size, 1, none⟩ = some (.int .i64 y) ∧ w'.cell? ⟨w2.heap.size, 2, none⟩ = some (.int .i64 z) ∧ w'.cell? ⟨w2.heap.size, 3, none⟩ = some (.int .i64 t)) (first | exact ⟨k0, k1, k2, k3⟩ | go_keep) (first | (go_at_call 69; (first | (refine (d_pick _ 11 _ _ _ (fun _ => True) g A n c _ (S7.out.push _ _).cur (S7.out.push _ _).head (Nat.ne_of_gt S7.out.cur.lt) (by omega) (by omega) (by intro j hj; (rcases j with _ | j; exact ⟨_, rfl, trivial⟩); (rcases j with _ | j; exact ⟨_, rfl, trivial⟩); (rcases j with _ | j; exact ⟨_, rfl, trivial⟩); (rcases j with _ | j; exact ⟨_, rfl, trivial⟩); (rcases j with _ | j; exact ⟨_, rfl, trivial⟩); (rcases j with _ | j; exact ⟨_, rfl, trivial⟩); (rcases j with _ | j; exact ⟨_, rfl, trivial⟩); (rcases j with _ | j; exact ⟨_, rfl, trivial⟩); (rcases j with _ | j; exact ⟨_, rfl, trivial⟩); (rcases j with _ | j; exact ⟨_, rfl, trivial⟩); (rcases j with _ | j; exact ⟨_, rfl, trivial⟩); omega)).mono ?_; rintro e w9 ⟨v, rfl, ⟨x9, rfl, -⟩, hC9, hO9⟩; have S9 := (S7.out.push _ _).cret hC9 hO9) | (refine (d_pick _ 11 _ _ _ (fun _ => True) g A n c _ ((S7.out.push _ _).drew).cur ((S7.out.push _ _).drew).head (Nat.ne_of_gt S7.out.cur.lt) (by omega) (by omega) (by intro j hj; (rcases j with _ | j; exact ⟨_, rfl, trivial⟩); (rcases j with _ | j; exact ⟨_, rfl, trivial⟩); (rcases j with _ | j; exact ⟨_, rfl, trivial⟩); (rcases j with _ | j; exact ⟨_, rfl, trivial⟩); (rcases j with _ | j; exact ⟨_, rfl, trivial⟩); (rcases j with _ | j; exact ⟨_, rfl, trivial⟩); (rcases j with _ | j; exact ⟨_, rfl, trivial⟩); (rcases j with _ | j; exact ⟨_, rfl, trivial⟩); (rcases j with _ | j; exact ⟨_, rfl, trivial⟩); (rcases j with _ | j; exact ⟨_, rfl, trivial⟩); (rcases j with _ | j; exact ⟨_, rfl, trivial⟩); omega)).mono ?_; rintro e w9 ⟨v, rfl, ⟨x9, rfl, -⟩, hC9, hO9⟩; have S9 := ((S7.out.push _ _).drew).cret hC9 hO9) | (refine (d_pick _ 11 _ _ _ (fun _ => True) g A n c _ (S7.out.drew.push _ _).cur (S7.out.drew.push _ _).head (Nat.ne_of_gt S7.out.cur.lt) (by omega) (by omega) (by intro j hj; (rcases j with _ | j; exact ⟨_, rfl, trivial⟩); (rcases j with _ | j; exact ⟨_, rfl, trivial⟩); (rcases j with _ | j; exact ⟨_, rfl, trivial⟩); (rcases j with _ | j; exact ⟨_, rfl, trivial⟩); (rcases j with _ | j; exact ⟨_, rfl, trivial⟩); (rcases j with _ | j; exact ⟨_, rfl, trivial⟩); (rcases j with _ | j; exact ⟨_, rfl, trivial⟩); (rcases j with _ | j; exact ⟨_, rfl, trivial⟩); (rcases j with _ | j; exact ⟨_, rfl, trivial⟩); (rcases j with _ | j; exact ⟨_, rfl, trivial⟩); (rcases j with _ | j; exact ⟨_, rfl, trivial⟩); omega)).mono ?_; rintro e w9 ⟨v, rfl, ⟨x9, rfl, -⟩, hC9, hO9⟩; have S9 := (S7.out.drew.push _ _).cret hC9 hO9)); obtain ⟨k0, k1, k2, k3, -, -, -, -⟩ := S9.own.tail.head.four; obtain ⟨r0, r1, r2, r3, f0, f1, f2, f3⟩ := S9.own.tail.tail.head.four; have hbe := S9.below; have lr := S9.own.tail.tail.head.lt))
    all_goals
      go_wp2
      refine bodyPost_ret (v := .tuple #[.agg #[.int .i64 x, .int .i64 y, .int .i64 z, .int .i64 t], .int .i64 x9]) (by simp [results, Try.results15, go_sem, *]) rfl ⟨_, _, _, _, _, rfl, ?_⟩
      repeat (first | (with_reducible exact Below.refl _ _) | (with_reducible assumption) | (with_reducible refine bl_alloc ?_ _) | (with_reducible refine bl_drew ?_) | (with_reducible refine bl_set ?_ (by simp <;> omega) _) | (with_reducible refine bl_call ?_ (by assumption)))
end Go.Proofs.Ytaokfppadfoniaa
