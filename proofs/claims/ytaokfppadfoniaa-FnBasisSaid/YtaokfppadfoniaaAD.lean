/- Contracts: the program's sum in D[omega]. -/
import Derived.Test.YtaokfppadfoniaaUp
import Derived.Deep.RegionHeld3
import Derived.Deep.DeepCutAuto
import Derived.Deep.LoopGhost
import Derived.Outline
namespace Go.Proofs.Ytaokfppadfoniaa
open Go.RowKit
set_option linter.unusedVariables false

theorem addZ_comm (x y : ZO) : addZ x y = addZ y x := by
  have e : zadd x y = zadd y x := by
    unfold zadd
    rw [Int.add_comm x.a, Int.add_comm x.b, Int.add_comm x.c, Int.add_comm x.d]
  unfold addZ
  rw [e]
  by_cases h : okz x = true ∧ okz y = true ∧ okz (zadd y x) = true
  · rw [if_pos h, if_pos ⟨h.2.1, h.1, h.2.2⟩]
  · rw [if_neg h, if_neg (fun h' => h ⟨h'.2.1, h'.1, h'.2.2⟩)]
section
variable {w X : World} {L : List (Nat × TypeId × Array Value)} {g : Nat} {t : TypeId}
theorem Own.put5n {a b c d e : Value} (h : Own w X ((g, t, #[a, b, c, d, e]) :: L)) (hg : w.heap.size ≤ g) (hn : ∀ b ∈ L, b.1 ≠ g) (p q r s l : Value) :
    Own w (((((X.setCell ⟨g, 0, none⟩ p).setCell ⟨g, 1, none⟩ q).setCell ⟨g, 2, none⟩ r).setCell ⟨g, 3, none⟩ s).setCell ⟨g, 4, none⟩ l) ((g, t, #[p, q, r, s, l]) :: L) :=
  (((((h.tail.set_n hg hn 0 p).set_n hg hn 1 q).set_n hg hn 2 r).set_n hg hn 3 s).set_n hg hn 4 l).add (h.head.put5 p q r s l)
theorem own_two {zs : Array Value} {x0 x1 x2 x3 x4 y0 y1 y2 y3 y4 : Value} (h : Own w X [(w.heap.size + 1 + 1, t, zs), (w.heap.size + 1, t, #[y0, y1, y2, y3, y4]), (w.heap.size, t, #[x0, x1, x2, x3, x4])]) (a0 a1 a2 a3 a4 b0 b1 b2 b3 b4 : Value) :
    Own w ((((((((((X.setCell ⟨w.heap.size, 0, none⟩ a0).setCell ⟨w.heap.size, 1, none⟩ a1).setCell ⟨w.heap.size, 2, none⟩ a2).setCell ⟨w.heap.size, 3, none⟩ a3).setCell ⟨w.heap.size, 4, none⟩ a4).setCell ⟨w.heap.size + 1, 0, none⟩ b0).setCell ⟨w.heap.size + 1, 1, none⟩ b1).setCell ⟨w.heap.size + 1, 2, none⟩ b2).setCell ⟨w.heap.size + 1, 3, none⟩ b3).setCell ⟨w.heap.size + 1, 4, none⟩ b4)
      [(w.heap.size + 1 + 1, t, zs), (w.heap.size + 1, t, #[b0, b1, b2, b3, b4]), (w.heap.size, t, #[a0, a1, a2, a3, a4])] := by
  have h1 : Own w X [(w.heap.size, t, #[x0, x1, x2, x3, x4]), (w.heap.size + 1 + 1, t, zs), (w.heap.size + 1, t, #[y0, y1, y2, y3, y4])] := ((h.base.add h.tail.head).add h.head).add h.tail.tail.head
  have h2 := h1.put5n (Nat.le_refl _) (by simp; omega) a0 a1 a2 a3 a4
  have h3 := (((h2.base.add h2.head).add h2.tail.head).add h2.tail.tail.head).put5n (by omega) (by simp; try omega) b0 b1 b2 b3 b4
  exact ((h3.base.add h3.tail.tail.head).add h3.head).add h3.tail.head
end
def AdRel (w : World) (g : Nat) (tz : TypeId) (Lx : Int) (NT : Nat) (R : Option ZO) (L : List (Nat × TypeId × Array Value)) (gk : Nat) (v : Value) (wr : World) : Prop :=
  ∃ (j : Nat) (x y z t : Int), j ≤ NT ∧ gk = NT - j ∧ v = .int .i64 (Lx + j) ∧ upZ ⟨x, y, z, t⟩ (NT - j) = R ∧ Own w wr ((g, tz, #[.int .i64 x, .int .i64 y, .int .i64 z, .int .i64 t]) :: L)
def outV (o : Option DW) : Value := match o with
  | some m => .tuple #[.agg #[.int .i64 m.n.a, .int .i64 m.n.b, .int .i64 m.n.c, .int .i64 m.n.d, .int .i64 m.k], .bool true]
  | none => .tuple #[.agg #[.int .i64 0, .int .i64 0, .int .i64 0, .int .i64 0, .int .i64 0], .bool false]
theorem i_root (w : World) : Calls Try.prog 106 #[] w (Ret (.agg #[.int .i64 0, .int .i64 1, .int .i64 0, .int .i64 (-1)]) w) := by
  go_enter Try.func106, Try.ntmps106
  go_wp2
  refine bodyPost_ret (v := .agg #[.int .i64 0, .int .i64 1, .int .i64 0, .int .i64 (-1)]) (by simp [results, Try.results106, go_sem]) rfl (ret_mk ?_)
  repeat (first | (with_reducible exact Below.refl _ _) | (with_reducible assumption) | (with_reducible refine bl_alloc ?_ _) | (with_reducible refine bl_drew ?_) | (with_reducible refine bl_set ?_ (by simp <;> omega) _) | (with_reducible refine bl_call ?_ (by assumption)))
set_option maxHeartbeats 2000000 in
theorem i_AddD_ns {a b c d k p q r s l : Int} {R : Option ZO} (w : World) (h1 : okd ⟨⟨a, b, c, d⟩, k⟩ = true) (h2 : okd ⟨⟨p, q, r, s⟩, l⟩ = true) (hle : l ≤ k) (hR : upZ ⟨p, q, r, s⟩ (k - l).toNat = R) :
    Calls Try.prog 87 #[.agg #[.int .i64 a, .int .i64 b, .int .i64 c, .int .i64 d, .int .i64 k], .agg #[.int .i64 p, .int .i64 q, .int .i64 r, .int .i64 s, .int .i64 l]] w (Ret (outV ((R.bind (addZ ⟨a, b, c, d⟩)).bind fun n => newD n k)) w) := by
  obtain ⟨V, hV⟩ : ∃ V : Value, V = outV ((R.bind (addZ ⟨a, b, c, d⟩)).bind fun n => newD n k) := ⟨_, rfl⟩
  rw [← hV]
  have HV := Lib.hid hV
  have HR := Lib.hid hR
  clear hV hR
  obtain ⟨k0, k1⟩ := okd_rng h1
  obtain ⟨l0, l1⟩ := okd_rng h2
  obtain ⟨NT, hT⟩ : ∃ T : Nat, (k - l).toNat = T := ⟨_, rfl⟩
  have hT1 : (NT : Int) = k - l := by omega
  have HR2 := Lib.hid (show upZ ⟨p, q, r, s⟩ NT = R by rw [← hT]; exact HR.out)
  have HT1 := Lib.hid hT1
  have hNT : NT ≤ 60 := by omega
  clear hT hT1
  have hsw : decide (k < l) = false := by simp; omega
  go_enter Try.func87, Try.ntmps87
  go_wp2_with fail
  refine (i_okd_t _ h1).mono ?_
  rintro e w1 ⟨rfl, hb1⟩
  obtain ⟨hc1, hf1⟩ := bcell hb1
  have hz1 := hb1.size
  (try simp at hz1)
  have l1w0 : w.heap.size < w1.heap.size := by omega
  have m1w0 : w.heap.size ≤ w1.heap.size := by omega
  have x1w0 : ¬ w.heap.size = w1.heap.size := by omega
  have y1w0 : ¬ w1.heap.size = w.heap.size := by omega
  have l1w1 : w.heap.size + 1 < w1.heap.size := by omega
  have m1w1 : w.heap.size + 1 ≤ w1.heap.size := by omega
  have x1w1 : ¬ w.heap.size + 1 = w1.heap.size := by omega
  have y1w1 : ¬ w1.heap.size = w.heap.size + 1 := by omega
  have l1w2 : w.heap.size + 1 + 1 < w1.heap.size := by omega
  have m1w2 : w.heap.size + 1 + 1 ≤ w1.heap.size := by omega
  have x1w2 : ¬ w.heap.size + 1 + 1 = w1.heap.size := by omega
  have y1w2 : ¬ w1.heap.size = w.heap.size + 1 + 1 := by omega
  go_wp2_with fail
  refine (i_okd_t _ h2).mono ?_
  rintro e w2 ⟨rfl, hb2⟩
  obtain ⟨hc2, hf2⟩ := bcell hb2
  have hz2 := hb2.size
  (try simp at hz2)
  have l2w0 : w.heap.size < w2.heap.size := by omega
  have m2w0 : w.heap.size ≤ w2.heap.size := by omega
  have x2w0 : ¬ w.heap.size = w2.heap.size := by omega
  have y2w0 : ¬ w2.heap.size = w.heap.size := by omega
  have l2w1 : w.heap.size + 1 < w2.heap.size := by omega
  have m2w1 : w.heap.size + 1 ≤ w2.heap.size := by omega
  have x2w1 : ¬ w.heap.size + 1 = w2.heap.size := by omega
  have y2w1 : ¬ w2.heap.size = w.heap.size + 1 := by omega
  have l2w2 : w.heap.size + 1 + 1 < w2.heap.size := by omega
  have m2w2 : w.heap.size + 1 + 1 ≤ w2.heap.size := by omega
  have x2w2 : ¬ w.heap.size + 1 + 1 = w2.heap.size := by omega
  have y2w2 : ¬ w2.heap.size = w.heap.size + 1 + 1 := by omega
  have T0 : Own w w2 [(w.heap.size + 1 + 1, 29, #[.int .i64 0, .int .i64 0, .int .i64 0, .int .i64 0, .int .i64 0]), (w.heap.size + 1, 29, #[.int .i64 p, .int .i64 q, .int .i64 r, .int .i64 s, .int .i64 l]), (w.heap.size, 29, #[.int .i64 a, .int .i64 b, .int .i64 c, .int .i64 d, .int .i64 k])] := by
    have q := (((Own.start w).push 29 #[.int .i64 a, .int .i64 b, .int .i64 c, .int .i64 d, .int .i64 k]).push 29 #[.int .i64 p, .int .i64 q, .int .i64 r, .int .i64 s, .int .i64 l]).push 29 #[.int .i64 0, .int .i64 0, .int .i64 0, .int .i64 0, .int .i64 0]
    have q2 := (q.call hb1).call hb2
    simpa using q2
  clear hb1 hc1 hf1 hz1 hb2 hc2 hf2 hz2 l1w0 l1w1 l1w2 m1w0 m1w1 m1w2 x1w0 x1w1 x1w2 y1w0 y1w1 y1w2 l2w0 l2w1 l2w2 m2w0 m2w1 m2w2 x2w0 x2w1 x2w2 y2w0 y2w1 y2w2
  obtain ⟨W, hW⟩ : ∃ W, w2 = W := ⟨_, rfl⟩
  have T := T0
  clear T0
  obtain ⟨c00, c01, c02, c03, c04, f00, f01, f02, f03, f04⟩ := T.head.five
  obtain ⟨c10, c11, c12, c13, c14, f10, f11, f12, f13, f14⟩ := T.tail.head.five
  obtain ⟨c20, c21, c22, c23, c24, f20, f21, f22, f23, f24⟩ := T.tail.tail.head.five
  have l0 := T.head.lt
  have l1 := T.tail.head.lt
  have l2 := T.tail.tail.head.lt
  have n01 : ¬ w.heap.size = w2.heap.size := Nat.ne_of_lt l2
  have n02 : ¬ w.heap.size + 1 = w2.heap.size := Nat.ne_of_lt l1
  have n03 : ¬ w.heap.size + 1 + 1 = w2.heap.size := Nat.ne_of_lt l0
  clear hW W
  go_wp2
  obtain ⟨W, hW⟩ : ∃ W, (w2).alloc (.cells #[.int .i64 p, .int .i64 q, .int .i64 r, .int .i64 s] 25) = W := ⟨_, rfl⟩
  have T1 : Own w W ((w2.heap.size, 25, #[.int .i64 p, .int .i64 q, .int .i64 r, .int .i64 s]) :: [(w.heap.size + 1 + 1, 29, #[.int .i64 0, .int .i64 0, .int .i64 0, .int .i64 0, .int .i64 0]), (w.heap.size + 1, 29, #[.int .i64 p, .int .i64 q, .int .i64 r, .int .i64 s, .int .i64 l]), (w.heap.size, 29, #[.int .i64 a, .int .i64 b, .int .i64 c, .int .i64 d, .int .i64 k])]) := by rw [← hW]; simpa using (T).push 25 #[.int .i64 p, .int .i64 q, .int .i64 r, .int .i64 s]
  rw [hW]
  have hgg := l0
  clear hW T c00 f00 c01 f01 c02 f02 c03 f03 c04 f04 c10 f10 c11 f11 c12 f12 c13 f13 c14 f14 c20 f20 c21 f21 c22 f22 c23 f23 c24 f24 l0 l1 l2 n01 n02 n03
  obtain ⟨g, hg⟩ : ∃ g, w2.heap.size = g := ⟨_, rfl⟩
  rw [hg] at T1 hgg ⊢
  clear hg
  go_loopg [7] NT (fun gk v wr => AdRel w g 25 l NT R [(w.heap.size + 1 + 1, 29, #[.int .i64 0, .int .i64 0, .int .i64 0, .int .i64 0, .int .i64 0]), (w.heap.size + 1, 29, #[.int .i64 p, .int .i64 q, .int .i64 r, .int .i64 s, .int .i64 l]), (w.heap.size, 29, #[.int .i64 a, .int .i64 b, .int .i64 c, .int .i64 d, .int .i64 k])] gk v wr)
  case atStart => exact ⟨0, p, q, r, s, by omega, by omega, by simp, HR2.out, T1⟩
  case round =>
    obtain ⟨j, x, y, z, t, hj, hgk, rfl, hup, T⟩ := hrel
    have HU := Lib.hid hup
    have HGK := Lib.hid hgk
    clear hup hgk T1
    obtain ⟨c00, c01, c02, c03, f00, f01, f02, f03⟩ := T.head.four
    obtain ⟨c10, c11, c12, c13, c14, f10, f11, f12, f13, f14⟩ := T.tail.head.five
    obtain ⟨c20, c21, c22, c23, c24, f20, f21, f22, f23, f24⟩ := T.tail.tail.head.five
    obtain ⟨c30, c31, c32, c33, c34, f30, f31, f32, f33, f34⟩ := T.tail.tail.tail.head.five
    have l0 := T.head.lt
    have l1 := T.tail.head.lt
    have l2 := T.tail.tail.head.lt
    have l3 := T.tail.tail.tail.head.lt
    by_cases hlt : j < NT
    · have hlk : l + (j : Int) < k := by have := HT1.out; omega
      have hd : decide (l + (j : Int) < k) = true := by simp; omega
      rcases hm : mulZ ⟨x, y, z, t⟩ rootZ with _ | ⟨p', q', r', s'⟩
      · have HM := Lib.hid hm
        have hRn : R = none := by rw [← HU.out, show NT - j = (NT - (j + 1)) + 1 by omega, upZ_none hm]
        have HVV := Lib.hid (show V = .tuple #[.agg #[.int .i64 0, .int .i64 0, .int .i64 0, .int .i64 0, .int .i64 0], .bool false] by rw [HV.out, hRn]; rfl)
        clear hRn hm
        go_upto_region 9 with fail
        go_cut [8, 9] (fun s8 s9 wx => ∃ g2 : Nat, s8 = .pointer (some ⟨g2, 0, none⟩) ∧ s9 = .bool false ∧ Own w wx ((g2, 25, #[.int .i64 0, .int .i64 0, .int .i64 0, .int .i64 0]) :: (g, 25, #[.int .i64 x, .int .i64 y, .int .i64 z, .int .i64 t]) :: [(w.heap.size + 1 + 1, 29, #[.int .i64 0, .int .i64 0, .int .i64 0, .int .i64 0, .int .i64 0]), (w.heap.size + 1, 29, #[.int .i64 p, .int .i64 q, .int .i64 r, .int .i64 s, .int .i64 l]), (w.heap.size, 29, #[.int .i64 a, .int .i64 b, .int .i64 c, .int .i64 d, .int .i64 k])]) ∧ g < g2)
        case first =>
          go_region_held3 (fun w' => w'.cell? ⟨g, 0, none⟩ = some (.int .i64 x) ∧ w'.cell? ⟨g, 1, none⟩ = some (.int .i64 y) ∧ w'.cell? ⟨g, 2, none⟩ = some (.int .i64 z) ∧ w'.cell? ⟨g, 3, none⟩ = some (.int .i64 t) ∧ w'.cell? ⟨w.heap.size + 1 + 1, 0, none⟩ = some (.int .i64 0) ∧ w'.cell? ⟨w.heap.size + 1 + 1, 1, none⟩ = some (.int .i64 0) ∧ w'.cell? ⟨w.heap.size + 1 + 1, 2, none⟩ = some (.int .i64 0) ∧ w'.cell? ⟨w.heap.size + 1 + 1, 3, none⟩ = some (.int .i64 0) ∧ w'.cell? ⟨w.heap.size + 1 + 1, 4, none⟩ = some (.int .i64 0) ∧ w'.cell? ⟨w.heap.size + 1, 0, none⟩ = some (.int .i64 p) ∧ w'.cell? ⟨w.heap.size + 1, 1, none⟩ = some (.int .i64 q) ∧ w'.cell? ⟨w.heap.size + 1, 2, none⟩ = some (.int .i64 r) ∧ w'.cell? ⟨w.heap.size + 1, 3, none⟩ = some (.int .i64 s) ∧ w'.cell? ⟨w.heap.size + 1, 4, none⟩ = some (.int .i64 l) ∧ w'.cell? ⟨w.heap.size, 0, none⟩ = some (.int .i64 a) ∧ w'.cell? ⟨w.heap.size, 1, none⟩ = some (.int .i64 b) ∧ w'.cell? ⟨w.heap.size, 2, none⟩ = some (.int .i64 c) ∧ w'.cell? ⟨w.heap.size, 3, none⟩ = some (.int .i64 d) ∧ w'.cell? ⟨w.heap.size, 4, none⟩ = some (.int .i64 k)) (first | (with_reducible exact ⟨c00, c01, c02, c03, c10, c11, c12, c13, c14, c20, c21, c22, c23, c24, c30, c31, c32, c33, c34⟩) | go_keep) (first | (go_at_call 106; refine (i_root _).mono ?_; rintro e w1 ⟨rfl, hb⟩; (first | (have T := T.call hb; (try have kz := kz.call hb)) | (have T := T.drew.call hb; (try have kz := kz.drew.call hb)) | (have kz := Blk.new_call hb; have n0 := Nat.ne_of_lt l0; have m0 := Nat.ne_of_gt l0; have n1 := Nat.ne_of_lt l1; have m1 := Nat.ne_of_gt l1; have n2 := Nat.ne_of_lt l2; have m2 := Nat.ne_of_gt l2; have n3 := Nat.ne_of_lt l3; have m3 := Nat.ne_of_gt l3; have kg := T.below.size; have KN := T.lts; have T := (T.alloc _).call hb) | (have kz := Blk.new_drew_call hb; have n0 := Nat.ne_of_lt l0; have m0 := Nat.ne_of_gt l0; have n1 := Nat.ne_of_lt l1; have m1 := Nat.ne_of_gt l1; have n2 := Nat.ne_of_lt l2; have m2 := Nat.ne_of_gt l2; have n3 := Nat.ne_of_lt l3; have m3 := Nat.ne_of_gt l3; have kg := T.below.size; have KN := T.lts; have T := (T.alloc _).drew.call hb)); obtain ⟨c00, c01, c02, c03, -, -, -, -⟩ := T.head.four; obtain ⟨c10, c11, c12, c13, c14, -, -, -, -, -⟩ := T.tail.head.five; obtain ⟨c20, c21, c22, c23, c24, -, -, -, -, -⟩ := T.tail.tail.head.five; obtain ⟨c30, c31, c32, c33, c34, -, -, -, -, -⟩ := T.tail.tail.tail.head.five; have l0 := T.head.lt; have l1 := T.tail.head.lt; have l2 := T.tail.tail.head.lt; have l3 := T.tail.tail.tail.head.lt; (try obtain ⟨cz0, cz1, cz2, cz3, fz0, fz1, fz2, fz3⟩ := kz.four)) | (go_at_call 18; refine (i_MulZ_none _ HM.out).mono ?_; rintro e w1 ⟨rfl, hb⟩; (first | (have T := T.call hb; (try have kz := kz.call hb)) | (have T := T.drew.call hb; (try have kz := kz.drew.call hb)) | (have kz := Blk.new_call hb; have n0 := Nat.ne_of_lt l0; have m0 := Nat.ne_of_gt l0; have n1 := Nat.ne_of_lt l1; have m1 := Nat.ne_of_gt l1; have n2 := Nat.ne_of_lt l2; have m2 := Nat.ne_of_gt l2; have n3 := Nat.ne_of_lt l3; have m3 := Nat.ne_of_gt l3; have kg := T.below.size; have KN := T.lts; have T := (T.alloc _).call hb) | (have kz := Blk.new_drew_call hb; have n0 := Nat.ne_of_lt l0; have m0 := Nat.ne_of_gt l0; have n1 := Nat.ne_of_lt l1; have m1 := Nat.ne_of_gt l1; have n2 := Nat.ne_of_lt l2; have m2 := Nat.ne_of_gt l2; have n3 := Nat.ne_of_lt l3; have m3 := Nat.ne_of_gt l3; have kg := T.below.size; have KN := T.lts; have T := (T.alloc _).drew.call hb)); obtain ⟨c00, c01, c02, c03, -, -, -, -⟩ := T.head.four; obtain ⟨c10, c11, c12, c13, c14, -, -, -, -, -⟩ := T.tail.head.five; obtain ⟨c20, c21, c22, c23, c24, -, -, -, -, -⟩ := T.tail.tail.head.five; obtain ⟨c30, c31, c32, c33, c34, -, -, -, -, -⟩ := T.tail.tail.tail.head.five; have l0 := T.head.lt; have l1 := T.tail.head.lt; have l2 := T.tail.tail.head.lt; have l3 := T.tail.tail.tail.head.lt; (try obtain ⟨cz0, cz1, cz2, cz3, fz0, fz1, fz2, fz3⟩ := kz.four)))
          all_goals
            go_wp2_with fail
            go_meet
            first | (with_reducible exact ⟨_, rfl, rfl, T.push _ _, T.head.lt⟩) | (with_reducible exact ⟨_, rfl, rfl, (T.add kz).put4 kg KN.out _ _ _ _, KN.out _ (List.mem_cons_self)⟩)
        case rest =>
          obtain ⟨g2, rfl, rfl, T2, hgg2⟩ := hcut
          clear T c00 f00 c01 f01 c02 f02 c03 f03 c10 f10 c11 f11 c12 f12 c13 f13 c14 f14 c20 f20 c21 f21 c22 f22 c23 f23 c24 f24 c30 f30 c31 f31 c32 f32 c33 f33 c34 f34 l0 l1 l2 l3
          obtain ⟨c00, c01, c02, c03, -, -, -, -⟩ := T2.head.four
          obtain ⟨c10, c11, c12, c13, f10, f11, f12, f13⟩ := T2.tail.head.four
          obtain ⟨c20, c21, c22, c23, c24, f20, f21, f22, f23, f24⟩ := T2.tail.tail.head.five
          have n1 := Nat.ne_of_lt hgg2
          have n2 := Nat.ne_of_gt hgg2
          have hw := T2.below
          clear T2
          go_wp2
          rw [HVV.out]
          refine bodyPost_ret (v := .tuple #[.agg #[.int .i64 0, .int .i64 0, .int .i64 0, .int .i64 0, .int .i64 0], .bool false]) (by simp [results, Try.results87, go_sem, *]) rfl (ret_mk ?_)
          repeat (first | (with_reducible exact Below.refl _ _) | (with_reducible assumption) | (with_reducible refine bl_alloc ?_ _) | (with_reducible refine bl_drew ?_) | (with_reducible refine bl_set ?_ (by simp <;> omega) _) | (with_reducible refine bl_call ?_ (by assumption)))
      · have HM := Lib.hid hm
        have HU' := Lib.hid (show upZ ⟨p', q', r', s'⟩ (NT - (j + 1)) = R by rw [← HU.out, show NT - j = (NT - (j + 1)) + 1 by omega, upZ_some hm])
        clear hm
        go_upto_region 9 with fail
        go_cut [8, 9] (fun s8 s9 wx => ∃ g2 : Nat, s8 = .pointer (some ⟨g2, 0, none⟩) ∧ s9 = .bool true ∧ Own w wx ((g2, 25, #[.int .i64 p', .int .i64 q', .int .i64 r', .int .i64 s']) :: (g, 25, #[.int .i64 x, .int .i64 y, .int .i64 z, .int .i64 t]) :: [(w.heap.size + 1 + 1, 29, #[.int .i64 0, .int .i64 0, .int .i64 0, .int .i64 0, .int .i64 0]), (w.heap.size + 1, 29, #[.int .i64 p, .int .i64 q, .int .i64 r, .int .i64 s, .int .i64 l]), (w.heap.size, 29, #[.int .i64 a, .int .i64 b, .int .i64 c, .int .i64 d, .int .i64 k])]) ∧ g < g2)
        case first =>
          go_region_held3 (fun w' => w'.cell? ⟨g, 0, none⟩ = some (.int .i64 x) ∧ w'.cell? ⟨g, 1, none⟩ = some (.int .i64 y) ∧ w'.cell? ⟨g, 2, none⟩ = some (.int .i64 z) ∧ w'.cell? ⟨g, 3, none⟩ = some (.int .i64 t) ∧ w'.cell? ⟨w.heap.size + 1 + 1, 0, none⟩ = some (.int .i64 0) ∧ w'.cell? ⟨w.heap.size + 1 + 1, 1, none⟩ = some (.int .i64 0) ∧ w'.cell? ⟨w.heap.size + 1 + 1, 2, none⟩ = some (.int .i64 0) ∧ w'.cell? ⟨w.heap.size + 1 + 1, 3, none⟩ = some (.int .i64 0) ∧ w'.cell? ⟨w.heap.size + 1 + 1, 4, none⟩ = some (.int .i64 0) ∧ w'.cell? ⟨w.heap.size + 1, 0, none⟩ = some (.int .i64 p) ∧ w'.cell? ⟨w.heap.size + 1, 1, none⟩ = some (.int .i64 q) ∧ w'.cell? ⟨w.heap.size + 1, 2, none⟩ = some (.int .i64 r) ∧ w'.cell? ⟨w.heap.size + 1, 3, none⟩ = some (.int .i64 s) ∧ w'.cell? ⟨w.heap.size + 1, 4, none⟩ = some (.int .i64 l) ∧ w'.cell? ⟨w.heap.size, 0, none⟩ = some (.int .i64 a) ∧ w'.cell? ⟨w.heap.size, 1, none⟩ = some (.int .i64 b) ∧ w'.cell? ⟨w.heap.size, 2, none⟩ = some (.int .i64 c) ∧ w'.cell? ⟨w.heap.size, 3, none⟩ = some (.int .i64 d) ∧ w'.cell? ⟨w.heap.size, 4, none⟩ = some (.int .i64 k)) (first | (with_reducible exact ⟨c00, c01, c02, c03, c10, c11, c12, c13, c14, c20, c21, c22, c23, c24, c30, c31, c32, c33, c34⟩) | go_keep) (first | (go_at_call 106; refine (i_root _).mono ?_; rintro e w1 ⟨rfl, hb⟩; (first | (have T := T.call hb; (try have kz := kz.call hb)) | (have T := T.drew.call hb; (try have kz := kz.drew.call hb)) | (have kz := Blk.new_call hb; have n0 := Nat.ne_of_lt l0; have m0 := Nat.ne_of_gt l0; have n1 := Nat.ne_of_lt l1; have m1 := Nat.ne_of_gt l1; have n2 := Nat.ne_of_lt l2; have m2 := Nat.ne_of_gt l2; have n3 := Nat.ne_of_lt l3; have m3 := Nat.ne_of_gt l3; have kg := T.below.size; have KN := T.lts; have T := (T.alloc _).call hb) | (have kz := Blk.new_drew_call hb; have n0 := Nat.ne_of_lt l0; have m0 := Nat.ne_of_gt l0; have n1 := Nat.ne_of_lt l1; have m1 := Nat.ne_of_gt l1; have n2 := Nat.ne_of_lt l2; have m2 := Nat.ne_of_gt l2; have n3 := Nat.ne_of_lt l3; have m3 := Nat.ne_of_gt l3; have kg := T.below.size; have KN := T.lts; have T := (T.alloc _).drew.call hb)); obtain ⟨c00, c01, c02, c03, -, -, -, -⟩ := T.head.four; obtain ⟨c10, c11, c12, c13, c14, -, -, -, -, -⟩ := T.tail.head.five; obtain ⟨c20, c21, c22, c23, c24, -, -, -, -, -⟩ := T.tail.tail.head.five; obtain ⟨c30, c31, c32, c33, c34, -, -, -, -, -⟩ := T.tail.tail.tail.head.five; have l0 := T.head.lt; have l1 := T.tail.head.lt; have l2 := T.tail.tail.head.lt; have l3 := T.tail.tail.tail.head.lt; (try obtain ⟨cz0, cz1, cz2, cz3, fz0, fz1, fz2, fz3⟩ := kz.four)) | (go_at_call 18; refine (i_MulZ_some _ HM.out).mono ?_; rintro e w1 ⟨rfl, hb⟩; (first | (have T := T.call hb; (try have kz := kz.call hb)) | (have T := T.drew.call hb; (try have kz := kz.drew.call hb)) | (have kz := Blk.new_call hb; have n0 := Nat.ne_of_lt l0; have m0 := Nat.ne_of_gt l0; have n1 := Nat.ne_of_lt l1; have m1 := Nat.ne_of_gt l1; have n2 := Nat.ne_of_lt l2; have m2 := Nat.ne_of_gt l2; have n3 := Nat.ne_of_lt l3; have m3 := Nat.ne_of_gt l3; have kg := T.below.size; have KN := T.lts; have T := (T.alloc _).call hb) | (have kz := Blk.new_drew_call hb; have n0 := Nat.ne_of_lt l0; have m0 := Nat.ne_of_gt l0; have n1 := Nat.ne_of_lt l1; have m1 := Nat.ne_of_gt l1; have n2 := Nat.ne_of_lt l2; have m2 := Nat.ne_of_gt l2; have n3 := Nat.ne_of_lt l3; have m3 := Nat.ne_of_gt l3; have kg := T.below.size; have KN := T.lts; have T := (T.alloc _).drew.call hb)); obtain ⟨c00, c01, c02, c03, -, -, -, -⟩ := T.head.four; obtain ⟨c10, c11, c12, c13, c14, -, -, -, -, -⟩ := T.tail.head.five; obtain ⟨c20, c21, c22, c23, c24, -, -, -, -, -⟩ := T.tail.tail.head.five; obtain ⟨c30, c31, c32, c33, c34, -, -, -, -, -⟩ := T.tail.tail.tail.head.five; have l0 := T.head.lt; have l1 := T.tail.head.lt; have l2 := T.tail.tail.head.lt; have l3 := T.tail.tail.tail.head.lt; (try obtain ⟨cz0, cz1, cz2, cz3, fz0, fz1, fz2, fz3⟩ := kz.four)))
          all_goals
            go_wp2_with fail
            go_meet
            first | (with_reducible exact ⟨_, rfl, rfl, T.push _ _, T.head.lt⟩) | (with_reducible exact ⟨_, rfl, rfl, (T.add kz).put4 kg KN.out _ _ _ _, KN.out _ (List.mem_cons_self)⟩)
        case rest =>
          obtain ⟨g2, rfl, rfl, T2, hgg2⟩ := hcut
          clear T c00 f00 c01 f01 c02 f02 c03 f03 c10 f10 c11 f11 c12 f12 c13 f13 c14 f14 c20 f20 c21 f21 c22 f22 c23 f23 c24 f24 c30 f30 c31 f31 c32 f32 c33 f33 c34 f34 l0 l1 l2 l3
          obtain ⟨c00, c01, c02, c03, -, -, -, -⟩ := T2.head.four
          obtain ⟨c10, c11, c12, c13, f10, f11, f12, f13⟩ := T2.tail.head.four
          obtain ⟨c20, c21, c22, c23, c24, f20, f21, f22, f23, f24⟩ := T2.tail.tail.head.five
          have n1 := Nat.ne_of_lt hgg2
          have n2 := Nat.ne_of_gt hgg2
          go_wp2
          go_roundg (NT - (j + 1))
          case measure => have := HGK.out; omega
          case rel => exact ⟨j + 1, p', q', r', s', by omega, rfl, by go_num, HU'.out, T2.tail.put4n (by omega) (by simp; omega) _ _ _ _⟩
    · have hlk : ¬ l + (j : Int) < k := by have := HT1.out; omega
      have hd : decide (l + (j : Int) < k) = false := by simp; omega
      have hRs : R = some ⟨x, y, z, t⟩ := by rw [← HU.out, show NT - j = 0 by omega]; rfl
      have HV2 := Lib.hid (show V = outV ((addZ ⟨a, b, c, d⟩ ⟨x, y, z, t⟩).bind fun n => newD n k) by rw [HV.out, hRs]; rfl)
      clear hRs
      rcases hz : addZ ⟨a, b, c, d⟩ ⟨x, y, z, t⟩ with _ | ⟨p', q', r', s'⟩
      · have HVV := Lib.hid (show V = .tuple #[.agg #[.int .i64 0, .int .i64 0, .int .i64 0, .int .i64 0, .int .i64 0], .bool false] by rw [HV2.out, hz]; rfl)
        have HZ := Lib.hid hz
        clear hz
        go_wp2_with fail
        refine (i_AddZ_none _ HZ.out).mono ?_
        rintro e w3 ⟨rfl, hb3⟩
        have T3 := T.call hb3
        have hs3 := hb3.size
        clear T c00 f00 c01 f01 c02 f02 c03 f03 c10 f10 c11 f11 c12 f12 c13 f13 c14 f14 c20 f20 c21 f21 c22 f22 c23 f23 c24 f24 c30 f30 c31 f31 c32 f32 c33 f33 c34 f34 l0 l1 l2 l3
        obtain ⟨c20, c21, c22, c23, c24, f20, f21, f22, f23, f24⟩ := T3.tail.head.five
        have lb := T3.tail.head.lt
        have ua0 : w.heap.size < w3.heap.size := by omega
        have ua1 : w.heap.size + 1 < w3.heap.size := by omega
        have ua2 : w.heap.size + 1 + 1 < w3.heap.size := by omega
        have ua3 : ¬ w.heap.size + 1 + 1 = w3.heap.size := by omega
        have ua4 : ¬ w3.heap.size = w.heap.size + 1 + 1 := by omega
        have ua5 : ¬ w.heap.size = w3.heap.size := by omega
        have ua6 : ¬ w3.heap.size = w.heap.size := by omega
        have hw := T3.below
        clear T3
        go_wp2
        rw [HVV.out]
        refine bodyPost_ret (v := .tuple #[.agg #[.int .i64 0, .int .i64 0, .int .i64 0, .int .i64 0, .int .i64 0], .bool false]) (by simp [results, Try.results87, go_sem, *]) rfl (ret_mk ?_)
        repeat (first | (with_reducible exact Below.refl _ _) | (with_reducible assumption) | (with_reducible refine bl_alloc ?_ _) | (with_reducible refine bl_drew ?_) | (with_reducible refine bl_set ?_ (by simp <;> omega) _) | (with_reducible refine bl_call ?_ (by assumption)))
      · have HZ := Lib.hid hz
        rcases hn : newD ⟨p', q', r', s'⟩ k with _ | ⟨⟨x', y', z', t'⟩, m'⟩
        · have HVV := Lib.hid (show V = .tuple #[.agg #[.int .i64 0, .int .i64 0, .int .i64 0, .int .i64 0, .int .i64 0], .bool false] by rw [HV2.out, hz]; show outV (newD _ _) = _; rw [hn]; rfl)
          have HN := Lib.hid hn
          clear hz hn
          go_wp2_with fail
          refine (i_AddZ_some _ HZ.out).mono ?_
          rintro e w3 ⟨rfl, hb3⟩
          have T3 := T.call hb3
          have hs3 := hb3.size
          clear T c00 f00 c01 f01 c02 f02 c03 f03 c10 f10 c11 f11 c12 f12 c13 f13 c14 f14 c20 f20 c21 f21 c22 f22 c23 f23 c24 f24 c30 f30 c31 f31 c32 f32 c33 f33 c34 f34 l0 l1 l2 l3
          obtain ⟨c30, c31, c32, c33, c34, -, -, -, -, -⟩ := T3.tail.tail.tail.head.five
          have lb := T3.tail.head.lt
          have ua0 : w.heap.size < w3.heap.size := by omega
          have ua1 : w.heap.size + 1 < w3.heap.size := by omega
          have ua2 : w.heap.size + 1 + 1 < w3.heap.size := by omega
          have ua3 : ¬ w.heap.size + 1 + 1 = w3.heap.size := by omega
          have ua4 : ¬ w3.heap.size = w.heap.size + 1 + 1 := by omega
          have ua5 : ¬ w.heap.size = w3.heap.size := by omega
          have ua6 : ¬ w3.heap.size = w.heap.size := by omega
          go_wp2_with fail
          refine (i_New_none _ HN.out).mono ?_
          rintro e w4 ⟨rfl, hb4⟩
          have T4 := (T3.alloc _).call hb4
          have hs4 := hb4.size
          simp at hs4
          obtain ⟨c20, c21, c22, c23, c24, f20, f21, f22, f23, f24⟩ := T4.tail.head.five
          have ub0 : w.heap.size < w4.heap.size := by omega
          have ub1 : w.heap.size + 1 < w4.heap.size := by omega
          have ub2 : w.heap.size + 1 + 1 < w4.heap.size := by omega
          have ub3 : ¬ w.heap.size + 1 + 1 = w4.heap.size := by omega
          have ub4 : ¬ w4.heap.size = w.heap.size + 1 + 1 := by omega
          have ub5 : ¬ w.heap.size = w4.heap.size := by omega
          have ub6 : ¬ w4.heap.size = w.heap.size := by omega
          have hw := T4.below
          clear T3 T4
          go_wp2
          rw [HVV.out]
          refine bodyPost_ret (v := .tuple #[.agg #[.int .i64 0, .int .i64 0, .int .i64 0, .int .i64 0, .int .i64 0], .bool false]) (by simp [results, Try.results87, go_sem, *]) rfl (ret_mk ?_)
          repeat (first | (with_reducible exact Below.refl _ _) | (with_reducible assumption) | (with_reducible refine bl_alloc ?_ _) | (with_reducible refine bl_drew ?_) | (with_reducible refine bl_set ?_ (by simp <;> omega) _) | (with_reducible refine bl_call ?_ (by assumption)))
        · have HVV := Lib.hid (show V = .tuple #[.agg #[.int .i64 x', .int .i64 y', .int .i64 z', .int .i64 t', .int .i64 m'], .bool true] by rw [HV2.out, hz]; show outV (newD _ _) = _; rw [hn]; rfl)
          have HN := Lib.hid hn
          clear hz hn
          go_wp2_with fail
          refine (i_AddZ_some _ HZ.out).mono ?_
          rintro e w3 ⟨rfl, hb3⟩
          have T3 := T.call hb3
          have hs3 := hb3.size
          clear T c00 f00 c01 f01 c02 f02 c03 f03 c10 f10 c11 f11 c12 f12 c13 f13 c14 f14 c20 f20 c21 f21 c22 f22 c23 f23 c24 f24 c30 f30 c31 f31 c32 f32 c33 f33 c34 f34 l0 l1 l2 l3
          obtain ⟨c30, c31, c32, c33, c34, -, -, -, -, -⟩ := T3.tail.tail.tail.head.five
          have lb := T3.tail.head.lt
          have ua0 : w.heap.size < w3.heap.size := by omega
          have ua1 : w.heap.size + 1 < w3.heap.size := by omega
          have ua2 : w.heap.size + 1 + 1 < w3.heap.size := by omega
          have ua3 : ¬ w.heap.size + 1 + 1 = w3.heap.size := by omega
          have ua4 : ¬ w3.heap.size = w.heap.size + 1 + 1 := by omega
          have ua5 : ¬ w.heap.size = w3.heap.size := by omega
          have ua6 : ¬ w3.heap.size = w.heap.size := by omega
          go_wp2_with fail
          refine (i_New_some _ HN.out).mono ?_
          rintro e w4 ⟨rfl, hb4⟩
          have T4 := (T3.alloc _).call hb4
          have hs4 := hb4.size
          simp at hs4
          obtain ⟨c20, c21, c22, c23, c24, f20, f21, f22, f23, f24⟩ := T4.tail.head.five
          have ub0 : w.heap.size < w4.heap.size := by omega
          have ub1 : w.heap.size + 1 < w4.heap.size := by omega
          have ub2 : w.heap.size + 1 + 1 < w4.heap.size := by omega
          have ub3 : ¬ w.heap.size + 1 + 1 = w4.heap.size := by omega
          have ub4 : ¬ w4.heap.size = w.heap.size + 1 + 1 := by omega
          have ub5 : ¬ w.heap.size = w4.heap.size := by omega
          have ub6 : ¬ w4.heap.size = w.heap.size := by omega
          have hw := T4.below
          clear T3 T4
          go_wp2
          rw [HVV.out]
          refine bodyPost_ret (v := .tuple #[.agg #[.int .i64 x', .int .i64 y', .int .i64 z', .int .i64 t', .int .i64 m'], .bool true]) (by simp [results, Try.results87, go_sem, *]) rfl (ret_mk ?_)
          repeat (first | (with_reducible exact Below.refl _ _) | (with_reducible assumption) | (with_reducible refine bl_alloc ?_ _) | (with_reducible refine bl_drew ?_) | (with_reducible refine bl_set ?_ (by simp <;> omega) _) | (with_reducible refine bl_call ?_ (by assumption)))

set_option maxHeartbeats 2000000 in
theorem i_AddD_sw {a b c d k p q r s l : Int} {R : Option ZO} (w : World) (h1 : okd ⟨⟨a, b, c, d⟩, k⟩ = true) (h2 : okd ⟨⟨p, q, r, s⟩, l⟩ = true) (hle : k < l) (hR : upZ ⟨a, b, c, d⟩ (l - k).toNat = R) :
    Calls Try.prog 87 #[.agg #[.int .i64 a, .int .i64 b, .int .i64 c, .int .i64 d, .int .i64 k], .agg #[.int .i64 p, .int .i64 q, .int .i64 r, .int .i64 s, .int .i64 l]] w (Ret (outV ((R.bind (addZ ⟨p, q, r, s⟩)).bind fun n => newD n l)) w) := by
  obtain ⟨V, hV⟩ : ∃ V : Value, V = outV ((R.bind (addZ ⟨p, q, r, s⟩)).bind fun n => newD n l) := ⟨_, rfl⟩
  rw [← hV]
  have HV := Lib.hid hV
  have HR := Lib.hid hR
  clear hV hR
  obtain ⟨k0, k1⟩ := okd_rng h1
  obtain ⟨l0, l1⟩ := okd_rng h2
  obtain ⟨NT, hT⟩ : ∃ T : Nat, (l - k).toNat = T := ⟨_, rfl⟩
  have hT1 : (NT : Int) = l - k := by omega
  have HR2 := Lib.hid (show upZ ⟨a, b, c, d⟩ NT = R by rw [← hT]; exact HR.out)
  have HT1 := Lib.hid hT1
  have hNT : NT ≤ 60 := by omega
  clear hT hT1
  have hsw : decide (k < l) = true := by simp; omega
  go_enter Try.func87, Try.ntmps87
  go_wp2_with fail
  refine (i_okd_t _ h1).mono ?_
  rintro e w1 ⟨rfl, hb1⟩
  obtain ⟨hc1, hf1⟩ := bcell hb1
  have hz1 := hb1.size
  (try simp at hz1)
  have l1w0 : w.heap.size < w1.heap.size := by omega
  have m1w0 : w.heap.size ≤ w1.heap.size := by omega
  have x1w0 : ¬ w.heap.size = w1.heap.size := by omega
  have y1w0 : ¬ w1.heap.size = w.heap.size := by omega
  have l1w1 : w.heap.size + 1 < w1.heap.size := by omega
  have m1w1 : w.heap.size + 1 ≤ w1.heap.size := by omega
  have x1w1 : ¬ w.heap.size + 1 = w1.heap.size := by omega
  have y1w1 : ¬ w1.heap.size = w.heap.size + 1 := by omega
  have l1w2 : w.heap.size + 1 + 1 < w1.heap.size := by omega
  have m1w2 : w.heap.size + 1 + 1 ≤ w1.heap.size := by omega
  have x1w2 : ¬ w.heap.size + 1 + 1 = w1.heap.size := by omega
  have y1w2 : ¬ w1.heap.size = w.heap.size + 1 + 1 := by omega
  go_wp2_with fail
  refine (i_okd_t _ h2).mono ?_
  rintro e w2 ⟨rfl, hb2⟩
  obtain ⟨hc2, hf2⟩ := bcell hb2
  have hz2 := hb2.size
  (try simp at hz2)
  have l2w0 : w.heap.size < w2.heap.size := by omega
  have m2w0 : w.heap.size ≤ w2.heap.size := by omega
  have x2w0 : ¬ w.heap.size = w2.heap.size := by omega
  have y2w0 : ¬ w2.heap.size = w.heap.size := by omega
  have l2w1 : w.heap.size + 1 < w2.heap.size := by omega
  have m2w1 : w.heap.size + 1 ≤ w2.heap.size := by omega
  have x2w1 : ¬ w.heap.size + 1 = w2.heap.size := by omega
  have y2w1 : ¬ w2.heap.size = w.heap.size + 1 := by omega
  have l2w2 : w.heap.size + 1 + 1 < w2.heap.size := by omega
  have m2w2 : w.heap.size + 1 + 1 ≤ w2.heap.size := by omega
  have x2w2 : ¬ w.heap.size + 1 + 1 = w2.heap.size := by omega
  have y2w2 : ¬ w2.heap.size = w.heap.size + 1 + 1 := by omega
  have T0 : Own w w2 [(w.heap.size + 1 + 1, 29, #[.int .i64 0, .int .i64 0, .int .i64 0, .int .i64 0, .int .i64 0]), (w.heap.size + 1, 29, #[.int .i64 p, .int .i64 q, .int .i64 r, .int .i64 s, .int .i64 l]), (w.heap.size, 29, #[.int .i64 a, .int .i64 b, .int .i64 c, .int .i64 d, .int .i64 k])] := by
    have q := (((Own.start w).push 29 #[.int .i64 a, .int .i64 b, .int .i64 c, .int .i64 d, .int .i64 k]).push 29 #[.int .i64 p, .int .i64 q, .int .i64 r, .int .i64 s, .int .i64 l]).push 29 #[.int .i64 0, .int .i64 0, .int .i64 0, .int .i64 0, .int .i64 0]
    have q2 := (q.call hb1).call hb2
    simpa using q2
  clear hb1 hc1 hf1 hz1 hb2 hc2 hf2 hz2 l1w0 l1w1 l1w2 m1w0 m1w1 m1w2 x1w0 x1w1 x1w2 y1w0 y1w1 y1w2 l2w0 l2w1 l2w2 m2w0 m2w1 m2w2 x2w0 x2w1 x2w2 y2w0 y2w1 y2w2
  obtain ⟨W, hW⟩ : ∃ W, w2 = W := ⟨_, rfl⟩
  have T := T0
  clear T0
  obtain ⟨c00, c01, c02, c03, c04, f00, f01, f02, f03, f04⟩ := T.head.five
  obtain ⟨c10, c11, c12, c13, c14, f10, f11, f12, f13, f14⟩ := T.tail.head.five
  obtain ⟨c20, c21, c22, c23, c24, f20, f21, f22, f23, f24⟩ := T.tail.tail.head.five
  have l0 := T.head.lt
  have l1 := T.tail.head.lt
  have l2 := T.tail.tail.head.lt
  have n01 : ¬ w.heap.size = w2.heap.size := Nat.ne_of_lt l2
  have n02 : ¬ w.heap.size + 1 = w2.heap.size := Nat.ne_of_lt l1
  have n03 : ¬ w.heap.size + 1 + 1 = w2.heap.size := Nat.ne_of_lt l0
  clear hW W
  go_wp2
  obtain ⟨W, hW⟩ : ∃ W, (((((((((((w2.setCell ⟨w.heap.size, 0, none⟩ (.int .i64 p)).setCell ⟨w.heap.size, 1, none⟩ (.int .i64 q)).setCell ⟨w.heap.size, 2, none⟩ (.int .i64 r)).setCell ⟨w.heap.size, 3, none⟩ (.int .i64 s)).setCell ⟨w.heap.size, 4, none⟩ (.int .i64 l)).setCell ⟨w.heap.size + 1, 0, none⟩ (.int .i64 a)).setCell ⟨w.heap.size + 1, 1, none⟩ (.int .i64 b)).setCell ⟨w.heap.size + 1, 2, none⟩ (.int .i64 c)).setCell ⟨w.heap.size + 1, 3, none⟩ (.int .i64 d)).setCell ⟨w.heap.size + 1, 4, none⟩ (.int .i64 k))).alloc (.cells #[.int .i64 a, .int .i64 b, .int .i64 c, .int .i64 d] 25) = W := ⟨_, rfl⟩
  have T1 : Own w W ((w2.heap.size, 25, #[.int .i64 a, .int .i64 b, .int .i64 c, .int .i64 d]) :: [(w.heap.size + 1 + 1, 29, #[.int .i64 0, .int .i64 0, .int .i64 0, .int .i64 0, .int .i64 0]), (w.heap.size + 1, 29, #[.int .i64 a, .int .i64 b, .int .i64 c, .int .i64 d, .int .i64 k]), (w.heap.size, 29, #[.int .i64 p, .int .i64 q, .int .i64 r, .int .i64 s, .int .i64 l])]) := by rw [← hW]; simpa using (own_two T (.int .i64 p) (.int .i64 q) (.int .i64 r) (.int .i64 s) (.int .i64 l) (.int .i64 a) (.int .i64 b) (.int .i64 c) (.int .i64 d) (.int .i64 k)).push 25 #[.int .i64 a, .int .i64 b, .int .i64 c, .int .i64 d]
  rw [hW]
  have hgg := l0
  clear hW T c00 f00 c01 f01 c02 f02 c03 f03 c04 f04 c10 f10 c11 f11 c12 f12 c13 f13 c14 f14 c20 f20 c21 f21 c22 f22 c23 f23 c24 f24 l0 l1 l2 n01 n02 n03
  obtain ⟨g, hg⟩ : ∃ g, w2.heap.size = g := ⟨_, rfl⟩
  rw [hg] at T1 hgg ⊢
  clear hg
  go_loopg [7] NT (fun gk v wr => AdRel w g 25 k NT R [(w.heap.size + 1 + 1, 29, #[.int .i64 0, .int .i64 0, .int .i64 0, .int .i64 0, .int .i64 0]), (w.heap.size + 1, 29, #[.int .i64 a, .int .i64 b, .int .i64 c, .int .i64 d, .int .i64 k]), (w.heap.size, 29, #[.int .i64 p, .int .i64 q, .int .i64 r, .int .i64 s, .int .i64 l])] gk v wr)
  case atStart => exact ⟨0, a, b, c, d, by omega, by omega, by simp, HR2.out, T1⟩
  case round =>
    obtain ⟨j, x, y, z, t, hj, hgk, rfl, hup, T⟩ := hrel
    have HU := Lib.hid hup
    have HGK := Lib.hid hgk
    clear hup hgk T1
    obtain ⟨c00, c01, c02, c03, f00, f01, f02, f03⟩ := T.head.four
    obtain ⟨c10, c11, c12, c13, c14, f10, f11, f12, f13, f14⟩ := T.tail.head.five
    obtain ⟨c20, c21, c22, c23, c24, f20, f21, f22, f23, f24⟩ := T.tail.tail.head.five
    obtain ⟨c30, c31, c32, c33, c34, f30, f31, f32, f33, f34⟩ := T.tail.tail.tail.head.five
    have l0 := T.head.lt
    have l1 := T.tail.head.lt
    have l2 := T.tail.tail.head.lt
    have l3 := T.tail.tail.tail.head.lt
    by_cases hlt : j < NT
    · have hlk : k + (j : Int) < l := by have := HT1.out; omega
      have hd : decide (k + (j : Int) < l) = true := by simp; omega
      rcases hm : mulZ ⟨x, y, z, t⟩ rootZ with _ | ⟨p', q', r', s'⟩
      · have HM := Lib.hid hm
        have hRn : R = none := by rw [← HU.out, show NT - j = (NT - (j + 1)) + 1 by omega, upZ_none hm]
        have HVV := Lib.hid (show V = .tuple #[.agg #[.int .i64 0, .int .i64 0, .int .i64 0, .int .i64 0, .int .i64 0], .bool false] by rw [HV.out, hRn]; rfl)
        clear hRn hm
        go_upto_region 9 with fail
        go_cut [8, 9] (fun s8 s9 wx => ∃ g2 : Nat, s8 = .pointer (some ⟨g2, 0, none⟩) ∧ s9 = .bool false ∧ Own w wx ((g2, 25, #[.int .i64 0, .int .i64 0, .int .i64 0, .int .i64 0]) :: (g, 25, #[.int .i64 x, .int .i64 y, .int .i64 z, .int .i64 t]) :: [(w.heap.size + 1 + 1, 29, #[.int .i64 0, .int .i64 0, .int .i64 0, .int .i64 0, .int .i64 0]), (w.heap.size + 1, 29, #[.int .i64 a, .int .i64 b, .int .i64 c, .int .i64 d, .int .i64 k]), (w.heap.size, 29, #[.int .i64 p, .int .i64 q, .int .i64 r, .int .i64 s, .int .i64 l])]) ∧ g < g2)
        case first =>
          go_region_held3 (fun w' => w'.cell? ⟨g, 0, none⟩ = some (.int .i64 x) ∧ w'.cell? ⟨g, 1, none⟩ = some (.int .i64 y) ∧ w'.cell? ⟨g, 2, none⟩ = some (.int .i64 z) ∧ w'.cell? ⟨g, 3, none⟩ = some (.int .i64 t) ∧ w'.cell? ⟨w.heap.size + 1 + 1, 0, none⟩ = some (.int .i64 0) ∧ w'.cell? ⟨w.heap.size + 1 + 1, 1, none⟩ = some (.int .i64 0) ∧ w'.cell? ⟨w.heap.size + 1 + 1, 2, none⟩ = some (.int .i64 0) ∧ w'.cell? ⟨w.heap.size + 1 + 1, 3, none⟩ = some (.int .i64 0) ∧ w'.cell? ⟨w.heap.size + 1 + 1, 4, none⟩ = some (.int .i64 0) ∧ w'.cell? ⟨w.heap.size + 1, 0, none⟩ = some (.int .i64 a) ∧ w'.cell? ⟨w.heap.size + 1, 1, none⟩ = some (.int .i64 b) ∧ w'.cell? ⟨w.heap.size + 1, 2, none⟩ = some (.int .i64 c) ∧ w'.cell? ⟨w.heap.size + 1, 3, none⟩ = some (.int .i64 d) ∧ w'.cell? ⟨w.heap.size + 1, 4, none⟩ = some (.int .i64 k) ∧ w'.cell? ⟨w.heap.size, 0, none⟩ = some (.int .i64 p) ∧ w'.cell? ⟨w.heap.size, 1, none⟩ = some (.int .i64 q) ∧ w'.cell? ⟨w.heap.size, 2, none⟩ = some (.int .i64 r) ∧ w'.cell? ⟨w.heap.size, 3, none⟩ = some (.int .i64 s) ∧ w'.cell? ⟨w.heap.size, 4, none⟩ = some (.int .i64 l)) (first | (with_reducible exact ⟨c00, c01, c02, c03, c10, c11, c12, c13, c14, c20, c21, c22, c23, c24, c30, c31, c32, c33, c34⟩) | go_keep) (first | (go_at_call 106; refine (i_root _).mono ?_; rintro e w1 ⟨rfl, hb⟩; (first | (have T := T.call hb; (try have kz := kz.call hb)) | (have T := T.drew.call hb; (try have kz := kz.drew.call hb)) | (have kz := Blk.new_call hb; have n0 := Nat.ne_of_lt l0; have m0 := Nat.ne_of_gt l0; have n1 := Nat.ne_of_lt l1; have m1 := Nat.ne_of_gt l1; have n2 := Nat.ne_of_lt l2; have m2 := Nat.ne_of_gt l2; have n3 := Nat.ne_of_lt l3; have m3 := Nat.ne_of_gt l3; have kg := T.below.size; have KN := T.lts; have T := (T.alloc _).call hb) | (have kz := Blk.new_drew_call hb; have n0 := Nat.ne_of_lt l0; have m0 := Nat.ne_of_gt l0; have n1 := Nat.ne_of_lt l1; have m1 := Nat.ne_of_gt l1; have n2 := Nat.ne_of_lt l2; have m2 := Nat.ne_of_gt l2; have n3 := Nat.ne_of_lt l3; have m3 := Nat.ne_of_gt l3; have kg := T.below.size; have KN := T.lts; have T := (T.alloc _).drew.call hb)); obtain ⟨c00, c01, c02, c03, -, -, -, -⟩ := T.head.four; obtain ⟨c10, c11, c12, c13, c14, -, -, -, -, -⟩ := T.tail.head.five; obtain ⟨c20, c21, c22, c23, c24, -, -, -, -, -⟩ := T.tail.tail.head.five; obtain ⟨c30, c31, c32, c33, c34, -, -, -, -, -⟩ := T.tail.tail.tail.head.five; have l0 := T.head.lt; have l1 := T.tail.head.lt; have l2 := T.tail.tail.head.lt; have l3 := T.tail.tail.tail.head.lt; (try obtain ⟨cz0, cz1, cz2, cz3, fz0, fz1, fz2, fz3⟩ := kz.four)) | (go_at_call 18; refine (i_MulZ_none _ HM.out).mono ?_; rintro e w1 ⟨rfl, hb⟩; (first | (have T := T.call hb; (try have kz := kz.call hb)) | (have T := T.drew.call hb; (try have kz := kz.drew.call hb)) | (have kz := Blk.new_call hb; have n0 := Nat.ne_of_lt l0; have m0 := Nat.ne_of_gt l0; have n1 := Nat.ne_of_lt l1; have m1 := Nat.ne_of_gt l1; have n2 := Nat.ne_of_lt l2; have m2 := Nat.ne_of_gt l2; have n3 := Nat.ne_of_lt l3; have m3 := Nat.ne_of_gt l3; have kg := T.below.size; have KN := T.lts; have T := (T.alloc _).call hb) | (have kz := Blk.new_drew_call hb; have n0 := Nat.ne_of_lt l0; have m0 := Nat.ne_of_gt l0; have n1 := Nat.ne_of_lt l1; have m1 := Nat.ne_of_gt l1; have n2 := Nat.ne_of_lt l2; have m2 := Nat.ne_of_gt l2; have n3 := Nat.ne_of_lt l3; have m3 := Nat.ne_of_gt l3; have kg := T.below.size; have KN := T.lts; have T := (T.alloc _).drew.call hb)); obtain ⟨c00, c01, c02, c03, -, -, -, -⟩ := T.head.four; obtain ⟨c10, c11, c12, c13, c14, -, -, -, -, -⟩ := T.tail.head.five; obtain ⟨c20, c21, c22, c23, c24, -, -, -, -, -⟩ := T.tail.tail.head.five; obtain ⟨c30, c31, c32, c33, c34, -, -, -, -, -⟩ := T.tail.tail.tail.head.five; have l0 := T.head.lt; have l1 := T.tail.head.lt; have l2 := T.tail.tail.head.lt; have l3 := T.tail.tail.tail.head.lt; (try obtain ⟨cz0, cz1, cz2, cz3, fz0, fz1, fz2, fz3⟩ := kz.four)))
          all_goals
            go_wp2_with fail
            go_meet
            first | (with_reducible exact ⟨_, rfl, rfl, T.push _ _, T.head.lt⟩) | (with_reducible exact ⟨_, rfl, rfl, (T.add kz).put4 kg KN.out _ _ _ _, KN.out _ (List.mem_cons_self)⟩)
        case rest =>
          obtain ⟨g2, rfl, rfl, T2, hgg2⟩ := hcut
          clear T c00 f00 c01 f01 c02 f02 c03 f03 c10 f10 c11 f11 c12 f12 c13 f13 c14 f14 c20 f20 c21 f21 c22 f22 c23 f23 c24 f24 c30 f30 c31 f31 c32 f32 c33 f33 c34 f34 l0 l1 l2 l3
          obtain ⟨c00, c01, c02, c03, -, -, -, -⟩ := T2.head.four
          obtain ⟨c10, c11, c12, c13, f10, f11, f12, f13⟩ := T2.tail.head.four
          obtain ⟨c20, c21, c22, c23, c24, f20, f21, f22, f23, f24⟩ := T2.tail.tail.head.five
          have n1 := Nat.ne_of_lt hgg2
          have n2 := Nat.ne_of_gt hgg2
          have hw := T2.below
          clear T2
          go_wp2
          rw [HVV.out]
          refine bodyPost_ret (v := .tuple #[.agg #[.int .i64 0, .int .i64 0, .int .i64 0, .int .i64 0, .int .i64 0], .bool false]) (by simp [results, Try.results87, go_sem, *]) rfl (ret_mk ?_)
          repeat (first | (with_reducible exact Below.refl _ _) | (with_reducible assumption) | (with_reducible refine bl_alloc ?_ _) | (with_reducible refine bl_drew ?_) | (with_reducible refine bl_set ?_ (by simp <;> omega) _) | (with_reducible refine bl_call ?_ (by assumption)))
      · have HM := Lib.hid hm
        have HU' := Lib.hid (show upZ ⟨p', q', r', s'⟩ (NT - (j + 1)) = R by rw [← HU.out, show NT - j = (NT - (j + 1)) + 1 by omega, upZ_some hm])
        clear hm
        go_upto_region 9 with fail
        go_cut [8, 9] (fun s8 s9 wx => ∃ g2 : Nat, s8 = .pointer (some ⟨g2, 0, none⟩) ∧ s9 = .bool true ∧ Own w wx ((g2, 25, #[.int .i64 p', .int .i64 q', .int .i64 r', .int .i64 s']) :: (g, 25, #[.int .i64 x, .int .i64 y, .int .i64 z, .int .i64 t]) :: [(w.heap.size + 1 + 1, 29, #[.int .i64 0, .int .i64 0, .int .i64 0, .int .i64 0, .int .i64 0]), (w.heap.size + 1, 29, #[.int .i64 a, .int .i64 b, .int .i64 c, .int .i64 d, .int .i64 k]), (w.heap.size, 29, #[.int .i64 p, .int .i64 q, .int .i64 r, .int .i64 s, .int .i64 l])]) ∧ g < g2)
        case first =>
          go_region_held3 (fun w' => w'.cell? ⟨g, 0, none⟩ = some (.int .i64 x) ∧ w'.cell? ⟨g, 1, none⟩ = some (.int .i64 y) ∧ w'.cell? ⟨g, 2, none⟩ = some (.int .i64 z) ∧ w'.cell? ⟨g, 3, none⟩ = some (.int .i64 t) ∧ w'.cell? ⟨w.heap.size + 1 + 1, 0, none⟩ = some (.int .i64 0) ∧ w'.cell? ⟨w.heap.size + 1 + 1, 1, none⟩ = some (.int .i64 0) ∧ w'.cell? ⟨w.heap.size + 1 + 1, 2, none⟩ = some (.int .i64 0) ∧ w'.cell? ⟨w.heap.size + 1 + 1, 3, none⟩ = some (.int .i64 0) ∧ w'.cell? ⟨w.heap.size + 1 + 1, 4, none⟩ = some (.int .i64 0) ∧ w'.cell? ⟨w.heap.size + 1, 0, none⟩ = some (.int .i64 a) ∧ w'.cell? ⟨w.heap.size + 1, 1, none⟩ = some (.int .i64 b) ∧ w'.cell? ⟨w.heap.size + 1, 2, none⟩ = some (.int .i64 c) ∧ w'.cell? ⟨w.heap.size + 1, 3, none⟩ = some (.int .i64 d) ∧ w'.cell? ⟨w.heap.size + 1, 4, none⟩ = some (.int .i64 k) ∧ w'.cell? ⟨w.heap.size, 0, none⟩ = some (.int .i64 p) ∧ w'.cell? ⟨w.heap.size, 1, none⟩ = some (.int .i64 q) ∧ w'.cell? ⟨w.heap.size, 2, none⟩ = some (.int .i64 r) ∧ w'.cell? ⟨w.heap.size, 3, none⟩ = some (.int .i64 s) ∧ w'.cell? ⟨w.heap.size, 4, none⟩ = some (.int .i64 l)) (first | (with_reducible exact ⟨c00, c01, c02, c03, c10, c11, c12, c13, c14, c20, c21, c22, c23, c24, c30, c31, c32, c33, c34⟩) | go_keep) (first | (go_at_call 106; refine (i_root _).mono ?_; rintro e w1 ⟨rfl, hb⟩; (first | (have T := T.call hb; (try have kz := kz.call hb)) | (have T := T.drew.call hb; (try have kz := kz.drew.call hb)) | (have kz := Blk.new_call hb; have n0 := Nat.ne_of_lt l0; have m0 := Nat.ne_of_gt l0; have n1 := Nat.ne_of_lt l1; have m1 := Nat.ne_of_gt l1; have n2 := Nat.ne_of_lt l2; have m2 := Nat.ne_of_gt l2; have n3 := Nat.ne_of_lt l3; have m3 := Nat.ne_of_gt l3; have kg := T.below.size; have KN := T.lts; have T := (T.alloc _).call hb) | (have kz := Blk.new_drew_call hb; have n0 := Nat.ne_of_lt l0; have m0 := Nat.ne_of_gt l0; have n1 := Nat.ne_of_lt l1; have m1 := Nat.ne_of_gt l1; have n2 := Nat.ne_of_lt l2; have m2 := Nat.ne_of_gt l2; have n3 := Nat.ne_of_lt l3; have m3 := Nat.ne_of_gt l3; have kg := T.below.size; have KN := T.lts; have T := (T.alloc _).drew.call hb)); obtain ⟨c00, c01, c02, c03, -, -, -, -⟩ := T.head.four; obtain ⟨c10, c11, c12, c13, c14, -, -, -, -, -⟩ := T.tail.head.five; obtain ⟨c20, c21, c22, c23, c24, -, -, -, -, -⟩ := T.tail.tail.head.five; obtain ⟨c30, c31, c32, c33, c34, -, -, -, -, -⟩ := T.tail.tail.tail.head.five; have l0 := T.head.lt; have l1 := T.tail.head.lt; have l2 := T.tail.tail.head.lt; have l3 := T.tail.tail.tail.head.lt; (try obtain ⟨cz0, cz1, cz2, cz3, fz0, fz1, fz2, fz3⟩ := kz.four)) | (go_at_call 18; refine (i_MulZ_some _ HM.out).mono ?_; rintro e w1 ⟨rfl, hb⟩; (first | (have T := T.call hb; (try have kz := kz.call hb)) | (have T := T.drew.call hb; (try have kz := kz.drew.call hb)) | (have kz := Blk.new_call hb; have n0 := Nat.ne_of_lt l0; have m0 := Nat.ne_of_gt l0; have n1 := Nat.ne_of_lt l1; have m1 := Nat.ne_of_gt l1; have n2 := Nat.ne_of_lt l2; have m2 := Nat.ne_of_gt l2; have n3 := Nat.ne_of_lt l3; have m3 := Nat.ne_of_gt l3; have kg := T.below.size; have KN := T.lts; have T := (T.alloc _).call hb) | (have kz := Blk.new_drew_call hb; have n0 := Nat.ne_of_lt l0; have m0 := Nat.ne_of_gt l0; have n1 := Nat.ne_of_lt l1; have m1 := Nat.ne_of_gt l1; have n2 := Nat.ne_of_lt l2; have m2 := Nat.ne_of_gt l2; have n3 := Nat.ne_of_lt l3; have m3 := Nat.ne_of_gt l3; have kg := T.below.size; have KN := T.lts; have T := (T.alloc _).drew.call hb)); obtain ⟨c00, c01, c02, c03, -, -, -, -⟩ := T.head.four; obtain ⟨c10, c11, c12, c13, c14, -, -, -, -, -⟩ := T.tail.head.five; obtain ⟨c20, c21, c22, c23, c24, -, -, -, -, -⟩ := T.tail.tail.head.five; obtain ⟨c30, c31, c32, c33, c34, -, -, -, -, -⟩ := T.tail.tail.tail.head.five; have l0 := T.head.lt; have l1 := T.tail.head.lt; have l2 := T.tail.tail.head.lt; have l3 := T.tail.tail.tail.head.lt; (try obtain ⟨cz0, cz1, cz2, cz3, fz0, fz1, fz2, fz3⟩ := kz.four)))
          all_goals
            go_wp2_with fail
            go_meet
            first | (with_reducible exact ⟨_, rfl, rfl, T.push _ _, T.head.lt⟩) | (with_reducible exact ⟨_, rfl, rfl, (T.add kz).put4 kg KN.out _ _ _ _, KN.out _ (List.mem_cons_self)⟩)
        case rest =>
          obtain ⟨g2, rfl, rfl, T2, hgg2⟩ := hcut
          clear T c00 f00 c01 f01 c02 f02 c03 f03 c10 f10 c11 f11 c12 f12 c13 f13 c14 f14 c20 f20 c21 f21 c22 f22 c23 f23 c24 f24 c30 f30 c31 f31 c32 f32 c33 f33 c34 f34 l0 l1 l2 l3
          obtain ⟨c00, c01, c02, c03, -, -, -, -⟩ := T2.head.four
          obtain ⟨c10, c11, c12, c13, f10, f11, f12, f13⟩ := T2.tail.head.four
          obtain ⟨c20, c21, c22, c23, c24, f20, f21, f22, f23, f24⟩ := T2.tail.tail.head.five
          have n1 := Nat.ne_of_lt hgg2
          have n2 := Nat.ne_of_gt hgg2
          go_wp2
          go_roundg (NT - (j + 1))
          case measure => have := HGK.out; omega
          case rel => exact ⟨j + 1, p', q', r', s', by omega, rfl, by go_num, HU'.out, T2.tail.put4n (by omega) (by simp; omega) _ _ _ _⟩
    · have hlk : ¬ k + (j : Int) < l := by have := HT1.out; omega
      have hd : decide (k + (j : Int) < l) = false := by simp; omega
      have hRs : R = some ⟨x, y, z, t⟩ := by rw [← HU.out, show NT - j = 0 by omega]; rfl
      have HV2 := Lib.hid (show V = outV ((addZ ⟨p, q, r, s⟩ ⟨x, y, z, t⟩).bind fun n => newD n l) by rw [HV.out, hRs]; rfl)
      clear hRs
      rcases hz : addZ ⟨p, q, r, s⟩ ⟨x, y, z, t⟩ with _ | ⟨p', q', r', s'⟩
      · have HVV := Lib.hid (show V = .tuple #[.agg #[.int .i64 0, .int .i64 0, .int .i64 0, .int .i64 0, .int .i64 0], .bool false] by rw [HV2.out, hz]; rfl)
        have HZ := Lib.hid hz
        clear hz
        go_wp2_with fail
        refine (i_AddZ_none _ HZ.out).mono ?_
        rintro e w3 ⟨rfl, hb3⟩
        have T3 := T.call hb3
        have hs3 := hb3.size
        clear T c00 f00 c01 f01 c02 f02 c03 f03 c10 f10 c11 f11 c12 f12 c13 f13 c14 f14 c20 f20 c21 f21 c22 f22 c23 f23 c24 f24 c30 f30 c31 f31 c32 f32 c33 f33 c34 f34 l0 l1 l2 l3
        obtain ⟨c20, c21, c22, c23, c24, f20, f21, f22, f23, f24⟩ := T3.tail.head.five
        have lb := T3.tail.head.lt
        have ua0 : w.heap.size < w3.heap.size := by omega
        have ua1 : w.heap.size + 1 < w3.heap.size := by omega
        have ua2 : w.heap.size + 1 + 1 < w3.heap.size := by omega
        have ua3 : ¬ w.heap.size + 1 + 1 = w3.heap.size := by omega
        have ua4 : ¬ w3.heap.size = w.heap.size + 1 + 1 := by omega
        have ua5 : ¬ w.heap.size = w3.heap.size := by omega
        have ua6 : ¬ w3.heap.size = w.heap.size := by omega
        have hw := T3.below
        clear T3
        go_wp2
        rw [HVV.out]
        refine bodyPost_ret (v := .tuple #[.agg #[.int .i64 0, .int .i64 0, .int .i64 0, .int .i64 0, .int .i64 0], .bool false]) (by simp [results, Try.results87, go_sem, *]) rfl (ret_mk ?_)
        repeat (first | (with_reducible exact Below.refl _ _) | (with_reducible assumption) | (with_reducible refine bl_alloc ?_ _) | (with_reducible refine bl_drew ?_) | (with_reducible refine bl_set ?_ (by simp <;> omega) _) | (with_reducible refine bl_call ?_ (by assumption)))
      · have HZ := Lib.hid hz
        rcases hn : newD ⟨p', q', r', s'⟩ l with _ | ⟨⟨x', y', z', t'⟩, m'⟩
        · have HVV := Lib.hid (show V = .tuple #[.agg #[.int .i64 0, .int .i64 0, .int .i64 0, .int .i64 0, .int .i64 0], .bool false] by rw [HV2.out, hz]; show outV (newD _ _) = _; rw [hn]; rfl)
          have HN := Lib.hid hn
          clear hz hn
          go_wp2_with fail
          refine (i_AddZ_some _ HZ.out).mono ?_
          rintro e w3 ⟨rfl, hb3⟩
          have T3 := T.call hb3
          have hs3 := hb3.size
          clear T c00 f00 c01 f01 c02 f02 c03 f03 c10 f10 c11 f11 c12 f12 c13 f13 c14 f14 c20 f20 c21 f21 c22 f22 c23 f23 c24 f24 c30 f30 c31 f31 c32 f32 c33 f33 c34 f34 l0 l1 l2 l3
          obtain ⟨c30, c31, c32, c33, c34, -, -, -, -, -⟩ := T3.tail.tail.tail.head.five
          have lb := T3.tail.head.lt
          have ua0 : w.heap.size < w3.heap.size := by omega
          have ua1 : w.heap.size + 1 < w3.heap.size := by omega
          have ua2 : w.heap.size + 1 + 1 < w3.heap.size := by omega
          have ua3 : ¬ w.heap.size + 1 + 1 = w3.heap.size := by omega
          have ua4 : ¬ w3.heap.size = w.heap.size + 1 + 1 := by omega
          have ua5 : ¬ w.heap.size = w3.heap.size := by omega
          have ua6 : ¬ w3.heap.size = w.heap.size := by omega
          go_wp2_with fail
          refine (i_New_none _ HN.out).mono ?_
          rintro e w4 ⟨rfl, hb4⟩
          have T4 := (T3.alloc _).call hb4
          have hs4 := hb4.size
          simp at hs4
          obtain ⟨c20, c21, c22, c23, c24, f20, f21, f22, f23, f24⟩ := T4.tail.head.five
          have ub0 : w.heap.size < w4.heap.size := by omega
          have ub1 : w.heap.size + 1 < w4.heap.size := by omega
          have ub2 : w.heap.size + 1 + 1 < w4.heap.size := by omega
          have ub3 : ¬ w.heap.size + 1 + 1 = w4.heap.size := by omega
          have ub4 : ¬ w4.heap.size = w.heap.size + 1 + 1 := by omega
          have ub5 : ¬ w.heap.size = w4.heap.size := by omega
          have ub6 : ¬ w4.heap.size = w.heap.size := by omega
          have hw := T4.below
          clear T3 T4
          go_wp2
          rw [HVV.out]
          refine bodyPost_ret (v := .tuple #[.agg #[.int .i64 0, .int .i64 0, .int .i64 0, .int .i64 0, .int .i64 0], .bool false]) (by simp [results, Try.results87, go_sem, *]) rfl (ret_mk ?_)
          repeat (first | (with_reducible exact Below.refl _ _) | (with_reducible assumption) | (with_reducible refine bl_alloc ?_ _) | (with_reducible refine bl_drew ?_) | (with_reducible refine bl_set ?_ (by simp <;> omega) _) | (with_reducible refine bl_call ?_ (by assumption)))
        · have HVV := Lib.hid (show V = .tuple #[.agg #[.int .i64 x', .int .i64 y', .int .i64 z', .int .i64 t', .int .i64 m'], .bool true] by rw [HV2.out, hz]; show outV (newD _ _) = _; rw [hn]; rfl)
          have HN := Lib.hid hn
          clear hz hn
          go_wp2_with fail
          refine (i_AddZ_some _ HZ.out).mono ?_
          rintro e w3 ⟨rfl, hb3⟩
          have T3 := T.call hb3
          have hs3 := hb3.size
          clear T c00 f00 c01 f01 c02 f02 c03 f03 c10 f10 c11 f11 c12 f12 c13 f13 c14 f14 c20 f20 c21 f21 c22 f22 c23 f23 c24 f24 c30 f30 c31 f31 c32 f32 c33 f33 c34 f34 l0 l1 l2 l3
          obtain ⟨c30, c31, c32, c33, c34, -, -, -, -, -⟩ := T3.tail.tail.tail.head.five
          have lb := T3.tail.head.lt
          have ua0 : w.heap.size < w3.heap.size := by omega
          have ua1 : w.heap.size + 1 < w3.heap.size := by omega
          have ua2 : w.heap.size + 1 + 1 < w3.heap.size := by omega
          have ua3 : ¬ w.heap.size + 1 + 1 = w3.heap.size := by omega
          have ua4 : ¬ w3.heap.size = w.heap.size + 1 + 1 := by omega
          have ua5 : ¬ w.heap.size = w3.heap.size := by omega
          have ua6 : ¬ w3.heap.size = w.heap.size := by omega
          go_wp2_with fail
          refine (i_New_some _ HN.out).mono ?_
          rintro e w4 ⟨rfl, hb4⟩
          have T4 := (T3.alloc _).call hb4
          have hs4 := hb4.size
          simp at hs4
          obtain ⟨c20, c21, c22, c23, c24, f20, f21, f22, f23, f24⟩ := T4.tail.head.five
          have ub0 : w.heap.size < w4.heap.size := by omega
          have ub1 : w.heap.size + 1 < w4.heap.size := by omega
          have ub2 : w.heap.size + 1 + 1 < w4.heap.size := by omega
          have ub3 : ¬ w.heap.size + 1 + 1 = w4.heap.size := by omega
          have ub4 : ¬ w4.heap.size = w.heap.size + 1 + 1 := by omega
          have ub5 : ¬ w.heap.size = w4.heap.size := by omega
          have ub6 : ¬ w4.heap.size = w.heap.size := by omega
          have hw := T4.below
          clear T3 T4
          go_wp2
          rw [HVV.out]
          refine bodyPost_ret (v := .tuple #[.agg #[.int .i64 x', .int .i64 y', .int .i64 z', .int .i64 t', .int .i64 m'], .bool true]) (by simp [results, Try.results87, go_sem, *]) rfl (ret_mk ?_)
          repeat (first | (with_reducible exact Below.refl _ _) | (with_reducible assumption) | (with_reducible refine bl_alloc ?_ _) | (with_reducible refine bl_drew ?_) | (with_reducible refine bl_set ?_ (by simp <;> omega) _) | (with_reducible refine bl_call ?_ (by assumption)))

set_option maxHeartbeats 1000000 in
theorem i_AddD_x {a b c d k p q r s l : Int} (w : World) (h1 : okd ⟨⟨a, b, c, d⟩, k⟩ = false) : Calls Try.prog 87 #[.agg #[.int .i64 a, .int .i64 b, .int .i64 c, .int .i64 d, .int .i64 k], .agg #[.int .i64 p, .int .i64 q, .int .i64 r, .int .i64 s, .int .i64 l]] w (Ret (.tuple #[.agg #[.int .i64 0, .int .i64 0, .int .i64 0, .int .i64 0, .int .i64 0], .bool false]) w) := by
  go_enter Try.func87, Try.ntmps87
  go_wp2_with fail
  refine (i_okd_f _ h1).mono ?_
  rintro e w1 ⟨rfl, hb1⟩
  obtain ⟨hc1, hf1⟩ := bcell hb1
  have hz1 := hb1.size
  (try simp at hz1)
  have l1w0 : w.heap.size < w1.heap.size := by omega
  have m1w0 : w.heap.size ≤ w1.heap.size := by omega
  have x1w0 : ¬ w.heap.size = w1.heap.size := by omega
  have y1w0 : ¬ w1.heap.size = w.heap.size := by omega
  have l1w1 : w.heap.size + 1 < w1.heap.size := by omega
  have m1w1 : w.heap.size + 1 ≤ w1.heap.size := by omega
  have x1w1 : ¬ w.heap.size + 1 = w1.heap.size := by omega
  have y1w1 : ¬ w1.heap.size = w.heap.size + 1 := by omega
  have l1w2 : w.heap.size + 1 + 1 < w1.heap.size := by omega
  have m1w2 : w.heap.size + 1 + 1 ≤ w1.heap.size := by omega
  have x1w2 : ¬ w.heap.size + 1 + 1 = w1.heap.size := by omega
  have y1w2 : ¬ w1.heap.size = w.heap.size + 1 + 1 := by omega
  go_wp2
  refine bodyPost_ret (v := .tuple #[.agg #[.int .i64 0, .int .i64 0, .int .i64 0, .int .i64 0, .int .i64 0], .bool false]) (by simp [results, Try.results87, go_sem, *]) rfl (ret_mk ?_)
  repeat (first | (with_reducible exact Below.refl _ _) | (with_reducible assumption) | (with_reducible refine bl_alloc ?_ _) | (with_reducible refine bl_drew ?_) | (with_reducible refine bl_set ?_ (by simp <;> omega) _) | (with_reducible refine bl_call ?_ (by assumption)))
set_option maxHeartbeats 1000000 in
theorem i_AddD_y {a b c d k p q r s l : Int} (w : World) (h1 : okd ⟨⟨a, b, c, d⟩, k⟩ = true) (h2 : okd ⟨⟨p, q, r, s⟩, l⟩ = false) : Calls Try.prog 87 #[.agg #[.int .i64 a, .int .i64 b, .int .i64 c, .int .i64 d, .int .i64 k], .agg #[.int .i64 p, .int .i64 q, .int .i64 r, .int .i64 s, .int .i64 l]] w (Ret (.tuple #[.agg #[.int .i64 0, .int .i64 0, .int .i64 0, .int .i64 0, .int .i64 0], .bool false]) w) := by
  go_enter Try.func87, Try.ntmps87
  go_wp2_with fail
  refine (i_okd_t _ h1).mono ?_
  rintro e w1 ⟨rfl, hb1⟩
  obtain ⟨hc1, hf1⟩ := bcell hb1
  have hz1 := hb1.size
  (try simp at hz1)
  have l1w0 : w.heap.size < w1.heap.size := by omega
  have m1w0 : w.heap.size ≤ w1.heap.size := by omega
  have x1w0 : ¬ w.heap.size = w1.heap.size := by omega
  have y1w0 : ¬ w1.heap.size = w.heap.size := by omega
  have l1w1 : w.heap.size + 1 < w1.heap.size := by omega
  have m1w1 : w.heap.size + 1 ≤ w1.heap.size := by omega
  have x1w1 : ¬ w.heap.size + 1 = w1.heap.size := by omega
  have y1w1 : ¬ w1.heap.size = w.heap.size + 1 := by omega
  have l1w2 : w.heap.size + 1 + 1 < w1.heap.size := by omega
  have m1w2 : w.heap.size + 1 + 1 ≤ w1.heap.size := by omega
  have x1w2 : ¬ w.heap.size + 1 + 1 = w1.heap.size := by omega
  have y1w2 : ¬ w1.heap.size = w.heap.size + 1 + 1 := by omega
  go_wp2_with fail
  refine (i_okd_f _ h2).mono ?_
  rintro e w2 ⟨rfl, hb2⟩
  obtain ⟨hc2, hf2⟩ := bcell hb2
  have hz2 := hb2.size
  (try simp at hz2)
  have l2w0 : w.heap.size < w2.heap.size := by omega
  have m2w0 : w.heap.size ≤ w2.heap.size := by omega
  have x2w0 : ¬ w.heap.size = w2.heap.size := by omega
  have y2w0 : ¬ w2.heap.size = w.heap.size := by omega
  have l2w1 : w.heap.size + 1 < w2.heap.size := by omega
  have m2w1 : w.heap.size + 1 ≤ w2.heap.size := by omega
  have x2w1 : ¬ w.heap.size + 1 = w2.heap.size := by omega
  have y2w1 : ¬ w2.heap.size = w.heap.size + 1 := by omega
  have l2w2 : w.heap.size + 1 + 1 < w2.heap.size := by omega
  have m2w2 : w.heap.size + 1 + 1 ≤ w2.heap.size := by omega
  have x2w2 : ¬ w.heap.size + 1 + 1 = w2.heap.size := by omega
  have y2w2 : ¬ w2.heap.size = w.heap.size + 1 + 1 := by omega
  go_wp2
  refine bodyPost_ret (v := .tuple #[.agg #[.int .i64 0, .int .i64 0, .int .i64 0, .int .i64 0, .int .i64 0], .bool false]) (by simp [results, Try.results87, go_sem, *]) rfl (ret_mk ?_)
  repeat (first | (with_reducible exact Below.refl _ _) | (with_reducible assumption) | (with_reducible refine bl_alloc ?_ _) | (with_reducible refine bl_drew ?_) | (with_reducible refine bl_set ?_ (by simp <;> omega) _) | (with_reducible refine bl_call ?_ (by assumption)))
theorem i_AddD {a b c d k p q r s l : Int} (w : World) : Calls Try.prog 87 #[.agg #[.int .i64 a, .int .i64 b, .int .i64 c, .int .i64 d, .int .i64 k], .agg #[.int .i64 p, .int .i64 q, .int .i64 r, .int .i64 s, .int .i64 l]] w (Ret (outV (addD ⟨⟨a, b, c, d⟩, k⟩ ⟨⟨p, q, r, s⟩, l⟩)) w) := by
  cases h1 : okd ⟨⟨a, b, c, d⟩, k⟩
  · rw [show addD ⟨⟨a, b, c, d⟩, k⟩ ⟨⟨p, q, r, s⟩, l⟩ = none by simp [addD, h1]]
    exact i_AddD_x w h1
  · cases h2 : okd ⟨⟨p, q, r, s⟩, l⟩
    · rw [show addD ⟨⟨a, b, c, d⟩, k⟩ ⟨⟨p, q, r, s⟩, l⟩ = none by simp [addD, h2]]
      exact i_AddD_y w h1 h2
    · by_cases hle : l ≤ k
      · have hm : max k l = k := Int.max_eq_left hle
        have e : addD ⟨⟨a, b, c, d⟩, k⟩ ⟨⟨p, q, r, s⟩, l⟩ = ((upZ ⟨p, q, r, s⟩ (k - l).toNat).bind (addZ ⟨a, b, c, d⟩)).bind fun n => newD n k := by
          unfold addD
          rw [if_pos ⟨h1, h2⟩]
          simp only [hm, Int.sub_self, Int.toNat_zero, upZ]
          rcases upZ ⟨p, q, r, s⟩ (k - l).toNat with _ | n
          · rfl
          · simp only [Option.bind_some]
        rw [e]
        exact i_AddD_ns w h1 h2 hle rfl
      · have hm : max k l = l := Int.max_eq_right (by omega)
        have e : addD ⟨⟨a, b, c, d⟩, k⟩ ⟨⟨p, q, r, s⟩, l⟩ = ((upZ ⟨a, b, c, d⟩ (l - k).toNat).bind (addZ ⟨p, q, r, s⟩)).bind fun n => newD n l := by
          unfold addD
          rw [if_pos ⟨h1, h2⟩]
          simp only [hm, Int.sub_self, Int.toNat_zero, upZ]
          rcases upZ ⟨a, b, c, d⟩ (l - k).toNat with _ | n
          · rfl
          · simp only [Option.bind_some, addZ_comm n]
        rw [e]
        exact i_AddD_sw w h1 h2 (by omega) rfl
theorem i_AddD_some {a b c d k p q r s l x y z t m : Int} (w : World) (h : addD ⟨⟨a, b, c, d⟩, k⟩ ⟨⟨p, q, r, s⟩, l⟩ = some ⟨⟨x, y, z, t⟩, m⟩) : Calls Try.prog 87 #[.agg #[.int .i64 a, .int .i64 b, .int .i64 c, .int .i64 d, .int .i64 k], .agg #[.int .i64 p, .int .i64 q, .int .i64 r, .int .i64 s, .int .i64 l]] w (Ret (.tuple #[.agg #[.int .i64 x, .int .i64 y, .int .i64 z, .int .i64 t, .int .i64 m], .bool true]) w) := by
  have q := i_AddD (a := a) (b := b) (c := c) (d := d) (k := k) (p := p) (q := q) (r := r) (s := s) (l := l) w
  rw [h] at q
  exact q
theorem i_AddD_none {a b c d k p q r s l : Int} (w : World) (h : addD ⟨⟨a, b, c, d⟩, k⟩ ⟨⟨p, q, r, s⟩, l⟩ = none) : Calls Try.prog 87 #[.agg #[.int .i64 a, .int .i64 b, .int .i64 c, .int .i64 d, .int .i64 k], .agg #[.int .i64 p, .int .i64 q, .int .i64 r, .int .i64 s, .int .i64 l]] w (Ret (.tuple #[.agg #[.int .i64 0, .int .i64 0, .int .i64 0, .int .i64 0, .int .i64 0], .bool false]) w) := by
  have q := i_AddD (a := a) (b := b) (c := c) (d := d) (k := k) (p := p) (q := q) (r := r) (s := s) (l := l) w
  rw [h] at q
  exact q
end Go.Proofs.Ytaokfppadfoniaa
