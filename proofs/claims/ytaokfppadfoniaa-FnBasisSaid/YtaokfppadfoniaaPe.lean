/- Contracts: the exponent of a power of omega. -/
import Derived.Test.YtaokfppadfoniaaPh
import Derived.Test.YtaokfppadfoniaaEq
import Derived.Deep.RegionHeld3
namespace Go.Proofs.Ytaokfppadfoniaa
open Go.RowKit

def phEq (m : Nat) (a b c d k : Int) : Bool := eqDb (phaseN m).a (phaseN m).b (phaseN m).c (phaseN m).d 0 a b c d k
def pexp (a b c d k : Int) : Option Nat := (List.range 8).find? fun m => phEq m a b c d k
theorem find_range {f : Nat → Bool} {n k : Nat} (h : ∀ j, j < n → f j = false) (hn : f n = true) (hk : n < k) : (List.range k).find? f = some n := by
  rw [List.find?_range_eq_some]
  exact ⟨hn, by simpa using hk, fun j hj => by simp [h j hj]⟩
theorem find_range_none {f : Nat → Bool} {k : Nat} (h : ∀ j, j < k → f j = false) : (List.range k).find? f = none := by
  rw [List.find?_eq_none]
  intro x hx
  simp [h x (List.mem_range.1 hx)]
attribute [local go_sem ↓ high] eqlD
set_option maxHeartbeats 1000000 in
theorem i_Exp (a b c d k : Int) (w : World) : Calls Try.prog 24 #[.agg #[.int .i64 a, .int .i64 b, .int .i64 c, .int .i64 d, .int .i64 k]] w (Ret (.tuple #[.int .i64 ((pexp a b c d k).getD 0 : Nat), .bool (pexp a b c d k).isSome]) w) := by
  obtain ⟨res, hres⟩ : ∃ z, pexp a b c d k = z := ⟨_, rfl⟩
  rw [hres]
  have HR := Lib.hid hres
  clear hres
  go_enter Try.func24, Try.ntmps24
  go_wp2
  go_loopw [2, 3, 4] (fun v2 v3 i wr => v2 = .int .i64 0 ∧ v3 = .bool false ∧ (∃ n : Nat, n ≤ 8 ∧ i = .int .i64 n ∧ Hid (∀ j, j < n → phEq j a b c d k = false)) ∧ Below (w.heap.size + 1) (w.alloc (.cells #[.int .i64 a, .int .i64 b, .int .i64 c, .int .i64 d, .int .i64 k] 29)) wr) (fun _ _ i _ => 8 - (intOf i).toNat)
  case atStart => exact ⟨rfl, rfl, ⟨0, by omega, rfl, Lib.hid (fun j hj => absurd hj (by omega))⟩, Below.refl _ _⟩
  case round =>
    obtain ⟨rfl, rfl, ⟨n, hn, rfl, HN⟩, hb⟩ := hrel
    have hz := hb.size
    simp at hz
    have c0 : wr.cell? ⟨w.heap.size, 0, none⟩ = some (.int .i64 a) := by rw [hb.cell (by simp)]; simp [go_sem]
    have c1 : wr.cell? ⟨w.heap.size, 1, none⟩ = some (.int .i64 b) := by rw [hb.cell (by simp)]; simp [go_sem]
    have c2 : wr.cell? ⟨w.heap.size, 2, none⟩ = some (.int .i64 c) := by rw [hb.cell (by simp)]; simp [go_sem]
    have c3 : wr.cell? ⟨w.heap.size, 3, none⟩ = some (.int .i64 d) := by rw [hb.cell (by simp)]; simp [go_sem]
    have c4 : wr.cell? ⟨w.heap.size, 4, none⟩ = some (.int .i64 k) := by rw [hb.cell (by simp)]; simp [go_sem]
    have hl : w.heap.size < wr.heap.size := by omega
    by_cases hlt : n < 8
    · obtain ⟨⟨p, q, r, s⟩, h0⟩ : ∃ z, phaseN n = z := ⟨_, rfl⟩
      have H0 := Lib.hid ((phaseN_Z n hlt).trans h0)
      have hd : decide ((n : Int) < 8) = true := by simp; omega
      cases hE : eqDb p q r s 0 a b c d k
      · have hE' : phEq n a b c d k = false := by unfold phEq; rw [h0]; exact hE
        have HN' : Hid (∀ j, j < n + 1 → phEq j a b c d k = false) := by
          intro j hj
          by_cases e : j = n
          · rw [e]; exact hE'
          · exact HN.out j (by omega)
        clear hE' h0
        go_wp2_with fail
        go_region_held3 (fun w' => w'.cell? ⟨w.heap.size, 0, none⟩ = some (.int .i64 a) ∧ w'.cell? ⟨w.heap.size, 1, none⟩ = some (.int .i64 b) ∧ w'.cell? ⟨w.heap.size, 2, none⟩ = some (.int .i64 c) ∧ w'.cell? ⟨w.heap.size, 3, none⟩ = some (.int .i64 d) ∧ w'.cell? ⟨w.heap.size, 4, none⟩ = some (.int .i64 k)) (first | exact ⟨c0, c1, c2, c3, c4⟩ | exact ⟨q0, q1, q2, q3, q4⟩) (first | (go_at_call 23; refine (i_Phase _ H0.out).mono ?_; rintro e w1 ⟨rfl, hb1⟩; have q0 := (hb1.cell (p := ⟨w.heap.size, 0, none⟩) hl).trans c0; have q1 := (hb1.cell (p := ⟨w.heap.size, 1, none⟩) hl).trans c1; have q2 := (hb1.cell (p := ⟨w.heap.size, 2, none⟩) hl).trans c2; have q3 := (hb1.cell (p := ⟨w.heap.size, 3, none⟩) hl).trans c3; have q4 := (hb1.cell (p := ⟨w.heap.size, 4, none⟩) hl).trans c4))
        go_wp2
        go_roundw
        case rel => exact ⟨rfl, rfl, ⟨n + 1, by omega, by go_num, HN'⟩, hb.drew.trans (hb1.mono (by simp; omega))⟩
        case measure => simp [intOf]; omega
      · have hE' : phEq n a b c d k = true := by unfold phEq; rw [h0]; exact hE
        have HF := Lib.hid (find_range (f := fun m => phEq m a b c d k) HN.out hE' hlt)
        clear hE' h0
        go_wp2_with fail
        go_region_held3 (fun w' => w'.cell? ⟨w.heap.size, 0, none⟩ = some (.int .i64 a) ∧ w'.cell? ⟨w.heap.size, 1, none⟩ = some (.int .i64 b) ∧ w'.cell? ⟨w.heap.size, 2, none⟩ = some (.int .i64 c) ∧ w'.cell? ⟨w.heap.size, 3, none⟩ = some (.int .i64 d) ∧ w'.cell? ⟨w.heap.size, 4, none⟩ = some (.int .i64 k)) (first | exact ⟨c0, c1, c2, c3, c4⟩ | exact ⟨q0, q1, q2, q3, q4⟩) (first | (go_at_call 23; refine (i_Phase _ H0.out).mono ?_; rintro e w1 ⟨rfl, hb1⟩; have q0 := (hb1.cell (p := ⟨w.heap.size, 0, none⟩) hl).trans c0; have q1 := (hb1.cell (p := ⟨w.heap.size, 1, none⟩) hl).trans c1; have q2 := (hb1.cell (p := ⟨w.heap.size, 2, none⟩) hl).trans c2; have q3 := (hb1.cell (p := ⟨w.heap.size, 3, none⟩) hl).trans c3; have q4 := (hb1.cell (p := ⟨w.heap.size, 4, none⟩) hl).trans c4))
        go_wp2
        go_ret2
        have hres : res = some n := HR.out.symm.trans HF.out
        rw [hres]
        exact ret_mk ((bl_alloc (Below.refl _ _) _).trans ((hb.drew.trans (hb1.mono (B' := w.heap.size + 1) (by simp; omega))).mono (by omega)))
    · have hd : decide ((n : Int) < 8) = false := by simp; omega
      have h8 : n = 8 := by omega
      have HF := Lib.hid (find_range_none (f := fun m => phEq m a b c d k) (k := 8) (fun j hj => HN.out j (by omega)))
      clear h8
      go_wp2
      go_ret2
      have hres : res = none := HR.out.symm.trans HF.out
      rw [hres]
      exact ret_mk ((bl_alloc (Below.refl _ _) _).trans (hb.mono (by omega)))
set_option maxHeartbeats 1000000 in
theorem s_Exp (a b c d k : Int) (w : World) : Calls Try.prog 27 #[.agg #[.int .i64 a, .int .i64 b, .int .i64 c, .int .i64 d, .int .i64 k]] w (Ret (.tuple #[.int .i64 ((pexp a b c d k).getD 0 : Nat), .bool (pexp a b c d k).isSome]) w) := by
  obtain ⟨res, hres⟩ : ∃ z, pexp a b c d k = z := ⟨_, rfl⟩
  rw [hres]
  have HR := Lib.hid hres
  clear hres
  go_enter Try.func27, Try.ntmps27
  go_wp2
  go_loopw [2, 3, 4] (fun v2 v3 i wr => v2 = .int .i64 0 ∧ v3 = .bool false ∧ (∃ n : Nat, n ≤ 8 ∧ i = .int .i64 n ∧ Hid (∀ j, j < n → phEq j a b c d k = false)) ∧ Below (w.heap.size + 1) (w.alloc (.cells #[.int .i64 a, .int .i64 b, .int .i64 c, .int .i64 d, .int .i64 k] 29)) wr) (fun _ _ i _ => 8 - (intOf i).toNat)
  case atStart => exact ⟨rfl, rfl, ⟨0, by omega, rfl, Lib.hid (fun j hj => absurd hj (by omega))⟩, Below.refl _ _⟩
  case round =>
    obtain ⟨rfl, rfl, ⟨n, hn, rfl, HN⟩, hb⟩ := hrel
    have hz := hb.size
    simp at hz
    have c0 : wr.cell? ⟨w.heap.size, 0, none⟩ = some (.int .i64 a) := by rw [hb.cell (by simp)]; simp [go_sem]
    have c1 : wr.cell? ⟨w.heap.size, 1, none⟩ = some (.int .i64 b) := by rw [hb.cell (by simp)]; simp [go_sem]
    have c2 : wr.cell? ⟨w.heap.size, 2, none⟩ = some (.int .i64 c) := by rw [hb.cell (by simp)]; simp [go_sem]
    have c3 : wr.cell? ⟨w.heap.size, 3, none⟩ = some (.int .i64 d) := by rw [hb.cell (by simp)]; simp [go_sem]
    have c4 : wr.cell? ⟨w.heap.size, 4, none⟩ = some (.int .i64 k) := by rw [hb.cell (by simp)]; simp [go_sem]
    have hl : w.heap.size < wr.heap.size := by omega
    by_cases hlt : n < 8
    · obtain ⟨⟨p, q, r, s⟩, h0⟩ : ∃ z, phaseN n = z := ⟨_, rfl⟩
      have H0 := Lib.hid ((phaseN_Z n hlt).trans h0)
      have hd : decide ((n : Int) < 8) = true := by simp; omega
      cases hE : eqDb p q r s 0 a b c d k
      · have hE' : phEq n a b c d k = false := by unfold phEq; rw [h0]; exact hE
        have HN' : Hid (∀ j, j < n + 1 → phEq j a b c d k = false) := by
          intro j hj
          by_cases e : j = n
          · rw [e]; exact hE'
          · exact HN.out j (by omega)
        clear hE' h0
        go_wp2_with fail
        go_region_held3 (fun w' => w'.cell? ⟨w.heap.size, 0, none⟩ = some (.int .i64 a) ∧ w'.cell? ⟨w.heap.size, 1, none⟩ = some (.int .i64 b) ∧ w'.cell? ⟨w.heap.size, 2, none⟩ = some (.int .i64 c) ∧ w'.cell? ⟨w.heap.size, 3, none⟩ = some (.int .i64 d) ∧ w'.cell? ⟨w.heap.size, 4, none⟩ = some (.int .i64 k)) (first | exact ⟨c0, c1, c2, c3, c4⟩ | exact ⟨q0, q1, q2, q3, q4⟩) (first | (go_at_call 78; refine (s_Phase _ H0.out).mono ?_; rintro e w1 ⟨rfl, hb1⟩; have q0 := (hb1.cell (p := ⟨w.heap.size, 0, none⟩) hl).trans c0; have q1 := (hb1.cell (p := ⟨w.heap.size, 1, none⟩) hl).trans c1; have q2 := (hb1.cell (p := ⟨w.heap.size, 2, none⟩) hl).trans c2; have q3 := (hb1.cell (p := ⟨w.heap.size, 3, none⟩) hl).trans c3; have q4 := (hb1.cell (p := ⟨w.heap.size, 4, none⟩) hl).trans c4))
        go_wp2
        go_roundw
        case rel => exact ⟨rfl, rfl, ⟨n + 1, by omega, by go_num, HN'⟩, hb.drew.trans (hb1.mono (by simp; omega))⟩
        case measure => simp [intOf]; omega
      · have hE' : phEq n a b c d k = true := by unfold phEq; rw [h0]; exact hE
        have HF := Lib.hid (find_range (f := fun m => phEq m a b c d k) HN.out hE' hlt)
        clear hE' h0
        go_wp2_with fail
        go_region_held3 (fun w' => w'.cell? ⟨w.heap.size, 0, none⟩ = some (.int .i64 a) ∧ w'.cell? ⟨w.heap.size, 1, none⟩ = some (.int .i64 b) ∧ w'.cell? ⟨w.heap.size, 2, none⟩ = some (.int .i64 c) ∧ w'.cell? ⟨w.heap.size, 3, none⟩ = some (.int .i64 d) ∧ w'.cell? ⟨w.heap.size, 4, none⟩ = some (.int .i64 k)) (first | exact ⟨c0, c1, c2, c3, c4⟩ | exact ⟨q0, q1, q2, q3, q4⟩) (first | (go_at_call 78; refine (s_Phase _ H0.out).mono ?_; rintro e w1 ⟨rfl, hb1⟩; have q0 := (hb1.cell (p := ⟨w.heap.size, 0, none⟩) hl).trans c0; have q1 := (hb1.cell (p := ⟨w.heap.size, 1, none⟩) hl).trans c1; have q2 := (hb1.cell (p := ⟨w.heap.size, 2, none⟩) hl).trans c2; have q3 := (hb1.cell (p := ⟨w.heap.size, 3, none⟩) hl).trans c3; have q4 := (hb1.cell (p := ⟨w.heap.size, 4, none⟩) hl).trans c4))
        go_wp2
        go_ret2
        have hres : res = some n := HR.out.symm.trans HF.out
        rw [hres]
        exact ret_mk ((bl_alloc (Below.refl _ _) _).trans ((hb.drew.trans (hb1.mono (B' := w.heap.size + 1) (by simp; omega))).mono (by omega)))
    · have hd : decide ((n : Int) < 8) = false := by simp; omega
      have h8 : n = 8 := by omega
      have HF := Lib.hid (find_range_none (f := fun m => phEq m a b c d k) (k := 8) (fun j hj => HN.out j (by omega)))
      clear h8
      go_wp2
      go_ret2
      have hres : res = none := HR.out.symm.trans HF.out
      rw [hres]
      exact ret_mk ((bl_alloc (Below.refl _ _) _).trans (hb.mono (by omega)))
end Go.Proofs.Ytaokfppadfoniaa
