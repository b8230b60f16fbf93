/- Contracts: equality of slices that read alike, the number of qubits. -/
import Derived.Test.YtaokfppadfoniaaS2
import Derived.Deep.RegionHeld3
namespace Go.Proofs.Ytaokfppadfoniaa
open Go.RowKit
def EqRel (w : World) (n : Nat) (i : Value) (wr : World) : Prop := ∃ k : Nat, k ≤ n ∧ i = .int .i64 (k : Int) ∧ Below w.heap.size w wr
set_option maxHeartbeats 400000 in
theorem eqS (A B : Option Addr) (n c c' : Nat) (ds : List DW) (w : World) (hA : RD w w.heap.size A n ds) (hB : RD w w.heap.size B n ds) (hn : n ≤ 1048576) : Calls Try.prog 42 #[.slice A n c, .slice B n c'] w (Ret (.bool true) w) := by
  have HA := Lib.hid hA
  have HB := Lib.hid hB
  clear hA hB
  go_enter Try.func42, Try.ntmps42
  go_wp2
  go_loopw [5] (fun i wr => EqRel w n i wr) (fun i _ => n - (intOf i).toNat)
  case atStart => exact ⟨0, by omega, rfl, Below.refl _ _⟩
  case round =>
    obtain ⟨k, hk, rfl, hb⟩ := hrel
    have hs := hb.size
    by_cases hlt : k < n
    · have hd : decide ((k : Int) < (n : Int)) = true := by simp; omega
      obtain ⟨b, off, x, y, z, t, m, rfl, hB1, hx, c0, c1, c2, c3, c4⟩ := (HA.out.keep hb).at hlt
      obtain ⟨b', off', x', y', z', t', m', rfl, hB2, hx', d0, d1, d2, d3, d4⟩ := (HB.out.keep hb).at hlt
      rw [hx] at hx'
      simp only [Option.some.injEq, DW.mk.injEq, ZO.mk.injEq] at hx'
      obtain ⟨⟨rfl, rfl, rfl, rfl⟩, rfl⟩ := hx'
      clear hx
      have i0 : (0 : Int) ≤ (k : Int) := by omega
      have i1 : (k : Int) < (n : Int) := by omega
      have l0 : b < wr.heap.size := by omega
      have l1 : b' < wr.heap.size := by omega
      go_wp2_with fail
      go_region_held3 (fun w' => w'.cell? ⟨b, off + k * 5, none⟩ = some (.int .i64 x) ∧ w'.cell? ⟨b, off + k * 5 + 1, none⟩ = some (.int .i64 y) ∧ w'.cell? ⟨b, off + k * 5 + 2, none⟩ = some (.int .i64 z) ∧ w'.cell? ⟨b, off + k * 5 + 3, none⟩ = some (.int .i64 t) ∧ w'.cell? ⟨b, off + k * 5 + 4, none⟩ = some (.int .i64 m) ∧ w'.cell? ⟨b', off' + k * 5, none⟩ = some (.int .i64 x) ∧ w'.cell? ⟨b', off' + k * 5 + 1, none⟩ = some (.int .i64 y) ∧ w'.cell? ⟨b', off' + k * 5 + 2, none⟩ = some (.int .i64 z) ∧ w'.cell? ⟨b', off' + k * 5 + 3, none⟩ = some (.int .i64 t) ∧ w'.cell? ⟨b', off' + k * 5 + 4, none⟩ = some (.int .i64 m)) (first | exact ⟨c0, c1, c2, c3, c4, d0, d1, d2, d3, d4⟩ | go_keep) (first | (go_at_call 48; refine (eqD _ _ _ _ _ _).mono ?_; rintro e w1 ⟨rfl, hb1⟩; have c0 := (hb1.cell (p := ⟨b, off + k * 5, none⟩) l0).trans c0; have c1 := (hb1.cell (p := ⟨b, off + k * 5 + 1, none⟩) l0).trans c1; have c2 := (hb1.cell (p := ⟨b, off + k * 5 + 2, none⟩) l0).trans c2; have c3 := (hb1.cell (p := ⟨b, off + k * 5 + 3, none⟩) l0).trans c3; have c4 := (hb1.cell (p := ⟨b, off + k * 5 + 4, none⟩) l0).trans c4; have d0 := (hb1.cell (p := ⟨b', off' + k * 5, none⟩) l1).trans d0; have d1 := (hb1.cell (p := ⟨b', off' + k * 5 + 1, none⟩) l1).trans d1; have d2 := (hb1.cell (p := ⟨b', off' + k * 5 + 2, none⟩) l1).trans d2; have d3 := (hb1.cell (p := ⟨b', off' + k * 5 + 3, none⟩) l1).trans d3; have d4 := (hb1.cell (p := ⟨b', off' + k * 5 + 4, none⟩) l1).trans d4))
      go_wp2
      go_roundw
      case rel => exact ⟨k + 1, by omega, by go_num, hb.drew.trans (hb1.mono (by simpa using hs))⟩
      case measure => simp [intOf]; omega
    · have hd : decide ((k : Int) < (n : Int)) = false := by simp; omega
      go_wp2
      go_ret
      exact ret_mk hb
def qc (n : Nat) : Nat := if n = 2 then 1 else if n = 4 then 2 else if n = 8 then 3 else if n = 16 then 4 else 0
set_option maxHeartbeats 400000 in
theorem i_QC (A : Option Addr) (n c : Nat) (w : World) (_hn : n ≤ 9223372036854775807) : Calls Try.prog 34 #[.slice A n c] w fun e w' => e = .returned (.int .i64 (qc n : Nat)) ∧ w = w' := by
  obtain ⟨v, hv⟩ : ∃ v, qc n = v := ⟨_, rfl⟩
  rw [hv]
  have HV := Lib.hid hv
  clear hv
  go_enter Try.func34, Try.ntmps34
  go_wp2
  go_loop [3] (fun i => (i = .int .i64 1) ∨ (i = .int .i64 2 ∧ Hid (n ≠ 2)) ∨ (i = .int .i64 3 ∧ Hid (n ≠ 2 ∧ n ≠ 4)) ∨ (i = .int .i64 4 ∧ Hid (n ≠ 2 ∧ n ≠ 4 ∧ n ≠ 8)) ∨ (i = .int .i64 5 ∧ Hid (n ≠ 2 ∧ n ≠ 4 ∧ n ≠ 8 ∧ n ≠ 16))) (fun i => (6 - intOf i).toNat)
  case atStart => exact .inl rfl
  case round =>
    rcases hrel with rfl | ⟨rfl, H⟩ | ⟨rfl, H⟩ | ⟨rfl, H⟩ | ⟨rfl, H⟩
    · by_cases h2 : n = 2
      · have hq : ((n : Int) == 2) = true := by simp; omega
        have e : v = 1 := by rw [← HV.out]; simp [qc, h2]
        clear h2
        go_wp2
        go_ret
        exact ⟨rfl, rfl⟩
      · have hq : ((n : Int) == 2) = false := by simp; omega
        have H' := Lib.hid h2
        clear h2
        go_wp2
        go_round
        case rel => exact .inr (.inl ⟨rfl, H'⟩)
        case measure => simp [intOf]
    · by_cases h2 : n = 4
      · have hq : ((n : Int) == 4) = true := by simp; omega
        have e : v = 2 := by rw [← HV.out]; simp [qc, h2]
        clear h2
        go_wp2
        go_ret
        exact ⟨rfl, rfl⟩
      · have hq : ((n : Int) == 4) = false := by simp; omega
        have H' : Hid (n ≠ 2 ∧ n ≠ 4) := ⟨H.out, h2⟩
        clear h2
        go_wp2
        go_round
        case rel => exact .inr (.inr (.inl ⟨rfl, H'⟩))
        case measure => simp [intOf]
    · by_cases h2 : n = 8
      · have hq : ((n : Int) == 8) = true := by simp; omega
        have e : v = 3 := by rw [← HV.out]; simp [qc, h2]
        clear h2
        go_wp2
        go_ret
        exact ⟨rfl, rfl⟩
      · have hq : ((n : Int) == 8) = false := by simp; omega
        have H' : Hid (n ≠ 2 ∧ n ≠ 4 ∧ n ≠ 8) := ⟨H.out.1, H.out.2, h2⟩
        clear h2
        go_wp2
        go_round
        case rel => exact .inr (.inr (.inr (.inl ⟨rfl, H'⟩)))
        case measure => simp [intOf]
    · by_cases h2 : n = 16
      · have hq : ((n : Int) == 16) = true := by simp; omega
        have e : v = 4 := by rw [← HV.out]; simp [qc, h2]
        clear h2
        go_wp2
        go_ret
        exact ⟨rfl, rfl⟩
      · have hq : ((n : Int) == 16) = false := by simp; omega
        have H' : Hid (n ≠ 2 ∧ n ≠ 4 ∧ n ≠ 8 ∧ n ≠ 16) := ⟨H.out.1, H.out.2.1, H.out.2.2, h2⟩
        clear h2
        go_wp2
        go_round
        case rel => exact .inr (.inr (.inr (.inr ⟨rfl, H'⟩)))
        case measure => simp [intOf]
    · have e : v = 0 := by
        obtain ⟨h2, h4, h8, h16⟩ := H.out
        rw [← HV.out]; simp [qc, h2, h4, h8, h16]
      go_wp2
      go_ret
      exact ⟨rfl, rfl⟩
set_option maxHeartbeats 400000 in
theorem s_QC (A : Option Addr) (n c : Nat) (w : World) (_hn : n ≤ 9223372036854775807) : Calls Try.prog 103 #[.slice A n c] w fun e w' => e = .returned (.int .i64 (qc n : Nat)) ∧ w = w' := by
  obtain ⟨v, hv⟩ : ∃ v, qc n = v := ⟨_, rfl⟩
  rw [hv]
  have HV := Lib.hid hv
  clear hv
  go_enter Try.func103, Try.ntmps103
  go_wp2
  go_loop [3] (fun i => (i = .int .i64 1) ∨ (i = .int .i64 2 ∧ Hid (n ≠ 2)) ∨ (i = .int .i64 3 ∧ Hid (n ≠ 2 ∧ n ≠ 4)) ∨ (i = .int .i64 4 ∧ Hid (n ≠ 2 ∧ n ≠ 4 ∧ n ≠ 8)) ∨ (i = .int .i64 5 ∧ Hid (n ≠ 2 ∧ n ≠ 4 ∧ n ≠ 8 ∧ n ≠ 16))) (fun i => (6 - intOf i).toNat)
  case atStart => exact .inl rfl
  case round =>
    rcases hrel with rfl | ⟨rfl, H⟩ | ⟨rfl, H⟩ | ⟨rfl, H⟩ | ⟨rfl, H⟩
    · by_cases h2 : n = 2
      · have hq : ((n : Int) == 2) = true := by simp; omega
        have e : v = 1 := by rw [← HV.out]; simp [qc, h2]
        clear h2
        go_wp2
        go_ret
        exact ⟨rfl, rfl⟩
      · have hq : ((n : Int) == 2) = false := by simp; omega
        have H' := Lib.hid h2
        clear h2
        go_wp2
        go_round
        case rel => exact .inr (.inl ⟨rfl, H'⟩)
        case measure => simp [intOf]
    · by_cases h2 : n = 4
      · have hq : ((n : Int) == 4) = true := by simp; omega
        have e : v = 2 := by rw [← HV.out]; simp [qc, h2]
        clear h2
        go_wp2
        go_ret
        exact ⟨rfl, rfl⟩
      · have hq : ((n : Int) == 4) = false := by simp; omega
        have H' : Hid (n ≠ 2 ∧ n ≠ 4) := ⟨H.out, h2⟩
        clear h2
        go_wp2
        go_round
        case rel => exact .inr (.inr (.inl ⟨rfl, H'⟩))
        case measure => simp [intOf]
    · by_cases h2 : n = 8
      · have hq : ((n : Int) == 8) = true := by simp; omega
        have e : v = 3 := by rw [← HV.out]; simp [qc, h2]
        clear h2
        go_wp2
        go_ret
        exact ⟨rfl, rfl⟩
      · have hq : ((n : Int) == 8) = false := by simp; omega
        have H' : Hid (n ≠ 2 ∧ n ≠ 4 ∧ n ≠ 8) := ⟨H.out.1, H.out.2, h2⟩
        clear h2
        go_wp2
        go_round
        case rel => exact .inr (.inr (.inr (.inl ⟨rfl, H'⟩)))
        case measure => simp [intOf]
    · by_cases h2 : n = 16
      · have hq : ((n : Int) == 16) = true := by simp; omega
        have e : v = 4 := by rw [← HV.out]; simp [qc, h2]
        clear h2
        go_wp2
        go_ret
        exact ⟨rfl, rfl⟩
      · have hq : ((n : Int) == 16) = false := by simp; omega
        have H' : Hid (n ≠ 2 ∧ n ≠ 4 ∧ n ≠ 8 ∧ n ≠ 16) := ⟨H.out.1, H.out.2.1, H.out.2.2, h2⟩
        clear h2
        go_wp2
        go_round
        case rel => exact .inr (.inr (.inr (.inr ⟨rfl, H'⟩)))
        case measure => simp [intOf]
    · have e : v = 0 := by
        obtain ⟨h2, h4, h8, h16⟩ := H.out
        rw [← HV.out]; simp [qc, h2, h4, h8, h16]
      go_wp2
      go_ret
      exact ⟨rfl, rfl⟩
end Go.Proofs.Ytaokfppadfoniaa
