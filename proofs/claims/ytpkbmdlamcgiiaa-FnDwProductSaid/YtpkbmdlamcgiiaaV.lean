/- Contracts: the conjugations with their values under names, for every argument. -/
import Derived.Test.YtpkbmdlamcgiiaaPure5
import Derived.Test.YtpkbmdlamcgiiaaD2
namespace Go.Proofs.Ytpkbmdlamcgiiaa
open Go.RowKit
def cjZ (x : ZO) : ZO := if okz x = true then zconj x else ⟨0, 0, 0, 0⟩
def sqZ (x : ZO) : ZO := if okz x = true then zsq x else ⟨0, 0, 0, 0⟩
def cjD (x : DW) : DW := if okd x = true then dconj x else ⟨⟨0, 0, 0, 0⟩, 0⟩
theorem cjZ_ok {x : ZO} (h : okz x = true) : cjZ x = zconj x := by unfold cjZ; rw [if_pos h]
theorem sqZ_ok {x : ZO} (h : okz x = true) : sqZ x = zsq x := by unfold sqZ; rw [if_pos h]
theorem cjD_ok {x : DW} (h : okd x = true) : cjD x = dconj x := by unfold cjD; rw [if_pos h]
theorem cjZ_cjZ {x : ZO} (h : okz x = true) : cjZ (cjZ x) = x := by
  rw [cjZ_ok h, cjZ_ok (by rw [okz_conj]; exact h)]
  cases x; simp [zconj]
theorem sqZ_sqZ {x : ZO} (h : okz x = true) : sqZ (sqZ x) = x := by
  rw [sqZ_ok h, sqZ_ok (by rw [okz_sq]; exact h)]
  cases x; simp [zsq]
theorem i_ConjZ_v (a b c d : Int) (w : World) : Calls Try.prog 25 #[.agg #[.int .i64 a, .int .i64 b, .int .i64 c, .int .i64 d]] w (Ret (.agg #[.int .i64 (cjZ ⟨a, b, c, d⟩).a, .int .i64 (cjZ ⟨a, b, c, d⟩).b, .int .i64 (cjZ ⟨a, b, c, d⟩).c, .int .i64 (cjZ ⟨a, b, c, d⟩).d]) w) := by
  unfold cjZ
  cases h : okz ⟨a, b, c, d⟩
  · simpa using i_ConjZ_f w h
  · simpa [zconj] using i_ConjZ_t w h
theorem i_SqZ_v (a b c d : Int) (w : World) : Calls Try.prog 26 #[.agg #[.int .i64 a, .int .i64 b, .int .i64 c, .int .i64 d]] w (Ret (.agg #[.int .i64 (sqZ ⟨a, b, c, d⟩).a, .int .i64 (sqZ ⟨a, b, c, d⟩).b, .int .i64 (sqZ ⟨a, b, c, d⟩).c, .int .i64 (sqZ ⟨a, b, c, d⟩).d]) w) := by
  unfold sqZ
  cases h : okz ⟨a, b, c, d⟩
  · simpa using i_Sqrt2ConjZ_f w h
  · simpa [zsq] using i_Sqrt2ConjZ_t w h
theorem i_ConjD_v (a b c d k : Int) (w : World) : Calls Try.prog 34 #[.agg #[.int .i64 a, .int .i64 b, .int .i64 c, .int .i64 d, .int .i64 k]] w (Ret (.agg #[.int .i64 (cjD ⟨⟨a, b, c, d⟩, k⟩).n.a, .int .i64 (cjD ⟨⟨a, b, c, d⟩, k⟩).n.b, .int .i64 (cjD ⟨⟨a, b, c, d⟩, k⟩).n.c, .int .i64 (cjD ⟨⟨a, b, c, d⟩, k⟩).n.d, .int .i64 (cjD ⟨⟨a, b, c, d⟩, k⟩).k]) w) := by
  unfold cjD
  cases h : okd ⟨⟨a, b, c, d⟩, k⟩
  · simpa using i_ConjD_f w h
  · simpa [dconj, zconj] using i_ConjD_t w h
theorem s_ConjD_v (a b c d k : Int) (w : World) : Calls Try.prog 70 #[.agg #[.int .i64 a, .int .i64 b, .int .i64 c, .int .i64 d, .int .i64 k]] w (Ret (.agg #[.int .i64 (cjD ⟨⟨a, b, c, d⟩, k⟩).n.a, .int .i64 (cjD ⟨⟨a, b, c, d⟩, k⟩).n.b, .int .i64 (cjD ⟨⟨a, b, c, d⟩, k⟩).n.c, .int .i64 (cjD ⟨⟨a, b, c, d⟩, k⟩).n.d, .int .i64 (cjD ⟨⟨a, b, c, d⟩, k⟩).k]) w) := by
  unfold cjD
  cases h : okd ⟨⟨a, b, c, d⟩, k⟩
  · simpa using s_ConjD_f w h
  · simpa [dconj, zconj] using s_ConjD_t w h
end Go.Proofs.Ytpkbmdlamcgiiaa
