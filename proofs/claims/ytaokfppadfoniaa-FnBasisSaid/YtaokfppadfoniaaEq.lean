/- '==' and '!=' between ring elements, as one Bool each. -/
import Derived.Test.YtaokfppadfoniaaBase
import Derived.KernelRfl
namespace Go.Proofs.Ytaokfppadfoniaa
open Go.RowKit
def eqZb (p q r s a b c d : Int) : Bool := p == a && (q == b && (r == c && s == d))
def eqDb (p q r s l a b c d k : Int) : Bool := p == a && (q == b && (r == c && (s == d && l == k)))
theorem eqZb_iff {p q r s a b c d : Int} : eqZb p q r s a b c d = true ↔ p = a ∧ q = b ∧ r = c ∧ s = d := by simp [eqZb]
theorem eqDb_iff {p q r s l a b c d k : Int} : eqDb p q r s l a b c d k = true ↔ p = a ∧ q = b ∧ r = c ∧ s = d ∧ l = k := by simp [eqDb]
theorem eqZb_self (a b c d : Int) : eqZb a b c d a b c d = true := by simp [eqZb]
theorem eqDb_self (a b c d k : Int) : eqDb a b c d k a b c d k = true := by simp [eqDb]
set_option maxHeartbeats 1000000 in
theorem equalZ (W : World) (n : Nat) (p q r s a b c d : Int) : (Op.equalIn (n + 1 + 1) 25 (.agg #[.int .i64 p, .int .i64 q, .int .i64 r, .int .i64 s]) (.agg #[.int .i64 a, .int .i64 b, .int .i64 c, .int .i64 d])).run Try.prog W = .ok (eqZb p q r s a b c d) W := by
  rw [run_equalIn_agg _ _ _ _ _ (by kernel_rfl) (by kernel_rfl)]
  simp [go_sem]
  unfold eqZb
  by_cases h1 : p = a <;> by_cases h2 : q = b <;> by_cases h3 : r = c <;> by_cases h4 : s = d <;> simp [h1, h2, h3, h4]
theorem eqlZ (W : World) (p q r s a b c d : Int) : (binOp .eql 25 (.agg #[.int .i64 p, .int .i64 q, .int .i64 r, .int .i64 s]) (.agg #[.int .i64 a, .int .i64 b, .int .i64 c, .int .i64 d])).run Try.prog W = .ok (.bool (eqZb p q r s a b c d)) W := by
  rw [run_eql_struct, equalZ W 9998]
  rfl
theorem neqZ (W : World) (p q r s a b c d : Int) : (binOp .neq 25 (.agg #[.int .i64 p, .int .i64 q, .int .i64 r, .int .i64 s]) (.agg #[.int .i64 a, .int .i64 b, .int .i64 c, .int .i64 d])).run Try.prog W = .ok (.bool (!eqZb p q r s a b c d)) W := by
  rw [run_neq_struct, equalZ W 9998]
  rfl
set_option maxHeartbeats 1000000 in
theorem equalD (W : World) (n : Nat) (p q r s l a b c d k : Int) : (Op.equalIn (n + 1 + 1 + 1) 29 (.agg #[.int .i64 p, .int .i64 q, .int .i64 r, .int .i64 s, .int .i64 l]) (.agg #[.int .i64 a, .int .i64 b, .int .i64 c, .int .i64 d, .int .i64 k])).run Try.prog W = .ok (eqDb p q r s l a b c d k) W := by
  rw [run_equalIn_agg _ _ _ _ _ (by kernel_rfl) (by kernel_rfl)]
  simp [go_sem]
  unfold eqDb
  by_cases h1 : p = a <;> by_cases h2 : q = b <;> by_cases h3 : r = c <;> by_cases h4 : s = d <;> by_cases h5 : l = k <;> simp [h1, h2, h3, h4, h5]
theorem eqlD (W : World) (p q r s l a b c d k : Int) : (binOp .eql 29 (.agg #[.int .i64 p, .int .i64 q, .int .i64 r, .int .i64 s, .int .i64 l]) (.agg #[.int .i64 a, .int .i64 b, .int .i64 c, .int .i64 d, .int .i64 k])).run Try.prog W = .ok (.bool (eqDb p q r s l a b c d k)) W := by
  rw [run_eql_struct, equalD W 9997]
  rfl
theorem neqD (W : World) (p q r s l a b c d k : Int) : (binOp .neq 29 (.agg #[.int .i64 p, .int .i64 q, .int .i64 r, .int .i64 s, .int .i64 l]) (.agg #[.int .i64 a, .int .i64 b, .int .i64 c, .int .i64 d, .int .i64 k])).run Try.prog W = .ok (.bool (!eqDb p q r s l a b c d k)) W := by
  rw [run_neq_struct, equalD W 9997]
  rfl
end Go.Proofs.Ytaokfppadfoniaa
