/- Contracts in one form for every answer: the values and the mark 'ok' under names, with what they say. -/
import Derived.Test.YtaokfppadfoniaaA
import Derived.Test.YtaokfppadfoniaaN
import Derived.Test.YtaokfppadfoniaaM
import Derived.Test.YtaokfppadfoniaaAD
namespace Go.Proofs.Ytaokfppadfoniaa
open Go.RowKit
set_option linter.unusedVariables false
theorem addZ_u (a b c d p q r s : Int) : ∃ (x y z t : Int) (ok : Bool), (∀ W, Calls Try.prog 107 #[.agg #[.int .i64 a, .int .i64 b, .int .i64 c, .int .i64 d], .agg #[.int .i64 p, .int .i64 q, .int .i64 r, .int .i64 s]] W (Ret (.tuple #[.agg #[.int .i64 x, .int .i64 y, .int .i64 z, .int .i64 t], .bool ok]) W)) ∧ (∀ W, Calls Try.prog 105 #[.agg #[.int .i64 a, .int .i64 b, .int .i64 c, .int .i64 d], .agg #[.int .i64 p, .int .i64 q, .int .i64 r, .int .i64 s]] W (Ret (.tuple #[.agg #[.int .i64 x, .int .i64 y, .int .i64 z, .int .i64 t], .bool ok]) W)) ∧
    (ok = true → addZ ⟨a, b, c, d⟩ ⟨p, q, r, s⟩ = some ⟨x, y, z, t⟩) ∧ (ok = false → addZ ⟨a, b, c, d⟩ ⟨p, q, r, s⟩ = none ∧ x = 0 ∧ y = 0 ∧ z = 0 ∧ t = 0) := by
  rcases h : addZ ⟨a, b, c, d⟩ ⟨p, q, r, s⟩ with _ | ⟨x, y, z, t⟩
  · exact ⟨0, 0, 0, 0, false, fun W => i_AddZ_none W h, fun W => s_AddZ_none W h, by simp, by simp⟩
  · exact ⟨x, y, z, t, true, fun W => i_AddZ_some W h, fun W => s_AddZ_some W h, by simp, by simp⟩
theorem addD_u (a b c d k p q r s l : Int) : ∃ (x y z t m : Int) (ok : Bool), (∀ W, Calls Try.prog 87 #[.agg #[.int .i64 a, .int .i64 b, .int .i64 c, .int .i64 d, .int .i64 k], .agg #[.int .i64 p, .int .i64 q, .int .i64 r, .int .i64 s, .int .i64 l]] W (Ret (.tuple #[.agg #[.int .i64 x, .int .i64 y, .int .i64 z, .int .i64 t, .int .i64 m], .bool ok]) W)) ∧ (∀ W, Calls Try.prog 86 #[.agg #[.int .i64 a, .int .i64 b, .int .i64 c, .int .i64 d, .int .i64 k], .agg #[.int .i64 p, .int .i64 q, .int .i64 r, .int .i64 s, .int .i64 l]] W (Ret (.tuple #[.agg #[.int .i64 x, .int .i64 y, .int .i64 z, .int .i64 t, .int .i64 m], .bool ok]) W)) ∧
    (ok = true → addD ⟨⟨a, b, c, d⟩, k⟩ ⟨⟨p, q, r, s⟩, l⟩ = some ⟨⟨x, y, z, t⟩, m⟩) ∧ (ok = false → addD ⟨⟨a, b, c, d⟩, k⟩ ⟨⟨p, q, r, s⟩, l⟩ = none ∧ x = 0 ∧ y = 0 ∧ z = 0 ∧ t = 0 ∧ m = 0) := by
  rcases h : addD ⟨⟨a, b, c, d⟩, k⟩ ⟨⟨p, q, r, s⟩, l⟩ with _ | ⟨⟨x, y, z, t⟩, m⟩
  · exact ⟨0, 0, 0, 0, 0, false, fun W => i_AddD_none W h, fun W => s_AddD_none W h, by simp, by simp⟩
  · exact ⟨x, y, z, t, m, true, fun W => i_AddD_some W h, fun W => s_AddD_some W h, by simp, by simp⟩
theorem mulZ_u (a b c d p q r s : Int) : ∃ (x y z t : Int) (ok : Bool), (∀ W, Calls Try.prog 18 #[.agg #[.int .i64 a, .int .i64 b, .int .i64 c, .int .i64 d], .agg #[.int .i64 p, .int .i64 q, .int .i64 r, .int .i64 s]] W (Ret (.tuple #[.agg #[.int .i64 x, .int .i64 y, .int .i64 z, .int .i64 t], .bool ok]) W)) ∧ (∀ W, Calls Try.prog 99 #[.agg #[.int .i64 a, .int .i64 b, .int .i64 c, .int .i64 d], .agg #[.int .i64 p, .int .i64 q, .int .i64 r, .int .i64 s]] W (Ret (.tuple #[.agg #[.int .i64 x, .int .i64 y, .int .i64 z, .int .i64 t], .bool ok]) W)) ∧
    (ok = true → mulZ ⟨a, b, c, d⟩ ⟨p, q, r, s⟩ = some ⟨x, y, z, t⟩) ∧ (ok = false → mulZ ⟨a, b, c, d⟩ ⟨p, q, r, s⟩ = none ∧ x = 0 ∧ y = 0 ∧ z = 0 ∧ t = 0) := by
  rcases h : mulZ ⟨a, b, c, d⟩ ⟨p, q, r, s⟩ with _ | ⟨x, y, z, t⟩
  · exact ⟨0, 0, 0, 0, false, fun W => i_MulZ_none W h, fun W => s_MulZ_none W h, by simp, by simp⟩
  · exact ⟨x, y, z, t, true, fun W => i_MulZ_some W h, fun W => s_MulZ_some W h, by simp, by simp⟩
theorem mulD_u (a b c d k p q r s l : Int) : ∃ (x y z t m : Int) (ok : Bool), (∀ W, Calls Try.prog 25 #[.agg #[.int .i64 a, .int .i64 b, .int .i64 c, .int .i64 d, .int .i64 k], .agg #[.int .i64 p, .int .i64 q, .int .i64 r, .int .i64 s, .int .i64 l]] W (Ret (.tuple #[.agg #[.int .i64 x, .int .i64 y, .int .i64 z, .int .i64 t, .int .i64 m], .bool ok]) W)) ∧ (∀ W, Calls Try.prog 83 #[.agg #[.int .i64 a, .int .i64 b, .int .i64 c, .int .i64 d, .int .i64 k], .agg #[.int .i64 p, .int .i64 q, .int .i64 r, .int .i64 s, .int .i64 l]] W (Ret (.tuple #[.agg #[.int .i64 x, .int .i64 y, .int .i64 z, .int .i64 t, .int .i64 m], .bool ok]) W)) ∧
    (ok = true → mulD ⟨⟨a, b, c, d⟩, k⟩ ⟨⟨p, q, r, s⟩, l⟩ = some ⟨⟨x, y, z, t⟩, m⟩) ∧ (ok = false → mulD ⟨⟨a, b, c, d⟩, k⟩ ⟨⟨p, q, r, s⟩, l⟩ = none ∧ x = 0 ∧ y = 0 ∧ z = 0 ∧ t = 0 ∧ m = 0) := by
  rcases h : mulD ⟨⟨a, b, c, d⟩, k⟩ ⟨⟨p, q, r, s⟩, l⟩ with _ | ⟨⟨x, y, z, t⟩, m⟩
  · exact ⟨0, 0, 0, 0, 0, false, fun W => i_MulD_none W h, fun W => s_MulD_none W h, by simp, by simp⟩
  · exact ⟨x, y, z, t, m, true, fun W => i_MulD_some W h, fun W => s_MulD_some W h, by simp, by simp⟩
theorem newD_u (a b c d k : Int) : ∃ (x y z t m : Int) (ok : Bool), (∀ W, Calls Try.prog 16 #[.agg #[.int .i64 a, .int .i64 b, .int .i64 c, .int .i64 d], .int .i64 k] W (Ret (.tuple #[.agg #[.int .i64 x, .int .i64 y, .int .i64 z, .int .i64 t, .int .i64 m], .bool ok]) W)) ∧ (∀ W, Calls Try.prog 17 #[.agg #[.int .i64 a, .int .i64 b, .int .i64 c, .int .i64 d], .int .i64 k] W (Ret (.tuple #[.agg #[.int .i64 x, .int .i64 y, .int .i64 z, .int .i64 t, .int .i64 m], .bool ok]) W)) ∧
    (ok = true → newD ⟨a, b, c, d⟩ k = some ⟨⟨x, y, z, t⟩, m⟩) ∧ (ok = false → newD ⟨a, b, c, d⟩ k = none ∧ x = 0 ∧ y = 0 ∧ z = 0 ∧ t = 0 ∧ m = 0) := by
  rcases h : newD ⟨a, b, c, d⟩ k with _ | ⟨⟨x, y, z, t⟩, m⟩
  · exact ⟨0, 0, 0, 0, 0, false, fun W => i_New_none W h, fun W => s_New_none W h, by simp, by simp⟩
  · exact ⟨x, y, z, t, m, true, fun W => i_New_some W h, fun W => s_New_some W h, by simp, by simp⟩
theorem divZ_u (a b c d : Int) : ∃ (x y z t : Int) (ok : Bool), (∀ W, Calls Try.prog 72 #[.agg #[.int .i64 a, .int .i64 b, .int .i64 c, .int .i64 d]] W (Ret (.tuple #[.agg #[.int .i64 x, .int .i64 y, .int .i64 z, .int .i64 t], .bool ok]) W)) ∧ (∀ W, Calls Try.prog 75 #[.agg #[.int .i64 a, .int .i64 b, .int .i64 c, .int .i64 d]] W (Ret (.tuple #[.agg #[.int .i64 x, .int .i64 y, .int .i64 z, .int .i64 t], .bool ok]) W)) ∧
    (ok = true → divZ ⟨a, b, c, d⟩ = some ⟨x, y, z, t⟩) ∧ (ok = false → divZ ⟨a, b, c, d⟩ = none ∧ x = 0 ∧ y = 0 ∧ z = 0 ∧ t = 0) := by
  rcases h : divZ ⟨a, b, c, d⟩ with _ | ⟨x, y, z, t⟩
  · exact ⟨0, 0, 0, 0, false, fun W => i_Div_none W h, fun W => s_Div_none W h, by simp, by simp⟩
  · exact ⟨x, y, z, t, true, fun W => i_Div_some W h, fun W => s_Div_some W h, by simp, by simp⟩
end Go.Proofs.Ytaokfppadfoniaa
