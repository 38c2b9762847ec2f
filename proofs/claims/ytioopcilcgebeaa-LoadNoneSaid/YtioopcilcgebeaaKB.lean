/- Proofs of this claim's family, merged: InstA0, InstA1. -/
import Derived.Test.YtioopcilcgebeaaKA
set_option linter.unusedVariables false
set_option linter.unusedSimpArgs false
/-! #### InstA0 -/
namespace Go.Proofs.Ytioopcilcgebeaa.InstA
open Go.RowKit Go.Proofs.Ytioopcilcgebeaa.Base Go.Proofs.Ytioopcilcgebeaa.InstS
set_option maxHeartbeats 40000000 in
set_option maxRecDepth 100000 in
theorem of_0 (n : Nat) (hn : n = 0 ∨ n = 1 ∨ n = 2 ∨ n = 3 ∨ n = 4 ∨ n = 5 ∨ n = 6 ∨ n = 7 ∨ n = 8 ∨ n = 9 ∨ n = 10 ∨ n = 11) : OfAt n := by
  intro w
  rcases hn with rfl | rfl | rfl | rfl | rfl | rfl | rfl | rfl | rfl | rfl | rfl | rfl
  all_goals
    go_enter Try.func116, Try.ntmps116
    go_wp2
    refine bodyPost_ret (v := .tuple #[sv _, .bool true]) ?_ rfl ⟨rfl, ?_⟩
    · simp [results, Try.results116, go_sem, sv, tab] <;> rfl
    · go_grown
end Go.Proofs.Ytioopcilcgebeaa.InstA
/-! #### InstA1 -/
namespace Go.Proofs.Ytioopcilcgebeaa.InstA
open Go.RowKit Go.Proofs.Ytioopcilcgebeaa.Base Go.Proofs.Ytioopcilcgebeaa.InstS
set_option maxHeartbeats 40000000 in
set_option maxRecDepth 100000 in
theorem of_1 (n : Nat) (hn : n = 12 ∨ n = 13 ∨ n = 14 ∨ n = 15 ∨ n = 16 ∨ n = 17 ∨ n = 18 ∨ n = 19 ∨ n = 20 ∨ n = 21 ∨ n = 22 ∨ n = 23) : OfAt n := by
  intro w
  rcases hn with rfl | rfl | rfl | rfl | rfl | rfl | rfl | rfl | rfl | rfl | rfl | rfl
  all_goals
    go_enter Try.func116, Try.ntmps116
    go_wp2
    refine bodyPost_ret (v := .tuple #[sv _, .bool true]) ?_ rfl ⟨rfl, ?_⟩
    · simp [results, Try.results116, go_sem, sv, tab] <;> rfl
    · go_grown
end Go.Proofs.Ytioopcilcgebeaa.InstA
