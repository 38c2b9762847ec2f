/- Proofs of this claim's family, merged: InstA2, InstA3. -/
import Derived.Test.YtioopcilcgebeaaKA
set_option linter.unusedVariables false
set_option linter.unusedSimpArgs false
/-! #### InstA2 -/
namespace Go.Proofs.Ytioopcilcgebeaa.InstA
open Go.RowKit Go.Proofs.Ytioopcilcgebeaa.Base Go.Proofs.Ytioopcilcgebeaa.InstS
set_option maxHeartbeats 40000000 in
set_option maxRecDepth 100000 in
theorem of_2 (n : Nat) (hn : n = 24 ∨ n = 25 ∨ n = 26 ∨ n = 27 ∨ n = 28 ∨ n = 29 ∨ n = 30 ∨ n = 31 ∨ n = 32 ∨ n = 33 ∨ n = 34 ∨ n = 35) : OfAt n := by
  intro w
  rcases hn with rfl | rfl | rfl | rfl | rfl | rfl | rfl | rfl | rfl | rfl | rfl | rfl
  all_goals
    go_enter Try.func116, Try.ntmps116
    go_wp2
    refine bodyPost_ret (v := .tuple #[sv _, .bool true]) ?_ rfl ⟨rfl, ?_⟩
    · simp [results, Try.results116, go_sem, sv, tab] <;> rfl
    · go_grown
end Go.Proofs.Ytioopcilcgebeaa.InstA
/-! #### InstA3 -/
namespace Go.Proofs.Ytioopcilcgebeaa.InstA
open Go.RowKit Go.Proofs.Ytioopcilcgebeaa.Base Go.Proofs.Ytioopcilcgebeaa.InstS
set_option maxHeartbeats 40000000 in
set_option maxRecDepth 100000 in
theorem of_3 (n : Nat) (hn : n = 36 ∨ n = 37 ∨ n = 38 ∨ n = 39 ∨ n = 40 ∨ n = 41 ∨ n = 42 ∨ n = 43 ∨ n = 44 ∨ n = 45) : OfAt n := by
  intro w
  rcases hn with rfl | rfl | rfl | rfl | rfl | rfl | rfl | rfl | rfl | rfl
  all_goals
    go_enter Try.func116, Try.ntmps116
    go_wp2
    refine bodyPost_ret (v := .tuple #[sv _, .bool true]) ?_ rfl ⟨rfl, ?_⟩
    · simp [results, Try.results116, go_sem, sv, tab] <;> rfl
    · go_grown
end Go.Proofs.Ytioopcilcgebeaa.InstA
