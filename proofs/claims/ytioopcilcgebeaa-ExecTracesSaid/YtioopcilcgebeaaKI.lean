/- Proofs of this claim's family, merged: RefA4, RefA5. -/
import Derived.Test.YtioopcilcgebeaaKA
set_option linter.unusedVariables false
set_option linter.unusedSimpArgs false
/-! #### RefA4 -/
namespace Go.Proofs.Ytioopcilcgebeaa.RefA
open Go.RowKit Go.Proofs.Ytioopcilcgebeaa.Base Go.Proofs.Ytioopcilcgebeaa.InstS
set_option maxHeartbeats 40000000 in
set_option maxRecDepth 100000 in
theorem of_4 (n : Nat) (hn : n = 32 ∨ n = 33 ∨ n = 34 ∨ n = 35 ∨ n = 36 ∨ n = 37 ∨ n = 38 ∨ n = 39) : OfAt n := by
  intro w
  rcases hn with rfl | rfl | rfl | rfl | rfl | rfl | rfl | rfl
  all_goals
    go_enter Try.func65, Try.ntmps65
    go_wp2
    refine post_res (B := fun w' => Below w.heap.size w w') ?_ rfl ?_
    · (repeat' (first | (with_reducible first | exact Below.refl _ _ | refine blQ ?_ _ | refine Below.drew ?_ | refine blO ?_ (by assumption) | refine Below.alloc ?_ ?_ _ | refine Below.setCell ?_ ?_ _ | refine Below.frame ?_ _) | omega | (simp only [zA, zS, zD, zQ]; omega)))
    · apply res_at (n := w.heap.size)
      (focus (repeat' (first | (with_reducible first | assumption | exact hpA _ _ _ rfl | refine hpN ?_ | refine hpD ?_) | ((with_reducible first | refine hpP ?_ ?_ | refine hpT ?_ ?_); (focus (first | omega | (simp [zA, zS, zD, zQ] <;> omega)))) | ((with_reducible refine hpA _ _ _ ?_); (focus (first | omega | (simp [zA, zS, zD, zQ] <;> omega)))) | ((with_reducible refine hpB ?_ ?_); (focus assumption)) | (with_reducible apply hpS))))
      intro W' cw
      simp at cw
      simp [results, Try.results65, go_sem, rv, tab, cw]
end Go.Proofs.Ytioopcilcgebeaa.RefA
/-! #### RefA5 -/
namespace Go.Proofs.Ytioopcilcgebeaa.RefA
open Go.RowKit Go.Proofs.Ytioopcilcgebeaa.Base Go.Proofs.Ytioopcilcgebeaa.InstS
set_option maxHeartbeats 40000000 in
set_option maxRecDepth 100000 in
theorem of_5 (n : Nat) (hn : n = 40 ∨ n = 41 ∨ n = 42 ∨ n = 43 ∨ n = 44 ∨ n = 45) : OfAt n := by
  intro w
  rcases hn with rfl | rfl | rfl | rfl | rfl | rfl
  all_goals
    go_enter Try.func65, Try.ntmps65
    go_wp2
    refine post_res (B := fun w' => Below w.heap.size w w') ?_ rfl ?_
    · (repeat' (first | (with_reducible first | exact Below.refl _ _ | refine blQ ?_ _ | refine Below.drew ?_ | refine blO ?_ (by assumption) | refine Below.alloc ?_ ?_ _ | refine Below.setCell ?_ ?_ _ | refine Below.frame ?_ _) | omega | (simp only [zA, zS, zD, zQ]; omega)))
    · apply res_at (n := w.heap.size)
      (focus (repeat' (first | (with_reducible first | assumption | exact hpA _ _ _ rfl | refine hpN ?_ | refine hpD ?_) | ((with_reducible first | refine hpP ?_ ?_ | refine hpT ?_ ?_); (focus (first | omega | (simp [zA, zS, zD, zQ] <;> omega)))) | ((with_reducible refine hpA _ _ _ ?_); (focus (first | omega | (simp [zA, zS, zD, zQ] <;> omega)))) | ((with_reducible refine hpB ?_ ?_); (focus assumption)) | (with_reducible apply hpS))))
      intro W' cw
      simp at cw
      simp [results, Try.results65, go_sem, rv, tab, cw]
end Go.Proofs.Ytioopcilcgebeaa.RefA
