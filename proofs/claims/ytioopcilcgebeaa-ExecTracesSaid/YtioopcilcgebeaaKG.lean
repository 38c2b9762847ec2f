/- Proofs of this claim's family, merged: RefA0, RefA1. -/
import Derived.Test.YtioopcilcgebeaaKA
set_option linter.unusedVariables false
set_option linter.unusedSimpArgs false
/-! #### RefA0 -/
namespace Go.Proofs.Ytioopcilcgebeaa.RefA
open Go.RowKit Go.Proofs.Ytioopcilcgebeaa.Base Go.Proofs.Ytioopcilcgebeaa.InstS
set_option maxHeartbeats 40000000 in
set_option maxRecDepth 100000 in
theorem of_0 (n : Nat) (hn : n = 0 ∨ n = 1 ∨ n = 2 ∨ n = 3 ∨ n = 4 ∨ n = 5 ∨ n = 6 ∨ n = 7) : OfAt n := by
  intro w
  rcases hn with rfl | rfl | rfl | rfl | rfl | rfl | rfl | rfl
  all_goals
    go_enter Try.func65, Try.ntmps65
    go_wp2
    refine post_res (B := fun w' => Below w.heap.size w w') ?_ rfl ?_
    · (repeat' (first | (with_reducible first | exact Below.refl _ _ | refine blQ ?_ _ | refine Below.drew ?_ | refine blO ?_ (by assumption) | refine Below.alloc ?_ ?_ _ | refine Below.setCell ?_ ?_ _ | refine Below.frame ?_ _) | omega | (simp only [zA, zS, zD, zQ]; omega)))
    · apply res_at (n := w.heap.size)
      (focus (repeat' (first | (with_reducible first | assumption | exact hpA _ _ _ rfl | refine hpN ?_ | refine hpD ?_) | ((with_reducible first | refine hpP ?_ ?_ | refine hpT ?_ ?_); (focus (first | omega | (simp [zA, zS, zD, zQ] <;> omega)))) | ((with_reducible refine hpA _ _ _ ?_); (focus (first | omega | (simp [zA, zS, zD, zQ] <;> omega)))) | ((with_reducible refine hpB ?_ ?_); (focus assumption)) | (with_reducible apply hpS))))
      intro W' cw
      simp at cw
      simp [results, Try.results65, go_sem, rv, tab, cw]
end Go.Proofs.Ytioopcilcgebeaa.RefA
/-! #### RefA1 -/
namespace Go.Proofs.Ytioopcilcgebeaa.RefA
open Go.RowKit Go.Proofs.Ytioopcilcgebeaa.Base Go.Proofs.Ytioopcilcgebeaa.InstS
set_option maxHeartbeats 40000000 in
set_option maxRecDepth 100000 in
theorem of_1 (n : Nat) (hn : n = 8 ∨ n = 9 ∨ n = 10 ∨ n = 11 ∨ n = 12 ∨ n = 13 ∨ n = 14 ∨ n = 15) : OfAt n := by
  intro w
  rcases hn with rfl | rfl | rfl | rfl | rfl | rfl | rfl | rfl
  all_goals
    go_enter Try.func65, Try.ntmps65
    go_wp2
    refine post_res (B := fun w' => Below w.heap.size w w') ?_ rfl ?_
    · (repeat' (first | (with_reducible first | exact Below.refl _ _ | refine blQ ?_ _ | refine Below.drew ?_ | refine blO ?_ (by assumption) | refine Below.alloc ?_ ?_ _ | refine Below.setCell ?_ ?_ _ | refine Below.frame ?_ _) | omega | (simp only [zA, zS, zD, zQ]; omega)))
    · apply res_at (n := w.heap.size)
      (focus (repeat' (first | (with_reducible first | assumption | exact hpA _ _ _ rfl | refine hpN ?_ | refine hpD ?_) | ((with_reducible first | refine hpP ?_ ?_ | refine hpT ?_ ?_); (focus (first | omega | (simp [zA, zS, zD, zQ] <;> omega)))) | ((with_reducible refine hpA _ _ _ ?_); (focus (first | omega | (simp [zA, zS, zD, zQ] <;> omega)))) | ((with_reducible refine hpB ?_ ?_); (focus assumption)) | (with_reducible apply hpS))))
      intro W' cw
      simp at cw
      simp [results, Try.results65, go_sem, rv, tab, cw]
end Go.Proofs.Ytioopcilcgebeaa.RefA
