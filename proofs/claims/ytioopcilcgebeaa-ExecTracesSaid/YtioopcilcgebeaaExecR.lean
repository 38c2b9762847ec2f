/- Runs, in plain Lean. -/
import Derived.Test.YtioopcilcgebeaaKEx
import Derived.Test.YtioopcilcgebeaaK7
import Derived.Test.YtioopcilcgebeaaKN
set_option linter.unusedVariables false
set_option linter.unusedSimpArgs false
namespace Go.Proofs.Ytioopcilcgebeaa.CpuA
open Go.RowKit Go.Proofs.Ytioopcilcgebeaa.Base

theorem runT_full (K : Bk) (F : List Int) : ∀ (n : Nat) (s : St), (runT K F n s).2.1 = 0 → (runT K F n s).1 = n
  | 0, _, _ => rfl
  | n + 1, s, h => by
    unfold runT at h ⊢
    split
    · rename_i q
      rw [if_pos q] at h
      dsimp only at h ⊢
      rw [runT_full K F n _ h]
    · rename_i q
      rw [if_neg q] at h
      exact absurd h q
theorem runT_add (K : Bk) (F : List Int) (m : Nat) : ∀ (n : Nat) (s : St), (runT K F n s).2.1 = 0 → runT K F (n + m) s = (n + (runT K F m (runT K F n s).2.2).1, (runT K F m (runT K F n s).2.2).2)
  | 0, s, _ => by simp [runT]
  | n + 1, s, h => by
    rw [show n + 1 + m = (n + m) + 1 by omega]
    unfold runT at h
    split at h
    · rename_i q
      dsimp only at h
      have ih := runT_add K F m n _ h
      rw [runT, if_pos q, ih, runT, if_pos q]
      dsimp only
      congr 1
      omega
    · rename_i q
      exact absurd h q
theorem stepT_map (a b c d : Nat) (F : List Int) (s : St) : stepT (mapK a b) F s = stepT (mapK c d) F s := rfl
theorem runT_map (a b c d : Nat) (F : List Int) : ∀ (n : Nat) (s : St), runT (mapK a b) F n s = runT (mapK c d) F n s
  | 0, _ => rfl
  | n + 1, s => by
    unfold runT
    rw [stepT_map a b c d, runT_map a b c d F n]
theorem runT_trap (K : Bk) (F : List Int) (m : Nat) : ∀ (n : Nat) (s : St), (runT K F n s).2.1 ≠ 0 → runT K F (m + 1) (runT K F n s).2.2 = (0, (runT K F n s).2.1, (runT K F n s).2.2)
  | 0, s, h => absurd rfl h
  | n + 1, s, h => by
    by_cases q : (stepT K F s).2.1 = 0
    · have e : runT K F (n + 1) s = ((runT K F n (stepT K F s).2.2).1 + 1, (runT K F n (stepT K F s).2.2).2) := by rw [runT, if_pos q]
      rw [e] at h ⊢
      exact runT_trap K F m n _ h
    · have e : runT K F (n + 1) s = (0, (stepT K F s).2.1, (stepT K F s).2.2) := by rw [runT, if_neg q]
      rw [e]
      dsimp only
      have st := (step_trap K F s q).1
      rw [st, runT, if_neg q, st]
end Go.Proofs.Ytioopcilcgebeaa.CpuA
