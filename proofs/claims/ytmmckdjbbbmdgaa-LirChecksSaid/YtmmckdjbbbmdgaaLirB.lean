import Derived.Test.YtmmckdjbbbmdgaaLirA
import Derived.Test.YtmmckdjbbbmdgaaPLirx14
namespace Go.Proofs.Ytmmckdjbbbmdgaa.LirA
open Go.RowKit Go.Proofs.YtmmckdjbbbmdgaaW.PrintWords Go.Proofs.YtmmckdjbbbmdgaaW.PrintLast Go.Proofs.YtmmckdjbbbmdgaaW.PrintMore
open Go.Proofs.Ytmmckdjbbbmdgaa.PLir

theorem has_of (op : Int) (h : 1 ≤ op ∧ op ≤ 24) : hasS op = ((ofS op).1, (ofS op).2.1, (ofS op).2.2.1) ∧ (ofS op).2.2.2.2.2 = true := by
  rcases (by omega : op = 1 ∨ op = 2 ∨ (3 ≤ op ∧ op ≤ 12) ∨ op = 13 ∨ (14 ≤ op ∧ op ≤ 16) ∨ (17 ≤ op ∧ op ≤ 20) ∨ (21 ≤ op ∧ op ≤ 22) ∨ op = 23 ∨ op = 24) with h | h | h | h | h | h | h | h | h
  all_goals
    unfold ofS hasS
    repeat (first | rw [if_pos (by omega)] | rw [if_neg (by omega)])
    simp only [Prod.mk.injEq, decide_eq_true_eq, decide_eq_false_iff_not, and_true]
    omega
theorem can_op {x : S33} (h : canB x = true) : 1 ≤ x.f0 ∧ x.f0 ≤ 24 := by
  refine Decidable.byContradiction fun hx => ?_
  unfold canB at h
  have e : ofS x.f0 = (false, false, false, 0, 0, false) := by unfold ofS; rw [if_pos (by omega)]
  rw [e] at h
  simp at h
def Fits32 (x : S33) : Prop := -2147483648 ≤ x.f4 ∧ x.f4 ≤ 2147483647
def tailOk (op n : Int) : Bool := if op = 23 then decide (1 ≤ n ∧ n ≤ 100000) else if 14 ≤ op ∧ op ≤ 16 then decide (0 ≤ n ∧ n ≤ 31) else decide (op = 1 ∨ op = 13 ∨ (17 ≤ op ∧ op ≤ 22) ∨ n = 0)
theorem tail_of (op n : Int) (h : 1 ≤ op ∧ op ≤ 24) (hn : -2147483648 ≤ n ∧ n ≤ 2147483647) : (decide ((ofS op).2.2.2.1 ≤ n) && decide (n ≤ (ofS op).2.2.2.2.1)) = tailOk op n := by
  rcases (by omega : op = 1 ∨ op = 2 ∨ (3 ≤ op ∧ op ≤ 12) ∨ op = 13 ∨ (14 ≤ op ∧ op ≤ 16) ∨ (17 ≤ op ∧ op ≤ 20) ∨ (21 ≤ op ∧ op ≤ 22) ∨ op = 23 ∨ op = 24) with h | h | h | h | h | h | h | h | h
  all_goals
    unfold ofS tailOk
    repeat (first | rw [if_pos (by omega)] | rw [if_neg (by omega)])
    dsimp only
    rw [Bool.eq_iff_iff]
    simp only [Bool.and_eq_true, decide_eq_true_eq]
    try omega
theorem rcan_tail (k : Nat) (op d a b n : Int) (h : 1 ≤ op ∧ op ≤ 24) : pintleref15_Can.j0 (k + 1) false op d a b n = some (tailOk op n) := by
  have j0 := pintleref15_Can.j0.eq_2 false op d a b n k
  simp only [Nat.succ_eq_add_one] at j0
  rw [j0]
  clear j0
  unfold tailOk
  rcases (by omega : op = 1 ∨ op = 13 ∨ (14 ≤ op ∧ op ≤ 16) ∨ (17 ≤ op ∧ op ≤ 22) ∨ op = 23 ∨ (op < 14 ∧ op ≠ 1 ∧ op ≠ 13) ∨ op = 24) with h | h | h | h | h | h | h
  all_goals
    rw [if_neg (by simp)]
    by_cases h1 : 1 ≤ n <;> by_cases h2 : 0 ≤ n
    all_goals
      repeat (first | rw [if_pos (by omega)] | rw [if_neg (by omega)])
      rw [Option.some.injEq]
      first | (rw [Bool.eq_iff_iff]; simp; omega) | (rw [Bool.eq_iff_iff]; simp; done)
theorem rcan_ev (x : S33) (hx : Fits32 x) : Ev (fun k => pintleref15_Can.f k x.f0 x.f1 x.f2 x.f3 x.f4) (canB x) := by
  obtain ⟨op, d, a, b, n⟩ := x
  unfold Fits32 at hx
  dsimp only at *
  refine ⟨1, fun k hk => ?_⟩
  obtain ⟨k, rfl⟩ : ∃ m, k = m + 1 := ⟨k - 1, by omega⟩
  have j0 := pintleref15_Can.j0.eq_2 true op d a b n k
  simp only [Nat.succ_eq_add_one, if_true] at j0
  unfold pintleref15_Can.f
  simp only [has_eq, Option.bind_some, rfits_eq]
  unfold canB
  dsimp only
  by_cases h : 1 ≤ op ∧ op ≤ 24
  · rw [if_neg (by omega), if_neg (by omega), (has_of op h).1, (has_of op h).2]
    dsimp only
    rw [Bool.and_assoc _ (decide _) (decide _), tail_of op n h hx]
    have rt := rcan_tail k op d a b n h
    cases fitsB d (ofS op).1 <;> cases fitsB a (ofS op).2.1 <;> cases fitsB b (ofS op).2.2.1 <;> simp [j0, rt]
  · have e : ofS op = (false, false, false, 0, 0, false) := by unfold ofS; rw [if_pos (by omega)]
    rw [e]
    by_cases h1 : op < 1
    · rw [if_pos h1, j0]; simp
    · rw [if_neg h1, if_pos (by omega), j0]; simp
end Go.Proofs.Ytmmckdjbbbmdgaa.LirA
