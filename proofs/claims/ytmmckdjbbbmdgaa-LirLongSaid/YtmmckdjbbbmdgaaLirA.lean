/- Chapter 15: what the printed functions of lir and of its reference compute: plain lemmas on lists. -/
import Derived.Test.YtmmckdjbbbmdgaaPLirx2
import Derived.Test.YtmmckdjbbbmdgaaPLirx3
import Derived.Test.YtmmckdjbbbmdgaaPLirx4
import Derived.Test.YtmmckdjbbbmdgaaPLirx12
import Derived.Test.YtmmckdjbbbmdgaaPLirx13
namespace Go.Proofs.Ytmmckdjbbbmdgaa.LirA
open Go.RowKit Go.Proofs.YtmmckdjbbbmdgaaW.PrintWords Go.Proofs.YtmmckdjbbbmdgaaW.PrintLast Go.Proofs.YtmmckdjbbbmdgaaW.PrintMore
open Go.Proofs.Ytmmckdjbbbmdgaa.PLir

theorem w1 {j : Nat} (h : j < 1000000000) : wrap64 ((j : Int) + 1) = ((j + 1 : Nat) : Int) := by unfold wrap64; omega
theorem wm {j : Nat} (h0 : 0 < j) (h : j < 1000000000) : wrap64 ((j : Int) - 1) = ((j - 1 : Nat) : Int) := by unfold wrap64; omega
theorem rdT (l : List S33) (j : Nat) : rd_T33 l (j : Int) = l.getD j z33 := by simp [rd_T33]
theorem rdN (l : List Int) (j : Nat) : rd l (j : Int) = l.getD j 0 := by simp [rd]
theorem ext_getD {a b : List Int} (hl : a.length = b.length) (h : ∀ p, p < a.length → a.getD p 0 = b.getD p 0) : a = b := by
  refine List.ext_getElem hl fun i h1 h2 => ?_
  have := h i h1
  rw [List.getD_eq_getElem?_getD, List.getD_eq_getElem?_getD, List.getElem?_eq_getElem h1, List.getElem?_eq_getElem h2] at this
  exact this
theorem getD_set (a : List Int) (i : Nat) (v : Int) (p : Nat) (hi : i < a.length) : (a.set i v).getD p 0 = if p = i then v else a.getD p 0 := by
  rw [List.getD_eq_getElem?_getD, List.getD_eq_getElem?_getD, List.getElem?_set]
  by_cases h : i = p
  · subst h; simp [hi]
  · rw [if_neg h, if_neg (Ne.symm h)]

/-! ### A step -/
def ofS (op : Int) : Bool × Bool × Bool × Int × Int × Bool :=
  if op < 1 ∨ 24 < op then (false, false, false, 0, 0, false)
  else if op = 1 then (true, false, false, -2147483648, 2147483647, true)
  else if op = 2 then (true, true, false, 0, 0, true)
  else if op ≤ 12 then (true, true, true, 0, 0, true)
  else if op = 13 ∨ (17 ≤ op ∧ op ≤ 20) then (true, true, false, -2147483648, 2147483647, true)
  else if op ≤ 16 then (true, true, false, 0, 31, true)
  else if op ≤ 22 then (false, true, true, -2147483648, 2147483647, true)
  else if op = 23 then (true, false, false, 1, 100000, true)
  else (false, false, false, 0, 0, true)
theorem of_ev (op : Int) : Ev (fun k => lir_of.f k op) (ofS op) := by
  refine ⟨2, fun k hk => ?_⟩
  obtain ⟨k, rfl⟩ : ∃ m, k = m + 1 + 1 := ⟨k - 2, by omega⟩
  have j1 := fun b => lir_of.j1.eq_2 op b k
  have j0 := fun b => lir_of.j0.eq_2 op b (k + 1)
  unfold lir_of.f ofS
  simp only [Nat.succ_eq_add_one] at j0 j1
  dsimp only
  rw [j0, j0]
  simp only [j1, if_true, Bool.false_eq_true, if_false, decide_eq_true_eq, beq_iff_eq]
  clear j0 j1
  rcases (by omega : op < 1 ∨ 24 < op ∨ op = 1 ∨ op = 2 ∨ (3 ≤ op ∧ op ≤ 12) ∨ op = 13 ∨ (14 ≤ op ∧ op ≤ 16) ∨ (17 ≤ op ∧ op ≤ 20) ∨ (21 ≤ op ∧ op ≤ 22) ∨ op = 23 ∨ op = 24) with h | h | h | h | h | h | h | h | h | h | h
  all_goals repeat (first | rw [if_pos (by omega)] | rw [if_neg (by omega)])
def fitsB (v : Int) (has : Bool) : Bool := v == 0 || (has && decide (0 < v) && decide (v < 64))
theorem fits_eq (v : Int) (has : Bool) : lir_fits.f v has = some (fitsB v has) := by
  unfold lir_fits.f fitsB
  by_cases h0 : v = 0 <;> cases has <;> by_cases h1 : 0 < v <;> simp [h0, h1]
def canB (x : S33) : Bool := (ofS x.f0).2.2.2.2.2 && fitsB x.f1 (ofS x.f0).1 && fitsB x.f2 (ofS x.f0).2.1 && fitsB x.f3 (ofS x.f0).2.2.1 && decide ((ofS x.f0).2.2.2.1 ≤ x.f4) && decide (x.f4 ≤ (ofS x.f0).2.2.2.2.1)
theorem can_ev (x : S33) : Ev (fun k => lir_can.f k x.f0 x.f1 x.f2 x.f3 x.f4) ((ofS x.f0).1, (ofS x.f0).2.1, (ofS x.f0).2.2.1, (ofS x.f0).2.2.2.1, (ofS x.f0).2.2.2.2.1, canB x) := by
  unfold lir_can.f
  refine Ev.bind (of_ev x.f0) ?_
  unfold canB
  generalize ofS x.f0 = r
  obtain ⟨a, b, c, lo, hi, ok⟩ := r
  dsimp only
  simp only [fits_eq, Option.bind_some]
  refine ⟨0, fun k _ => ?_⟩
  dsimp only
  cases ok <;> cases fitsB x.f1 a <;> cases fitsB x.f2 b <;> cases fitsB x.f3 c <;> by_cases h : lo ≤ x.f4 <;> simp [h]
def hasS (op : Int) : Bool × Bool × Bool :=
  (decide (1 ≤ op ∧ op ≤ 20 ∨ op = 23), decide (2 ≤ op ∧ op ≤ 22), decide (3 ≤ op ∧ op ≤ 12 ∨ op = 21 ∨ op = 22))
theorem has_eq (op : Int) : pintleref15_Has.f op = some (hasS op) := by
  unfold pintleref15_Has.f hasS
  repeat' split
  all_goals (simp only [Option.some.injEq, Prod.mk.injEq]; refine ⟨?_, ?_, ?_⟩ <;> (rw [Bool.eq_iff_iff]; simp; omega))
theorem rfits_eq (v : Int) (has : Bool) : pintleref15_fits.f v has = some (fitsB v has) := by
  unfold pintleref15_fits.f fitsB
  cases has <;> by_cases h0 : 0 ≤ v <;> by_cases h1 : v < 64 <;> by_cases h2 : v = 0 <;> simp [h0, h1, h2] <;> omega
end Go.Proofs.Ytmmckdjbbbmdgaa.LirA
