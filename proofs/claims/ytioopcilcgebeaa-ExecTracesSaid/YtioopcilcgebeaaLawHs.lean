/- Begins, with the beginning of new blocks a letter. -/
import Derived.Test.YtioopcilcgebeaaLawG
set_option linter.unusedVariables false
set_option linter.unusedSimpArgs false
namespace Go.Proofs.Ytioopcilcgebeaa.CpuA
open Go.RowKit Go.Proofs.Ytioopcilcgebeaa.Base Go.Proofs.Ytioopcilcgebeaa.InstS Go.Proofs.Ytioopcilcgebeaa.InstA Go.Proofs.YtioopcilcgebeaaW.PrintWords

theorem ucell {b : Nat} {R : List Int} {t : TypeId} {fr : Nat × Nat} {w : World} (h : w.heap[b]? = some (.cells (R.map (Value.int .u32)).toArray t fr)) (j : Nat) (hj : j < R.length) : w.cell? ⟨b, j, none⟩ = some (.int .u32 (R.getD j 0)) := by
  rw [cell_of_heap h]
  simp [List.getD_eq_getElem?_getD, List.getElem?_eq_getElem hj]
theorem uset {b : Nat} {R : List Int} {t : TypeId} {fr : Nat × Nat} {w : World} (h : w.heap[b]? = some (.cells (R.map (Value.int .u32)).toArray t fr)) (j : Nat) (v : Int) : (w.setCell ⟨b, j, none⟩ (.int .u32 v)).heap[b]? = some (.cells ((R.set j v).map (Value.int .u32)).toArray t fr) := by
  rw [List.map_set, ← List.setIfInBounds_toArray]
  exact heap_set h
theorem us_heap {b : Nat} {R : List Int} {t : TypeId} {fr : Nat × Nat} {w : World} (h : w.heap[b]? = some (.cells (R.map (Value.int .u32)).toArray t fr)) (hr : ∀ x ∈ R, 0 ≤ x ∧ x < 4294967296) : US (some ⟨b, 0, none⟩) R w := by
  refine ⟨fun i hi => ⟨_, rfl, lt_of_heap h, ?_⟩, hr⟩
  have e : (Addr.add ⟨b, 0, none⟩ i) = ⟨b, i, none⟩ := by
    unfold Addr.add
    split
    · subst_vars; rfl
    · simp
  rw [e]
  exact ucell h i hi
/-- Both machines, the beginning of new blocks a letter. -/
def BeganT (words regs : List Int) (w : World) (e : Ending) (w' : World) : Prop :=
  ∃ b mb fb rb xb g base L v, e = .returned (.tuple #[.pointer (some ⟨b, 0, none⟩), .pointer (some ⟨xb, 0, none⟩), .bool true]) ∧ Two b mb (mapK fb rb) (fl words) xb g base (s0 regs) L v w' ∧ L.length ≤ 240 ∧ (w.heap.size ≤ b ∧ w.heap.size ≤ mb ∧ w.heap.size ≤ fb ∧ w.heap.size ≤ rb ∧ w.heap.size ≤ xb ∧ w.heap.size ≤ g ∧ w.heap.size ≤ base) ∧ Below w.heap.size w w'
theorem began_T {words regs : List Int} {w : World} {e : Ending} {w' : World} (h : Began words regs w e w') : BeganT words regs w e w' := by
  obtain ⟨b, mb, fb, rb, xb, g, L, v, he, hC, hX, hl, ⟨g1, g2, g3, g4, g5, g6⟩, hB⟩ := h
  exact ⟨b, mb, fb, rb, xb, g, _, L, v, he, ⟨hC, hX⟩, hl, ⟨g1, g2, g3, g4, g5, g6, Nat.le_refl _⟩, hB⟩
end Go.Proofs.Ytioopcilcgebeaa.CpuA
