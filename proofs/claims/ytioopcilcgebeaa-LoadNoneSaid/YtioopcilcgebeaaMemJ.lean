/- Bytes laid over others. -/
import Derived.Test.YtioopcilcgebeaaKM
import Derived.Laws.CopyOwn
set_option linter.unusedVariables false
set_option linter.unusedSimpArgs false
namespace Go.Proofs.Ytioopcilcgebeaa.CpuA
open Go.RowKit Go.Proofs.Ytioopcilcgebeaa.Base Go.Proofs.YtioopcilcgebeaaW.PrintWords

/-- Bytes laid over others. -/
def spl (X : List Int) (d : Nat) (B : List Int) : List Int := X.take d ++ (B ++ X.drop (d + B.length))
theorem spl_len (X : List Int) (d : Nat) (B : List Int) (h : d + B.length ≤ X.length) : (spl X d B).length = X.length := by simp [spl]; omega
theorem spl_bytes {X B : List Int} (d : Nat) (hX : ∀ c ∈ X, 0 ≤ c ∧ c < 256) (hB : ∀ c ∈ B, 0 ≤ c ∧ c < 256) : ∀ c ∈ spl X d B, 0 ≤ c ∧ c < 256 := by
  intro c hc
  unfold spl at hc
  rcases List.mem_append.1 hc with hc | hc
  · exact hX c (List.mem_of_mem_take hc)
  · rcases List.mem_append.1 hc with hc | hc
    · exact hB c hc
    · exact hX c (List.mem_of_mem_drop hc)
theorem But.setRow {l : List Nat} {a b : World} (h : But l a b) (g : Nat) (cs : Array Value) (hg : g ∈ l) : But l a (b.setRow g cs) := by
  refine ⟨h.os, h.tape, h.output, by simpa [World.setRow] using h.size, fun k hk hl => ?_⟩
  rw [← h.block k hk hl]
  exact setRow_other b g k cs (by rintro rfl; exact hl hg)
theorem bytes_row {g : Nat} {X : List Int} {w : World} (h : IsBytes g X w) (d : Nat) (B : List Int) :
    IsBytes g (spl X d B) (w.setRow g ((X.map (Value.int .u8)).take d ++ (B.map (Value.int .u8) ++ (X.map (Value.int .u8)).drop (d + B.length))).toArray) := by
  unfold IsBytes
  rw [setRow_heap w g _ _ 5 (0, 0) h]
  congr 3
  simp [spl, List.map_append, List.map_take, List.map_drop]
theorem info5z : (Try.prog.info? 5).map (·.size) = some 1 := by kernel_rfl
end Go.Proofs.Ytioopcilcgebeaa.CpuA
