import Derived.Test.YtioopcilcgebeaaLawI
import Derived.Test.YtioopcilcgebeaaK9
set_option linter.unusedVariables false
set_option linter.unusedSimpArgs false
namespace Go.Proofs.Ytioopcilcgebeaa.WalkCpuNoFurther
open Go.RowKit Go.Proofs.YtioopcilcgebeaaW.PrintWords Go.Proofs.Ytioopcilcgebeaa.CpuA
theorem walk (W : World) (x : Int) (w0 : (Lit.int .u32 x).wf = true)
    (A1 : Option Addr) (len1 cap1 : Nat) (xs1 : List Int) (hl1 : xs1.length = len1) (hcap1 : len1 ≤ cap1) (hs1 : len1 * 4 ≤ 140737488351232) (hg1 : ∀ x ∈ xs1, Opening.Good22 x) (hC1 : Kd.C (Kd.int .u32) W A1 len1 xs1) :
    Calls Try.prog 8 #[.int .u32 x, .slice A1 len1 cap1] W fun e w' => e = .returned (.bool true) ∧ Below W.heap.size W w' := by
  subst hl1
  exact cpuNoFurther_walk x (by have := bounds_u32 w0; omega) A1 cap1 xs1 W (us_of hC1 hg1) (len_of hs1)
end Go.Proofs.Ytioopcilcgebeaa.WalkCpuNoFurther
