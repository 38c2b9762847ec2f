import Derived.Test.YtioopcilcgebeaaLawH
import Derived.Test.YtioopcilcgebeaaK9
set_option linter.unusedVariables false
set_option linter.unusedSimpArgs false
namespace Go.Proofs.Ytioopcilcgebeaa.WalkCpuOne
open Go.RowKit Go.Proofs.YtioopcilcgebeaaW.PrintWords Go.Proofs.Ytioopcilcgebeaa.CpuA
theorem walk (W : World) (i : InstS.Ins) (hi : True) (a : Int) (wa : (Lit.int .u32 a).wf = true) (b : Int) (wb : (Lit.int .u32 b).wf = true) :
    Calls Try.prog 7 #[InstA.iv i, .int .u32 a, .int .u32 b] W fun e w' => e = .returned (.bool true) ∧ Below W.heap.size W w' := 
  cpuOne_walk i a b (by have := bounds_u32 wa; omega) (by have := bounds_u32 wb; omega) W
end Go.Proofs.Ytioopcilcgebeaa.WalkCpuOne
