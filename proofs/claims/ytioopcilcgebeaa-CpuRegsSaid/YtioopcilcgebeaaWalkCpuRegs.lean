import Derived.Test.YtioopcilcgebeaaLawE
import Derived.Test.YtioopcilcgebeaaK9
set_option linter.unusedVariables false
set_option linter.unusedSimpArgs false
namespace Go.Proofs.Ytioopcilcgebeaa.WalkCpuRegs
open Go.RowKit Go.Proofs.YtioopcilcgebeaaW.PrintWords Go.Proofs.Ytioopcilcgebeaa.CpuA
theorem walk (W : World) (n : Int) (wn : (Lit.int .i64 n).wf = true) (v : Int) (wv : (Lit.int .u32 v).wf = true) (pc : Int) (wp : (Lit.int .u32 pc).wf = true) :
    Calls Try.prog 3 #[.int .i64 n, .int .u32 v, .int .u32 pc] W fun e w' => e = .returned (.bool true) ∧ Below W.heap.size W w' :=
  cpuRegs_walk n v pc (by have := bounds_u32 wv; omega) (by have := bounds_u32 wp; omega) W
end Go.Proofs.Ytioopcilcgebeaa.WalkCpuRegs
