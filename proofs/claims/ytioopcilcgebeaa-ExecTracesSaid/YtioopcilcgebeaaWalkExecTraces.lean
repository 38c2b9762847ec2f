import Derived.Test.YtioopcilcgebeaaExecU
import Derived.Test.YtioopcilcgebeaaK9
set_option linter.unusedVariables false
set_option linter.unusedSimpArgs false
namespace Go.Proofs.Ytioopcilcgebeaa.WalkExecTraces
open Go.RowKit Go.Proofs.YtioopcilcgebeaaW.PrintWords Go.Proofs.Ytioopcilcgebeaa.CpuA
theorem walk (W : World) (A : Option Addr) (len cap : Nat) (xs : List Int) (hl : xs.length = len) (hcap : len ≤ cap) (hs : len * 4 ≤ 140737488351232) (hg : ∀ x ∈ xs, Opening.Good22 x) (hC : Kd.C (Kd.int .u32) W A len xs)
    (A1 : Option Addr) (len1 cap1 : Nat) (xs1 : List Int) (hl1 : xs1.length = len1) (hcap1 : len1 ≤ cap1) (hs1 : len1 * 4 ≤ 140737488351232) (hg1 : ∀ x ∈ xs1, Opening.Good22 x) (hC1 : Kd.C (Kd.int .u32) W A1 len1 xs1) (fuel : Int) (wf : (Lit.int .i64 fuel).wf = true) :
    Calls Try.prog 10 #[.slice A len cap, .slice A1 len1 cap1, .int .i64 fuel] W fun e w' => e = .returned (.bool true) ∧ Below W.heap.size W w' := by
  subst hl hl1
  exact execTraces_walk A cap xs A1 cap1 xs1 fuel W (us_of hC hg) (us_of hC1 hg1) (len_of hs) (len_of hs1)
end Go.Proofs.Ytioopcilcgebeaa.WalkExecTraces
