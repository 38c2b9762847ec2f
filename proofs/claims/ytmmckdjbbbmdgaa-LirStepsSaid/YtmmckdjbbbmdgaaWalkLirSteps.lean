import Derived.Test.YtmmckdjbbbmdgaaLirI
import Derived.Test.YtmmckdjbbbmdgaaOpen
namespace Go.Proofs.Ytmmckdjbbbmdgaa.WalkLirSteps
open Go.RowKit Go.Proofs.YtmmckdjbbbmdgaaW.PrintWords Go.Proofs.YtmmckdjbbbmdgaaW.PrintLast Go.Proofs.Ytmmckdjbbbmdgaa.PLir Go.Proofs.Ytmmckdjbbbmdgaa.LirA
theorem walk (W : World) (x : S33) (hg : Opening.Fits33 x) :
    Calls Try.prog 6 #[.agg #[.int .i64 x.f0, .int .i64 x.f1, .int .i64 x.f2, .int .i64 x.f3, .int .i32 x.f4]] W fun e w' => e = .returned (.bool true) ∧ Below W.heap.size W w' := by
  obtain ⟨k, h⟩ := (LirSteps_ev x hg.2).rounds
  refine (pintlelaw15_LirSteps.calls k x.f0 x.f1 x.f2 x.f3 x.f4 true W h).mono ?_
  rintro e w' ⟨rfl, hd⟩
  exact ⟨rfl, hd⟩
end Go.Proofs.Ytmmckdjbbbmdgaa.WalkLirSteps
