import Derived.Test.YtmmckdjbbbmdgaaLirH
import Derived.Test.YtmmckdjbbbmdgaaOpen
set_option linter.unusedVariables false
namespace Go.Proofs.Ytmmckdjbbbmdgaa.WalkLirEnds
open Go.RowKit Go.Proofs.YtmmckdjbbbmdgaaW.PrintWords Go.Proofs.YtmmckdjbbbmdgaaW.PrintLast Go.Proofs.Ytmmckdjbbbmdgaa.PLir Go.Proofs.Ytmmckdjbbbmdgaa.LirA
theorem walk (W : World) (A : Option Addr) (len cap : Nat) (xs : List S33) (hl : xs.length = len) (hcap : len ≤ cap) (hs : len * 40 ≤ 140737488351232) (hg : ∀ x ∈ xs, Opening.Fits33 x) (hC : Kd.C k33 W A len xs) :
    Calls Try.prog 4 #[.slice A len cap] W fun e w' => e = .returned (.bool true) ∧ Below W.heap.size W w' := by
  subst hl
  obtain ⟨k, h⟩ := (LirEnds_ev xs hs).rounds
  refine (pintlelaw15_LirEnds.calls k A cap xs true W hC hcap h).mono ?_
  rintro e w' ⟨rfl, hd⟩
  exact ⟨rfl, hd⟩
end Go.Proofs.Ytmmckdjbbbmdgaa.WalkLirEnds
