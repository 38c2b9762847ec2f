import Derived.Test.YtmmckdjbbbmdgaaLirA
import Derived.Test.YtmmckdjbbbmdgaaPLirx18
import Derived.Test.YtmmckdjbbbmdgaaPLirx17
set_option linter.unusedSimpArgs false
namespace Go.Proofs.Ytmmckdjbbbmdgaa.LirA
open Go.RowKit Go.Proofs.YtmmckdjbbbmdgaaW.PrintWords Go.Proofs.YtmmckdjbbbmdgaaW.PrintLast Go.Proofs.YtmmckdjbbbmdgaaW.PrintMore
open Go.Proofs.Ytmmckdjbbbmdgaa.PLir

theorem lives_ev : Ev (fun k => pintlelaw15_lives.f k) true := Ev.of pintlelaw15_lives.mono (k := 40) (by kernel_rfl)
theorem ints_ev (a : List Int) (hn : a.length < 100000000) : ∀ (m i : Nat), i + m = a.length → Ev (fun k => pintleref03_Ints.l0 k a a (i : Int)) true
  | 0, i, hi => by
    refine Ev.step (fun k => by rw [pintleref03_Ints.l0]) ?_
    simp only [if_neg (show ¬ (i : Int) < (a.length : Int) by omega)]
    exact Ev.now _
  | m + 1, i, hi => by
    have hw : wrap64 ((i : Int) + 1) = ((i + 1 : Nat) : Int) := w1 (by omega)
    refine Ev.step (fun k => by rw [pintleref03_Ints.l0]) ?_
    simp only [if_pos (show (i : Int) < (a.length : Int) by omega), if_pos (show (0 : Int) ≤ (i : Int) by omega), if_true, hw]
    exact ints_ev a hn m (i + 1) (by omega)
theorem Ints_ev (a : List Int) (hn : a.length < 100000000) : Ev (fun k => pintleref03_Ints.f k a a) true := by
  unfold pintleref03_Ints.f
  simp only [if_true]
  exact ints_ev a hn a.length 0 (by omega)
end Go.Proofs.Ytmmckdjbbbmdgaa.LirA
