import Derived.Test.YtioopcilcgebeaaImgJ
import Derived.Test.YtioopcilcgebeaaOpim
set_option linter.unusedVariables false
set_option linter.unusedSimpArgs false
namespace Go.Proofs.Ytioopcilcgebeaa.WalkLoadNone
open Go.ChangeShapes Go.WideShapes Go.RowKit Go.Proofs.YtioopcilcgebeaaW.PrintWords Go.Proofs.Ytioopcilcgebeaa.CpuA
theorem walk (W : World) (x : Opening.ImX) (hg : True) (A : Option Addr) (len cap : Nat) (xs : List Int) (hl : xs.length = len) (hcap : len ≤ cap) (hs : len * 1 ≤ 140737488351232) (hgx : ∀ x ∈ xs, Opening.Good5 x) (hC : Kd.C (Kd.int .u8) W A len xs)
    (a : Int) (wf : (Lit.int .u32 a).wf = true) :
    Calls Try.prog 13 #[x.v, .slice A len cap, .int .u32 a] W fun e w' => e = .returned (.bool true) ∧ Below W.heap.size W w' :=
  loadNone_walk x.f x.fn x.r x.rn x.en x.tx x.tn x.sa x.sn x.rm x.fu x.ia x.il x.oa x.ol x.A0 x.n0 x.c0 x.A1 x.n1 x.c1 A len cap a (by have := bounds_u32 wf; omega) W
end Go.Proofs.Ytioopcilcgebeaa.WalkLoadNone
