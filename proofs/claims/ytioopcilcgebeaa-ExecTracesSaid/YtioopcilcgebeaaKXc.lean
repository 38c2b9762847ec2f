/- Proofs of this claim's family, merged: RxC. -/
import Derived.Test.YtioopcilcgebeaaKU
import Derived.Test.YtioopcilcgebeaaKV
import Derived.Test.YtioopcilcgebeaaKX
set_option linter.unusedVariables false
set_option linter.unusedSimpArgs false
/-! #### RxC -/
namespace Go.Proofs.Ytioopcilcgebeaa.CpuA
open Go.RowKit Go.Proofs.Ytioopcilcgebeaa.Base Go.Proofs.Ytioopcilcgebeaa.AluP Go.Proofs.Ytioopcilcgebeaa.InstS Go.Proofs.Ytioopcilcgebeaa.InstA Go.Proofs.YtioopcilcgebeaaW.PrintWords

theorem rmem_calls {xb g base : Nat} {K : Bk} {F : List Int} {s : St} {L : List (Int × Int)} {v : Value} {w : World} (h : RBox xb g base K F s L v w) (hL : L.length ≤ 1000000000) (op rd rs1 rs2 imm at_ : Int) (hop : 28 ≤ op ∧ op ≤ 35) (hrd : 0 ≤ rd ∧ rd < 32) (hrs : 0 ≤ rs2 ∧ rs2 < 32) (ha : 0 ≤ at_ ∧ at_ < 4294967296) :
    Calls Try.prog 97 #[.pointer (some ⟨xb, 0, none⟩), .agg #[.int .i64 op, .int .i64 rd, .int .i64 rs1, .int .i64 rs2, .int .i32 imm], .int .u32 at_] w (RDPost xb g base K F (if op ≤ 32 then loadsA K F op rd at_ s else storesA K op rs2 at_ s) L v w) := by
  have : op = 28 ∨ op = 29 ∨ op = 30 ∨ op = 31 ∨ op = 32 ∨ op = 33 ∨ op = 34 ∨ op = 35 := by omega
  rcases this with rfl | rfl | rfl | rfl | rfl | rfl | rfl | rfl
  · exact rmem_28 h rd rs1 rs2 imm at_ hrd ha
  · exact rmem_29 h rd rs1 rs2 imm at_ hrd ha
  · exact rmem_30 h rd rs1 rs2 imm at_ hrd ha
  · exact rmem_31 h rd rs1 rs2 imm at_ hrd ha
  · exact rmem_32 h rd rs1 rs2 imm at_ hrd ha
  · exact rmem_33 h hL rd rs1 rs2 imm at_ hrs ha
  · exact rmem_34 h hL rd rs1 rs2 imm at_ hrs ha
  · exact rmem_35 h hL rd rs1 rs2 imm at_ hrs ha
theorem rdpost_trans {xb g base : Nat} {K : Bk} {F : List Int} {s' : St} {L : List (Int × Int)} {v : Value} {w X w' : World} (hX : Below w.heap.size w X) (h : RKeep xb g base K F s' L v X w') : RKeep xb g base K F s' L v w w' := by
  obtain ⟨L', v', hb, hl, hw, hr⟩ := h
  exact ⟨L', v', hb, hl, (But.of_below hX).trans hw, fun r hrr => (hr r hrr).elim .inl (fun q => .inr (Nat.le_trans hX.size q))⟩
end Go.Proofs.Ytioopcilcgebeaa.CpuA
