/-
  No cell of these rows narrows 'for every input' (looked for: loops, veiled, ifaces, maps, wideKeys, modest, calm, conditions, laid).
  DERIVED. THE GIVEN ROWS OF THIS SEAT. 12 by the template 'for every input the law returns true; each argument reads behind the call as it read before'; 0 by the template 'total and deterministic' (their statements: YtioopcilcgebeaaTotals.lean).
  GIVEN WITH THE SEED: the statements are not yours to turn. If you find one false, say at which input.
  Laid BY PROGRAM, IN A SANDBOX (cutbox-rows.mjs): the forced cells as the released guide's own fill.sh prints them over the translation 94b8f6018c5c62d0… (all of the seat's roots in one cut). By AI agents, Wed Nov 11 2026. No macro, syntax, notation, axiom, sorry.
-/
import Derived.Test.YtioopcilcgebeaaChecked
import GoSem.Claim
import GoSem.ClaimJoined
import GoSem.ClaimMapViews
import Derived.JoinedTies
import Derived.KernelRfl
namespace Go.Proofs.Ytioopcilcgebeaa
/- THE CELL 'sum', in the pinned program and in every row, IS THE sha256 OF THE DUMP (.gsa) THAT YtioopcilcgebeaaProg.lean LOADS. Nothing in Lean hashes anything: it is a label: what it is worth is what the hold of that sum in a sandbox is worth. -/
noncomputable def Try.pinned : Pinned := { name := "ytioopcilcgebeaa", sum := "94b8f6018c5c62d05b43082de248814705320256349fcd79601c360a48104482", checked := Try.checked }
namespace Rows
def none {H : Type} : Left H := { results := [], args := [] }

/-- 'pintlelaw06.CpuRegs': WHATEVER THE INPUT: true; the input reads as it did. -/
def cpuRegsSpec : ChangeSpec := { name := "cpuRegs", fn := fun _ => fun
  | [d1, d2, d3] => { results := [.lit (.bool true)], args := [d1, d2, d3] }
  | _ => none }
def cpuRegsRow : OpenClaim := { program := "ytioopcilcgebeaa", sum := "94b8f6018c5c62d05b43082de248814705320256349fcd79601c360a48104482", func := "pintle/pintlelaw06.CpuRegs", spec := "cpuRegs", apart := false }
def CpuRegsSaid : Prop := cpuRegsRow.holds Try.pinned (OpenSpec.ofChange cpuRegsSpec)

/-- ITS FALSE NEIGHBOUR: 'it returns false'. Refute it at one input. -/
def cpuRegsWrong : ChangeSpec := { name := "cpuRegs", fn := fun _ => fun
  | [d1, d2, d3] => { results := [.lit (.bool false)], args := [d1, d2, d3] }
  | _ => none }
def CpuRegsWrongFalsely : Prop := cpuRegsRow.holds Try.pinned (OpenSpec.ofChange cpuRegsWrong)

/-- 'pintlelaw07.ExecRuns': WHATEVER THE INPUT: true; the input reads as it did. -/
def execRunsSpec : ChangeSpec := { name := "execRuns", fn := fun _ => fun
  | [d1, d2, d3] => { results := [.lit (.bool true)], args := [d1, d2, d3] }
  | _ => none }
def execRunsRow : OpenClaim := { program := "ytioopcilcgebeaa", sum := "94b8f6018c5c62d05b43082de248814705320256349fcd79601c360a48104482", func := "pintle/pintlelaw07.ExecRuns", spec := "execRuns", unfollowed := true, recurses := true, apart := false }
def ExecRunsSaid : Prop := execRunsRow.holds Try.pinned (OpenSpec.ofChange execRunsSpec)

/-- ITS FALSE NEIGHBOUR: 'it returns false'. Refute it at one input. -/
def execRunsWrong : ChangeSpec := { name := "execRuns", fn := fun _ => fun
  | [d1, d2, d3] => { results := [.lit (.bool false)], args := [d1, d2, d3] }
  | _ => none }
def ExecRunsWrongFalsely : Prop := execRunsRow.holds Try.pinned (OpenSpec.ofChange execRunsWrong)

/-- 'pintlelaw07.ExecParts': WHATEVER THE INPUT: true; the input reads as it did. -/
def execPartsSpec : ChangeSpec := { name := "execParts", fn := fun _ => fun
  | [d1, d2, d3] => { results := [.lit (.bool true)], args := [d1, d2, d3] }
  | _ => none }
def execPartsRow : OpenClaim := { program := "ytioopcilcgebeaa", sum := "94b8f6018c5c62d05b43082de248814705320256349fcd79601c360a48104482", func := "pintle/pintlelaw07.ExecParts", spec := "execParts", unfollowed := true, recurses := true, apart := false }
def ExecPartsSaid : Prop := execPartsRow.holds Try.pinned (OpenSpec.ofChange execPartsSpec)

/-- ITS FALSE NEIGHBOUR: 'it returns false'. Refute it at one input. -/
def execPartsWrong : ChangeSpec := { name := "execParts", fn := fun _ => fun
  | [d1, d2, d3] => { results := [.lit (.bool false)], args := [d1, d2, d3] }
  | _ => none }
def ExecPartsWrongFalsely : Prop := execPartsRow.holds Try.pinned (OpenSpec.ofChange execPartsWrong)

/-- 'pintlelaw06.CpuSteps': WHATEVER THE INPUT: true; the input reads as it did. -/
def cpuStepsSpec : ChangeSpec := { name := "cpuSteps", fn := fun _ => fun
  | [d1, d2] => { results := [.lit (.bool true)], args := [d1, d2] }
  | _ => none }
def cpuStepsRow : OpenClaim := { program := "ytioopcilcgebeaa", sum := "94b8f6018c5c62d05b43082de248814705320256349fcd79601c360a48104482", func := "pintle/pintlelaw06.CpuSteps", spec := "cpuSteps", apart := false }
def CpuStepsSaid : Prop := cpuStepsRow.holds Try.pinned (OpenSpec.ofChange cpuStepsSpec)

/-- ITS FALSE NEIGHBOUR: 'it returns false'. Refute it at one input. -/
def cpuStepsWrong : ChangeSpec := { name := "cpuSteps", fn := fun _ => fun
  | [d1, d2] => { results := [.lit (.bool false)], args := [d1, d2] }
  | _ => none }
def CpuStepsWrongFalsely : Prop := cpuStepsRow.holds Try.pinned (OpenSpec.ofChange cpuStepsWrong)

/-- 'pintlelaw06.CpuOne': WHATEVER THE INPUT: true; the input reads as it did. -/
def cpuOneSpec : ChangeSpec := { name := "cpuOne", fn := fun _ => fun
  | [d1, d2, d3] => { results := [.lit (.bool true)], args := [d1, d2, d3] }
  | _ => none }
def cpuOneRow : OpenClaim := { program := "ytioopcilcgebeaa", sum := "94b8f6018c5c62d05b43082de248814705320256349fcd79601c360a48104482", func := "pintle/pintlelaw06.CpuOne", spec := "cpuOne", apart := false }
def CpuOneSaid : Prop := cpuOneRow.holds Try.pinned (OpenSpec.ofChange cpuOneSpec)

/-- ITS FALSE NEIGHBOUR: 'it returns false'. Refute it at one input. -/
def cpuOneWrong : ChangeSpec := { name := "cpuOne", fn := fun _ => fun
  | [d1, d2, d3] => { results := [.lit (.bool false)], args := [d1, d2, d3] }
  | _ => none }
def CpuOneWrongFalsely : Prop := cpuOneRow.holds Try.pinned (OpenSpec.ofChange cpuOneWrong)

/-- 'pintlelaw06.CpuNoFurther': WHATEVER THE INPUT: true; the input reads as it did. -/
def cpuNoFurtherSpec : ChangeSpec := { name := "cpuNoFurther", fn := fun _ => fun
  | [d1, d2] => { results := [.lit (.bool true)], args := [d1, d2] }
  | _ => none }
def cpuNoFurtherRow : OpenClaim := { program := "ytioopcilcgebeaa", sum := "94b8f6018c5c62d05b43082de248814705320256349fcd79601c360a48104482", func := "pintle/pintlelaw06.CpuNoFurther", spec := "cpuNoFurther", apart := false }
def CpuNoFurtherSaid : Prop := cpuNoFurtherRow.holds Try.pinned (OpenSpec.ofChange cpuNoFurtherSpec)

/-- ITS FALSE NEIGHBOUR: 'it returns false'. Refute it at one input. -/
def cpuNoFurtherWrong : ChangeSpec := { name := "cpuNoFurther", fn := fun _ => fun
  | [d1, d2] => { results := [.lit (.bool false)], args := [d1, d2] }
  | _ => none }
def CpuNoFurtherWrongFalsely : Prop := cpuNoFurtherRow.holds Try.pinned (OpenSpec.ofChange cpuNoFurtherWrong)

/-- 'pintlelaw07.ExecTraps': WHATEVER THE INPUT: true; the input reads as it did. -/
def execTrapsSpec : ChangeSpec := { name := "execTraps", fn := fun _ => fun
  | [d1, d2] => { results := [.lit (.bool true)], args := [d1, d2] }
  | _ => none }
def execTrapsRow : OpenClaim := { program := "ytioopcilcgebeaa", sum := "94b8f6018c5c62d05b43082de248814705320256349fcd79601c360a48104482", func := "pintle/pintlelaw07.ExecTraps", spec := "execTraps", unfollowed := true, recurses := true, apart := false }
def ExecTrapsSaid : Prop := execTrapsRow.holds Try.pinned (OpenSpec.ofChange execTrapsSpec)

/-- ITS FALSE NEIGHBOUR: 'it returns false'. Refute it at one input. -/
def execTrapsWrong : ChangeSpec := { name := "execTraps", fn := fun _ => fun
  | [d1, d2] => { results := [.lit (.bool false)], args := [d1, d2] }
  | _ => none }
def ExecTrapsWrongFalsely : Prop := execTrapsRow.holds Try.pinned (OpenSpec.ofChange execTrapsWrong)

/-- 'pintlelaw07.ExecTraces': WHATEVER THE INPUT: true; the input reads as it did. -/
def execTracesSpec : ChangeSpec := { name := "execTraces", fn := fun _ => fun
  | [d1, d2, d3] => { results := [.lit (.bool true)], args := [d1, d2, d3] }
  | _ => none }
def execTracesRow : OpenClaim := { program := "ytioopcilcgebeaa", sum := "94b8f6018c5c62d05b43082de248814705320256349fcd79601c360a48104482", func := "pintle/pintlelaw07.ExecTraces", spec := "execTraces", unfollowed := true, recurses := true, apart := false }
def ExecTracesSaid : Prop := execTracesRow.holds Try.pinned (OpenSpec.ofChange execTracesSpec)

/-- ITS FALSE NEIGHBOUR: 'it returns false'. Refute it at one input. -/
def execTracesWrong : ChangeSpec := { name := "execTraces", fn := fun _ => fun
  | [d1, d2, d3] => { results := [.lit (.bool false)], args := [d1, d2, d3] }
  | _ => none }
def ExecTracesWrongFalsely : Prop := execTracesRow.holds Try.pinned (OpenSpec.ofChange execTracesWrong)

/-- 'pintlelaw10.LoadMakes': WHATEVER THE INPUT: true; the input reads as it did. -/
def loadMakesSpec : ChangeSpec := { name := "loadMakes", fn := fun _ => fun
  | [d1, d2] => { results := [.lit (.bool true)], args := [d1, d2] }
  | _ => none }
def loadMakesRow : OpenClaim := { program := "ytioopcilcgebeaa", sum := "94b8f6018c5c62d05b43082de248814705320256349fcd79601c360a48104482", func := "pintle/pintlelaw10.LoadMakes", spec := "loadMakes", unfollowed := true, recurses := true, apart := false }
def LoadMakesSaid : Prop := loadMakesRow.holds Try.pinned (OpenSpec.ofChange loadMakesSpec)

/-- ITS FALSE NEIGHBOUR: 'it returns false'. Refute it at one input. -/
def loadMakesWrong : ChangeSpec := { name := "loadMakes", fn := fun _ => fun
  | [d1, d2] => { results := [.lit (.bool false)], args := [d1, d2] }
  | _ => none }
def LoadMakesWrongFalsely : Prop := loadMakesRow.holds Try.pinned (OpenSpec.ofChange loadMakesWrong)

/-- 'pintlelaw10.LoadInput': WHATEVER THE INPUT: true; the input reads as it did. -/
def loadInputSpec : ChangeSpec := { name := "loadInput", fn := fun _ => fun
  | [d1, d2, d3] => { results := [.lit (.bool true)], args := [d1, d2, d3] }
  | _ => none }
def loadInputRow : OpenClaim := { program := "ytioopcilcgebeaa", sum := "94b8f6018c5c62d05b43082de248814705320256349fcd79601c360a48104482", func := "pintle/pintlelaw10.LoadInput", spec := "loadInput", unfollowed := true, recurses := true, apart := false }
def LoadInputSaid : Prop := loadInputRow.holds Try.pinned (OpenSpec.ofChange loadInputSpec)

/-- ITS FALSE NEIGHBOUR: 'it returns false'. Refute it at one input. -/
def loadInputWrong : ChangeSpec := { name := "loadInput", fn := fun _ => fun
  | [d1, d2, d3] => { results := [.lit (.bool false)], args := [d1, d2, d3] }
  | _ => none }
def LoadInputWrongFalsely : Prop := loadInputRow.holds Try.pinned (OpenSpec.ofChange loadInputWrong)

/-- 'pintlelaw10.LoadNone': WHATEVER THE INPUT: true; the input reads as it did. -/
def loadNoneSpec : ChangeSpec := { name := "loadNone", fn := fun _ => fun
  | [d1, d2, d3] => { results := [.lit (.bool true)], args := [d1, d2, d3] }
  | _ => none }
def loadNoneRow : OpenClaim := { program := "ytioopcilcgebeaa", sum := "94b8f6018c5c62d05b43082de248814705320256349fcd79601c360a48104482", func := "pintle/pintlelaw10.LoadNone", spec := "loadNone", unfollowed := true, recurses := true, apart := false }
def LoadNoneSaid : Prop := loadNoneRow.holds Try.pinned (OpenSpec.ofChange loadNoneSpec)

/-- ITS FALSE NEIGHBOUR: 'it returns false'. Refute it at one input. -/
def loadNoneWrong : ChangeSpec := { name := "loadNone", fn := fun _ => fun
  | [d1, d2, d3] => { results := [.lit (.bool false)], args := [d1, d2, d3] }
  | _ => none }
def LoadNoneWrongFalsely : Prop := loadNoneRow.holds Try.pinned (OpenSpec.ofChange loadNoneWrong)

/-- 'pintlelaw10.LoadBoots': WHATEVER THE INPUT: true; the input reads as it did. -/
def loadBootsSpec : ChangeSpec := { name := "loadBoots", fn := fun _ => fun
  | [d] => { results := [.lit (.bool true)], args := [d] }
  | _ => none }
def loadBootsRow : OpenClaim := { program := "ytioopcilcgebeaa", sum := "94b8f6018c5c62d05b43082de248814705320256349fcd79601c360a48104482", func := "pintle/pintlelaw10.LoadBoots", spec := "loadBoots", unfollowed := true, recurses := true, apart := false }
def LoadBootsSaid : Prop := loadBootsRow.holds Try.pinned (OpenSpec.ofChange loadBootsSpec)

/-- ITS FALSE NEIGHBOUR: 'it returns false'. Refute it at one input. -/
def loadBootsWrong : ChangeSpec := { name := "loadBoots", fn := fun _ => fun
  | [d] => { results := [.lit (.bool false)], args := [d] }
  | _ => none }
def LoadBootsWrongFalsely : Prop := loadBootsRow.holds Try.pinned (OpenSpec.ofChange loadBootsWrong)

/- THE SECOND FORM. 'bulk': how many values and letters a reading holds, each counted each time it is reached (what is shared counts as often as it is met; a slice's spare places count too). A statement '..UptoSaid' is the law's where the arguments, and the package variables that the reading takes, are together of bulk at most 1048576: NARROWER than '..Said'. Prove '..Said' where nothing that the law and all that it calls make is longer than what came in: it says more and counts as full. Else prove '..UptoSaid'. A law counts once. -/
mutual
def uptoBulk {H : Type} : DataW H → Nat
  | .lit (.string bytes) => bytes.length + 1
  | .lit _ => 1
  | .nil => 1
  | .ptr d => uptoBulk d + 1
  | .slice elems spare => uptoBulkAll elems + uptoBulkAll spare + 1
  | .agg parts => uptoBulkAll parts + 1
  | .iface _ d => uptoBulk d + 1
  | .map entries => uptoBulkEntries entries + 1
  | .held _ => 1
def uptoBulkAll {H : Type} : List (DataW H) → Nat
  | [] => 0
  | d :: r => uptoBulk d + uptoBulkAll r
def uptoBulkEntries {H : Type} : List (Lit × DataW H) → Nat
  | [] => 0
  | x :: r => uptoBulkEntry x + uptoBulkEntries r
def uptoBulkEntry {H : Type} : Lit × DataW H → Nat
  | (.string bytes, d) => bytes.length + uptoBulk d + 1
  | (_, d) => uptoBulk d + 1
 end
def uptoSmall : (H : Type) → List (DataW H) → Bool := fun _ ds => decide (uptoBulkAll ds ≤ 1048576)
def OpenSpec.upto (s : _root_.Go.ChangeSpec) : _root_.Go.OpenSpec := { _root_.Go.OpenSpec.ofChange s with cond := some uptoSmall }

/-- 'pintlelaw06.CpuRegs', WHERE WHAT IT READS IS OF BULK AT MOST 1048576: true; the input reads as it did. -/
def cpuRegsUptoRow : OpenClaim := { program := "ytioopcilcgebeaa", sum := "94b8f6018c5c62d05b43082de248814705320256349fcd79601c360a48104482", func := "pintle/pintlelaw06.CpuRegs", spec := "cpuRegs", apart := false, narrowed := true }
def CpuRegsUptoSaid : Prop := cpuRegsUptoRow.holds Try.pinned (OpenSpec.upto cpuRegsSpec)

/-- 'pintlelaw07.ExecRuns', WHERE WHAT IT READS IS OF BULK AT MOST 1048576: true; the input reads as it did. -/
def execRunsUptoRow : OpenClaim := { program := "ytioopcilcgebeaa", sum := "94b8f6018c5c62d05b43082de248814705320256349fcd79601c360a48104482", func := "pintle/pintlelaw07.ExecRuns", spec := "execRuns", unfollowed := true, recurses := true, apart := false, narrowed := true }
def ExecRunsUptoSaid : Prop := execRunsUptoRow.holds Try.pinned (OpenSpec.upto execRunsSpec)

/-- 'pintlelaw07.ExecParts', WHERE WHAT IT READS IS OF BULK AT MOST 1048576: true; the input reads as it did. -/
def execPartsUptoRow : OpenClaim := { program := "ytioopcilcgebeaa", sum := "94b8f6018c5c62d05b43082de248814705320256349fcd79601c360a48104482", func := "pintle/pintlelaw07.ExecParts", spec := "execParts", unfollowed := true, recurses := true, apart := false, narrowed := true }
def ExecPartsUptoSaid : Prop := execPartsUptoRow.holds Try.pinned (OpenSpec.upto execPartsSpec)

/-- 'pintlelaw06.CpuSteps', WHERE WHAT IT READS IS OF BULK AT MOST 1048576: true; the input reads as it did. -/
def cpuStepsUptoRow : OpenClaim := { program := "ytioopcilcgebeaa", sum := "94b8f6018c5c62d05b43082de248814705320256349fcd79601c360a48104482", func := "pintle/pintlelaw06.CpuSteps", spec := "cpuSteps", apart := false, narrowed := true }
def CpuStepsUptoSaid : Prop := cpuStepsUptoRow.holds Try.pinned (OpenSpec.upto cpuStepsSpec)

/-- 'pintlelaw06.CpuOne', WHERE WHAT IT READS IS OF BULK AT MOST 1048576: true; the input reads as it did. -/
def cpuOneUptoRow : OpenClaim := { program := "ytioopcilcgebeaa", sum := "94b8f6018c5c62d05b43082de248814705320256349fcd79601c360a48104482", func := "pintle/pintlelaw06.CpuOne", spec := "cpuOne", apart := false, narrowed := true }
def CpuOneUptoSaid : Prop := cpuOneUptoRow.holds Try.pinned (OpenSpec.upto cpuOneSpec)

/-- 'pintlelaw06.CpuNoFurther', WHERE WHAT IT READS IS OF BULK AT MOST 1048576: true; the input reads as it did. -/
def cpuNoFurtherUptoRow : OpenClaim := { program := "ytioopcilcgebeaa", sum := "94b8f6018c5c62d05b43082de248814705320256349fcd79601c360a48104482", func := "pintle/pintlelaw06.CpuNoFurther", spec := "cpuNoFurther", apart := false, narrowed := true }
def CpuNoFurtherUptoSaid : Prop := cpuNoFurtherUptoRow.holds Try.pinned (OpenSpec.upto cpuNoFurtherSpec)

/-- 'pintlelaw07.ExecTraps', WHERE WHAT IT READS IS OF BULK AT MOST 1048576: true; the input reads as it did. -/
def execTrapsUptoRow : OpenClaim := { program := "ytioopcilcgebeaa", sum := "94b8f6018c5c62d05b43082de248814705320256349fcd79601c360a48104482", func := "pintle/pintlelaw07.ExecTraps", spec := "execTraps", unfollowed := true, recurses := true, apart := false, narrowed := true }
def ExecTrapsUptoSaid : Prop := execTrapsUptoRow.holds Try.pinned (OpenSpec.upto execTrapsSpec)

/-- 'pintlelaw07.ExecTraces', WHERE WHAT IT READS IS OF BULK AT MOST 1048576: true; the input reads as it did. -/
def execTracesUptoRow : OpenClaim := { program := "ytioopcilcgebeaa", sum := "94b8f6018c5c62d05b43082de248814705320256349fcd79601c360a48104482", func := "pintle/pintlelaw07.ExecTraces", spec := "execTraces", unfollowed := true, recurses := true, apart := false, narrowed := true }
def ExecTracesUptoSaid : Prop := execTracesUptoRow.holds Try.pinned (OpenSpec.upto execTracesSpec)

/-- 'pintlelaw10.LoadMakes', WHERE WHAT IT READS IS OF BULK AT MOST 1048576: true; the input reads as it did. -/
def loadMakesUptoRow : OpenClaim := { program := "ytioopcilcgebeaa", sum := "94b8f6018c5c62d05b43082de248814705320256349fcd79601c360a48104482", func := "pintle/pintlelaw10.LoadMakes", spec := "loadMakes", unfollowed := true, recurses := true, apart := false, narrowed := true }
def LoadMakesUptoSaid : Prop := loadMakesUptoRow.holds Try.pinned (OpenSpec.upto loadMakesSpec)

/-- 'pintlelaw10.LoadInput', WHERE WHAT IT READS IS OF BULK AT MOST 1048576: true; the input reads as it did. -/
def loadInputUptoRow : OpenClaim := { program := "ytioopcilcgebeaa", sum := "94b8f6018c5c62d05b43082de248814705320256349fcd79601c360a48104482", func := "pintle/pintlelaw10.LoadInput", spec := "loadInput", unfollowed := true, recurses := true, apart := false, narrowed := true }
def LoadInputUptoSaid : Prop := loadInputUptoRow.holds Try.pinned (OpenSpec.upto loadInputSpec)

/-- 'pintlelaw10.LoadNone', WHERE WHAT IT READS IS OF BULK AT MOST 1048576: true; the input reads as it did. -/
def loadNoneUptoRow : OpenClaim := { program := "ytioopcilcgebeaa", sum := "94b8f6018c5c62d05b43082de248814705320256349fcd79601c360a48104482", func := "pintle/pintlelaw10.LoadNone", spec := "loadNone", unfollowed := true, recurses := true, apart := false, narrowed := true }
def LoadNoneUptoSaid : Prop := loadNoneUptoRow.holds Try.pinned (OpenSpec.upto loadNoneSpec)

/-- 'pintlelaw10.LoadBoots', WHERE WHAT IT READS IS OF BULK AT MOST 1048576: true; the input reads as it did. -/
def loadBootsUptoRow : OpenClaim := { program := "ytioopcilcgebeaa", sum := "94b8f6018c5c62d05b43082de248814705320256349fcd79601c360a48104482", func := "pintle/pintlelaw10.LoadBoots", spec := "loadBoots", unfollowed := true, recurses := true, apart := false, narrowed := true }
def LoadBootsUptoSaid : Prop := loadBootsUptoRow.holds Try.pinned (OpenSpec.upto loadBootsSpec)

end Rows
end Go.Proofs.Ytioopcilcgebeaa
