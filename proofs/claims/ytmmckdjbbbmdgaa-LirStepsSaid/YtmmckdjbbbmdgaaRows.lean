/-
  No cell of these rows narrows 'for every input' (looked for: loops, veiled, ifaces, maps, wideKeys, modest, calm, conditions, laid).
  DERIVED. THE GIVEN ROWS OF THIS SEAT. 10 by the template 'for every input the law returns true; each argument reads behind the call as it read before'; 0 by the template 'total and deterministic' (their statements: YtmmckdjbbbmdgaaTotals.lean).
  GIVEN WITH THE SEED: the statements are not yours to turn. If you find one false, say at which input.
  Laid BY PROGRAM, IN A SANDBOX (cutbox-rows.mjs): the forced cells as the released guide's own fill.sh prints them over the translation 749142670871f618… (all of the seat's roots in one cut). By AI agents, Wed Nov 11 2026. No macro, syntax, notation, axiom, sorry.
-/
import Derived.Test.YtmmckdjbbbmdgaaChecked
import GoSem.Claim
import GoSem.ClaimJoined
import GoSem.ClaimMapViews
import Derived.JoinedTies
import Derived.KernelRfl
namespace Go.Proofs.Ytmmckdjbbbmdgaa
/- THE CELL 'sum', in the pinned program and in every row, IS THE sha256 OF THE DUMP (.gsa) THAT YtmmckdjbbbmdgaaProg.lean LOADS. Nothing in Lean hashes anything: it is a label: what it is worth is what the hold of that sum in a sandbox is worth. -/
noncomputable def Try.pinned : Pinned := { name := "ytmmckdjbbbmdgaa", sum := "749142670871f6181db869e4306c4aa95e7fe1d12f05c1af343afffac5c18612", checked := Try.checked }
namespace Rows
def none {H : Type} : Left H := { results := [], args := [] }

/-- 'pintlelaw15.LirChecks': WHATEVER THE INPUT: true; the input reads as it did. -/
def lirChecksSpec : ChangeSpec := { name := "lirChecks", fn := fun _ => fun
  | [d] => { results := [.lit (.bool true)], args := [d] }
  | _ => none }
def lirChecksRow : OpenClaim := { program := "ytmmckdjbbbmdgaa", sum := "749142670871f6181db869e4306c4aa95e7fe1d12f05c1af343afffac5c18612", func := "pintle/pintlelaw15.LirChecks", spec := "lirChecks", apart := false }
def LirChecksSaid : Prop := lirChecksRow.holds Try.pinned (OpenSpec.ofChange lirChecksSpec)

/-- ITS FALSE NEIGHBOUR: 'it returns false'. Refute it at one input. -/
def lirChecksWrong : ChangeSpec := { name := "lirChecks", fn := fun _ => fun
  | [d] => { results := [.lit (.bool false)], args := [d] }
  | _ => none }
def LirChecksWrongFalsely : Prop := lirChecksRow.holds Try.pinned (OpenSpec.ofChange lirChecksWrong)

/-- 'pintlelaw15.LirEnds': WHATEVER THE INPUT: true; the input reads as it did. -/
def lirEndsSpec : ChangeSpec := { name := "lirEnds", fn := fun _ => fun
  | [d] => { results := [.lit (.bool true)], args := [d] }
  | _ => none }
def lirEndsRow : OpenClaim := { program := "ytmmckdjbbbmdgaa", sum := "749142670871f6181db869e4306c4aa95e7fe1d12f05c1af343afffac5c18612", func := "pintle/pintlelaw15.LirEnds", spec := "lirEnds", apart := false }
def LirEndsSaid : Prop := lirEndsRow.holds Try.pinned (OpenSpec.ofChange lirEndsSpec)

/-- ITS FALSE NEIGHBOUR: 'it returns false'. Refute it at one input. -/
def lirEndsWrong : ChangeSpec := { name := "lirEnds", fn := fun _ => fun
  | [d] => { results := [.lit (.bool false)], args := [d] }
  | _ => none }
def LirEndsWrongFalsely : Prop := lirEndsRow.holds Try.pinned (OpenSpec.ofChange lirEndsWrong)

/-- 'pintlelaw15.LirLong': WHATEVER THE INPUT: true; the input reads as it did. -/
def lirLongSpec : ChangeSpec := { name := "lirLong", fn := fun _ => fun
  | [d] => { results := [.lit (.bool true)], args := [d] }
  | _ => none }
def lirLongRow : OpenClaim := { program := "ytmmckdjbbbmdgaa", sum := "749142670871f6181db869e4306c4aa95e7fe1d12f05c1af343afffac5c18612", func := "pintle/pintlelaw15.LirLong", spec := "lirLong", apart := false }
def LirLongSaid : Prop := lirLongRow.holds Try.pinned (OpenSpec.ofChange lirLongSpec)

/-- ITS FALSE NEIGHBOUR: 'it returns false'. Refute it at one input. -/
def lirLongWrong : ChangeSpec := { name := "lirLong", fn := fun _ => fun
  | [d] => { results := [.lit (.bool false)], args := [d] }
  | _ => none }
def LirLongWrongFalsely : Prop := lirLongRow.holds Try.pinned (OpenSpec.ofChange lirLongWrong)

/-- 'pintlelaw15.LirSteps': WHATEVER THE INPUT: true; the input reads as it did. -/
def lirStepsSpec : ChangeSpec := { name := "lirSteps", fn := fun _ => fun
  | [d] => { results := [.lit (.bool true)], args := [d] }
  | _ => none }
def lirStepsRow : OpenClaim := { program := "ytmmckdjbbbmdgaa", sum := "749142670871f6181db869e4306c4aa95e7fe1d12f05c1af343afffac5c18612", func := "pintle/pintlelaw15.LirSteps", spec := "lirSteps", apart := false }
def LirStepsSaid : Prop := lirStepsRow.holds Try.pinned (OpenSpec.ofChange lirStepsSpec)

/-- ITS FALSE NEIGHBOUR: 'it returns false'. Refute it at one input. -/
def lirStepsWrong : ChangeSpec := { name := "lirSteps", fn := fun _ => fun
  | [d] => { results := [.lit (.bool false)], args := [d] }
  | _ => none }
def LirStepsWrongFalsely : Prop := lirStepsRow.holds Try.pinned (OpenSpec.ofChange lirStepsWrong)

/-- 'pintlelaw30.ArenaFits': WHATEVER THE INPUT: true; the input reads as it did. -/
def arenaFitsSpec : ChangeSpec := { name := "arenaFits", fn := fun _ => fun
  | [d] => { results := [.lit (.bool true)], args := [d] }
  | _ => none }
def arenaFitsRow : OpenClaim := { program := "ytmmckdjbbbmdgaa", sum := "749142670871f6181db869e4306c4aa95e7fe1d12f05c1af343afffac5c18612", func := "pintle/pintlelaw30.ArenaFits", spec := "arenaFits", unfollowed := true, recurses := true, apart := false }
def ArenaFitsSaid : Prop := arenaFitsRow.holds Try.pinned (OpenSpec.ofChange arenaFitsSpec)

/-- ITS FALSE NEIGHBOUR: 'it returns false'. Refute it at one input. -/
def arenaFitsWrong : ChangeSpec := { name := "arenaFits", fn := fun _ => fun
  | [d] => { results := [.lit (.bool false)], args := [d] }
  | _ => none }
def ArenaFitsWrongFalsely : Prop := arenaFitsRow.holds Try.pinned (OpenSpec.ofChange arenaFitsWrong)

/-- 'pintlelaw30.ArenaApart': WHATEVER THE INPUT: true; the input reads as it did. -/
def arenaApartSpec : ChangeSpec := { name := "arenaApart", fn := fun _ => fun
  | [d] => { results := [.lit (.bool true)], args := [d] }
  | _ => none }
def arenaApartRow : OpenClaim := { program := "ytmmckdjbbbmdgaa", sum := "749142670871f6181db869e4306c4aa95e7fe1d12f05c1af343afffac5c18612", func := "pintle/pintlelaw30.ArenaApart", spec := "arenaApart", unfollowed := true, recurses := true, apart := false }
def ArenaApartSaid : Prop := arenaApartRow.holds Try.pinned (OpenSpec.ofChange arenaApartSpec)

/-- ITS FALSE NEIGHBOUR: 'it returns false'. Refute it at one input. -/
def arenaApartWrong : ChangeSpec := { name := "arenaApart", fn := fun _ => fun
  | [d] => { results := [.lit (.bool false)], args := [d] }
  | _ => none }
def ArenaApartWrongFalsely : Prop := arenaApartRow.holds Try.pinned (OpenSpec.ofChange arenaApartWrong)

/-- 'pintlelaw30.ArenaBetween': WHATEVER THE INPUT: true; the input reads as it did. -/
def arenaBetweenSpec : ChangeSpec := { name := "arenaBetween", fn := fun _ => fun
  | [d] => { results := [.lit (.bool true)], args := [d] }
  | _ => none }
def arenaBetweenRow : OpenClaim := { program := "ytmmckdjbbbmdgaa", sum := "749142670871f6181db869e4306c4aa95e7fe1d12f05c1af343afffac5c18612", func := "pintle/pintlelaw30.ArenaBetween", spec := "arenaBetween", unfollowed := true, recurses := true, apart := false }
def ArenaBetweenSaid : Prop := arenaBetweenRow.holds Try.pinned (OpenSpec.ofChange arenaBetweenSpec)

/-- ITS FALSE NEIGHBOUR: 'it returns false'. Refute it at one input. -/
def arenaBetweenWrong : ChangeSpec := { name := "arenaBetween", fn := fun _ => fun
  | [d] => { results := [.lit (.bool false)], args := [d] }
  | _ => none }
def ArenaBetweenWrongFalsely : Prop := arenaBetweenRow.holds Try.pinned (OpenSpec.ofChange arenaBetweenWrong)

/-- 'pintlelaw30.ArenaOne': WHATEVER THE INPUT: true; the input reads as it did. -/
def arenaOneSpec : ChangeSpec := { name := "arenaOne", fn := fun _ => fun
  | [d] => { results := [.lit (.bool true)], args := [d] }
  | _ => none }
def arenaOneRow : OpenClaim := { program := "ytmmckdjbbbmdgaa", sum := "749142670871f6181db869e4306c4aa95e7fe1d12f05c1af343afffac5c18612", func := "pintle/pintlelaw30.ArenaOne", spec := "arenaOne", unfollowed := true, recurses := true, apart := false }
def ArenaOneSaid : Prop := arenaOneRow.holds Try.pinned (OpenSpec.ofChange arenaOneSpec)

/-- ITS FALSE NEIGHBOUR: 'it returns false'. Refute it at one input. -/
def arenaOneWrong : ChangeSpec := { name := "arenaOne", fn := fun _ => fun
  | [d] => { results := [.lit (.bool false)], args := [d] }
  | _ => none }
def ArenaOneWrongFalsely : Prop := arenaOneRow.holds Try.pinned (OpenSpec.ofChange arenaOneWrong)

/-- 'pintlelaw30.ArenaMeets': WHATEVER THE INPUT: true; the input reads as it did. -/
def arenaMeetsSpec : ChangeSpec := { name := "arenaMeets", fn := fun _ => fun
  | [d1, d2] => { results := [.lit (.bool true)], args := [d1, d2] }
  | _ => none }
def arenaMeetsRow : OpenClaim := { program := "ytmmckdjbbbmdgaa", sum := "749142670871f6181db869e4306c4aa95e7fe1d12f05c1af343afffac5c18612", func := "pintle/pintlelaw30.ArenaMeets", spec := "arenaMeets", unfollowed := true, recurses := true, apart := false }
def ArenaMeetsSaid : Prop := arenaMeetsRow.holds Try.pinned (OpenSpec.ofChange arenaMeetsSpec)

/-- ITS FALSE NEIGHBOUR: 'it returns false'. Refute it at one input. -/
def arenaMeetsWrong : ChangeSpec := { name := "arenaMeets", fn := fun _ => fun
  | [d1, d2] => { results := [.lit (.bool false)], args := [d1, d2] }
  | _ => none }
def ArenaMeetsWrongFalsely : Prop := arenaMeetsRow.holds Try.pinned (OpenSpec.ofChange arenaMeetsWrong)

/-- 'pintlelaw15.LirVars': WHATEVER THE INPUT: true; the input reads as it did. -/
def lirVarsSpec : ChangeSpec := { name := "lirVars", fn := fun _ => fun
  | [d] => { results := [.lit (.bool true)], args := [d] }
  | _ => none }
def lirVarsRow : OpenClaim := { program := "ytmmckdjbbbmdgaa", sum := "749142670871f6181db869e4306c4aa95e7fe1d12f05c1af343afffac5c18612", func := "pintle/pintlelaw15.LirVars", spec := "lirVars", recurses := true, apart := false }
def LirVarsSaid : Prop := lirVarsRow.holds Try.pinned (OpenSpec.ofChange lirVarsSpec)

/-- ITS FALSE NEIGHBOUR: 'it returns false'. Refute it at one input. -/
def lirVarsWrong : ChangeSpec := { name := "lirVars", fn := fun _ => fun
  | [d] => { results := [.lit (.bool false)], args := [d] }
  | _ => none }
def LirVarsWrongFalsely : Prop := lirVarsRow.holds Try.pinned (OpenSpec.ofChange lirVarsWrong)

/- THE SECOND FORM. 'bulk': how many values and letters a reading holds, each counted each time it is reached (what is shared counts as often as it is met; a slice's spare places count too). A statement '..UptoSaid' is the law's where the arguments, and the package variables that the reading takes, are together of bulk at most 1048576: NARROWER than '..Said'. Prove '..Said' where nothing that the law and all that it calls make is longer than what came in: it says more and counts as full. Else prove '..UptoSaid'. A law counts once. -/
mutual
def uptoBulk {H : Type} : DataW H → Nat
  | .lit (.string bytes) => bytes.length + 1
  | .lit _ => 1
  | .nil => 1
  | .ptr d => uptoBulk d + 1
  | .slice elems spare => uptoBulkAll elems + uptoBulkAll spare + 1
  | .agg parts => uptoBulkAll parts + 1
  | .iface _ d => uptoBulk d + 1
  | .map entries => uptoBulkEntries entries + 1
  | .held _ => 1
def uptoBulkAll {H : Type} : List (DataW H) → Nat
  | [] => 0
  | d :: r => uptoBulk d + uptoBulkAll r
def uptoBulkEntries {H : Type} : List (Lit × DataW H) → Nat
  | [] => 0
  | x :: r => uptoBulkEntry x + uptoBulkEntries r
def uptoBulkEntry {H : Type} : Lit × DataW H → Nat
  | (.string bytes, d) => bytes.length + uptoBulk d + 1
  | (_, d) => uptoBulk d + 1
 end
def uptoSmall : (H : Type) → List (DataW H) → Bool := fun _ ds => decide (uptoBulkAll ds ≤ 1048576)
def OpenSpec.upto (s : _root_.Go.ChangeSpec) : _root_.Go.OpenSpec := { _root_.Go.OpenSpec.ofChange s with cond := some uptoSmall }

/-- 'pintlelaw15.LirChecks', WHERE WHAT IT READS IS OF BULK AT MOST 1048576: true; the input reads as it did. -/
def lirChecksUptoRow : OpenClaim := { program := "ytmmckdjbbbmdgaa", sum := "749142670871f6181db869e4306c4aa95e7fe1d12f05c1af343afffac5c18612", func := "pintle/pintlelaw15.LirChecks", spec := "lirChecks", apart := false, narrowed := true }
def LirChecksUptoSaid : Prop := lirChecksUptoRow.holds Try.pinned (OpenSpec.upto lirChecksSpec)

/-- 'pintlelaw15.LirEnds', WHERE WHAT IT READS IS OF BULK AT MOST 1048576: true; the input reads as it did. -/
def lirEndsUptoRow : OpenClaim := { program := "ytmmckdjbbbmdgaa", sum := "749142670871f6181db869e4306c4aa95e7fe1d12f05c1af343afffac5c18612", func := "pintle/pintlelaw15.LirEnds", spec := "lirEnds", apart := false, narrowed := true }
def LirEndsUptoSaid : Prop := lirEndsUptoRow.holds Try.pinned (OpenSpec.upto lirEndsSpec)

/-- 'pintlelaw15.LirLong', WHERE WHAT IT READS IS OF BULK AT MOST 1048576: true; the input reads as it did. -/
def lirLongUptoRow : OpenClaim := { program := "ytmmckdjbbbmdgaa", sum := "749142670871f6181db869e4306c4aa95e7fe1d12f05c1af343afffac5c18612", func := "pintle/pintlelaw15.LirLong", spec := "lirLong", apart := false, narrowed := true }
def LirLongUptoSaid : Prop := lirLongUptoRow.holds Try.pinned (OpenSpec.upto lirLongSpec)

/-- 'pintlelaw15.LirSteps', WHERE WHAT IT READS IS OF BULK AT MOST 1048576: true; the input reads as it did. -/
def lirStepsUptoRow : OpenClaim := { program := "ytmmckdjbbbmdgaa", sum := "749142670871f6181db869e4306c4aa95e7fe1d12f05c1af343afffac5c18612", func := "pintle/pintlelaw15.LirSteps", spec := "lirSteps", apart := false, narrowed := true }
def LirStepsUptoSaid : Prop := lirStepsUptoRow.holds Try.pinned (OpenSpec.upto lirStepsSpec)

/-- 'pintlelaw30.ArenaFits', WHERE WHAT IT READS IS OF BULK AT MOST 1048576: true; the input reads as it did. -/
def arenaFitsUptoRow : OpenClaim := { program := "ytmmckdjbbbmdgaa", sum := "749142670871f6181db869e4306c4aa95e7fe1d12f05c1af343afffac5c18612", func := "pintle/pintlelaw30.ArenaFits", spec := "arenaFits", unfollowed := true, recurses := true, apart := false, narrowed := true }
def ArenaFitsUptoSaid : Prop := arenaFitsUptoRow.holds Try.pinned (OpenSpec.upto arenaFitsSpec)

/-- 'pintlelaw30.ArenaApart', WHERE WHAT IT READS IS OF BULK AT MOST 1048576: true; the input reads as it did. -/
def arenaApartUptoRow : OpenClaim := { program := "ytmmckdjbbbmdgaa", sum := "749142670871f6181db869e4306c4aa95e7fe1d12f05c1af343afffac5c18612", func := "pintle/pintlelaw30.ArenaApart", spec := "arenaApart", unfollowed := true, recurses := true, apart := false, narrowed := true }
def ArenaApartUptoSaid : Prop := arenaApartUptoRow.holds Try.pinned (OpenSpec.upto arenaApartSpec)

/-- 'pintlelaw30.ArenaBetween', WHERE WHAT IT READS IS OF BULK AT MOST 1048576: true; the input reads as it did. -/
def arenaBetweenUptoRow : OpenClaim := { program := "ytmmckdjbbbmdgaa", sum := "749142670871f6181db869e4306c4aa95e7fe1d12f05c1af343afffac5c18612", func := "pintle/pintlelaw30.ArenaBetween", spec := "arenaBetween", unfollowed := true, recurses := true, apart := false, narrowed := true }
def ArenaBetweenUptoSaid : Prop := arenaBetweenUptoRow.holds Try.pinned (OpenSpec.upto arenaBetweenSpec)

/-- 'pintlelaw30.ArenaOne', WHERE WHAT IT READS IS OF BULK AT MOST 1048576: true; the input reads as it did. -/
def arenaOneUptoRow : OpenClaim := { program := "ytmmckdjbbbmdgaa", sum := "749142670871f6181db869e4306c4aa95e7fe1d12f05c1af343afffac5c18612", func := "pintle/pintlelaw30.ArenaOne", spec := "arenaOne", unfollowed := true, recurses := true, apart := false, narrowed := true }
def ArenaOneUptoSaid : Prop := arenaOneUptoRow.holds Try.pinned (OpenSpec.upto arenaOneSpec)

/-- 'pintlelaw30.ArenaMeets', WHERE WHAT IT READS IS OF BULK AT MOST 1048576: true; the input reads as it did. -/
def arenaMeetsUptoRow : OpenClaim := { program := "ytmmckdjbbbmdgaa", sum := "749142670871f6181db869e4306c4aa95e7fe1d12f05c1af343afffac5c18612", func := "pintle/pintlelaw30.ArenaMeets", spec := "arenaMeets", unfollowed := true, recurses := true, apart := false, narrowed := true }
def ArenaMeetsUptoSaid : Prop := arenaMeetsUptoRow.holds Try.pinned (OpenSpec.upto arenaMeetsSpec)

/-- 'pintlelaw15.LirVars', WHERE WHAT IT READS IS OF BULK AT MOST 1048576: true; the input reads as it did. -/
def lirVarsUptoRow : OpenClaim := { program := "ytmmckdjbbbmdgaa", sum := "749142670871f6181db869e4306c4aa95e7fe1d12f05c1af343afffac5c18612", func := "pintle/pintlelaw15.LirVars", spec := "lirVars", recurses := true, apart := false, narrowed := true }
def LirVarsUptoSaid : Prop := lirVarsUptoRow.holds Try.pinned (OpenSpec.upto lirVarsSpec)

end Rows
end Go.Proofs.Ytmmckdjbbbmdgaa
