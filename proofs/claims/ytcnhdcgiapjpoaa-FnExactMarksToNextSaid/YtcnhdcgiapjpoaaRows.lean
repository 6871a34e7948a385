/-
  No cell of these rows narrows 'for every input' (looked for: loops, veiled, ifaces, maps, wideKeys, modest, calm, conditions, laid).
  DERIVED. THE GIVEN ROWS OF THIS SEAT. 11 by the template 'for every input the law returns true; each argument reads behind the call as it read before'; 0 by the template 'total and deterministic' (their statements: YtcnhdcgiapjpoaaTotals.lean).
  GIVEN WITH THE SEED: the statements are not yours to turn. If you find one false, say at which input.
  Laid BY PROGRAM, IN A SANDBOX (cutbox-rows.mjs): the forced cells as the released guide's own fill.sh prints them over the translation f448889351b3cc80… (all of the seat's roots in one cut). By AI agents, Wed Nov 11 2026. No macro, syntax, notation, axiom, sorry.
-/
import Derived.Test.YtcnhdcgiapjpoaaChecked
import GoSem.Claim
import GoSem.ClaimJoined
import GoSem.ClaimMapViews
import Derived.JoinedTies
import Derived.KernelRfl
namespace Go.Proofs.Ytcnhdcgiapjpoaa
/- THE CELL 'sum', in the pinned program and in every row, IS THE sha256 OF THE DUMP (.gsa) THAT YtcnhdcgiapjpoaaProg.lean LOADS. Nothing in Lean hashes anything: it is a label: what it is worth is what the hold of that sum in a sandbox is worth. -/
noncomputable def Try.pinned : Pinned := { name := "ytcnhdcgiapjpoaa", sum := "f448889351b3cc80201c4f2f8f71d7579562c91e164c41abbaf44b13d7507ca1", checked := Try.checked }
namespace Rows
def none {H : Type} : Left H := { results := [], args := [] }

/-- 'laws.FnExactAreStates': WHATEVER THE INPUT: true; the input reads as it did. -/
def fnExactAreStatesSpec : ChangeSpec := { name := "fnExactAreStates", fn := fun _ => fun
  | [d] => { results := [.lit (.bool true)], args := [d] }
  | _ => none }
def fnExactAreStatesRow : OpenClaim := { program := "ytcnhdcgiapjpoaa", sum := "f448889351b3cc80201c4f2f8f71d7579562c91e164c41abbaf44b13d7507ca1", func := "loop.example/g01054/laws.FnExactAreStates", spec := "fnExactAreStates", apart := false }
def FnExactAreStatesSaid : Prop := fnExactAreStatesRow.holds Try.pinned (OpenSpec.ofChange fnExactAreStatesSpec)

/-- ITS FALSE NEIGHBOUR: 'it returns false'. Refute it at one input. -/
def fnExactAreStatesWrong : ChangeSpec := { name := "fnExactAreStates", fn := fun _ => fun
  | [d] => { results := [.lit (.bool false)], args := [d] }
  | _ => none }
def FnExactAreStatesWrongFalsely : Prop := fnExactAreStatesRow.holds Try.pinned (OpenSpec.ofChange fnExactAreStatesWrong)

/-- 'laws.FnExactStateOfCopy': WHATEVER THE INPUT: true; the input reads as it did. -/
def fnExactStateOfCopySpec : ChangeSpec := { name := "fnExactStateOfCopy", fn := fun _ => fun
  | [d1, d2] => { results := [.lit (.bool true)], args := [d1, d2] }
  | _ => none }
def fnExactStateOfCopyRow : OpenClaim := { program := "ytcnhdcgiapjpoaa", sum := "f448889351b3cc80201c4f2f8f71d7579562c91e164c41abbaf44b13d7507ca1", func := "loop.example/g01054/laws.FnExactStateOfCopy", spec := "fnExactStateOfCopy", apart := false }
def FnExactStateOfCopySaid : Prop := fnExactStateOfCopyRow.holds Try.pinned (OpenSpec.ofChange fnExactStateOfCopySpec)

/-- ITS FALSE NEIGHBOUR: 'it returns false'. Refute it at one input. -/
def fnExactStateOfCopyWrong : ChangeSpec := { name := "fnExactStateOfCopy", fn := fun _ => fun
  | [d1, d2] => { results := [.lit (.bool false)], args := [d1, d2] }
  | _ => none }
def FnExactStateOfCopyWrongFalsely : Prop := fnExactStateOfCopyRow.holds Try.pinned (OpenSpec.ofChange fnExactStateOfCopyWrong)

/-- 'laws.FnExactChangesOfLine': WHATEVER THE INPUT: true; the input reads as it did. -/
def fnExactChangesOfLineSpec : ChangeSpec := { name := "fnExactChangesOfLine", fn := fun _ => fun
  | [d1, d2] => { results := [.lit (.bool true)], args := [d1, d2] }
  | _ => none }
def fnExactChangesOfLineRow : OpenClaim := { program := "ytcnhdcgiapjpoaa", sum := "f448889351b3cc80201c4f2f8f71d7579562c91e164c41abbaf44b13d7507ca1", func := "loop.example/g01054/laws.FnExactChangesOfLine", spec := "fnExactChangesOfLine", apart := false }
def FnExactChangesOfLineSaid : Prop := fnExactChangesOfLineRow.holds Try.pinned (OpenSpec.ofChange fnExactChangesOfLineSpec)

/-- ITS FALSE NEIGHBOUR: 'it returns false'. Refute it at one input. -/
def fnExactChangesOfLineWrong : ChangeSpec := { name := "fnExactChangesOfLine", fn := fun _ => fun
  | [d1, d2] => { results := [.lit (.bool false)], args := [d1, d2] }
  | _ => none }
def FnExactChangesOfLineWrongFalsely : Prop := fnExactChangesOfLineRow.holds Try.pinned (OpenSpec.ofChange fnExactChangesOfLineWrong)

/-- 'laws.FnExactEarliestFor': WHATEVER THE INPUT: true; the input reads as it did. -/
def fnExactEarliestForSpec : ChangeSpec := { name := "fnExactEarliestFor", fn := fun _ => fun
  | [d1, d2] => { results := [.lit (.bool true)], args := [d1, d2] }
  | _ => none }
def fnExactEarliestForRow : OpenClaim := { program := "ytcnhdcgiapjpoaa", sum := "f448889351b3cc80201c4f2f8f71d7579562c91e164c41abbaf44b13d7507ca1", func := "loop.example/g01054/laws.FnExactEarliestFor", spec := "fnExactEarliestFor", apart := false }
def FnExactEarliestForSaid : Prop := fnExactEarliestForRow.holds Try.pinned (OpenSpec.ofChange fnExactEarliestForSpec)

/-- ITS FALSE NEIGHBOUR: 'it returns false'. Refute it at one input. -/
def fnExactEarliestForWrong : ChangeSpec := { name := "fnExactEarliestFor", fn := fun _ => fun
  | [d1, d2] => { results := [.lit (.bool false)], args := [d1, d2] }
  | _ => none }
def FnExactEarliestForWrongFalsely : Prop := fnExactEarliestForRow.holds Try.pinned (OpenSpec.ofChange fnExactEarliestForWrong)

/-- 'laws.FnExactChangedBetween': WHATEVER THE INPUT: true; the input reads as it did. -/
def fnExactChangedBetweenSpec : ChangeSpec := { name := "fnExactChangedBetween", fn := fun _ => fun
  | [d1, d2, d3] => { results := [.lit (.bool true)], args := [d1, d2, d3] }
  | _ => none }
def fnExactChangedBetweenRow : OpenClaim := { program := "ytcnhdcgiapjpoaa", sum := "f448889351b3cc80201c4f2f8f71d7579562c91e164c41abbaf44b13d7507ca1", func := "loop.example/g01054/laws.FnExactChangedBetween", spec := "fnExactChangedBetween", apart := false }
def FnExactChangedBetweenSaid : Prop := fnExactChangedBetweenRow.holds Try.pinned (OpenSpec.ofChange fnExactChangedBetweenSpec)

/-- ITS FALSE NEIGHBOUR: 'it returns false'. Refute it at one input. -/
def fnExactChangedBetweenWrong : ChangeSpec := { name := "fnExactChangedBetween", fn := fun _ => fun
  | [d1, d2, d3] => { results := [.lit (.bool false)], args := [d1, d2, d3] }
  | _ => none }
def FnExactChangedBetweenWrongFalsely : Prop := fnExactChangedBetweenRow.holds Try.pinned (OpenSpec.ofChange fnExactChangedBetweenWrong)

/-- 'laws.FnExactSettledLines': WHATEVER THE INPUT: true; the input reads as it did. -/
def fnExactSettledLinesSpec : ChangeSpec := { name := "fnExactSettledLines", fn := fun _ => fun
  | [d] => { results := [.lit (.bool true)], args := [d] }
  | _ => none }
def fnExactSettledLinesRow : OpenClaim := { program := "ytcnhdcgiapjpoaa", sum := "f448889351b3cc80201c4f2f8f71d7579562c91e164c41abbaf44b13d7507ca1", func := "loop.example/g01054/laws.FnExactSettledLines", spec := "fnExactSettledLines", apart := false }
def FnExactSettledLinesSaid : Prop := fnExactSettledLinesRow.holds Try.pinned (OpenSpec.ofChange fnExactSettledLinesSpec)

/-- ITS FALSE NEIGHBOUR: 'it returns false'. Refute it at one input. -/
def fnExactSettledLinesWrong : ChangeSpec := { name := "fnExactSettledLines", fn := fun _ => fun
  | [d] => { results := [.lit (.bool false)], args := [d] }
  | _ => none }
def FnExactSettledLinesWrongFalsely : Prop := fnExactSettledLinesRow.holds Try.pinned (OpenSpec.ofChange fnExactSettledLinesWrong)

/-- 'laws.FnExactStatesOfLines': WHATEVER THE INPUT: true; the input reads as it did. -/
def fnExactStatesOfLinesSpec : ChangeSpec := { name := "fnExactStatesOfLines", fn := fun _ => fun
  | [d1, d2] => { results := [.lit (.bool true)], args := [d1, d2] }
  | _ => none }
def fnExactStatesOfLinesRow : OpenClaim := { program := "ytcnhdcgiapjpoaa", sum := "f448889351b3cc80201c4f2f8f71d7579562c91e164c41abbaf44b13d7507ca1", func := "loop.example/g01054/laws.FnExactStatesOfLines", spec := "fnExactStatesOfLines", apart := false }
def FnExactStatesOfLinesSaid : Prop := fnExactStatesOfLinesRow.holds Try.pinned (OpenSpec.ofChange fnExactStatesOfLinesSpec)

/-- ITS FALSE NEIGHBOUR: 'it returns false'. Refute it at one input. -/
def fnExactStatesOfLinesWrong : ChangeSpec := { name := "fnExactStatesOfLines", fn := fun _ => fun
  | [d1, d2] => { results := [.lit (.bool false)], args := [d1, d2] }
  | _ => none }
def FnExactStatesOfLinesWrongFalsely : Prop := fnExactStatesOfLinesRow.holds Try.pinned (OpenSpec.ofChange fnExactStatesOfLinesWrong)

/-- 'laws.FnExactIsMixedCopy': WHATEVER THE INPUT: true; the input reads as it did. -/
def fnExactIsMixedCopySpec : ChangeSpec := { name := "fnExactIsMixedCopy", fn := fun _ => fun
  | [d1, d2] => { results := [.lit (.bool true)], args := [d1, d2] }
  | _ => none }
def fnExactIsMixedCopyRow : OpenClaim := { program := "ytcnhdcgiapjpoaa", sum := "f448889351b3cc80201c4f2f8f71d7579562c91e164c41abbaf44b13d7507ca1", func := "loop.example/g01054/laws.FnExactIsMixedCopy", spec := "fnExactIsMixedCopy", apart := false }
def FnExactIsMixedCopySaid : Prop := fnExactIsMixedCopyRow.holds Try.pinned (OpenSpec.ofChange fnExactIsMixedCopySpec)

/-- ITS FALSE NEIGHBOUR: 'it returns false'. Refute it at one input. -/
def fnExactIsMixedCopyWrong : ChangeSpec := { name := "fnExactIsMixedCopy", fn := fun _ => fun
  | [d1, d2] => { results := [.lit (.bool false)], args := [d1, d2] }
  | _ => none }
def FnExactIsMixedCopyWrongFalsely : Prop := fnExactIsMixedCopyRow.holds Try.pinned (OpenSpec.ofChange fnExactIsMixedCopyWrong)

/-- 'laws.FnExactCountInState': WHATEVER THE INPUT: true; the input reads as it did. -/
def fnExactCountInStateSpec : ChangeSpec := { name := "fnExactCountInState", fn := fun _ => fun
  | [d1, d2] => { results := [.lit (.bool true)], args := [d1, d2] }
  | _ => none }
def fnExactCountInStateRow : OpenClaim := { program := "ytcnhdcgiapjpoaa", sum := "f448889351b3cc80201c4f2f8f71d7579562c91e164c41abbaf44b13d7507ca1", func := "loop.example/g01054/laws.FnExactCountInState", spec := "fnExactCountInState", apart := false }
def FnExactCountInStateSaid : Prop := fnExactCountInStateRow.holds Try.pinned (OpenSpec.ofChange fnExactCountInStateSpec)

/-- ITS FALSE NEIGHBOUR: 'it returns false'. Refute it at one input. -/
def fnExactCountInStateWrong : ChangeSpec := { name := "fnExactCountInState", fn := fun _ => fun
  | [d1, d2] => { results := [.lit (.bool false)], args := [d1, d2] }
  | _ => none }
def FnExactCountInStateWrongFalsely : Prop := fnExactCountInStateRow.holds Try.pinned (OpenSpec.ofChange fnExactCountInStateWrong)

/-- 'laws.FnExactCopyClasses': WHATEVER THE INPUT: true; the input reads as it did. -/
def fnExactCopyClassesSpec : ChangeSpec := { name := "fnExactCopyClasses", fn := fun _ => fun
  | [d] => { results := [.lit (.bool true)], args := [d] }
  | _ => none }
def fnExactCopyClassesRow : OpenClaim := { program := "ytcnhdcgiapjpoaa", sum := "f448889351b3cc80201c4f2f8f71d7579562c91e164c41abbaf44b13d7507ca1", func := "loop.example/g01054/laws.FnExactCopyClasses", spec := "fnExactCopyClasses", apart := false }
def FnExactCopyClassesSaid : Prop := fnExactCopyClassesRow.holds Try.pinned (OpenSpec.ofChange fnExactCopyClassesSpec)

/-- ITS FALSE NEIGHBOUR: 'it returns false'. Refute it at one input. -/
def fnExactCopyClassesWrong : ChangeSpec := { name := "fnExactCopyClasses", fn := fun _ => fun
  | [d] => { results := [.lit (.bool false)], args := [d] }
  | _ => none }
def FnExactCopyClassesWrongFalsely : Prop := fnExactCopyClassesRow.holds Try.pinned (OpenSpec.ofChange fnExactCopyClassesWrong)

/-- 'laws.FnExactMarksToNext': WHATEVER THE INPUT: true; the input reads as it did. -/
def fnExactMarksToNextSpec : ChangeSpec := { name := "fnExactMarksToNext", fn := fun _ => fun
  | [d1, d2] => { results := [.lit (.bool true)], args := [d1, d2] }
  | _ => none }
def fnExactMarksToNextRow : OpenClaim := { program := "ytcnhdcgiapjpoaa", sum := "f448889351b3cc80201c4f2f8f71d7579562c91e164c41abbaf44b13d7507ca1", func := "loop.example/g01054/laws.FnExactMarksToNext", spec := "fnExactMarksToNext", apart := false }
def FnExactMarksToNextSaid : Prop := fnExactMarksToNextRow.holds Try.pinned (OpenSpec.ofChange fnExactMarksToNextSpec)

/-- ITS FALSE NEIGHBOUR: 'it returns false'. Refute it at one input. -/
def fnExactMarksToNextWrong : ChangeSpec := { name := "fnExactMarksToNext", fn := fun _ => fun
  | [d1, d2] => { results := [.lit (.bool false)], args := [d1, d2] }
  | _ => none }
def FnExactMarksToNextWrongFalsely : Prop := fnExactMarksToNextRow.holds Try.pinned (OpenSpec.ofChange fnExactMarksToNextWrong)

/- THE SECOND FORM. 'bulk': how many values and letters a reading holds, each counted each time it is reached (what is shared counts as often as it is met; a slice's spare places count too). A statement '..UptoSaid' is the law's where the arguments, and the package variables that the reading takes, are together of bulk at most 1048576: NARROWER than '..Said'. Prove '..Said' where nothing that the law and all that it calls make is longer than what came in: it says more and counts as full. Else prove '..UptoSaid'. A law counts once. -/
mutual
def uptoBulk {H : Type} : DataW H → Nat
  | .lit (.string bytes) => bytes.length + 1
  | .lit _ => 1
  | .nil => 1
  | .ptr d => uptoBulk d + 1
  | .slice elems spare => uptoBulkAll elems + uptoBulkAll spare + 1
  | .agg parts => uptoBulkAll parts + 1
  | .iface _ d => uptoBulk d + 1
  | .map entries => uptoBulkEntries entries + 1
  | .held _ => 1
def uptoBulkAll {H : Type} : List (DataW H) → Nat
  | [] => 0
  | d :: r => uptoBulk d + uptoBulkAll r
def uptoBulkEntries {H : Type} : List (Lit × DataW H) → Nat
  | [] => 0
  | x :: r => uptoBulkEntry x + uptoBulkEntries r
def uptoBulkEntry {H : Type} : Lit × DataW H → Nat
  | (.string bytes, d) => bytes.length + uptoBulk d + 1
  | (_, d) => uptoBulk d + 1
 end
def uptoSmall : (H : Type) → List (DataW H) → Bool := fun _ ds => decide (uptoBulkAll ds ≤ 1048576)
def OpenSpec.upto (s : _root_.Go.ChangeSpec) : _root_.Go.OpenSpec := { _root_.Go.OpenSpec.ofChange s with cond := some uptoSmall }

/-- 'laws.FnExactAreStates', WHERE WHAT IT READS IS OF BULK AT MOST 1048576: true; the input reads as it did. -/
def fnExactAreStatesUptoRow : OpenClaim := { program := "ytcnhdcgiapjpoaa", sum := "f448889351b3cc80201c4f2f8f71d7579562c91e164c41abbaf44b13d7507ca1", func := "loop.example/g01054/laws.FnExactAreStates", spec := "fnExactAreStates", apart := false, narrowed := true }
def FnExactAreStatesUptoSaid : Prop := fnExactAreStatesUptoRow.holds Try.pinned (OpenSpec.upto fnExactAreStatesSpec)

/-- 'laws.FnExactStateOfCopy', WHERE WHAT IT READS IS OF BULK AT MOST 1048576: true; the input reads as it did. -/
def fnExactStateOfCopyUptoRow : OpenClaim := { program := "ytcnhdcgiapjpoaa", sum := "f448889351b3cc80201c4f2f8f71d7579562c91e164c41abbaf44b13d7507ca1", func := "loop.example/g01054/laws.FnExactStateOfCopy", spec := "fnExactStateOfCopy", apart := false, narrowed := true }
def FnExactStateOfCopyUptoSaid : Prop := fnExactStateOfCopyUptoRow.holds Try.pinned (OpenSpec.upto fnExactStateOfCopySpec)

/-- 'laws.FnExactChangesOfLine', WHERE WHAT IT READS IS OF BULK AT MOST 1048576: true; the input reads as it did. -/
def fnExactChangesOfLineUptoRow : OpenClaim := { program := "ytcnhdcgiapjpoaa", sum := "f448889351b3cc80201c4f2f8f71d7579562c91e164c41abbaf44b13d7507ca1", func := "loop.example/g01054/laws.FnExactChangesOfLine", spec := "fnExactChangesOfLine", apart := false, narrowed := true }
def FnExactChangesOfLineUptoSaid : Prop := fnExactChangesOfLineUptoRow.holds Try.pinned (OpenSpec.upto fnExactChangesOfLineSpec)

/-- 'laws.FnExactEarliestFor', WHERE WHAT IT READS IS OF BULK AT MOST 1048576: true; the input reads as it did. -/
def fnExactEarliestForUptoRow : OpenClaim := { program := "ytcnhdcgiapjpoaa", sum := "f448889351b3cc80201c4f2f8f71d7579562c91e164c41abbaf44b13d7507ca1", func := "loop.example/g01054/laws.FnExactEarliestFor", spec := "fnExactEarliestFor", apart := false, narrowed := true }
def FnExactEarliestForUptoSaid : Prop := fnExactEarliestForUptoRow.holds Try.pinned (OpenSpec.upto fnExactEarliestForSpec)

/-- 'laws.FnExactChangedBetween', WHERE WHAT IT READS IS OF BULK AT MOST 1048576: true; the input reads as it did. -/
def fnExactChangedBetweenUptoRow : OpenClaim := { program := "ytcnhdcgiapjpoaa", sum := "f448889351b3cc80201c4f2f8f71d7579562c91e164c41abbaf44b13d7507ca1", func := "loop.example/g01054/laws.FnExactChangedBetween", spec := "fnExactChangedBetween", apart := false, narrowed := true }
def FnExactChangedBetweenUptoSaid : Prop := fnExactChangedBetweenUptoRow.holds Try.pinned (OpenSpec.upto fnExactChangedBetweenSpec)

/-- 'laws.FnExactSettledLines', WHERE WHAT IT READS IS OF BULK AT MOST 1048576: true; the input reads as it did. -/
def fnExactSettledLinesUptoRow : OpenClaim := { program := "ytcnhdcgiapjpoaa", sum := "f448889351b3cc80201c4f2f8f71d7579562c91e164c41abbaf44b13d7507ca1", func := "loop.example/g01054/laws.FnExactSettledLines", spec := "fnExactSettledLines", apart := false, narrowed := true }
def FnExactSettledLinesUptoSaid : Prop := fnExactSettledLinesUptoRow.holds Try.pinned (OpenSpec.upto fnExactSettledLinesSpec)

/-- 'laws.FnExactStatesOfLines', WHERE WHAT IT READS IS OF BULK AT MOST 1048576: true; the input reads as it did. -/
def fnExactStatesOfLinesUptoRow : OpenClaim := { program := "ytcnhdcgiapjpoaa", sum := "f448889351b3cc80201c4f2f8f71d7579562c91e164c41abbaf44b13d7507ca1", func := "loop.example/g01054/laws.FnExactStatesOfLines", spec := "fnExactStatesOfLines", apart := false, narrowed := true }
def FnExactStatesOfLinesUptoSaid : Prop := fnExactStatesOfLinesUptoRow.holds Try.pinned (OpenSpec.upto fnExactStatesOfLinesSpec)

/-- 'laws.FnExactIsMixedCopy', WHERE WHAT IT READS IS OF BULK AT MOST 1048576: true; the input reads as it did. -/
def fnExactIsMixedCopyUptoRow : OpenClaim := { program := "ytcnhdcgiapjpoaa", sum := "f448889351b3cc80201c4f2f8f71d7579562c91e164c41abbaf44b13d7507ca1", func := "loop.example/g01054/laws.FnExactIsMixedCopy", spec := "fnExactIsMixedCopy", apart := false, narrowed := true }
def FnExactIsMixedCopyUptoSaid : Prop := fnExactIsMixedCopyUptoRow.holds Try.pinned (OpenSpec.upto fnExactIsMixedCopySpec)

/-- 'laws.FnExactCountInState', WHERE WHAT IT READS IS OF BULK AT MOST 1048576: true; the input reads as it did. -/
def fnExactCountInStateUptoRow : OpenClaim := { program := "ytcnhdcgiapjpoaa", sum := "f448889351b3cc80201c4f2f8f71d7579562c91e164c41abbaf44b13d7507ca1", func := "loop.example/g01054/laws.FnExactCountInState", spec := "fnExactCountInState", apart := false, narrowed := true }
def FnExactCountInStateUptoSaid : Prop := fnExactCountInStateUptoRow.holds Try.pinned (OpenSpec.upto fnExactCountInStateSpec)

/-- 'laws.FnExactCopyClasses', WHERE WHAT IT READS IS OF BULK AT MOST 1048576: true; the input reads as it did. -/
def fnExactCopyClassesUptoRow : OpenClaim := { program := "ytcnhdcgiapjpoaa", sum := "f448889351b3cc80201c4f2f8f71d7579562c91e164c41abbaf44b13d7507ca1", func := "loop.example/g01054/laws.FnExactCopyClasses", spec := "fnExactCopyClasses", apart := false, narrowed := true }
def FnExactCopyClassesUptoSaid : Prop := fnExactCopyClassesUptoRow.holds Try.pinned (OpenSpec.upto fnExactCopyClassesSpec)

/-- 'laws.FnExactMarksToNext', WHERE WHAT IT READS IS OF BULK AT MOST 1048576: true; the input reads as it did. -/
def fnExactMarksToNextUptoRow : OpenClaim := { program := "ytcnhdcgiapjpoaa", sum := "f448889351b3cc80201c4f2f8f71d7579562c91e164c41abbaf44b13d7507ca1", func := "loop.example/g01054/laws.FnExactMarksToNext", spec := "fnExactMarksToNext", apart := false, narrowed := true }
def FnExactMarksToNextUptoSaid : Prop := fnExactMarksToNextUptoRow.holds Try.pinned (OpenSpec.upto fnExactMarksToNextSpec)

end Rows
end Go.Proofs.Ytcnhdcgiapjpoaa
