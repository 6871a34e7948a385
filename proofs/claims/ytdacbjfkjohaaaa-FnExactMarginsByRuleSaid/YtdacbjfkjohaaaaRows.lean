/-
  No cell of these rows narrows 'for every input' (looked for: loops, veiled, ifaces, maps, wideKeys, modest, calm, conditions, laid).
  DERIVED. THE GIVEN ROWS OF THIS SEAT. 11 by the template 'for every input the law returns true; each argument reads behind the call as it read before'; 0 by the template 'total and deterministic' (their statements: YtdacbjfkjohaaaaTotals.lean).
  GIVEN WITH THE SEED: the statements are not yours to turn. If you find one false, say at which input.
  Laid BY PROGRAM, IN A SANDBOX (cutbox-rows.mjs): the forced cells as the released guide's own fill.sh prints them over the translation b0b4bfd3bfc10009… (all of the seat's roots in one cut). By AI agents, Wed Nov 11 2026. No macro, syntax, notation, axiom, sorry.
-/
import Derived.Test.YtdacbjfkjohaaaaChecked
import GoSem.Claim
import GoSem.ClaimJoined
import GoSem.ClaimMapViews
import Derived.JoinedTies
import Derived.KernelRfl
namespace Go.Proofs.Ytdacbjfkjohaaaa
/- THE CELL 'sum', in the pinned program and in every row, IS THE sha256 OF THE DUMP (.gsa) THAT YtdacbjfkjohaaaaProg.lean LOADS. Nothing in Lean hashes anything: it is a label: what it is worth is what the hold of that sum in a sandbox is worth. -/
noncomputable def Try.pinned : Pinned := { name := "ytdacbjfkjohaaaa", sum := "b0b4bfd3bfc10009f8693881589d6c94317bb2d5c5580a92672393be33a50fc2", checked := Try.checked }
namespace Rows
def none {H : Type} : Left H := { results := [], args := [] }

/-- 'laws.FnExactIsLayout': WHATEVER THE INPUT: true; the input reads as it did. -/
def fnExactIsLayoutSpec : ChangeSpec := { name := "fnExactIsLayout", fn := fun _ => fun
  | [d1, d2, d3] => { results := [.lit (.bool true)], args := [d1, d2, d3] }
  | _ => none }
def fnExactIsLayoutRow : OpenClaim := { program := "ytdacbjfkjohaaaa", sum := "b0b4bfd3bfc10009f8693881589d6c94317bb2d5c5580a92672393be33a50fc2", func := "loop.example/g01054/laws.FnExactIsLayout", spec := "fnExactIsLayout", apart := false }
def FnExactIsLayoutSaid : Prop := fnExactIsLayoutRow.holds Try.pinned (OpenSpec.ofChange fnExactIsLayoutSpec)

/-- ITS FALSE NEIGHBOUR: 'it returns false'. Refute it at one input. -/
def fnExactIsLayoutWrong : ChangeSpec := { name := "fnExactIsLayout", fn := fun _ => fun
  | [d1, d2, d3] => { results := [.lit (.bool false)], args := [d1, d2, d3] }
  | _ => none }
def FnExactIsLayoutWrongFalsely : Prop := fnExactIsLayoutRow.holds Try.pinned (OpenSpec.ofChange fnExactIsLayoutWrong)

/-- 'laws.FnExactTypeArea': WHATEVER THE INPUT: true; the input reads as it did. -/
def fnExactTypeAreaSpec : ChangeSpec := { name := "fnExactTypeArea", fn := fun _ => fun
  | [d1, d2, d3] => { results := [.lit (.bool true)], args := [d1, d2, d3] }
  | _ => none }
def fnExactTypeAreaRow : OpenClaim := { program := "ytdacbjfkjohaaaa", sum := "b0b4bfd3bfc10009f8693881589d6c94317bb2d5c5580a92672393be33a50fc2", func := "loop.example/g01054/laws.FnExactTypeArea", spec := "fnExactTypeArea", apart := false }
def FnExactTypeAreaSaid : Prop := fnExactTypeAreaRow.holds Try.pinned (OpenSpec.ofChange fnExactTypeAreaSpec)

/-- ITS FALSE NEIGHBOUR: 'it returns false'. Refute it at one input. -/
def fnExactTypeAreaWrong : ChangeSpec := { name := "fnExactTypeArea", fn := fun _ => fun
  | [d1, d2, d3] => { results := [.lit (.bool false)], args := [d1, d2, d3] }
  | _ => none }
def FnExactTypeAreaWrongFalsely : Prop := fnExactTypeAreaRow.holds Try.pinned (OpenSpec.ofChange fnExactTypeAreaWrong)

/-- 'laws.FnExactPlaceOfType': WHATEVER THE INPUT: true; the input reads as it did. -/
def fnExactPlaceOfTypeSpec : ChangeSpec := { name := "fnExactPlaceOfType", fn := fun _ => fun
  | [d1, d2, d3, d4] => { results := [.lit (.bool true)], args := [d1, d2, d3, d4] }
  | _ => none }
def fnExactPlaceOfTypeRow : OpenClaim := { program := "ytdacbjfkjohaaaa", sum := "b0b4bfd3bfc10009f8693881589d6c94317bb2d5c5580a92672393be33a50fc2", func := "loop.example/g01054/laws.FnExactPlaceOfType", spec := "fnExactPlaceOfType", apart := false }
def FnExactPlaceOfTypeSaid : Prop := fnExactPlaceOfTypeRow.holds Try.pinned (OpenSpec.ofChange fnExactPlaceOfTypeSpec)

/-- ITS FALSE NEIGHBOUR: 'it returns false'. Refute it at one input. -/
def fnExactPlaceOfTypeWrong : ChangeSpec := { name := "fnExactPlaceOfType", fn := fun _ => fun
  | [d1, d2, d3, d4] => { results := [.lit (.bool false)], args := [d1, d2, d3, d4] }
  | _ => none }
def FnExactPlaceOfTypeWrongFalsely : Prop := fnExactPlaceOfTypeRow.holds Try.pinned (OpenSpec.ofChange fnExactPlaceOfTypeWrong)

/-- 'laws.FnExactAreFolds': WHATEVER THE INPUT: true; the input reads as it did. -/
def fnExactAreFoldsSpec : ChangeSpec := { name := "fnExactAreFolds", fn := fun _ => fun
  | [d] => { results := [.lit (.bool true)], args := [d] }
  | _ => none }
def fnExactAreFoldsRow : OpenClaim := { program := "ytdacbjfkjohaaaa", sum := "b0b4bfd3bfc10009f8693881589d6c94317bb2d5c5580a92672393be33a50fc2", func := "loop.example/g01054/laws.FnExactAreFolds", spec := "fnExactAreFolds", apart := false }
def FnExactAreFoldsSaid : Prop := fnExactAreFoldsRow.holds Try.pinned (OpenSpec.ofChange fnExactAreFoldsSpec)

/-- ITS FALSE NEIGHBOUR: 'it returns false'. Refute it at one input. -/
def fnExactAreFoldsWrong : ChangeSpec := { name := "fnExactAreFolds", fn := fun _ => fun
  | [d] => { results := [.lit (.bool false)], args := [d] }
  | _ => none }
def FnExactAreFoldsWrongFalsely : Prop := fnExactAreFoldsRow.holds Try.pinned (OpenSpec.ofChange fnExactAreFoldsWrong)

/-- 'laws.FnExactArePieces': WHATEVER THE INPUT: true; the input reads as it did. -/
def fnExactArePiecesSpec : ChangeSpec := { name := "fnExactArePieces", fn := fun _ => fun
  | [d] => { results := [.lit (.bool true)], args := [d] }
  | _ => none }
def fnExactArePiecesRow : OpenClaim := { program := "ytdacbjfkjohaaaa", sum := "b0b4bfd3bfc10009f8693881589d6c94317bb2d5c5580a92672393be33a50fc2", func := "loop.example/g01054/laws.FnExactArePieces", spec := "fnExactArePieces", apart := false }
def FnExactArePiecesSaid : Prop := fnExactArePiecesRow.holds Try.pinned (OpenSpec.ofChange fnExactArePiecesSpec)

/-- ITS FALSE NEIGHBOUR: 'it returns false'. Refute it at one input. -/
def fnExactArePiecesWrong : ChangeSpec := { name := "fnExactArePieces", fn := fun _ => fun
  | [d] => { results := [.lit (.bool false)], args := [d] }
  | _ => none }
def FnExactArePiecesWrongFalsely : Prop := fnExactArePiecesRow.holds Try.pinned (OpenSpec.ofChange fnExactArePiecesWrong)

/-- 'laws.FnExactMarginsByRule': WHATEVER THE INPUT: true; the input reads as it did. -/
def fnExactMarginsByRuleSpec : ChangeSpec := { name := "fnExactMarginsByRule", fn := fun _ => fun
  | [d1, d2, d3] => { results := [.lit (.bool true)], args := [d1, d2, d3] }
  | _ => none }
def fnExactMarginsByRuleRow : OpenClaim := { program := "ytdacbjfkjohaaaa", sum := "b0b4bfd3bfc10009f8693881589d6c94317bb2d5c5580a92672393be33a50fc2", func := "loop.example/g01054/laws.FnExactMarginsByRule", spec := "fnExactMarginsByRule", apart := false }
def FnExactMarginsByRuleSaid : Prop := fnExactMarginsByRuleRow.holds Try.pinned (OpenSpec.ofChange fnExactMarginsByRuleSpec)

/-- ITS FALSE NEIGHBOUR: 'it returns false'. Refute it at one input. -/
def fnExactMarginsByRuleWrong : ChangeSpec := { name := "fnExactMarginsByRule", fn := fun _ => fun
  | [d1, d2, d3] => { results := [.lit (.bool false)], args := [d1, d2, d3] }
  | _ => none }
def FnExactMarginsByRuleWrongFalsely : Prop := fnExactMarginsByRuleRow.holds Try.pinned (OpenSpec.ofChange fnExactMarginsByRuleWrong)

/-- 'laws.FnExactShiftMargins': WHATEVER THE INPUT: true; the input reads as it did. -/
def fnExactShiftMarginsSpec : ChangeSpec := { name := "fnExactShiftMargins", fn := fun _ => fun
  | [d1, d2, d3, d4, d5] => { results := [.lit (.bool true)], args := [d1, d2, d3, d4, d5] }
  | _ => none }
def fnExactShiftMarginsRow : OpenClaim := { program := "ytdacbjfkjohaaaa", sum := "b0b4bfd3bfc10009f8693881589d6c94317bb2d5c5580a92672393be33a50fc2", func := "loop.example/g01054/laws.FnExactShiftMargins", spec := "fnExactShiftMargins", apart := false }
def FnExactShiftMarginsSaid : Prop := fnExactShiftMarginsRow.holds Try.pinned (OpenSpec.ofChange fnExactShiftMarginsSpec)

/-- ITS FALSE NEIGHBOUR: 'it returns false'. Refute it at one input. -/
def fnExactShiftMarginsWrong : ChangeSpec := { name := "fnExactShiftMargins", fn := fun _ => fun
  | [d1, d2, d3, d4, d5] => { results := [.lit (.bool false)], args := [d1, d2, d3, d4, d5] }
  | _ => none }
def FnExactShiftMarginsWrongFalsely : Prop := fnExactShiftMarginsRow.holds Try.pinned (OpenSpec.ofChange fnExactShiftMarginsWrong)

/-- 'laws.FnExactPieceArea': WHATEVER THE INPUT: true; the input reads as it did. -/
def fnExactPieceAreaSpec : ChangeSpec := { name := "fnExactPieceArea", fn := fun _ => fun
  | [d] => { results := [.lit (.bool true)], args := [d] }
  | _ => none }
def fnExactPieceAreaRow : OpenClaim := { program := "ytdacbjfkjohaaaa", sum := "b0b4bfd3bfc10009f8693881589d6c94317bb2d5c5580a92672393be33a50fc2", func := "loop.example/g01054/laws.FnExactPieceArea", spec := "fnExactPieceArea", apart := false }
def FnExactPieceAreaSaid : Prop := fnExactPieceAreaRow.holds Try.pinned (OpenSpec.ofChange fnExactPieceAreaSpec)

/-- ITS FALSE NEIGHBOUR: 'it returns false'. Refute it at one input. -/
def fnExactPieceAreaWrong : ChangeSpec := { name := "fnExactPieceArea", fn := fun _ => fun
  | [d] => { results := [.lit (.bool false)], args := [d] }
  | _ => none }
def FnExactPieceAreaWrongFalsely : Prop := fnExactPieceAreaRow.holds Try.pinned (OpenSpec.ofChange fnExactPieceAreaWrong)

/-- 'laws.FnExactSheetSize': WHATEVER THE INPUT: true; the input reads as it did. -/
def fnExactSheetSizeSpec : ChangeSpec := { name := "fnExactSheetSize", fn := fun _ => fun
  | [d] => { results := [.lit (.bool true)], args := [d] }
  | _ => none }
def fnExactSheetSizeRow : OpenClaim := { program := "ytdacbjfkjohaaaa", sum := "b0b4bfd3bfc10009f8693881589d6c94317bb2d5c5580a92672393be33a50fc2", func := "loop.example/g01054/laws.FnExactSheetSize", spec := "fnExactSheetSize", apart := false }
def FnExactSheetSizeSaid : Prop := fnExactSheetSizeRow.holds Try.pinned (OpenSpec.ofChange fnExactSheetSizeSpec)

/-- ITS FALSE NEIGHBOUR: 'it returns false'. Refute it at one input. -/
def fnExactSheetSizeWrong : ChangeSpec := { name := "fnExactSheetSize", fn := fun _ => fun
  | [d] => { results := [.lit (.bool false)], args := [d] }
  | _ => none }
def FnExactSheetSizeWrongFalsely : Prop := fnExactSheetSizeRow.holds Try.pinned (OpenSpec.ofChange fnExactSheetSizeWrong)

/-- 'laws.FnExactSheetFor': WHATEVER THE INPUT: true; the input reads as it did. -/
def fnExactSheetForSpec : ChangeSpec := { name := "fnExactSheetFor", fn := fun _ => fun
  | [d1, d2, d3, d4] => { results := [.lit (.bool true)], args := [d1, d2, d3, d4] }
  | _ => none }
def fnExactSheetForRow : OpenClaim := { program := "ytdacbjfkjohaaaa", sum := "b0b4bfd3bfc10009f8693881589d6c94317bb2d5c5580a92672393be33a50fc2", func := "loop.example/g01054/laws.FnExactSheetFor", spec := "fnExactSheetFor", apart := false }
def FnExactSheetForSaid : Prop := fnExactSheetForRow.holds Try.pinned (OpenSpec.ofChange fnExactSheetForSpec)

/-- ITS FALSE NEIGHBOUR: 'it returns false'. Refute it at one input. -/
def fnExactSheetForWrong : ChangeSpec := { name := "fnExactSheetFor", fn := fun _ => fun
  | [d1, d2, d3, d4] => { results := [.lit (.bool false)], args := [d1, d2, d3, d4] }
  | _ => none }
def FnExactSheetForWrongFalsely : Prop := fnExactSheetForRow.holds Try.pinned (OpenSpec.ofChange fnExactSheetForWrong)

/-- 'laws.FnExactDoesFitSheet': WHATEVER THE INPUT: true; the input reads as it did. -/
def fnExactDoesFitSheetSpec : ChangeSpec := { name := "fnExactDoesFitSheet", fn := fun _ => fun
  | [d1, d2, d3, d4, d5, d6] => { results := [.lit (.bool true)], args := [d1, d2, d3, d4, d5, d6] }
  | _ => none }
def fnExactDoesFitSheetRow : OpenClaim := { program := "ytdacbjfkjohaaaa", sum := "b0b4bfd3bfc10009f8693881589d6c94317bb2d5c5580a92672393be33a50fc2", func := "loop.example/g01054/laws.FnExactDoesFitSheet", spec := "fnExactDoesFitSheet", apart := false }
def FnExactDoesFitSheetSaid : Prop := fnExactDoesFitSheetRow.holds Try.pinned (OpenSpec.ofChange fnExactDoesFitSheetSpec)

/-- ITS FALSE NEIGHBOUR: 'it returns false'. Refute it at one input. -/
def fnExactDoesFitSheetWrong : ChangeSpec := { name := "fnExactDoesFitSheet", fn := fun _ => fun
  | [d1, d2, d3, d4, d5, d6] => { results := [.lit (.bool false)], args := [d1, d2, d3, d4, d5, d6] }
  | _ => none }
def FnExactDoesFitSheetWrongFalsely : Prop := fnExactDoesFitSheetRow.holds Try.pinned (OpenSpec.ofChange fnExactDoesFitSheetWrong)

/- THE SECOND FORM. 'bulk': how many values and letters a reading holds, each counted each time it is reached (what is shared counts as often as it is met; a slice's spare places count too). A statement '..UptoSaid' is the law's where the arguments, and the package variables that the reading takes, are together of bulk at most 1048576: NARROWER than '..Said'. Prove '..Said' where nothing that the law and all that it calls make is longer than what came in: it says more and counts as full. Else prove '..UptoSaid'. A law counts once. -/
mutual
def uptoBulk {H : Type} : DataW H → Nat
  | .lit (.string bytes) => bytes.length + 1
  | .lit _ => 1
  | .nil => 1
  | .ptr d => uptoBulk d + 1
  | .slice elems spare => uptoBulkAll elems + uptoBulkAll spare + 1
  | .agg parts => uptoBulkAll parts + 1
  | .iface _ d => uptoBulk d + 1
  | .map entries => uptoBulkEntries entries + 1
  | .held _ => 1
def uptoBulkAll {H : Type} : List (DataW H) → Nat
  | [] => 0
  | d :: r => uptoBulk d + uptoBulkAll r
def uptoBulkEntries {H : Type} : List (Lit × DataW H) → Nat
  | [] => 0
  | x :: r => uptoBulkEntry x + uptoBulkEntries r
def uptoBulkEntry {H : Type} : Lit × DataW H → Nat
  | (.string bytes, d) => bytes.length + uptoBulk d + 1
  | (_, d) => uptoBulk d + 1
 end
def uptoSmall : (H : Type) → List (DataW H) → Bool := fun _ ds => decide (uptoBulkAll ds ≤ 1048576)
def OpenSpec.upto (s : _root_.Go.ChangeSpec) : _root_.Go.OpenSpec := { _root_.Go.OpenSpec.ofChange s with cond := some uptoSmall }

/-- 'laws.FnExactIsLayout', WHERE WHAT IT READS IS OF BULK AT MOST 1048576: true; the input reads as it did. -/
def fnExactIsLayoutUptoRow : OpenClaim := { program := "ytdacbjfkjohaaaa", sum := "b0b4bfd3bfc10009f8693881589d6c94317bb2d5c5580a92672393be33a50fc2", func := "loop.example/g01054/laws.FnExactIsLayout", spec := "fnExactIsLayout", apart := false, narrowed := true }
def FnExactIsLayoutUptoSaid : Prop := fnExactIsLayoutUptoRow.holds Try.pinned (OpenSpec.upto fnExactIsLayoutSpec)

/-- 'laws.FnExactTypeArea', WHERE WHAT IT READS IS OF BULK AT MOST 1048576: true; the input reads as it did. -/
def fnExactTypeAreaUptoRow : OpenClaim := { program := "ytdacbjfkjohaaaa", sum := "b0b4bfd3bfc10009f8693881589d6c94317bb2d5c5580a92672393be33a50fc2", func := "loop.example/g01054/laws.FnExactTypeArea", spec := "fnExactTypeArea", apart := false, narrowed := true }
def FnExactTypeAreaUptoSaid : Prop := fnExactTypeAreaUptoRow.holds Try.pinned (OpenSpec.upto fnExactTypeAreaSpec)

/-- 'laws.FnExactPlaceOfType', WHERE WHAT IT READS IS OF BULK AT MOST 1048576: true; the input reads as it did. -/
def fnExactPlaceOfTypeUptoRow : OpenClaim := { program := "ytdacbjfkjohaaaa", sum := "b0b4bfd3bfc10009f8693881589d6c94317bb2d5c5580a92672393be33a50fc2", func := "loop.example/g01054/laws.FnExactPlaceOfType", spec := "fnExactPlaceOfType", apart := false, narrowed := true }
def FnExactPlaceOfTypeUptoSaid : Prop := fnExactPlaceOfTypeUptoRow.holds Try.pinned (OpenSpec.upto fnExactPlaceOfTypeSpec)

/-- 'laws.FnExactAreFolds', WHERE WHAT IT READS IS OF BULK AT MOST 1048576: true; the input reads as it did. -/
def fnExactAreFoldsUptoRow : OpenClaim := { program := "ytdacbjfkjohaaaa", sum := "b0b4bfd3bfc10009f8693881589d6c94317bb2d5c5580a92672393be33a50fc2", func := "loop.example/g01054/laws.FnExactAreFolds", spec := "fnExactAreFolds", apart := false, narrowed := true }
def FnExactAreFoldsUptoSaid : Prop := fnExactAreFoldsUptoRow.holds Try.pinned (OpenSpec.upto fnExactAreFoldsSpec)

/-- 'laws.FnExactArePieces', WHERE WHAT IT READS IS OF BULK AT MOST 1048576: true; the input reads as it did. -/
def fnExactArePiecesUptoRow : OpenClaim := { program := "ytdacbjfkjohaaaa", sum := "b0b4bfd3bfc10009f8693881589d6c94317bb2d5c5580a92672393be33a50fc2", func := "loop.example/g01054/laws.FnExactArePieces", spec := "fnExactArePieces", apart := false, narrowed := true }
def FnExactArePiecesUptoSaid : Prop := fnExactArePiecesUptoRow.holds Try.pinned (OpenSpec.upto fnExactArePiecesSpec)

/-- 'laws.FnExactMarginsByRule', WHERE WHAT IT READS IS OF BULK AT MOST 1048576: true; the input reads as it did. -/
def fnExactMarginsByRuleUptoRow : OpenClaim := { program := "ytdacbjfkjohaaaa", sum := "b0b4bfd3bfc10009f8693881589d6c94317bb2d5c5580a92672393be33a50fc2", func := "loop.example/g01054/laws.FnExactMarginsByRule", spec := "fnExactMarginsByRule", apart := false, narrowed := true }
def FnExactMarginsByRuleUptoSaid : Prop := fnExactMarginsByRuleUptoRow.holds Try.pinned (OpenSpec.upto fnExactMarginsByRuleSpec)

/-- 'laws.FnExactShiftMargins', WHERE WHAT IT READS IS OF BULK AT MOST 1048576: true; the input reads as it did. -/
def fnExactShiftMarginsUptoRow : OpenClaim := { program := "ytdacbjfkjohaaaa", sum := "b0b4bfd3bfc10009f8693881589d6c94317bb2d5c5580a92672393be33a50fc2", func := "loop.example/g01054/laws.FnExactShiftMargins", spec := "fnExactShiftMargins", apart := false, narrowed := true }
def FnExactShiftMarginsUptoSaid : Prop := fnExactShiftMarginsUptoRow.holds Try.pinned (OpenSpec.upto fnExactShiftMarginsSpec)

/-- 'laws.FnExactPieceArea', WHERE WHAT IT READS IS OF BULK AT MOST 1048576: true; the input reads as it did. -/
def fnExactPieceAreaUptoRow : OpenClaim := { program := "ytdacbjfkjohaaaa", sum := "b0b4bfd3bfc10009f8693881589d6c94317bb2d5c5580a92672393be33a50fc2", func := "loop.example/g01054/laws.FnExactPieceArea", spec := "fnExactPieceArea", apart := false, narrowed := true }
def FnExactPieceAreaUptoSaid : Prop := fnExactPieceAreaUptoRow.holds Try.pinned (OpenSpec.upto fnExactPieceAreaSpec)

/-- 'laws.FnExactSheetSize', WHERE WHAT IT READS IS OF BULK AT MOST 1048576: true; the input reads as it did. -/
def fnExactSheetSizeUptoRow : OpenClaim := { program := "ytdacbjfkjohaaaa", sum := "b0b4bfd3bfc10009f8693881589d6c94317bb2d5c5580a92672393be33a50fc2", func := "loop.example/g01054/laws.FnExactSheetSize", spec := "fnExactSheetSize", apart := false, narrowed := true }
def FnExactSheetSizeUptoSaid : Prop := fnExactSheetSizeUptoRow.holds Try.pinned (OpenSpec.upto fnExactSheetSizeSpec)

/-- 'laws.FnExactSheetFor', WHERE WHAT IT READS IS OF BULK AT MOST 1048576: true; the input reads as it did. -/
def fnExactSheetForUptoRow : OpenClaim := { program := "ytdacbjfkjohaaaa", sum := "b0b4bfd3bfc10009f8693881589d6c94317bb2d5c5580a92672393be33a50fc2", func := "loop.example/g01054/laws.FnExactSheetFor", spec := "fnExactSheetFor", apart := false, narrowed := true }
def FnExactSheetForUptoSaid : Prop := fnExactSheetForUptoRow.holds Try.pinned (OpenSpec.upto fnExactSheetForSpec)

/-- 'laws.FnExactDoesFitSheet', WHERE WHAT IT READS IS OF BULK AT MOST 1048576: true; the input reads as it did. -/
def fnExactDoesFitSheetUptoRow : OpenClaim := { program := "ytdacbjfkjohaaaa", sum := "b0b4bfd3bfc10009f8693881589d6c94317bb2d5c5580a92672393be33a50fc2", func := "loop.example/g01054/laws.FnExactDoesFitSheet", spec := "fnExactDoesFitSheet", apart := false, narrowed := true }
def FnExactDoesFitSheetUptoSaid : Prop := fnExactDoesFitSheetUptoRow.holds Try.pinned (OpenSpec.upto fnExactDoesFitSheetSpec)

end Rows
end Go.Proofs.Ytdacbjfkjohaaaa
