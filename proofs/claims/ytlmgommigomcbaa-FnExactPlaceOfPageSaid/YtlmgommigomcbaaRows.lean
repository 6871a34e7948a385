/-
  No cell of these rows narrows 'for every input' (looked for: loops, veiled, ifaces, maps, wideKeys, modest, calm, conditions, laid).
  DERIVED. THE GIVEN ROWS OF THIS SEAT. 7 by the template 'for every input the law returns true; each argument reads behind the call as it read before'; 0 by the template 'total and deterministic' (their statements: YtlmgommigomcbaaTotals.lean).
  GIVEN WITH THE SEED: the statements are not yours to turn. If you find one false, say at which input.
  Laid BY PROGRAM, IN A SANDBOX (cutbox-rows.mjs): the forced cells as the released guide's own fill.sh prints them over the translation 4dbc1dc6c374551f… (all of the seat's roots in one cut). By AI agents, Wed Nov 11 2026. No macro, syntax, notation, axiom, sorry.
-/
import Derived.Test.YtlmgommigomcbaaChecked
import GoSem.Claim
import GoSem.ClaimJoined
import GoSem.ClaimMapViews
import Derived.JoinedTies
import Derived.KernelRfl
namespace Go.Proofs.Ytlmgommigomcbaa
/- THE CELL 'sum', in the pinned program and in every row, IS THE sha256 OF THE DUMP (.gsa) THAT YtlmgommigomcbaaProg.lean LOADS. Nothing in Lean hashes anything: it is a label: what it is worth is what the hold of that sum in a sandbox is worth. -/
noncomputable def Try.pinned : Pinned := { name := "ytlmgommigomcbaa", sum := "4dbc1dc6c374551ffdd4ff049c6804b14bf6ca5afff77f09a80b83c981a475e0", checked := Try.checked }
namespace Rows
def none {H : Type} : Left H := { results := [], args := [] }

/-- 'laws.FnExactPageInSignature': WHATEVER THE INPUT: true; the input reads as it did. -/
def fnExactPageInSignatureSpec : ChangeSpec := { name := "fnExactPageInSignature", fn := fun _ => fun
  | [d1, d2] => { results := [.lit (.bool true)], args := [d1, d2] }
  | _ => none }
def fnExactPageInSignatureRow : OpenClaim := { program := "ytlmgommigomcbaa", sum := "4dbc1dc6c374551ffdd4ff049c6804b14bf6ca5afff77f09a80b83c981a475e0", func := "loop.example/g01054/laws.FnExactPageInSignature", spec := "fnExactPageInSignature", apart := false }
def FnExactPageInSignatureSaid : Prop := fnExactPageInSignatureRow.holds Try.pinned (OpenSpec.ofChange fnExactPageInSignatureSpec)

/-- ITS FALSE NEIGHBOUR: 'it returns false'. Refute it at one input. -/
def fnExactPageInSignatureWrong : ChangeSpec := { name := "fnExactPageInSignature", fn := fun _ => fun
  | [d1, d2] => { results := [.lit (.bool false)], args := [d1, d2] }
  | _ => none }
def FnExactPageInSignatureWrongFalsely : Prop := fnExactPageInSignatureRow.holds Try.pinned (OpenSpec.ofChange fnExactPageInSignatureWrong)

/-- 'laws.FnExactSignaturesFor': WHATEVER THE INPUT: true; the input reads as it did. -/
def fnExactSignaturesForSpec : ChangeSpec := { name := "fnExactSignaturesFor", fn := fun _ => fun
  | [d1, d2] => { results := [.lit (.bool true)], args := [d1, d2] }
  | _ => none }
def fnExactSignaturesForRow : OpenClaim := { program := "ytlmgommigomcbaa", sum := "4dbc1dc6c374551ffdd4ff049c6804b14bf6ca5afff77f09a80b83c981a475e0", func := "loop.example/g01054/laws.FnExactSignaturesFor", spec := "fnExactSignaturesFor", apart := false }
def FnExactSignaturesForSaid : Prop := fnExactSignaturesForRow.holds Try.pinned (OpenSpec.ofChange fnExactSignaturesForSpec)

/-- ITS FALSE NEIGHBOUR: 'it returns false'. Refute it at one input. -/
def fnExactSignaturesForWrong : ChangeSpec := { name := "fnExactSignaturesFor", fn := fun _ => fun
  | [d1, d2] => { results := [.lit (.bool false)], args := [d1, d2] }
  | _ => none }
def FnExactSignaturesForWrongFalsely : Prop := fnExactSignaturesForRow.holds Try.pinned (OpenSpec.ofChange fnExactSignaturesForWrong)

/-- 'laws.FnExactFacingPages': WHATEVER THE INPUT: true; the input reads as it did. -/
def fnExactFacingPagesSpec : ChangeSpec := { name := "fnExactFacingPages", fn := fun _ => fun
  | [d1, d2] => { results := [.lit (.bool true)], args := [d1, d2] }
  | _ => none }
def fnExactFacingPagesRow : OpenClaim := { program := "ytlmgommigomcbaa", sum := "4dbc1dc6c374551ffdd4ff049c6804b14bf6ca5afff77f09a80b83c981a475e0", func := "loop.example/g01054/laws.FnExactFacingPages", spec := "fnExactFacingPages", apart := false }
def FnExactFacingPagesSaid : Prop := fnExactFacingPagesRow.holds Try.pinned (OpenSpec.ofChange fnExactFacingPagesSpec)

/-- ITS FALSE NEIGHBOUR: 'it returns false'. Refute it at one input. -/
def fnExactFacingPagesWrong : ChangeSpec := { name := "fnExactFacingPages", fn := fun _ => fun
  | [d1, d2] => { results := [.lit (.bool false)], args := [d1, d2] }
  | _ => none }
def FnExactFacingPagesWrongFalsely : Prop := fnExactFacingPagesRow.holds Try.pinned (OpenSpec.ofChange fnExactFacingPagesWrong)

/-- 'laws.FnExactPlaceOfPage': WHATEVER THE INPUT: true; the input reads as it did. -/
def fnExactPlaceOfPageSpec : ChangeSpec := { name := "fnExactPlaceOfPage", fn := fun _ => fun
  | [d1, d2] => { results := [.lit (.bool true)], args := [d1, d2] }
  | _ => none }
def fnExactPlaceOfPageRow : OpenClaim := { program := "ytlmgommigomcbaa", sum := "4dbc1dc6c374551ffdd4ff049c6804b14bf6ca5afff77f09a80b83c981a475e0", func := "loop.example/g01054/laws.FnExactPlaceOfPage", spec := "fnExactPlaceOfPage", apart := false }
def FnExactPlaceOfPageSaid : Prop := fnExactPlaceOfPageRow.holds Try.pinned (OpenSpec.ofChange fnExactPlaceOfPageSpec)

/-- ITS FALSE NEIGHBOUR: 'it returns false'. Refute it at one input. -/
def fnExactPlaceOfPageWrong : ChangeSpec := { name := "fnExactPlaceOfPage", fn := fun _ => fun
  | [d1, d2] => { results := [.lit (.bool false)], args := [d1, d2] }
  | _ => none }
def FnExactPlaceOfPageWrongFalsely : Prop := fnExactPlaceOfPageRow.holds Try.pinned (OpenSpec.ofChange fnExactPlaceOfPageWrong)

/-- 'laws.FnExactLeafOrder': WHATEVER THE INPUT: true; the input reads as it did. -/
def fnExactLeafOrderSpec : ChangeSpec := { name := "fnExactLeafOrder", fn := fun _ => fun
  | [d] => { results := [.lit (.bool true)], args := [d] }
  | _ => none }
def fnExactLeafOrderRow : OpenClaim := { program := "ytlmgommigomcbaa", sum := "4dbc1dc6c374551ffdd4ff049c6804b14bf6ca5afff77f09a80b83c981a475e0", func := "loop.example/g01054/laws.FnExactLeafOrder", spec := "fnExactLeafOrder", apart := false }
def FnExactLeafOrderSaid : Prop := fnExactLeafOrderRow.holds Try.pinned (OpenSpec.ofChange fnExactLeafOrderSpec)

/-- ITS FALSE NEIGHBOUR: 'it returns false'. Refute it at one input. -/
def fnExactLeafOrderWrong : ChangeSpec := { name := "fnExactLeafOrder", fn := fun _ => fun
  | [d] => { results := [.lit (.bool false)], args := [d] }
  | _ => none }
def FnExactLeafOrderWrongFalsely : Prop := fnExactLeafOrderRow.holds Try.pinned (OpenSpec.ofChange fnExactLeafOrderWrong)

/-- 'laws.FnExactPagesOnBack': WHATEVER THE INPUT: true; the input reads as it did. -/
def fnExactPagesOnBackSpec : ChangeSpec := { name := "fnExactPagesOnBack", fn := fun _ => fun
  | [d] => { results := [.lit (.bool true)], args := [d] }
  | _ => none }
def fnExactPagesOnBackRow : OpenClaim := { program := "ytlmgommigomcbaa", sum := "4dbc1dc6c374551ffdd4ff049c6804b14bf6ca5afff77f09a80b83c981a475e0", func := "loop.example/g01054/laws.FnExactPagesOnBack", spec := "fnExactPagesOnBack", apart := false }
def FnExactPagesOnBackSaid : Prop := fnExactPagesOnBackRow.holds Try.pinned (OpenSpec.ofChange fnExactPagesOnBackSpec)

/-- ITS FALSE NEIGHBOUR: 'it returns false'. Refute it at one input. -/
def fnExactPagesOnBackWrong : ChangeSpec := { name := "fnExactPagesOnBack", fn := fun _ => fun
  | [d] => { results := [.lit (.bool false)], args := [d] }
  | _ => none }
def FnExactPagesOnBackWrongFalsely : Prop := fnExactPagesOnBackRow.holds Try.pinned (OpenSpec.ofChange fnExactPagesOnBackWrong)

/-- 'laws.FnExactPagesOnFront': WHATEVER THE INPUT: true; the input reads as it did. -/
def fnExactPagesOnFrontSpec : ChangeSpec := { name := "fnExactPagesOnFront", fn := fun _ => fun
  | [d] => { results := [.lit (.bool true)], args := [d] }
  | _ => none }
def fnExactPagesOnFrontRow : OpenClaim := { program := "ytlmgommigomcbaa", sum := "4dbc1dc6c374551ffdd4ff049c6804b14bf6ca5afff77f09a80b83c981a475e0", func := "loop.example/g01054/laws.FnExactPagesOnFront", spec := "fnExactPagesOnFront", apart := false }
def FnExactPagesOnFrontSaid : Prop := fnExactPagesOnFrontRow.holds Try.pinned (OpenSpec.ofChange fnExactPagesOnFrontSpec)

/-- ITS FALSE NEIGHBOUR: 'it returns false'. Refute it at one input. -/
def fnExactPagesOnFrontWrong : ChangeSpec := { name := "fnExactPagesOnFront", fn := fun _ => fun
  | [d] => { results := [.lit (.bool false)], args := [d] }
  | _ => none }
def FnExactPagesOnFrontWrongFalsely : Prop := fnExactPagesOnFrontRow.holds Try.pinned (OpenSpec.ofChange fnExactPagesOnFrontWrong)

/- THE SECOND FORM. 'bulk': how many values and letters a reading holds, each counted each time it is reached (what is shared counts as often as it is met; a slice's spare places count too). A statement '..UptoSaid' is the law's where the arguments, and the package variables that the reading takes, are together of bulk at most 1048576: NARROWER than '..Said'. Prove '..Said' where nothing that the law and all that it calls make is longer than what came in: it says more and counts as full. Else prove '..UptoSaid'. A law counts once. -/
mutual
def uptoBulk {H : Type} : DataW H → Nat
  | .lit (.string bytes) => bytes.length + 1
  | .lit _ => 1
  | .nil => 1
  | .ptr d => uptoBulk d + 1
  | .slice elems spare => uptoBulkAll elems + uptoBulkAll spare + 1
  | .agg parts => uptoBulkAll parts + 1
  | .iface _ d => uptoBulk d + 1
  | .map entries => uptoBulkEntries entries + 1
  | .held _ => 1
def uptoBulkAll {H : Type} : List (DataW H) → Nat
  | [] => 0
  | d :: r => uptoBulk d + uptoBulkAll r
def uptoBulkEntries {H : Type} : List (Lit × DataW H) → Nat
  | [] => 0
  | x :: r => uptoBulkEntry x + uptoBulkEntries r
def uptoBulkEntry {H : Type} : Lit × DataW H → Nat
  | (.string bytes, d) => bytes.length + uptoBulk d + 1
  | (_, d) => uptoBulk d + 1
 end
def uptoSmall : (H : Type) → List (DataW H) → Bool := fun _ ds => decide (uptoBulkAll ds ≤ 1048576)
def OpenSpec.upto (s : _root_.Go.ChangeSpec) : _root_.Go.OpenSpec := { _root_.Go.OpenSpec.ofChange s with cond := some uptoSmall }

/-- 'laws.FnExactPageInSignature', WHERE WHAT IT READS IS OF BULK AT MOST 1048576: true; the input reads as it did. -/
def fnExactPageInSignatureUptoRow : OpenClaim := { program := "ytlmgommigomcbaa", sum := "4dbc1dc6c374551ffdd4ff049c6804b14bf6ca5afff77f09a80b83c981a475e0", func := "loop.example/g01054/laws.FnExactPageInSignature", spec := "fnExactPageInSignature", apart := false, narrowed := true }
def FnExactPageInSignatureUptoSaid : Prop := fnExactPageInSignatureUptoRow.holds Try.pinned (OpenSpec.upto fnExactPageInSignatureSpec)

/-- 'laws.FnExactSignaturesFor', WHERE WHAT IT READS IS OF BULK AT MOST 1048576: true; the input reads as it did. -/
def fnExactSignaturesForUptoRow : OpenClaim := { program := "ytlmgommigomcbaa", sum := "4dbc1dc6c374551ffdd4ff049c6804b14bf6ca5afff77f09a80b83c981a475e0", func := "loop.example/g01054/laws.FnExactSignaturesFor", spec := "fnExactSignaturesFor", apart := false, narrowed := true }
def FnExactSignaturesForUptoSaid : Prop := fnExactSignaturesForUptoRow.holds Try.pinned (OpenSpec.upto fnExactSignaturesForSpec)

/-- 'laws.FnExactFacingPages', WHERE WHAT IT READS IS OF BULK AT MOST 1048576: true; the input reads as it did. -/
def fnExactFacingPagesUptoRow : OpenClaim := { program := "ytlmgommigomcbaa", sum := "4dbc1dc6c374551ffdd4ff049c6804b14bf6ca5afff77f09a80b83c981a475e0", func := "loop.example/g01054/laws.FnExactFacingPages", spec := "fnExactFacingPages", apart := false, narrowed := true }
def FnExactFacingPagesUptoSaid : Prop := fnExactFacingPagesUptoRow.holds Try.pinned (OpenSpec.upto fnExactFacingPagesSpec)

/-- 'laws.FnExactPlaceOfPage', WHERE WHAT IT READS IS OF BULK AT MOST 1048576: true; the input reads as it did. -/
def fnExactPlaceOfPageUptoRow : OpenClaim := { program := "ytlmgommigomcbaa", sum := "4dbc1dc6c374551ffdd4ff049c6804b14bf6ca5afff77f09a80b83c981a475e0", func := "loop.example/g01054/laws.FnExactPlaceOfPage", spec := "fnExactPlaceOfPage", apart := false, narrowed := true }
def FnExactPlaceOfPageUptoSaid : Prop := fnExactPlaceOfPageUptoRow.holds Try.pinned (OpenSpec.upto fnExactPlaceOfPageSpec)

/-- 'laws.FnExactLeafOrder', WHERE WHAT IT READS IS OF BULK AT MOST 1048576: true; the input reads as it did. -/
def fnExactLeafOrderUptoRow : OpenClaim := { program := "ytlmgommigomcbaa", sum := "4dbc1dc6c374551ffdd4ff049c6804b14bf6ca5afff77f09a80b83c981a475e0", func := "loop.example/g01054/laws.FnExactLeafOrder", spec := "fnExactLeafOrder", apart := false, narrowed := true }
def FnExactLeafOrderUptoSaid : Prop := fnExactLeafOrderUptoRow.holds Try.pinned (OpenSpec.upto fnExactLeafOrderSpec)

/-- 'laws.FnExactPagesOnBack', WHERE WHAT IT READS IS OF BULK AT MOST 1048576: true; the input reads as it did. -/
def fnExactPagesOnBackUptoRow : OpenClaim := { program := "ytlmgommigomcbaa", sum := "4dbc1dc6c374551ffdd4ff049c6804b14bf6ca5afff77f09a80b83c981a475e0", func := "loop.example/g01054/laws.FnExactPagesOnBack", spec := "fnExactPagesOnBack", apart := false, narrowed := true }
def FnExactPagesOnBackUptoSaid : Prop := fnExactPagesOnBackUptoRow.holds Try.pinned (OpenSpec.upto fnExactPagesOnBackSpec)

/-- 'laws.FnExactPagesOnFront', WHERE WHAT IT READS IS OF BULK AT MOST 1048576: true; the input reads as it did. -/
def fnExactPagesOnFrontUptoRow : OpenClaim := { program := "ytlmgommigomcbaa", sum := "4dbc1dc6c374551ffdd4ff049c6804b14bf6ca5afff77f09a80b83c981a475e0", func := "loop.example/g01054/laws.FnExactPagesOnFront", spec := "fnExactPagesOnFront", apart := false, narrowed := true }
def FnExactPagesOnFrontUptoSaid : Prop := fnExactPagesOnFrontUptoRow.holds Try.pinned (OpenSpec.upto fnExactPagesOnFrontSpec)

end Rows
end Go.Proofs.Ytlmgommigomcbaa
