/-
  No cell of these rows narrows 'for every input' (looked for: loops, veiled, ifaces, maps, wideKeys, modest, calm, conditions, laid).
  DERIVED. THE GIVEN ROWS OF THIS SEAT. 5 by the template 'for every input the law returns true; each argument reads behind the call as it read before'; 0 by the template 'total and deterministic' (their statements: YthpgmjlhakdemaaTotals.lean).
  GIVEN WITH THE SEED: the statements are not yours to turn. If you find one false, say at which input.
  Laid BY PROGRAM, IN A SANDBOX (cutbox-rows.mjs): the forced cells as the released guide's own fill.sh prints them over the translation 964c5f304a22c726… (all of the seat's roots in one cut). By AI agents, Wed Nov 11 2026. No macro, syntax, notation, axiom, sorry.
-/
import Derived.Test.YthpgmjlhakdemaaChecked
import GoSem.Claim
import GoSem.ClaimJoined
import GoSem.ClaimMapViews
import Derived.JoinedTies
import Derived.KernelRfl
namespace Go.Proofs.Ythpgmjlhakdemaa
/- THE CELL 'sum', in the pinned program and in every row, IS THE sha256 OF THE DUMP (.gsa) THAT YthpgmjlhakdemaaProg.lean LOADS. Nothing in Lean hashes anything: it is a label: what it is worth is what the hold of that sum in a sandbox is worth. -/
noncomputable def Try.pinned : Pinned := { name := "ythpgmjlhakdemaa", sum := "964c5f304a22c72604904158f317437aebb047f8494b3319f88282c9d2b6ed49", checked := Try.checked }
namespace Rows
def none {H : Type} : Left H := { results := [], args := [] }

/-- 'laws.FnExactSidesOf': WHATEVER THE INPUT: true; the input reads as it did. -/
def fnExactSidesOfSpec : ChangeSpec := { name := "fnExactSidesOf", fn := fun _ => fun
  | [d1, d2] => { results := [.lit (.bool true)], args := [d1, d2] }
  | _ => none }
def fnExactSidesOfRow : OpenClaim := { program := "ythpgmjlhakdemaa", sum := "964c5f304a22c72604904158f317437aebb047f8494b3319f88282c9d2b6ed49", func := "loop.example/g01054/laws.FnExactSidesOf", spec := "fnExactSidesOf", apart := false }
def FnExactSidesOfSaid : Prop := fnExactSidesOfRow.holds Try.pinned (OpenSpec.ofChange fnExactSidesOfSpec)

/-- ITS FALSE NEIGHBOUR: 'it returns false'. Refute it at one input. -/
def fnExactSidesOfWrong : ChangeSpec := { name := "fnExactSidesOf", fn := fun _ => fun
  | [d1, d2] => { results := [.lit (.bool false)], args := [d1, d2] }
  | _ => none }
def FnExactSidesOfWrongFalsely : Prop := fnExactSidesOfRow.holds Try.pinned (OpenSpec.ofChange fnExactSidesOfWrong)

/-- 'laws.FnExactWhyNotFilled': WHATEVER THE INPUT: true; the input reads as it did. -/
def fnExactWhyNotFilledSpec : ChangeSpec := { name := "fnExactWhyNotFilled", fn := fun _ => fun
  | [d1, d2, d3] => { results := [.lit (.bool true)], args := [d1, d2, d3] }
  | _ => none }
def fnExactWhyNotFilledRow : OpenClaim := { program := "ythpgmjlhakdemaa", sum := "964c5f304a22c72604904158f317437aebb047f8494b3319f88282c9d2b6ed49", func := "loop.example/g01054/laws.FnExactWhyNotFilled", spec := "fnExactWhyNotFilled", recurses := true, apart := false }
def FnExactWhyNotFilledSaid : Prop := fnExactWhyNotFilledRow.holds Try.pinned (OpenSpec.ofChange fnExactWhyNotFilledSpec)

/-- ITS FALSE NEIGHBOUR: 'it returns false'. Refute it at one input. -/
def fnExactWhyNotFilledWrong : ChangeSpec := { name := "fnExactWhyNotFilled", fn := fun _ => fun
  | [d1, d2, d3] => { results := [.lit (.bool false)], args := [d1, d2, d3] }
  | _ => none }
def FnExactWhyNotFilledWrongFalsely : Prop := fnExactWhyNotFilledRow.holds Try.pinned (OpenSpec.ofChange fnExactWhyNotFilledWrong)

/-- 'laws.FnExactFillChase': WHATEVER THE INPUT: true; the input reads as it did. -/
def fnExactFillChaseSpec : ChangeSpec := { name := "fnExactFillChase", fn := fun _ => fun
  | [d1, d2, d3] => { results := [.lit (.bool true)], args := [d1, d2, d3] }
  | _ => none }
def fnExactFillChaseRow : OpenClaim := { program := "ythpgmjlhakdemaa", sum := "964c5f304a22c72604904158f317437aebb047f8494b3319f88282c9d2b6ed49", func := "loop.example/g01054/laws.FnExactFillChase", spec := "fnExactFillChase", recurses := true, apart := false }
def FnExactFillChaseSaid : Prop := fnExactFillChaseRow.holds Try.pinned (OpenSpec.ofChange fnExactFillChaseSpec)

/-- ITS FALSE NEIGHBOUR: 'it returns false'. Refute it at one input. -/
def fnExactFillChaseWrong : ChangeSpec := { name := "fnExactFillChase", fn := fun _ => fun
  | [d1, d2, d3] => { results := [.lit (.bool false)], args := [d1, d2, d3] }
  | _ => none }
def FnExactFillChaseWrongFalsely : Prop := fnExactFillChaseRow.holds Try.pinned (OpenSpec.ofChange fnExactFillChaseWrong)

/-- 'laws.FnExactFewestRows': WHATEVER THE INPUT: true; the input reads as it did. -/
def fnExactFewestRowsSpec : ChangeSpec := { name := "fnExactFewestRows", fn := fun _ => fun
  | [d1, d2, d3, d4] => { results := [.lit (.bool true)], args := [d1, d2, d3, d4] }
  | _ => none }
def fnExactFewestRowsRow : OpenClaim := { program := "ythpgmjlhakdemaa", sum := "964c5f304a22c72604904158f317437aebb047f8494b3319f88282c9d2b6ed49", func := "loop.example/g01054/laws.FnExactFewestRows", spec := "fnExactFewestRows", recurses := true, apart := false }
def FnExactFewestRowsSaid : Prop := fnExactFewestRowsRow.holds Try.pinned (OpenSpec.ofChange fnExactFewestRowsSpec)

/-- ITS FALSE NEIGHBOUR: 'it returns false'. Refute it at one input. -/
def fnExactFewestRowsWrong : ChangeSpec := { name := "fnExactFewestRows", fn := fun _ => fun
  | [d1, d2, d3, d4] => { results := [.lit (.bool false)], args := [d1, d2, d3, d4] }
  | _ => none }
def FnExactFewestRowsWrongFalsely : Prop := fnExactFewestRowsRow.holds Try.pinned (OpenSpec.ofChange fnExactFewestRowsWrong)

/-- 'laws.FnExactFewestColumnQuoins': WHATEVER THE INPUT: true; the input reads as it did. -/
def fnExactFewestColumnQuoinsSpec : ChangeSpec := { name := "fnExactFewestColumnQuoins", fn := fun _ => fun
  | [d1, d2, d3, d4] => { results := [.lit (.bool true)], args := [d1, d2, d3, d4] }
  | _ => none }
def fnExactFewestColumnQuoinsRow : OpenClaim := { program := "ythpgmjlhakdemaa", sum := "964c5f304a22c72604904158f317437aebb047f8494b3319f88282c9d2b6ed49", func := "loop.example/g01054/laws.FnExactFewestColumnQuoins", spec := "fnExactFewestColumnQuoins", recurses := true, apart := false }
def FnExactFewestColumnQuoinsSaid : Prop := fnExactFewestColumnQuoinsRow.holds Try.pinned (OpenSpec.ofChange fnExactFewestColumnQuoinsSpec)

/-- ITS FALSE NEIGHBOUR: 'it returns false'. Refute it at one input. -/
def fnExactFewestColumnQuoinsWrong : ChangeSpec := { name := "fnExactFewestColumnQuoins", fn := fun _ => fun
  | [d1, d2, d3, d4] => { results := [.lit (.bool false)], args := [d1, d2, d3, d4] }
  | _ => none }
def FnExactFewestColumnQuoinsWrongFalsely : Prop := fnExactFewestColumnQuoinsRow.holds Try.pinned (OpenSpec.ofChange fnExactFewestColumnQuoinsWrong)

/- THE SECOND FORM. 'bulk': how many values and letters a reading holds, each counted each time it is reached (what is shared counts as often as it is met; a slice's spare places count too). A statement '..UptoSaid' is the law's where the arguments, and the package variables that the reading takes, are together of bulk at most 1048576: NARROWER than '..Said'. Prove '..Said' where nothing that the law and all that it calls make is longer than what came in: it says more and counts as full. Else prove '..UptoSaid'. A law counts once. -/
mutual
def uptoBulk {H : Type} : DataW H → Nat
  | .lit (.string bytes) => bytes.length + 1
  | .lit _ => 1
  | .nil => 1
  | .ptr d => uptoBulk d + 1
  | .slice elems spare => uptoBulkAll elems + uptoBulkAll spare + 1
  | .agg parts => uptoBulkAll parts + 1
  | .iface _ d => uptoBulk d + 1
  | .map entries => uptoBulkEntries entries + 1
  | .held _ => 1
def uptoBulkAll {H : Type} : List (DataW H) → Nat
  | [] => 0
  | d :: r => uptoBulk d + uptoBulkAll r
def uptoBulkEntries {H : Type} : List (Lit × DataW H) → Nat
  | [] => 0
  | x :: r => uptoBulkEntry x + uptoBulkEntries r
def uptoBulkEntry {H : Type} : Lit × DataW H → Nat
  | (.string bytes, d) => bytes.length + uptoBulk d + 1
  | (_, d) => uptoBulk d + 1
 end
def uptoSmall : (H : Type) → List (DataW H) → Bool := fun _ ds => decide (uptoBulkAll ds ≤ 1048576)
def OpenSpec.upto (s : _root_.Go.ChangeSpec) : _root_.Go.OpenSpec := { _root_.Go.OpenSpec.ofChange s with cond := some uptoSmall }

/-- 'laws.FnExactSidesOf', WHERE WHAT IT READS IS OF BULK AT MOST 1048576: true; the input reads as it did. -/
def fnExactSidesOfUptoRow : OpenClaim := { program := "ythpgmjlhakdemaa", sum := "964c5f304a22c72604904158f317437aebb047f8494b3319f88282c9d2b6ed49", func := "loop.example/g01054/laws.FnExactSidesOf", spec := "fnExactSidesOf", apart := false, narrowed := true }
def FnExactSidesOfUptoSaid : Prop := fnExactSidesOfUptoRow.holds Try.pinned (OpenSpec.upto fnExactSidesOfSpec)

/-- 'laws.FnExactWhyNotFilled', WHERE WHAT IT READS IS OF BULK AT MOST 1048576: true; the input reads as it did. -/
def fnExactWhyNotFilledUptoRow : OpenClaim := { program := "ythpgmjlhakdemaa", sum := "964c5f304a22c72604904158f317437aebb047f8494b3319f88282c9d2b6ed49", func := "loop.example/g01054/laws.FnExactWhyNotFilled", spec := "fnExactWhyNotFilled", recurses := true, apart := false, narrowed := true }
def FnExactWhyNotFilledUptoSaid : Prop := fnExactWhyNotFilledUptoRow.holds Try.pinned (OpenSpec.upto fnExactWhyNotFilledSpec)

/-- 'laws.FnExactFillChase', WHERE WHAT IT READS IS OF BULK AT MOST 1048576: true; the input reads as it did. -/
def fnExactFillChaseUptoRow : OpenClaim := { program := "ythpgmjlhakdemaa", sum := "964c5f304a22c72604904158f317437aebb047f8494b3319f88282c9d2b6ed49", func := "loop.example/g01054/laws.FnExactFillChase", spec := "fnExactFillChase", recurses := true, apart := false, narrowed := true }
def FnExactFillChaseUptoSaid : Prop := fnExactFillChaseUptoRow.holds Try.pinned (OpenSpec.upto fnExactFillChaseSpec)

/-- 'laws.FnExactFewestRows', WHERE WHAT IT READS IS OF BULK AT MOST 1048576: true; the input reads as it did. -/
def fnExactFewestRowsUptoRow : OpenClaim := { program := "ythpgmjlhakdemaa", sum := "964c5f304a22c72604904158f317437aebb047f8494b3319f88282c9d2b6ed49", func := "loop.example/g01054/laws.FnExactFewestRows", spec := "fnExactFewestRows", recurses := true, apart := false, narrowed := true }
def FnExactFewestRowsUptoSaid : Prop := fnExactFewestRowsUptoRow.holds Try.pinned (OpenSpec.upto fnExactFewestRowsSpec)

/-- 'laws.FnExactFewestColumnQuoins', WHERE WHAT IT READS IS OF BULK AT MOST 1048576: true; the input reads as it did. -/
def fnExactFewestColumnQuoinsUptoRow : OpenClaim := { program := "ythpgmjlhakdemaa", sum := "964c5f304a22c72604904158f317437aebb047f8494b3319f88282c9d2b6ed49", func := "loop.example/g01054/laws.FnExactFewestColumnQuoins", spec := "fnExactFewestColumnQuoins", recurses := true, apart := false, narrowed := true }
def FnExactFewestColumnQuoinsUptoSaid : Prop := fnExactFewestColumnQuoinsUptoRow.holds Try.pinned (OpenSpec.upto fnExactFewestColumnQuoinsSpec)

end Rows
end Go.Proofs.Ythpgmjlhakdemaa
