/- The pure statement of the law FnExactSidesOf: numbers, texts and lists alone. Its conditions are what every readable argument meets. -/
import Derived.Test.YthpgmjlhakdemaaQFnExactSidesOfx4
namespace Go.Proofs.Ythpgmjlhakdemaa.Stmt
open Go.Proofs.Ythpgmjlhakdemaa.PFnExactSidesOf Go.RowKit Go.Proofs.YthpgmjlhakdemaaW.PrintWords Go.Proofs.YthpgmjlhakdemaaW.PrintLast Go.Proofs.YthpgmjlhakdemaaW.PrintMore
def FnExactSidesOf : Prop := ∀ (l0 : List (S54)) (a1 : Int), (l0.length ≤ 9223372036854775807) → ((∀ x ∈ l0, (Lit.int .i64 x.f0).wf = true ∧ (Lit.int .i64 x.f1).wf = true)) → ((Lit.int .i64 a1).wf = true) → ∃ k, laws_FnExactSidesOf.f k l0 a1 = some true
end Go.Proofs.Ythpgmjlhakdemaa.Stmt
