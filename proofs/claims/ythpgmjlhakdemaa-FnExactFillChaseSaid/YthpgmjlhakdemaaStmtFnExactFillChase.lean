/- The pure statement of the law FnExactFillChase: numbers, texts and lists alone. Its conditions are what every readable argument meets. -/
import Derived.Test.YthpgmjlhakdemaaQFnExactFillChasex11
namespace Go.Proofs.Ythpgmjlhakdemaa.Stmt
open Go.Proofs.Ythpgmjlhakdemaa.PFnExactFillChase Go.RowKit Go.Proofs.YthpgmjlhakdemaaW.PrintWords Go.Proofs.YthpgmjlhakdemaaW.PrintLast Go.Proofs.YthpgmjlhakdemaaW.PrintMore
def FnExactFillChase : Prop := ∀ (a0 : Int) (a1 : Int) (l2 : List (S54)), ((Lit.int .i64 a0).wf = true) → ((Lit.int .i64 a1).wf = true) → (l2.length ≤ 9223372036854775807) → ((∀ x ∈ l2, (Lit.int .i64 x.f0).wf = true ∧ (Lit.int .i64 x.f1).wf = true)) → ∃ k, laws_FnExactFillChase.f k a0 a1 l2 = some true
end Go.Proofs.Ythpgmjlhakdemaa.Stmt
