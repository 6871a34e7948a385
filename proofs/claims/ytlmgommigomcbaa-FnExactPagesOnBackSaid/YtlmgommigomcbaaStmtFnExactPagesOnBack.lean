/- The pure statement of the law FnExactPagesOnBack: numbers, texts and lists alone. Its conditions are what every readable argument meets. -/
import Derived.Test.YtlmgommigomcbaaQFnExactPagesOnBackx8
namespace Go.Proofs.Ytlmgommigomcbaa.Stmt
open Go.Proofs.Ytlmgommigomcbaa.PFnExactPagesOnBack Go.RowKit Go.Proofs.YtlmgommigomcbaaW.PrintWords Go.Proofs.YtlmgommigomcbaaW.PrintLast Go.Proofs.YtlmgommigomcbaaW.PrintMore
def FnExactPagesOnBack : Prop := ∀ (l0 : List (S47)), (l0.length ≤ 9223372036854775807) → ((∀ x ∈ l0, (Lit.int .i64 x.f0).wf = true ∧ True)) → ∃ k, laws_FnExactPagesOnBack.f k l0 = some true
end Go.Proofs.Ytlmgommigomcbaa.Stmt
