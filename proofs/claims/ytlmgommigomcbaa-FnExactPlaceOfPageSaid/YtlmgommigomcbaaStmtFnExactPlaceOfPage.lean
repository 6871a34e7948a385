/- The pure statement of the law FnExactPlaceOfPage: numbers, texts and lists alone. Its conditions are what every readable argument meets. -/
import Derived.Test.YtlmgommigomcbaaQFnExactPlaceOfPagex7
namespace Go.Proofs.Ytlmgommigomcbaa.Stmt
open Go.Proofs.Ytlmgommigomcbaa.PFnExactPlaceOfPage Go.RowKit Go.Proofs.YtlmgommigomcbaaW.PrintWords Go.Proofs.YtlmgommigomcbaaW.PrintLast Go.Proofs.YtlmgommigomcbaaW.PrintMore
def FnExactPlaceOfPage : Prop := ∀ (l0 : List (S47)) (a1 : Int), (l0.length ≤ 9223372036854775807) → ((∀ x ∈ l0, (Lit.int .i64 x.f0).wf = true ∧ True)) → ((Lit.int .i64 a1).wf = true) → ∃ k, laws_FnExactPlaceOfPage.f k l0 a1 = some true
end Go.Proofs.Ytlmgommigomcbaa.Stmt
