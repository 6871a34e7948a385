/- The pure statement of the law FnExactSettledLines: numbers, texts and lists alone. Its conditions are what every readable argument meets. -/
import Derived.Test.YtcnhdcgiapjpoaaQFnExactSettledLinesx5
namespace Go.Proofs.Ytcnhdcgiapjpoaa.Stmt
open Go.Proofs.Ytcnhdcgiapjpoaa.PFnExactSettledLines Go.RowKit Go.Proofs.YtcnhdcgiapjpoaaW.PrintWords Go.Proofs.YtcnhdcgiapjpoaaW.PrintLast Go.Proofs.YtcnhdcgiapjpoaaW.PrintMore
def FnExactSettledLines : Prop := ∀ (l0 : List (List (ByteArray))), (l0.length ≤ 9223372036854775807) → ((∀ x ∈ l0, (x.length ≤ 9223372036854775807 ∧ ∀ y ∈ x, y.size ≤ 9223372036854775807))) → ∃ k, laws_FnExactSettledLines.f k l0 = some true
end Go.Proofs.Ytcnhdcgiapjpoaa.Stmt
