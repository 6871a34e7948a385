/- The pure statement of the law FnExactCopyClasses: numbers, texts and lists alone. Its conditions are what every readable argument meets. -/
import Derived.Test.YtcnhdcgiapjpoaaQFnExactCopyClassesx6
namespace Go.Proofs.Ytcnhdcgiapjpoaa.Stmt
open Go.Proofs.Ytcnhdcgiapjpoaa.PFnExactCopyClasses Go.RowKit Go.Proofs.YtcnhdcgiapjpoaaW.PrintWords Go.Proofs.YtcnhdcgiapjpoaaW.PrintLast Go.Proofs.YtcnhdcgiapjpoaaW.PrintMore
def FnExactCopyClasses : Prop := ∀ (l0 : List (List (ByteArray))), (l0.length ≤ 9223372036854775807) → ((∀ x ∈ l0, (x.length ≤ 9223372036854775807 ∧ ∀ y ∈ x, y.size ≤ 9223372036854775807))) → ∃ k, laws_FnExactCopyClasses.f k l0 = some true
end Go.Proofs.Ytcnhdcgiapjpoaa.Stmt
