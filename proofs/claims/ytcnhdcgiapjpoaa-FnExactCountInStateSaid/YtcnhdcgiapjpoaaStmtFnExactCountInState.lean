/- The pure statement of the law FnExactCountInState: numbers, texts and lists alone. Its conditions are what every readable argument meets. -/
import Derived.Test.YtcnhdcgiapjpoaaQFnExactCountInStatex6
namespace Go.Proofs.Ytcnhdcgiapjpoaa.Stmt
open Go.Proofs.Ytcnhdcgiapjpoaa.PFnExactCountInState Go.RowKit Go.Proofs.YtcnhdcgiapjpoaaW.PrintWords Go.Proofs.YtcnhdcgiapjpoaaW.PrintLast Go.Proofs.YtcnhdcgiapjpoaaW.PrintMore
def FnExactCountInState : Prop := ∀ (l0 : List (List (ByteArray))) (l1 : List (List (ByteArray))), (l0.length ≤ 9223372036854775807) → ((∀ x ∈ l0, (x.length ≤ 9223372036854775807 ∧ ∀ y ∈ x, y.size ≤ 9223372036854775807))) → (l1.length ≤ 9223372036854775807) → ((∀ x ∈ l1, (x.length ≤ 9223372036854775807 ∧ ∀ y ∈ x, y.size ≤ 9223372036854775807))) → ∃ k, laws_FnExactCountInState.f k l0 l1 = some true
end Go.Proofs.Ytcnhdcgiapjpoaa.Stmt
