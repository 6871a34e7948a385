/- The pure statement of the law FnExactIsMixedCopy: numbers, texts and lists alone. Its conditions are what every readable argument meets. -/
import Derived.Test.YtcnhdcgiapjpoaaQFnExactIsMixedCopyx5
namespace Go.Proofs.Ytcnhdcgiapjpoaa.Stmt
open Go.Proofs.Ytcnhdcgiapjpoaa.PFnExactIsMixedCopy Go.RowKit Go.Proofs.YtcnhdcgiapjpoaaW.PrintWords Go.Proofs.YtcnhdcgiapjpoaaW.PrintLast Go.Proofs.YtcnhdcgiapjpoaaW.PrintMore
def FnExactIsMixedCopy : Prop := ∀ (l0 : List (List (ByteArray))) (l1 : List (ByteArray)), (l0.length ≤ 9223372036854775807) → ((∀ x ∈ l0, (x.length ≤ 9223372036854775807 ∧ ∀ y ∈ x, y.size ≤ 9223372036854775807))) → (l1.length ≤ 9223372036854775807) → ((∀ x ∈ l1, x.size ≤ 9223372036854775807)) → ∃ k, laws_FnExactIsMixedCopy.f k l0 l1 = some true
end Go.Proofs.Ytcnhdcgiapjpoaa.Stmt
