/- The pure statement of the law FnExactStatesOfLines: numbers, texts and lists alone. Its conditions are what every readable argument meets. -/
import Derived.Test.YtcnhdcgiapjpoaaQFnExactStatesOfLinesx5
namespace Go.Proofs.Ytcnhdcgiapjpoaa.Stmt
open Go.Proofs.Ytcnhdcgiapjpoaa.PFnExactStatesOfLines Go.RowKit Go.Proofs.YtcnhdcgiapjpoaaW.PrintWords Go.Proofs.YtcnhdcgiapjpoaaW.PrintLast Go.Proofs.YtcnhdcgiapjpoaaW.PrintMore
def FnExactStatesOfLines : Prop := ∀ (l0 : List (List (ByteArray))) (l1 : List (ByteArray)), (l0.length ≤ 9223372036854775807) → ((∀ x ∈ l0, (x.length ≤ 9223372036854775807 ∧ ∀ y ∈ x, y.size ≤ 9223372036854775807))) → (l1.length ≤ 9223372036854775807) → ((∀ x ∈ l1, x.size ≤ 9223372036854775807)) → ∃ k, laws_FnExactStatesOfLines.f k l0 l1 = some true
end Go.Proofs.Ytcnhdcgiapjpoaa.Stmt
