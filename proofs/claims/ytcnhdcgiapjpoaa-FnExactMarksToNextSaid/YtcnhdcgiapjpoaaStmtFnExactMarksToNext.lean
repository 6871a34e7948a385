/- The pure statement of the law FnExactMarksToNext: numbers, texts and lists alone. Its conditions are what every readable argument meets. -/
import Derived.Test.YtcnhdcgiapjpoaaQFnExactMarksToNextx13
namespace Go.Proofs.Ytcnhdcgiapjpoaa.Stmt
open Go.Proofs.Ytcnhdcgiapjpoaa.PFnExactMarksToNext Go.RowKit Go.Proofs.YtcnhdcgiapjpoaaW.PrintWords Go.Proofs.YtcnhdcgiapjpoaaW.PrintLast Go.Proofs.YtcnhdcgiapjpoaaW.PrintMore
def FnExactMarksToNext : Prop := ∀ (l0 : List (List (ByteArray))) (a1 : Int), (l0.length ≤ 9223372036854775807) → ((∀ x ∈ l0, (x.length ≤ 9223372036854775807 ∧ ∀ y ∈ x, y.size ≤ 9223372036854775807))) → ((Lit.int .i64 a1).wf = true) → ∃ k, laws_FnExactMarksToNext.f k l0 a1 = some true
end Go.Proofs.Ytcnhdcgiapjpoaa.Stmt
