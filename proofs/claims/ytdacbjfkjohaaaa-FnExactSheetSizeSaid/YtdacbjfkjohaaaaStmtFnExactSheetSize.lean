/- The pure statement of the law FnExactSheetSize: numbers, texts and lists alone. Its conditions are what every readable argument meets. -/
import Derived.Test.YtdacbjfkjohaaaaPFnExactSheetSizex2
namespace Go.Proofs.Ytdacbjfkjohaaaa.Stmt
open Go.Proofs.Ytdacbjfkjohaaaa.PFnExactSheetSize Go.RowKit Go.Proofs.YtdacbjfkjohaaaaW.PrintWords Go.Proofs.YtdacbjfkjohaaaaW.PrintLast Go.Proofs.YtdacbjfkjohaaaaW.PrintMore
def FnExactSheetSize : Prop := ∀ (l0 : List (S65)), (l0.length ≤ 9223372036854775807) → ((∀ x ∈ l0, (Lit.int .i64 x.f0).wf = true ∧ True)) → ∃ k, laws_FnExactSheetSize.f k l0 = some true
end Go.Proofs.Ytdacbjfkjohaaaa.Stmt
