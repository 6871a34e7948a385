/- The pure statement of the law FnExactPieceArea: numbers, texts and lists alone. Its conditions are what every readable argument meets. -/
import Derived.Test.YtdacbjfkjohaaaaPFnExactPieceAreax2
namespace Go.Proofs.Ytdacbjfkjohaaaa.Stmt
open Go.Proofs.Ytdacbjfkjohaaaa.PFnExactPieceArea Go.RowKit Go.Proofs.YtdacbjfkjohaaaaW.PrintWords Go.Proofs.YtdacbjfkjohaaaaW.PrintLast Go.Proofs.YtdacbjfkjohaaaaW.PrintMore
def FnExactPieceArea : Prop := ∀ (l0 : List (S70)), (l0.length ≤ 9223372036854775807) → ((∀ x ∈ l0, (Lit.int .i64 x.f0).wf = true ∧ (Lit.int .i64 x.f1).wf = true)) → ∃ k, laws_FnExactPieceArea.f k l0 = some true
end Go.Proofs.Ytdacbjfkjohaaaa.Stmt
