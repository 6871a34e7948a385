/- The pure statement of the law FnExactDoesFitSheet: numbers, texts and lists alone. Its conditions are what every readable argument meets. -/
import Derived.Test.YtdacbjfkjohaaaaPFnExactDoesFitSheetx3
namespace Go.Proofs.Ytdacbjfkjohaaaa.Stmt
open Go.Proofs.Ytdacbjfkjohaaaa.PFnExactDoesFitSheet Go.RowKit Go.Proofs.YtdacbjfkjohaaaaW.PrintWords Go.Proofs.YtdacbjfkjohaaaaW.PrintLast Go.Proofs.YtdacbjfkjohaaaaW.PrintMore
def FnExactDoesFitSheet : Prop := ∀ (l0 : List (S65)) (a1 : Int) (a2 : Int) (a3 : Int) (a4 : Int) (a5 : Int), (l0.length ≤ 9223372036854775807) → ((∀ x ∈ l0, (Lit.int .i64 x.f0).wf = true ∧ True)) → ((Lit.int .i64 a1).wf = true) → ((Lit.int .i64 a2).wf = true) → ((Lit.int .i64 a3).wf = true) → ((Lit.int .i64 a4).wf = true) → ((Lit.int .i64 a5).wf = true) → ∃ k, laws_FnExactDoesFitSheet.f k l0 a1 a2 a3 a4 a5 = some true
end Go.Proofs.Ytdacbjfkjohaaaa.Stmt
