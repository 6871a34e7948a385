/- The pure statement of the law FnExactMarginsByRule: numbers, texts and lists alone. Its conditions are what every readable argument meets. -/
import Derived.Test.YtdacbjfkjohaaaaQFnExactMarginsByRulex2
namespace Go.Proofs.Ytdacbjfkjohaaaa.Stmt
open Go.Proofs.Ytdacbjfkjohaaaa.PFnExactMarginsByRule Go.RowKit Go.Proofs.YtdacbjfkjohaaaaW.PrintWords Go.Proofs.YtdacbjfkjohaaaaW.PrintLast Go.Proofs.YtdacbjfkjohaaaaW.PrintMore
def FnExactMarginsByRule : Prop := ∀ (a0 : Int) (a1 : Int) (a2 : Int), ((Lit.int .i64 a0).wf = true) → ((Lit.int .i64 a1).wf = true) → ((Lit.int .i64 a2).wf = true) → ∃ k, laws_FnExactMarginsByRule.f k a0 a1 a2 = some true
end Go.Proofs.Ytdacbjfkjohaaaa.Stmt
