/- The pure statement of the law FnExactShiftMargins: numbers, texts and lists alone. Its conditions are what every readable argument meets. -/
import Derived.Test.YtdacbjfkjohaaaaPFnExactShiftMarginsx2
namespace Go.Proofs.Ytdacbjfkjohaaaa.Stmt
open Go.Proofs.Ytdacbjfkjohaaaa.PFnExactShiftMargins Go.RowKit Go.Proofs.YtdacbjfkjohaaaaW.PrintWords Go.Proofs.YtdacbjfkjohaaaaW.PrintLast Go.Proofs.YtdacbjfkjohaaaaW.PrintMore
def FnExactShiftMargins : Prop := ∀ (a0 : Int) (a1 : Int) (a2_0 : Int) (a2_1 : Int) (a2_2 : Int) (a2_3 : Int) (a3 : Int) (a4 : Int), ((Lit.int .i64 a0).wf = true) → ((Lit.int .i64 a1).wf = true) → ((Lit.int .i64 a2_0).wf = true) → ((Lit.int .i64 a2_1).wf = true) → ((Lit.int .i64 a2_2).wf = true) → ((Lit.int .i64 a2_3).wf = true) → ((Lit.int .i64 a3).wf = true) → ((Lit.int .i64 a4).wf = true) → ∃ k, laws_FnExactShiftMargins.f k a0 a1 a2_0 a2_1 a2_2 a2_3 a3 a4 = some true
end Go.Proofs.Ytdacbjfkjohaaaa.Stmt
