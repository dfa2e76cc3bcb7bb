/- The pure statement of FnExactIsHop: its printed function answers true at all arguments within bounds; and how the arguments' types read as data. Conditions: none of its own. -/
import Derived.Test.YtplljcjhfbamdaaOpen
import Derived.Test.YtplljcjhfbamdaaPFnExactIsHopx1
namespace Go.Proofs.Ytplljcjhfbamdaa.ArgFnExactIsHop
open Go.RowKit Go.Proofs.YtplljcjhfbamdaaW.PrintWords Go.Proofs.YtplljcjhfbamdaaW.PrintLast Go.Proofs.YtplljcjhfbamdaaW.PrintMore Go.Proofs.Ytplljcjhfbamdaa.PFnExactIsHop Go.Proofs.Ytplljcjhfbamdaa.Opn
set_option linter.unusedVariables false


/-- The one pure statement. -/
def Pure : Prop := ∀ (a0_0 : Int) (a0_1 : Int) (a0_2 : Int), (Lit.int .i64 a0_0).wf = true → (Lit.int .i64 a0_1).wf = true → (Lit.int .i64 a0_2).wf = true → laws_FnExactIsHop.f a0_0 a0_1 a0_2 = some true

end Go.Proofs.Ytplljcjhfbamdaa.ArgFnExactIsHop
