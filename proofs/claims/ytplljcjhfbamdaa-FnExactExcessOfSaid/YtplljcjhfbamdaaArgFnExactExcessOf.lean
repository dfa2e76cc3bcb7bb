/- The pure statement of FnExactExcessOf: its printed function answers true at all arguments within bounds; and how the arguments' types read as data. Conditions: none of its own. -/
import Derived.Test.YtplljcjhfbamdaaOpen
import Derived.Test.YtplljcjhfbamdaaPFnExactExcessOfx2
namespace Go.Proofs.Ytplljcjhfbamdaa.ArgFnExactExcessOf
open Go.RowKit Go.Proofs.YtplljcjhfbamdaaW.PrintWords Go.Proofs.YtplljcjhfbamdaaW.PrintLast Go.Proofs.YtplljcjhfbamdaaW.PrintMore Go.Proofs.Ytplljcjhfbamdaa.PFnExactExcessOf Go.Proofs.Ytplljcjhfbamdaa.Opn
set_option linter.unusedVariables false

def Bd23 (x : S23) : Prop := (Lit.int .i64 x.f0).wf = true ∧ (Lit.int .i64 x.f1).wf = true ∧ (Lit.int .i64 x.f2).wf = true

/-- The one pure statement. -/
def Pure : Prop := ∀ (l0 : List S23), (l0.length * 24 ≤ 140737488351232 ∧ l0.length ≤ maxLen ∧ ∀ y ∈ l0, Bd23 y) → ∃ k, laws_FnExactExcessOf.f k l0 = some true

end Go.Proofs.Ytplljcjhfbamdaa.ArgFnExactExcessOf
