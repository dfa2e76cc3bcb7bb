/- The pure statement of FnExactIsSketch: its printed function answers true at all arguments within bounds; and how the arguments' types read as data. Conditions: none of its own. -/
import Derived.Test.YtplljcjhfbamdaaOpen
import Derived.Test.YtplljcjhfbamdaaPFnExactIsSketchx2
namespace Go.Proofs.Ytplljcjhfbamdaa.ArgFnExactIsSketch
open Go.RowKit Go.Proofs.YtplljcjhfbamdaaW.PrintWords Go.Proofs.YtplljcjhfbamdaaW.PrintLast Go.Proofs.YtplljcjhfbamdaaW.PrintMore Go.Proofs.Ytplljcjhfbamdaa.PFnExactIsSketch Go.Proofs.Ytplljcjhfbamdaa.Opn
set_option linter.unusedVariables false


/-- The one pure statement. -/
def Pure : Prop := ∀ (l0_0 : List Int) (a0_1 : Int), (l0_0.length * 8 ≤ 140737488351232 ∧ l0_0.length ≤ maxLen ∧ ∀ y ∈ l0_0, (Lit.int .i64 y).wf = true) → (Lit.int .i64 a0_1).wf = true → ∃ k, laws_FnExactIsSketch.f k l0_0 a0_1 = some true

end Go.Proofs.Ytplljcjhfbamdaa.ArgFnExactIsSketch
