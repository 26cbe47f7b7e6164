/- The functions of this program, walked by the evaluator: part c, 1. -/
import Derived.Test.YtgdldeggoflabaaLb1
import Derived.Test.YtgdldeggoflabaaLD
namespace Go.Proofs.Ytgdldeggoflabaa
open Go.RowKit
set_option linter.unusedSimpArgs false
set_option linter.unusedVariables false
set_option maxRecDepth 100000
set_option linter.defProp false
namespace GLc1
def gx := And.intro (@hopRow.eq_1) (And.intro (@polRow.eq_1) (@segRow.eq_1))
end GLc1
open GLc1
end Go.Proofs.Ytgdldeggoflabaa
