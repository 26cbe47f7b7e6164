/- The functions of this program, walked by the evaluator: part e, 1. -/
import Derived.Test.YtmiclkgkfkcnoaaLb1
import Derived.Test.YtmiclkgkfkcnoaaLd1
import Derived.Test.YtmiclkgkfkcnoaaLD
namespace Go.Proofs.Ytmiclkgkfkcnoaa
open Go.RowKit
set_option linter.unusedSimpArgs false
set_option linter.unusedVariables false
set_option maxRecDepth 100000
set_option linter.defProp false
namespace GLe1
def gx := And.intro (@hopRow.eq_1) (And.intro (@polRow.eq_1) (And.intro (@segRow.eq_1) (And.intro (@intRow.eq_1) (And.intro (@rowLen_ints) (And.intro (@rowLen_nil) (And.intro (@rowLen_cons) (And.intro (@rowLen_append) (@lenL_app))))))))
end GLe1
open GLe1
end Go.Proofs.Ytmiclkgkfkcnoaa
