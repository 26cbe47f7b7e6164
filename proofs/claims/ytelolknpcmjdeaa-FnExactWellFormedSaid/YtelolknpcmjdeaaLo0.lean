/- The words of this part of the program (o). -/
import Derived.Test.YtelolknpcmjdeaaLn0
namespace Go.Proofs.Ytelolknpcmjdeaa
open Go.RowKit
set_option linter.unusedSimpArgs false
set_option linter.unusedVariables false
set_option maxRecDepth 100000
def oz : Int := 0

end Go.Proofs.Ytelolknpcmjdeaa
