/- Contracts of Go functions as Lean functions, and rows of laws, written by the session's program gprint.py (the kit's printer, with functions given by hand). -/
import Derived.Test.YtgfkpbjimmofdaaDoorPAx0
import Derived.Test.YtgfkpbjimmofdaaDoorPAx1
import Derived.Test.YtgfkpbjimmofdaaDoorPAx2
namespace Go.Proofs.YtgfkpbjimmofdaaDoor.PA
open Go.RowKit Go.Proofs.YtgfkpbjimmofdaaDoorW.PrintWords Go.Proofs.YtgfkpbjimmofdaaDoorW.PrintLast Go.Proofs.YtgfkpbjimmofdaaDoorW.PrintMore
attribute [local go_sem] max2_int min2_int max_two min_two max_three min_three max_four min_four   -- for this text's walks alone
set_option linter.unusedVariables false
set_option linter.unusedSimpArgs false

end Go.Proofs.YtgfkpbjimmofdaaDoor.PA
