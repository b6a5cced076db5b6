/- Contracts of Go functions as Lean functions, and rows of laws, written by the session's program gprint.py (the kit's printer, with functions given by hand). -/
import Derived.Test.YtdalplbgbgciiaaPAx0
import Derived.Test.YtdalplbgbgciiaaPAx1
import Derived.Test.YtdalplbgbgciiaaPAx2
import Derived.Test.YtdalplbgbgciiaaPAx3
import Derived.Test.YtdalplbgbgciiaaPAx4
import Derived.Test.YtdalplbgbgciiaaPAx5
import Derived.Test.YtdalplbgbgciiaaPAx6
import Derived.Test.YtdalplbgbgciiaaPAx7
import Derived.Test.YtdalplbgbgciiaaPAx8
import Derived.Test.YtdalplbgbgciiaaPAx9
namespace Go.Proofs.Ytdalplbgbgciiaa.PA
open Go.RowKit Go.Proofs.YtdalplbgbgciiaaW.PrintWords Go.Proofs.YtdalplbgbgciiaaW.PrintLast Go.Proofs.YtdalplbgbgciiaaW.PrintMore
attribute [local go_sem] max2_int min2_int max_two min_two max_three min_three max_four min_four   -- for this text's walks alone
set_option linter.unusedVariables false
set_option linter.unusedSimpArgs false

end Go.Proofs.Ytdalplbgbgciiaa.PA
