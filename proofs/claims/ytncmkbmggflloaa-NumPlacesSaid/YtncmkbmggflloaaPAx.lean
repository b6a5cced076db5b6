/- Contracts of Go functions as Lean functions, and rows of laws, written by the session's program gprint.py (the kit's printer, with functions given by hand). -/
import Derived.Test.YtncmkbmggflloaaPAx0
import Derived.Test.YtncmkbmggflloaaPAx1
import Derived.Test.YtncmkbmggflloaaPAx2
import Derived.Test.YtncmkbmggflloaaPAx3
import Derived.Test.YtncmkbmggflloaaPAx4
import Derived.Test.YtncmkbmggflloaaPAx5
import Derived.Test.YtncmkbmggflloaaPAx6
namespace Go.Proofs.Ytncmkbmggflloaa.PA
open Go.RowKit Go.Proofs.YtncmkbmggflloaaW.PrintWords Go.Proofs.YtncmkbmggflloaaW.PrintLast Go.Proofs.YtncmkbmggflloaaW.PrintMore
attribute [local go_sem] max2_int min2_int max_two min_two max_three min_three max_four min_four   -- for this text's walks alone
set_option linter.unusedVariables false
set_option linter.unusedSimpArgs false

end Go.Proofs.Ytncmkbmggflloaa.PA
