-- Made by gen.py, a program of this session's, over the kit's print.
import Derived.Test.YtplcdbhklepkgaaDoorVGroPGx0
import Derived.Test.YtplcdbhklepkgaaDoorVGroPGx1
import Derived.Test.YtplcdbhklepkgaaDoorVGroPGx2
import Derived.Test.YtplcdbhklepkgaaDoorVGroPGx3
import Derived.Test.YtplcdbhklepkgaaDoorVGroPGx4
import Derived.Test.YtplcdbhklepkgaaDoorVGroPGx5
import Derived.Test.YtplcdbhklepkgaaDoorVGroPGx6
import Derived.Test.YtplcdbhklepkgaaDoorVGroPGx7
import Derived.Test.YtplcdbhklepkgaaDoorVGroPGx8
import Derived.Test.YtplcdbhklepkgaaDoorVGroPGx9
namespace Go.Proofs.YtplcdbhklepkgaaDoor.PG
open Go.RowKit Go.Proofs.YtplcdbhklepkgaaDoorW.PrintWords Go.Proofs.YtplcdbhklepkgaaDoorW.PrintLast Go.Proofs.YtplcdbhklepkgaaDoorW.PrintMore Go.Proofs.YtplcdbhklepkgaaDoor.GenWords
attribute [local go_sem] max2_int min2_int max_two min_two max_three min_three max_four min_four   -- for this text's walks alone
set_option linter.unusedVariables false
set_option linter.unusedSimpArgs false

end Go.Proofs.YtplcdbhklepkgaaDoor.PG
