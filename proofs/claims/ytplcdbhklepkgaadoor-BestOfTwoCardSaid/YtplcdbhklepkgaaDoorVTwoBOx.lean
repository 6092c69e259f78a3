-- Made by gen.py, a program of this session's, over the kit's print.
import Derived.Test.YtplcdbhklepkgaaDoorVTwoBOx0
import Derived.Test.YtplcdbhklepkgaaDoorVTwoBOx1
import Derived.Test.YtplcdbhklepkgaaDoorVTwoBOx2
import Derived.Test.YtplcdbhklepkgaaDoorVTwoBOx3
import Derived.Test.YtplcdbhklepkgaaDoorVTwoBOx4
import Derived.Test.YtplcdbhklepkgaaDoorVTwoBOx5
import Derived.Test.YtplcdbhklepkgaaDoorVTwoBOx6
import Derived.Test.YtplcdbhklepkgaaDoorVTwoBOx7
import Derived.Test.YtplcdbhklepkgaaDoorVTwoBOx8
import Derived.Test.YtplcdbhklepkgaaDoorVTwoBOx9
import Derived.Test.YtplcdbhklepkgaaDoorVTwoBOx10
import Derived.Test.YtplcdbhklepkgaaDoorVTwoBOx11
import Derived.Test.YtplcdbhklepkgaaDoorVTwoBOx12
import Derived.Test.YtplcdbhklepkgaaDoorVTwoBOx13
import Derived.Test.YtplcdbhklepkgaaDoorVTwoBOx14
import Derived.Test.YtplcdbhklepkgaaDoorVTwoBOx15
namespace Go.Proofs.YtplcdbhklepkgaaDoor.BO
open Go.RowKit Go.Proofs.YtplcdbhklepkgaaDoorW.PrintWords Go.Proofs.YtplcdbhklepkgaaDoorW.PrintLast Go.Proofs.YtplcdbhklepkgaaDoorW.PrintMore Go.Proofs.YtplcdbhklepkgaaDoor.GenWords
attribute [local go_sem] max2_int min2_int max_two min_two max_three min_three max_four min_four   -- for this text's walks alone
set_option linter.unusedVariables false
set_option linter.unusedSimpArgs false

end Go.Proofs.YtplcdbhklepkgaaDoor.BO
