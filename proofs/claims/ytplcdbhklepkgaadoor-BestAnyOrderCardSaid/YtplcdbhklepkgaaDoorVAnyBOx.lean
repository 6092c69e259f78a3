-- Made by gen.py, a program of this session's, over the kit's print.
import Derived.Test.YtplcdbhklepkgaaDoorVAnyBOx0
import Derived.Test.YtplcdbhklepkgaaDoorVAnyBOx1
import Derived.Test.YtplcdbhklepkgaaDoorVAnyBOx2
import Derived.Test.YtplcdbhklepkgaaDoorVAnyBOx3
import Derived.Test.YtplcdbhklepkgaaDoorVAnyBOx4
import Derived.Test.YtplcdbhklepkgaaDoorVAnyBOx5
import Derived.Test.YtplcdbhklepkgaaDoorVAnyBOx6
import Derived.Test.YtplcdbhklepkgaaDoorVAnyBOx7
import Derived.Test.YtplcdbhklepkgaaDoorVAnyBOx8
import Derived.Test.YtplcdbhklepkgaaDoorVAnyBOx9
import Derived.Test.YtplcdbhklepkgaaDoorVAnyBOx10
import Derived.Test.YtplcdbhklepkgaaDoorVAnyBOx11
import Derived.Test.YtplcdbhklepkgaaDoorVAnyBOx12
import Derived.Test.YtplcdbhklepkgaaDoorVAnyBOx13
import Derived.Test.YtplcdbhklepkgaaDoorVAnyBOx14
import Derived.Test.YtplcdbhklepkgaaDoorVAnyBOx15
namespace Go.Proofs.YtplcdbhklepkgaaDoor.BO
open Go.RowKit Go.Proofs.YtplcdbhklepkgaaDoorW.PrintWords Go.Proofs.YtplcdbhklepkgaaDoorW.PrintLast Go.Proofs.YtplcdbhklepkgaaDoorW.PrintMore Go.Proofs.YtplcdbhklepkgaaDoor.GenWords
attribute [local go_sem] max2_int min2_int max_two min_two max_three min_three max_four min_four   -- for this text's walks alone
set_option linter.unusedVariables false
set_option linter.unusedSimpArgs false

end Go.Proofs.YtplcdbhklepkgaaDoor.BO
