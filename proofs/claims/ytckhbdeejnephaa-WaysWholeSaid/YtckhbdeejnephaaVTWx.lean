-- Made by gen.py, a program of this session's, over the kit's print.
import Derived.Test.YtckhbdeejnephaaVTWx0
import Derived.Test.YtckhbdeejnephaaVTWx1
import Derived.Test.YtckhbdeejnephaaVTWx2
import Derived.Test.YtckhbdeejnephaaVTWx3
import Derived.Test.YtckhbdeejnephaaVTWx4
import Derived.Test.YtckhbdeejnephaaVTWx5
import Derived.Test.YtckhbdeejnephaaVTWx6
import Derived.Test.YtckhbdeejnephaaVTWx7
import Derived.Test.YtckhbdeejnephaaVTWx8
import Derived.Test.YtckhbdeejnephaaVTWx9
import Derived.Test.YtckhbdeejnephaaVTWx10
import Derived.Test.YtckhbdeejnephaaVTWx11
namespace Go.Proofs.Ytckhbdeejnephaa.TW
open Go.RowKit Go.Proofs.YtckhbdeejnephaaW.PrintWords Go.Proofs.YtckhbdeejnephaaW.PrintLast Go.Proofs.YtckhbdeejnephaaW.PrintMore Go.Proofs.Ytckhbdeejnephaa.GenWords
attribute [local go_sem] max2_int min2_int max_two min_two max_three min_three max_four min_four   -- for this text's walks alone
set_option linter.unusedVariables false
set_option linter.unusedSimpArgs false

end Go.Proofs.Ytckhbdeejnephaa.TW
