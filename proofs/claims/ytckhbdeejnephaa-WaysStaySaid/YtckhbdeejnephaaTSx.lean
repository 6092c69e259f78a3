-- Made by gen.py, a program of this session's, over the kit's print.
import Derived.Test.YtckhbdeejnephaaTSx0
import Derived.Test.YtckhbdeejnephaaTSx1
import Derived.Test.YtckhbdeejnephaaTSx2
import Derived.Test.YtckhbdeejnephaaTSx3
import Derived.Test.YtckhbdeejnephaaTSx4
import Derived.Test.YtckhbdeejnephaaTSx5
import Derived.Test.YtckhbdeejnephaaTSx6
import Derived.Test.YtckhbdeejnephaaTSx7
namespace Go.Proofs.Ytckhbdeejnephaa.TS
open Go.RowKit Go.Proofs.YtckhbdeejnephaaW.PrintWords Go.Proofs.YtckhbdeejnephaaW.PrintLast Go.Proofs.YtckhbdeejnephaaW.PrintMore Go.Proofs.Ytckhbdeejnephaa.GenWords
attribute [local go_sem] max2_int min2_int max_two min_two max_three min_three max_four min_four   -- for this text's walks alone
set_option linter.unusedVariables false
set_option linter.unusedSimpArgs false

end Go.Proofs.Ytckhbdeejnephaa.TS
