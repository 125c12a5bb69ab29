/- What is proved here: for functions of the Go text, a Lean function each, and that the call comes to just what it answers. Conditions: as each contract names them. Written by wip/tools/myprint.py, a driver of the print of the kit. -/
import Derived.Test.YtkhbmgnjopkeaaaP0
import Derived.Test.YtkhbmgnjopkeaaaP1
import Derived.Test.YtkhbmgnjopkeaaaP2
import Derived.Test.YtkhbmgnjopkeaaaP3
import Derived.Test.YtkhbmgnjopkeaaaP4
import Derived.Test.YtkhbmgnjopkeaaaP5
import Derived.Test.YtkhbmgnjopkeaaaP6
import Derived.Test.YtkhbmgnjopkeaaaP7
import Derived.Test.YtkhbmgnjopkeaaaP8
import Derived.Test.YtkhbmgnjopkeaaaP9
import Derived.Test.YtkhbmgnjopkeaaaP10
namespace Go.Proofs.Ytkhbmgnjopkeaaa.P
open Go.RowKit Go.Proofs.YtkhbmgnjopkeaaaW.PrintWords Go.Proofs.YtkhbmgnjopkeaaaW.PrintLast Go.Proofs.YtkhbmgnjopkeaaaW.PrintMore
attribute [local go_sem] max2_int min2_int max_two min_two max_three min_three max_four min_four Go.Proofs.YtkhbmgnjopkeaaaLaws.str_leq Go.Proofs.YtkhbmgnjopkeaaaLaws.str_gtr Go.Proofs.YtkhbmgnjopkeaaaLaws.str_geq Go.Proofs.YtkhbmgnjopkeaaaLaws.max2_str Go.Proofs.YtkhbmgnjopkeaaaLaws.min2_str   -- for this text's walks alone
set_option linter.unusedVariables false
set_option linter.unusedSimpArgs false

end Go.Proofs.Ytkhbmgnjopkeaaa.P
