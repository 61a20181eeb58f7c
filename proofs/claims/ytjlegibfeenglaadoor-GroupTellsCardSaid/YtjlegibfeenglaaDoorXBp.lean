-- written by wip/xprint.py out of the translation
import Derived.Test.YtjlegibfeenglaaDoorXBp0
import Derived.Test.YtjlegibfeenglaaDoorXBp1
import Derived.Test.YtjlegibfeenglaaDoorXBp2
namespace Go.Proofs.YtjlegibfeenglaaDoor.XB
open Go.Proofs.YtjlegibfeenglaaDoor.XGrow Go.RowKit Go.Proofs.YtjlegibfeenglaaDoorW.PrintWords Go.Proofs.YtjlegibfeenglaaDoorW.PrintLast Go.Proofs.YtjlegibfeenglaaDoorW.PrintMore
attribute [local go_sem] max2_int min2_int max_two min_two max_three min_three max_four min_four   -- for this text's walks alone
set_option linter.unusedVariables false
set_option linter.unusedSimpArgs false

end Go.Proofs.YtjlegibfeenglaaDoor.XB
