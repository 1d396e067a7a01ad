/- Written by wip/myprint.py of this repo (the kit's print, with additions of this session). -/
import Derived.Test.YtlodhcmbonljgaaQFnExactEntryTextx0
import Derived.Test.YtlodhcmbonljgaaQFnExactEntryTextx1
import Derived.Test.YtlodhcmbonljgaaQFnExactEntryTextx2
import Derived.Test.YtlodhcmbonljgaaQFnExactEntryTextx3
namespace Go.Proofs.Ytlodhcmbonljgaa.QFnExactEntryText
open Go.RowKit Go.Proofs.YtlodhcmbonljgaaW.PrintWords Go.Proofs.YtlodhcmbonljgaaW.PrintLast Go.Proofs.YtlodhcmbonljgaaW.PrintMore
attribute [local go_sem] max2_int min2_int max_two min_two max_three min_three max_four min_four   -- for this text's walks alone
set_option linter.unusedVariables false
set_option linter.unusedSimpArgs false

end Go.Proofs.Ytlodhcmbonljgaa.QFnExactEntryText
