/- Written by wip/myprint.py of this repo (the kit's print, with additions of this session). -/
import Derived.Test.YtlodhcmbonljgaaQFnExactBetweenx0
import Derived.Test.YtlodhcmbonljgaaQFnExactBetweenx1
import Derived.Test.YtlodhcmbonljgaaQFnExactBetweenx2
import Derived.Test.YtlodhcmbonljgaaQFnExactBetweenx3
import Derived.Test.YtlodhcmbonljgaaQFnExactBetweenx4
import Derived.Test.YtlodhcmbonljgaaQFnExactBetweenx5
import Derived.Test.YtlodhcmbonljgaaQFnExactBetweenx6
import Derived.Test.YtlodhcmbonljgaaQFnExactBetweenx7
namespace Go.Proofs.Ytlodhcmbonljgaa.QFnExactBetween
open Go.RowKit Go.Proofs.YtlodhcmbonljgaaW.PrintWords Go.Proofs.YtlodhcmbonljgaaW.PrintLast Go.Proofs.YtlodhcmbonljgaaW.PrintMore
attribute [local go_sem] max2_int min2_int max_two min_two max_three min_three max_four min_four   -- for this text's walks alone
set_option linter.unusedVariables false
set_option linter.unusedSimpArgs false

end Go.Proofs.Ytlodhcmbonljgaa.QFnExactBetween
