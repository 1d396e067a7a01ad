/- Written by wip/myprint.py of this repo (the kit's print, with additions of this session). -/
import Derived.Test.YtlodhcmbonljgaaQFnExactPostx0
import Derived.Test.YtlodhcmbonljgaaQFnExactPostx1
import Derived.Test.YtlodhcmbonljgaaQFnExactPostx2
import Derived.Test.YtlodhcmbonljgaaQFnExactPostx3
import Derived.Test.YtlodhcmbonljgaaQFnExactPostx4
import Derived.Test.YtlodhcmbonljgaaQFnExactPostx5
import Derived.Test.YtlodhcmbonljgaaQFnExactPostx6
import Derived.Test.YtlodhcmbonljgaaQFnExactPostx7
import Derived.Test.YtlodhcmbonljgaaQFnExactPostx8
import Derived.Test.YtlodhcmbonljgaaQFnExactPostx9
namespace Go.Proofs.Ytlodhcmbonljgaa.QFnExactPost
open Go.RowKit Go.Proofs.YtlodhcmbonljgaaW.PrintWords Go.Proofs.YtlodhcmbonljgaaW.PrintLast Go.Proofs.YtlodhcmbonljgaaW.PrintMore
attribute [local go_sem] max2_int min2_int max_two min_two max_three min_three max_four min_four   -- for this text's walks alone
set_option linter.unusedVariables false
set_option linter.unusedSimpArgs false

end Go.Proofs.Ytlodhcmbonljgaa.QFnExactPost
