/- Written by wip/myprint.py of this repo (the kit's print, with additions of this session). -/
import Derived.Test.YtacaeebjanglgaaQFnExactAbortx0
import Derived.Test.YtacaeebjanglgaaQFnExactAbortx1
import Derived.Test.YtacaeebjanglgaaQFnExactAbortx2
import Derived.Test.YtacaeebjanglgaaQFnExactAbortx3
import Derived.Test.YtacaeebjanglgaaQFnExactAbortx4
import Derived.Test.YtacaeebjanglgaaQFnExactAbortx5
import Derived.Test.YtacaeebjanglgaaQFnExactAbortx6
import Derived.Test.YtacaeebjanglgaaQFnExactAbortx7
import Derived.Test.YtacaeebjanglgaaQFnExactAbortx8
import Derived.Test.YtacaeebjanglgaaQFnExactAbortx9
import Derived.Test.YtacaeebjanglgaaQFnExactAbortx10
import Derived.Test.YtacaeebjanglgaaQFnExactAbortx11
import Derived.Test.YtacaeebjanglgaaQFnExactAbortx12
import Derived.Test.YtacaeebjanglgaaQFnExactAbortx13
import Derived.Test.YtacaeebjanglgaaQFnExactAbortx14
import Derived.Test.YtacaeebjanglgaaQFnExactAbortx15
set_option maxRecDepth 100000
namespace Go.Proofs.Ytacaeebjanglgaa.QFnExactAbort
open Go.RowKit Go.Proofs.YtacaeebjanglgaaW.PrintWords Go.Proofs.YtacaeebjanglgaaW.PrintLast Go.Proofs.YtacaeebjanglgaaW.PrintMore
attribute [local go_sem] max2_int min2_int max_two min_two max_three min_three max_four min_four   -- for this text's walks alone
set_option linter.unusedVariables false
set_option linter.unusedSimpArgs false

end Go.Proofs.Ytacaeebjanglgaa.QFnExactAbort
