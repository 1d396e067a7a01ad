/- Written by wip/myprint.py of this repo (the kit's print, with additions of this session). -/
import Derived.Test.YtacaeebjanglgaaQFnExactBeginx0
import Derived.Test.YtacaeebjanglgaaQFnExactBeginx1
import Derived.Test.YtacaeebjanglgaaQFnExactBeginx2
import Derived.Test.YtacaeebjanglgaaQFnExactBeginx3
import Derived.Test.YtacaeebjanglgaaQFnExactBeginx4
import Derived.Test.YtacaeebjanglgaaQFnExactBeginx5
import Derived.Test.YtacaeebjanglgaaQFnExactBeginx6
import Derived.Test.YtacaeebjanglgaaQFnExactBeginx7
import Derived.Test.YtacaeebjanglgaaQFnExactBeginx8
import Derived.Test.YtacaeebjanglgaaQFnExactBeginx9
import Derived.Test.YtacaeebjanglgaaQFnExactBeginx10
import Derived.Test.YtacaeebjanglgaaQFnExactBeginx11
import Derived.Test.YtacaeebjanglgaaQFnExactBeginx12
import Derived.Test.YtacaeebjanglgaaQFnExactBeginx13
import Derived.Test.YtacaeebjanglgaaQFnExactBeginx14
import Derived.Test.YtacaeebjanglgaaQFnExactBeginx15
set_option maxRecDepth 100000
namespace Go.Proofs.Ytacaeebjanglgaa.QFnExactBegin
open Go.RowKit Go.Proofs.YtacaeebjanglgaaW.PrintWords Go.Proofs.YtacaeebjanglgaaW.PrintLast Go.Proofs.YtacaeebjanglgaaW.PrintMore
attribute [local go_sem] max2_int min2_int max_two min_two max_three min_three max_four min_four   -- for this text's walks alone
set_option linter.unusedVariables false
set_option linter.unusedSimpArgs false

end Go.Proofs.Ytacaeebjanglgaa.QFnExactBegin
