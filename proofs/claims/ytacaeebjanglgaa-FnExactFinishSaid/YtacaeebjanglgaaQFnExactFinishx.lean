/- Written by wip/myprint.py of this repo (the kit's print, with additions of this session). -/
import Derived.Test.YtacaeebjanglgaaQFnExactFinishx0
import Derived.Test.YtacaeebjanglgaaQFnExactFinishx1
import Derived.Test.YtacaeebjanglgaaQFnExactFinishx2
import Derived.Test.YtacaeebjanglgaaQFnExactFinishx3
import Derived.Test.YtacaeebjanglgaaQFnExactFinishx4
import Derived.Test.YtacaeebjanglgaaQFnExactFinishx5
import Derived.Test.YtacaeebjanglgaaQFnExactFinishx6
import Derived.Test.YtacaeebjanglgaaQFnExactFinishx7
import Derived.Test.YtacaeebjanglgaaQFnExactFinishx8
import Derived.Test.YtacaeebjanglgaaQFnExactFinishx9
import Derived.Test.YtacaeebjanglgaaQFnExactFinishx10
import Derived.Test.YtacaeebjanglgaaQFnExactFinishx11
import Derived.Test.YtacaeebjanglgaaQFnExactFinishx12
import Derived.Test.YtacaeebjanglgaaQFnExactFinishx13
import Derived.Test.YtacaeebjanglgaaQFnExactFinishx14
import Derived.Test.YtacaeebjanglgaaQFnExactFinishx15
import Derived.Test.YtacaeebjanglgaaQFnExactFinishx16
set_option maxRecDepth 100000
namespace Go.Proofs.Ytacaeebjanglgaa.QFnExactFinish
open Go.RowKit Go.Proofs.YtacaeebjanglgaaW.PrintWords Go.Proofs.YtacaeebjanglgaaW.PrintLast Go.Proofs.YtacaeebjanglgaaW.PrintMore
attribute [local go_sem] max2_int min2_int max_two min_two max_three min_three max_four min_four   -- for this text's walks alone
set_option linter.unusedVariables false
set_option linter.unusedSimpArgs false

end Go.Proofs.Ytacaeebjanglgaa.QFnExactFinish
