/- Written by wip/myprint.py of this repo (the kit's print, with additions of this session). -/
import Derived.Test.YtacaeebjanglgaaQFnExactStoreOkx0
import Derived.Test.YtacaeebjanglgaaQFnExactStoreOkx1
import Derived.Test.YtacaeebjanglgaaQFnExactStoreOkx2
import Derived.Test.YtacaeebjanglgaaQFnExactStoreOkx3
import Derived.Test.YtacaeebjanglgaaQFnExactStoreOkx4
import Derived.Test.YtacaeebjanglgaaQFnExactStoreOkx5
import Derived.Test.YtacaeebjanglgaaQFnExactStoreOkx6
import Derived.Test.YtacaeebjanglgaaQFnExactStoreOkx7
import Derived.Test.YtacaeebjanglgaaQFnExactStoreOkx8
import Derived.Test.YtacaeebjanglgaaQFnExactStoreOkx9
import Derived.Test.YtacaeebjanglgaaQFnExactStoreOkx10
import Derived.Test.YtacaeebjanglgaaQFnExactStoreOkx11
set_option maxRecDepth 100000
namespace Go.Proofs.Ytacaeebjanglgaa.QFnExactStoreOk
open Go.RowKit Go.Proofs.YtacaeebjanglgaaW.PrintWords Go.Proofs.YtacaeebjanglgaaW.PrintLast Go.Proofs.YtacaeebjanglgaaW.PrintMore
attribute [local go_sem] max2_int min2_int max_two min_two max_three min_three max_four min_four   -- for this text's walks alone
set_option linter.unusedVariables false
set_option linter.unusedSimpArgs false

end Go.Proofs.Ytacaeebjanglgaa.QFnExactStoreOk
