/- Written by wip/myprint.py of this repo (the kit's print, with additions of this session). -/
import Derived.Test.YtacaeebjanglgaaQFnExactGetBlobx0
import Derived.Test.YtacaeebjanglgaaQFnExactGetBlobx1
import Derived.Test.YtacaeebjanglgaaQFnExactGetBlobx2
import Derived.Test.YtacaeebjanglgaaQFnExactGetBlobx3
import Derived.Test.YtacaeebjanglgaaQFnExactGetBlobx4
import Derived.Test.YtacaeebjanglgaaQFnExactGetBlobx5
import Derived.Test.YtacaeebjanglgaaQFnExactGetBlobx6
import Derived.Test.YtacaeebjanglgaaQFnExactGetBlobx7
import Derived.Test.YtacaeebjanglgaaQFnExactGetBlobx8
import Derived.Test.YtacaeebjanglgaaQFnExactGetBlobx9
import Derived.Test.YtacaeebjanglgaaQFnExactGetBlobx10
import Derived.Test.YtacaeebjanglgaaQFnExactGetBlobx11
set_option maxRecDepth 100000
namespace Go.Proofs.Ytacaeebjanglgaa.QFnExactGetBlob
open Go.RowKit Go.Proofs.YtacaeebjanglgaaW.PrintWords Go.Proofs.YtacaeebjanglgaaW.PrintLast Go.Proofs.YtacaeebjanglgaaW.PrintMore
attribute [local go_sem] max2_int min2_int max_two min_two max_three min_three max_four min_four   -- for this text's walks alone
set_option linter.unusedVariables false
set_option linter.unusedSimpArgs false

end Go.Proofs.Ytacaeebjanglgaa.QFnExactGetBlob
