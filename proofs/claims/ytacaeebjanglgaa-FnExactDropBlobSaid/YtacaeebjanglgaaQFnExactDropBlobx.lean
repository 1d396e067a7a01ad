/- Written by wip/myprint.py of this repo (the kit's print, with additions of this session). -/
import Derived.Test.YtacaeebjanglgaaQFnExactDropBlobx0
import Derived.Test.YtacaeebjanglgaaQFnExactDropBlobx1
import Derived.Test.YtacaeebjanglgaaQFnExactDropBlobx2
import Derived.Test.YtacaeebjanglgaaQFnExactDropBlobx3
import Derived.Test.YtacaeebjanglgaaQFnExactDropBlobx4
import Derived.Test.YtacaeebjanglgaaQFnExactDropBlobx5
import Derived.Test.YtacaeebjanglgaaQFnExactDropBlobx6
import Derived.Test.YtacaeebjanglgaaQFnExactDropBlobx7
import Derived.Test.YtacaeebjanglgaaQFnExactDropBlobx8
import Derived.Test.YtacaeebjanglgaaQFnExactDropBlobx9
import Derived.Test.YtacaeebjanglgaaQFnExactDropBlobx10
import Derived.Test.YtacaeebjanglgaaQFnExactDropBlobx11
import Derived.Test.YtacaeebjanglgaaQFnExactDropBlobx12
import Derived.Test.YtacaeebjanglgaaQFnExactDropBlobx13
import Derived.Test.YtacaeebjanglgaaQFnExactDropBlobx14
import Derived.Test.YtacaeebjanglgaaQFnExactDropBlobx15
set_option maxRecDepth 100000
namespace Go.Proofs.Ytacaeebjanglgaa.QFnExactDropBlob
open Go.RowKit Go.Proofs.YtacaeebjanglgaaW.PrintWords Go.Proofs.YtacaeebjanglgaaW.PrintLast Go.Proofs.YtacaeebjanglgaaW.PrintMore
attribute [local go_sem] max2_int min2_int max_two min_two max_three min_three max_four min_four   -- for this text's walks alone
set_option linter.unusedVariables false
set_option linter.unusedSimpArgs false

end Go.Proofs.Ytacaeebjanglgaa.QFnExactDropBlob
