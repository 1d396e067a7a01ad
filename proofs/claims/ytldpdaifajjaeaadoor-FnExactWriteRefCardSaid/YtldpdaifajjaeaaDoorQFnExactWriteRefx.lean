/- Written by wip/myprint.py of this repo (the kit's print, with additions of this session). -/
import Derived.Test.YtldpdaifajjaeaaDoorQFnExactWriteRefx0
import Derived.Test.YtldpdaifajjaeaaDoorQFnExactWriteRefx1
import Derived.Test.YtldpdaifajjaeaaDoorQFnExactWriteRefx2
import Derived.Test.YtldpdaifajjaeaaDoorQFnExactWriteRefx3
import Derived.Test.YtldpdaifajjaeaaDoorQFnExactWriteRefx4
import Derived.Test.YtldpdaifajjaeaaDoorQFnExactWriteRefx5
import Derived.Test.YtldpdaifajjaeaaDoorQFnExactWriteRefx6
set_option maxRecDepth 100000
namespace Go.Proofs.YtldpdaifajjaeaaDoor.QFnExactWriteRef
open Go.RowKit Go.Proofs.YtldpdaifajjaeaaDoorW.PrintWords Go.Proofs.YtldpdaifajjaeaaDoorW.PrintLast Go.Proofs.YtldpdaifajjaeaaDoorW.PrintMore
attribute [local go_sem] max2_int min2_int max_two min_two max_three min_three max_four min_four   -- for this text's walks alone
set_option linter.unusedVariables false
set_option linter.unusedSimpArgs false

end Go.Proofs.YtldpdaifajjaeaaDoor.QFnExactWriteRef
